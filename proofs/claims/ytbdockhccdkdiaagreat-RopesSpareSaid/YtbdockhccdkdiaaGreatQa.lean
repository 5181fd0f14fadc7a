/- Texts Dq0, Dp0 in one. -/
import Derived.Test.YtbdockhccdkdiaaGreatNd
/- Names for the steps of numbers, for the equations of models. Nothing here speaks of the program. -/
set_option linter.constructorNameAsVariable false
set_option linter.unusedSimpArgs false
set_option linter.unusedVariables false
set_option linter.unusedSectionVars false
namespace Go.Proofs.YtbdockhccdkdiaaGreat
open Go Go.Proofs Go.RowKit
abbrev Stay:=Int×(Int×Int)
abbrev iLt(a b:Int):Bool:=decide (a<b)
abbrev iLe(a b:Int):Bool:=decide (a≤b)
abbrev iGt(a b:Int):Bool:=decide (a>b)
abbrev iGe(a b:Int):Bool:=decide (a≥b)
abbrev iAdd(a b:Int):Int:=a+b
abbrev iSub(a b:Int):Int:=a-b
abbrev iMul(a b:Int):Int:=a*b
abbrev iEq(a b:Int):Bool:=a==b
abbrev iNe(a b:Int):Bool:=a != b
abbrev iMin(a b:Int):Int:=if b<a then b else a
abbrev iMax(a b:Int):Int:=if b>a then b else a
abbrev iShr(a b:Int):Int:=a/2 ^ b.toNat
abbrev iShl(a b:Int):Int:=a*2 ^ b.toNat
abbrev iSh(k:IntKind)(b:Int):Bool:=decide (0≤b)&&decide (b≤k.bits)
abbrev iMk(n:Int):Bool:=decide (0≤n)&&decide (n≤10000)
abbrev nAdd(a b:Nat):Nat:=a+b
abbrev iW(n:Int):Int:=IntKind.i64.wrap n
theorem qip{n:Int}(h:-9223372036854775808≤n)(h':n≤9223372036854775807):iW n=n:=qwg h h'
theorem qcm{k:Nat}(h:k<9223372036854775807):iW (iAdd (k:Int) 1)=((k+1:Nat):Int):=by
 rw[qip (by unfold iAdd;omega) (by unfold iAdd;omega)];unfold iAdd;omega
theorem qkm{α:Type}(l:List α)(k:Nat):lat l (k:Int)=l[k]?:=by unfold lat;simp
theorem qfQ{α:Type}(l:List α){k:Nat}(h:k<l.length):lat l (k:Int)=some l[k]:=by rw[qkm,List.getElem?_eq_getElem h]
theorem qwV{a b:Nat}(h:a<b):iLt (a:Int) (b:Int)=true:=by simp[iLt];exact h
theorem qwW{a:Nat}:iLt (a:Int) (a:Int)=false:=by simp[iLt]
theorem qC{σ ξ:Type}(n:Nat)(step:(σ→Option ξ)→σ→Option ξ)(s:σ):qn (n+1) step s=step (qn n step) s:=rfl
def insL{α:Type}(lt:α→α→Bool)(x:α):List α→List α
 | []=>[x]
 | y::r=>cond (lt x y) (y::insL lt x r) (x::y::r)
def qhx{α:Type}(lt:α→α→Bool):List α→List α→List α
 | r,[]=>r
 | r,x::l=>qhx lt (insL lt x r) l
def qhg{α:Type}(lt:α→α→Bool)(l:List α):List α:=(qhx lt [] l).reverse
theorem qoI{α:Type}(lt:α→α→Bool)(x:α):∀r,(insL lt x r).length=r.length+1
 | []=>rfl
 | y::r=>by
  unfold insL
  cases lt x y with
  | true=>simp[qoI lt x r]
  | false=>simp
theorem qk7{α:Type}(lt:α→α→Bool)(x:α):∀r,(insL lt x r).Perm (x::r)
 | []=>List.Perm.refl _
 | y::r=>by
  unfold insL
  cases lt x y with
  | true=>exact ((qk7 lt x r).cons y).trans (List.Perm.swap x y r)
  | false=>exact List.Perm.refl _
theorem qol{α:Type}(lt:α→α→Bool):∀l r,(qhx lt r l).Perm (r++l)
 | [],r=>by simp[qhx]
 | x::l,r=>by
  rw[qhx]
  refine (qol lt l _).trans ?_
  refine ((qk7 lt x r).append_right l).trans ?_
  simp only[List.cons_append]
  exact List.perm_middle.symm
theorem qtB{α:Type}(lt:α→α→Bool)(l:List α):(qhg lt l).Perm l:=(List.reverse_perm _).trans (by simpa using qol lt l [])
theorem qsV{σ ξ α:Type}{step:(σ→Option ξ)→σ→Option ξ}(lt:α→α→Bool)(mk:Nat→List α→σ)(fin:List α→Option ξ)(x:α)(N:Nat)
  (h1:∀rec A y m,A.length+1≤N→step rec (mk (A.length+1) (A++y::x::m))=cond (lt x y) (rec (mk A.length (A++x::y::m))) (fin (A++y::x::m)))
  (h0:∀rec d,step rec (mk 0 d)=fin d):∀(r m:List α) (n:Nat),r.length≤N→r.length<n→qn n step (mk r.length (r.reverse++x::m))=fin ((insL lt x r).reverse++m)
 | [],m,n+1,_,_=>h0 _ _
 | y::r,m,n+1,hN,hn=>by
  have e:=h1 (qn n step) r.reverse y m (by simpa using hN)
  rw[List.length_reverse] at e
  simp only[List.length_cons,List.reverse_cons,List.append_assoc,List.cons_append,List.nil_append]
  show step (qn n step) (mk (r.length+1) (r.reverse++y::x::m))=_
  rw[e,insL]
  cases lt x y with
  | true =>
   have:=qsV lt mk fin x N h1 h0 r (y::m) n (by simp at hN;omega) (by simp at hn;omega)
   simp only[cond_true,List.reverse_cons,List.append_assoc,List.cons_append,List.nil_append]
   exact this
  | false=>simp
end Go.Proofs.YtbdockhccdkdiaaGreat
