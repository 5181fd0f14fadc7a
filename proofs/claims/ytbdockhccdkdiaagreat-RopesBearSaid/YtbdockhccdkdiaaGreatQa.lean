/- Texts Dq0, Dp0 in one. -/
import Derived.Test.YtbdockhccdkdiaaGreatNd
/- Names for the steps of numbers, for the equations of models. Nothing here speaks of the program. -/
set_option linter.constructorNameAsVariable false
set_option linter.unusedSimpArgs false
set_option linter.unusedVariables false
set_option linter.unusedSectionVars false
namespace Go.Proofs.YtbdockhccdkdiaaGreat
open Go Go.Proofs Go.RowKit
abbrev Stay:=Int×(Int×Int)
abbrev iLt(a b:Int):Bool:=decide (a<b)
abbrev iLe(a b:Int):Bool:=decide (a≤b)
abbrev iGt(a b:Int):Bool:=decide (a>b)
abbrev iGe(a b:Int):Bool:=decide (a≥b)
abbrev iAdd(a b:Int):Int:=a+b
abbrev iSub(a b:Int):Int:=a-b
abbrev iMul(a b:Int):Int:=a*b
abbrev iEq(a b:Int):Bool:=a==b
abbrev iNe(a b:Int):Bool:=a != b
abbrev nAdd(a b:Nat):Nat:=a+b
abbrev iW(n:Int):Int:=IntKind.i64.wrap n
theorem qnR{n:Int}(h:-9223372036854775808≤n)(h':n≤9223372036854775807):iW n=n:=qtX h h'
theorem qeC{k:Nat}(h:k<9223372036854775807):iW (iAdd (k:Int) 1)=((k+1:Nat):Int):=by
 rw[qnR (by unfold iAdd;omega) (by unfold iAdd;omega)];unfold iAdd;omega
theorem qol{α:Type}(l:List α)(k:Nat):lat l (k:Int)=l[k]?:=by unfold lat;simp
theorem qff{α:Type}(l:List α){k:Nat}(h:k<l.length):lat l (k:Int)=some l[k]:=by rw[qol,List.getElem?_eq_getElem h]
theorem quC{a b:Nat}(h:a<b):iLt (a:Int) (b:Int)=true:=by simp[iLt];exact h
theorem quD{a:Nat}:iLt (a:Int) (a:Int)=false:=by simp[iLt]
theorem qbt{σ ξ:Type}(n:Nat)(step:(σ→Option ξ)→σ→Option ξ)(s:σ):qN (n+1) step s=step (qN n step) s:=rfl
def insL{α:Type}(lt:α→α→Bool)(x:α):List α→List α
 | []=>[x]
 | y::r=>cond (lt x y) (y::insL lt x r) (x::y::r)
def qgK{α:Type}(lt:α→α→Bool):List α→List α→List α
 | r,[]=>r
 | r,x::l=>qgK lt (insL lt x r) l
def qgy{α:Type}(lt:α→α→Bool)(l:List α):List α:=(qgK lt [] l).reverse
theorem qnc{α:Type}(lt:α→α→Bool)(x:α):∀r,(insL lt x r).length=r.length+1
 | []=>rfl
 | y::r=>by
  unfold insL
  cases lt x y with
  | true=>simp[qnc lt x r]
  | false=>simp
theorem qjM{α:Type}(lt:α→α→Bool)(x:α):∀r,(insL lt x r).Perm (x::r)
 | []=>List.Perm.refl _
 | y::r=>by
  unfold insL
  cases lt x y with
  | true=>exact ((qjM lt x r).cons y).trans (List.Perm.swap x y r)
  | false=>exact List.Perm.refl _
theorem qmP{α:Type}(lt:α→α→Bool):∀l r,(qgK lt r l).Perm (r++l)
 | [],r=>by simp[qgK]
 | x::l,r=>by
  rw[qgK]
  refine (qmP lt l _).trans ?_
  refine ((qjM lt x r).append_right l).trans ?_
  simp only[List.cons_append]
  exact List.perm_middle.symm
theorem qry{α:Type}(lt:α→α→Bool)(l:List α):(qgy lt l).Perm l:=(List.reverse_perm _).trans (by simpa using qmP lt l [])
theorem qq2{σ ξ α:Type}{step:(σ→Option ξ)→σ→Option ξ}(lt:α→α→Bool)(mk:Nat→List α→σ)(fin:List α→Option ξ)(x:α)(N:Nat)
  (h1:∀rec A y m,A.length+1≤N→step rec (mk (A.length+1) (A++y::x::m))=cond (lt x y) (rec (mk A.length (A++x::y::m))) (fin (A++y::x::m)))
  (h0:∀rec d,step rec (mk 0 d)=fin d):∀(r m:List α) (n:Nat),r.length≤N→r.length<n→qN n step (mk r.length (r.reverse++x::m))=fin ((insL lt x r).reverse++m)
 | [],m,n+1,_,_=>h0 _ _
 | y::r,m,n+1,hN,hn=>by
  have e:=h1 (qN n step) r.reverse y m (by simpa using hN)
  rw[List.length_reverse] at e
  simp only[List.length_cons,List.reverse_cons,List.append_assoc,List.cons_append,List.nil_append]
  show step (qN n step) (mk (r.length+1) (r.reverse++y::x::m))=_
  rw[e,insL]
  cases lt x y with
  | true =>
   have:=qq2 lt mk fin x N h1 h0 r (y::m) n (by simp at hN;omega) (by simp at hn;omega)
   simp only[cond_true,List.reverse_cons,List.append_assoc,List.cons_append,List.nil_append]
   exact this
  | false=>simp
end Go.Proofs.YtbdockhccdkdiaaGreat
