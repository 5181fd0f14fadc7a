/- Texts Dp0, Dp1, Dp2, Dp3, Dp4, Dp5 in one. -/
import Derived.Test.YtcjcacbhkoainaaGreatDoorQa
/- Plain: loops over lists. Nothing here speaks of the program. -/
set_option linter.constructorNameAsVariable false
set_option linter.unusedSimpArgs false
set_option linter.unusedVariables false
set_option linter.unusedSectionVars false
namespace Go.Proofs.YtcjcacbhkoainaaGreatDoor
open Go Go.Proofs Go.RowKit
theorem qgM{n:Int}(h:-9223372036854775808≤n)(h':n≤9223372036854775807):iW n=n:=qxN h h'
theorem qcH{k:Nat}(h:k<9223372036854775807):iW (iAdd (k:Int) 1)=((k+1:Nat):Int):=by
 rw[qgM (by unfold iAdd;omega) (by unfold iAdd;omega)];unfold iAdd;omega
theorem quu{α:Type}(l:List α)(k:Nat):lat l (k:Int)=l[k]?:=by unfold lat;simp
theorem qjG{α:Type}(l:List α){k:Nat}(h:k<l.length):lat l (k:Int)=some l[k]:=by rw[quu,List.getElem?_eq_getElem h]
theorem qg2{a b:Nat}(h:a<b):iLt (a:Int) (b:Int)=true:=by simp[iLt];exact h
theorem qg3{a:Nat}:iLt (a:Int) (a:Int)=false:=by simp[iLt]
theorem qw{σ ξ:Type}(n:Nat)(step:(σ→Option ξ)→σ→Option ξ)(s:σ):qg (n+1) step s=step (qg n step) s:=rfl
def qpu{α β ξ:Type}(f:Nat→β→α→Option (β⊕ξ))(fin:β→Option ξ):List α→Nat→β→Option ξ
 | [],_,b=>fin b
 | x::l,k,b=>(f k b x).bind (Sum.elim (fun b'=>qpu f fin l (k+1) b') some)
theorem qwh{σ ξ α β:Type}{step:(σ→Option ξ)→σ→Option ξ}(l:List α)(mk:Nat→β→σ)(f:Nat→β→α→Option (β⊕ξ))(fin:β→Option ξ)
  (h:∀rec k b (hk:k<l.length),step rec (mk k b)=(f k b l[k]).bind (Sum.elim (fun b'=>rec (mk (k+1) b')) some))
  (h0:∀rec b,step rec (mk l.length b)=fin b) {n:Nat} (b:β) (hn:l.length<n):qg n step (mk 0 b)=qpu f fin l 0 b:=by
 have go:∀(m:Nat) (k:Nat) (b:β) (n:Nat),k+m=l.length→m<n→qg n step (mk k b)=qpu f fin (l.drop k) k b:=by
  intro m
  induction m with
  | zero =>
   intro k b n hk hn
   obtain ⟨n,rfl⟩:∃m,n=m+1:=⟨n-1,by omega⟩
   have:k=l.length:=by omega
   subst this
   rw[List.drop_length]
   exact h0 _ _
  | succ m ih =>
   intro k b n hk hn
   obtain ⟨n,rfl⟩:∃m,n=m+1:=⟨n-1,by omega⟩
   have hlt:k<l.length:=by omega
   rw[List.drop_eq_getElem_cons hlt]
   show step (qg n step) (mk k b)=_
   rw[h _ _ _ hlt,qpu]
   congr 1
   funext r
   cases r with
   | inl b'=>exact ih (k+1) b' n (by omega) (by omega)
   | inr r=>rfl
 have:=go l.length 0 b n (by omega) hn
 simpa using this
theorem qwi{σ ξ α:Type}{step:(σ→Option ξ)→σ→Option ξ}(l:List α)(mk:Nat→σ)(p:α→Bool)(hit:ξ)(miss:ξ)
  (h:∀rec k (hk:k<l.length),step rec (mk k)=cond (p l[k]) (some hit) (rec (mk (k+1))))
  (h0:∀rec,step rec (mk l.length)=some miss) {n:Nat} (hn:l.length<n):qg n step (mk 0)=some (cond (l.any p) hit miss):=by
 have h1:=qwh (β:=Unit) l (fun k _=>mk k) (fun _ _ x=>some (cond (p x) (.inr hit) (.inl ()))) (fun _=>some miss) (fun rec k b hk=>by rw[h rec k hk];cases p l[k]<;>rfl) (fun rec b=>h0 rec) () hn
 rw[h1]
 have:∀(l:List α) (k:Nat),qpu (fun _ (_:Unit) x=>some (cond (p x) (.inr hit) (.inl ()))) (fun _=>some miss) l k ()=some (cond (l.any p) hit miss):=by
  intro l
  induction l with
  | nil=>intro k;rfl
  | cons x l ih =>
   intro k
   rw[qpu,List.any_cons]
   cases p x with
   | true=>rfl
   | false=>exact ih _
 exact this l 0
theorem qwj{σ ξ α:Type}{step:(σ→Option ξ)→σ→Option ξ}(l:List α)(mk:Nat→σ)(p:α→Bool)(good:ξ)(bad:ξ)
  (h:∀rec k (hk:k<l.length),step rec (mk k)=cond (p l[k]) (rec (mk (k+1))) (some bad))
  (h0:∀rec,step rec (mk l.length)=some good) {n:Nat} (hn:l.length<n):qg n step (mk 0)=some (cond (l.all p) good bad):=by
 rw[qwi l mk (fun x=>!p x) bad good (fun rec k hk=>by rw[h rec k hk];cases p l[k]<;>rfl) h0 hn]
 rw[show l.any (fun x=>!p x) = !l.all p by simp[List.all_eq_not_any_not]]
 cases l.all p<;>rfl
set_option maxHeartbeats 1000000
instance decStay:DecidableEq Stay:=inferInstance
instance decStays:DecidableEq (List Stay):=inferInstance
instance decMsg:DecidableEq Msg:=@instDecidableEqProd _ _ _ (@instDecidableEqProd _ _ _ (@instDecidableEqProd _ _ _ (@instDecidableEqProd _ _ _ decStays)))
theorem qpv{a b:Int}(h:a=b):iEq a b=true:=by simp[iEq,h]
theorem qkw{a b:Int}(h:a≠b):iNe a b=true:=by simp[iNe,h]
theorem qiy{a b:Int}(h:a=b):iNe a b=false:=by simp[iNe,h]
def wi(a lo hi:Int):Bool:=decide (lo≤a)&&decide (a≤hi)
theorem qjf{a lo hi:Int}:wi a lo hi=true↔lo≤a∧a≤hi:=by simp[wi]
def hutB(h:Int×Int):Bool:=wi h.1 0 20&&wi h.2 0 20
def qy4(c:Chn):Bool:=c.1.all hutB&&(wi c.1.length 1 6&&wi c.2 1 20)
def qtA(nh nn:Int):Int→List Stay→Bool
 | _,[]=>true
 | last,s::l=>(wi s.1 0 (nh-1)&&(decide (last<s.2.1)&&(decide (s.2.1≤s.2.2)&&decide (s.2.2<nn))))&&qtA nh nn s.2.2 l
def reqB(c:Chn)(m:Msg):Bool:=decide (m.1=1)&&(wi m.2.2.1 0 9999&&(wi m.2.2.2.1 1 20&&(wi m.2.2.2.2.length 1 6&&qtA c.1.length c.2 (-1) m.2.2.2.2)))
def canB(m:Msg):Bool:=decide (m.1=2)&&(decide (m.2.2.1=0)&&(decide (m.2.2.2.1=0)&&decide (m.2.2.2.2.length=0)))
def mesB(c:Chn)(m:Msg):Bool:=wi m.2.1 0 99&&(canB m||reqB c m)
def claB(x y:Msg):Bool:=decide (x.2.1=y.2.1)&&(decide (x.1=y.1) && !decide (x=y))
def qo6(l:List Msg):Bool:=(List.range l.length).any fun i=>(List.range i).any fun k=>match l[i]?,l[k]? with
 | some x,some y=>claB x y
 | _,_=>false
theorem qtB{l:List Msg}(h:qo6 l=false):∀x y,x∈l→y∈l→x.2.1=y.2.1→x.1=y.1→x=y:=by
 intro x y hx hy h1 h2
 obtain ⟨i,hi,rfl⟩:=List.mem_iff_getElem.1 hx
 obtain ⟨k,hk,rfl⟩:=List.mem_iff_getElem.1 hy
 have key:∀a b (ha:a<l.length) (hb:b<a),claB (l[a]) (l[b]'(by omega))=false:=fun a b ha hb=>by
  unfold qo6 at h
  rw[List.any_eq_false] at h
  have h3:=h a (List.mem_range.2 ha)
  simp only[Bool.not_eq_true] at h3
  rw[List.any_eq_false] at h3
  have h4:=h3 b (List.mem_range.2 hb)
  rw[List.getElem?_eq_getElem ha,List.getElem?_eq_getElem (by omega)] at h4
  simpa using h4
 rcases Nat.lt_trichotomy i k with h3 | h3 | h3
 ·have:=key k i hk h3
  unfold claB at this
  simp only[Bool.and_eq_false_iff,decide_eq_false_iff_not,Bool.not_eq_false',decide_eq_true_eq] at this
  rcases this with h4 | h4 | h4
  ·exact (h4 h1.symm).elim
  ·exact (h4 h2.symm).elim
  ·exact h4.symm
 ·subst h3;rfl
 ·have:=key i k hi h3
  unfold claB at this
  simp only[Bool.and_eq_false_iff,decide_eq_false_iff_not,Bool.not_eq_false',decide_eq_true_eq] at this
  rcases this with h4 | h4 | h4
  ·exact (h4 h1).elim
  ·exact (h4 h2).elim
  ·exact h4
structure Vld (c:Chn) (l:List Msg):Prop where
 ch:qy4 c=true
 ms:∀m,m∈l→mesB c m=true
 ln:l.length≤40
 cl:qo6 l=false
 st:∀m,m∈l→m.2.2.2.2.length≤20
 hu:c.1.length≤20
def cmpI(x y:Int):Int:=if x<y then -1 else if x>y then 1 else 0
theorem qxD(n:Nat)(x:Int):qhX n (x,())=some (false,()):=by rw[qo3];simp only[qiy rfl]
theorem qyx(n:Nat)(x y:Int):qiJ n (x,(y,()))=some (cmpI x y,()):=by
 rw[qnZ]
 simp only[qxD,Option.bind_some,cond_false]
 unfold cmpI
 show cond (decide (x<y)) _ (cond (decide (x>y)) _ _)=_
 by_cases h:x<y
 ·simp[h]
 ·by_cases h2:x>y
  ·simp[h,h2]
  ·simp[h,h2]
theorem quv{k:Nat}(h:k<9223372036854775807):iW (iSub ((k+1:Nat):Int) 1)=(k:Int):=by
 rw[qgM (by unfold iSub;omega) (by unfold iSub;omega)];unfold iSub;omega
end Go.Proofs.YtcjcacbhkoainaaGreatDoor
