/- Maps: all entries are right. -/
import Derived.Test.YtcjcacbhkoainaaGreatDoorDv6
set_option linter.constructorNameAsVariable false
set_option linter.unusedSimpArgs false
set_option linter.unusedVariables false
set_option linter.unusedSectionVars false
namespace Go.Proofs.YtcjcacbhkoainaaGreatDoor
open Go Go.Proofs Go.RowKit
set_option maxHeartbeats 1000000
theorem qB8{kt:Ty}(hk:kt.keyB=true){α:Type}{x:kt.den}:∀(l:List (kt.den×α)) (i:Nat) (q:Nat×α),mpAt kt x l i=some q→(x,q.2)∈l
 | [],_,_,h=>by cases h
 | p::l,i,q,h=>by
  unfold mpAt at h
  cases he:kt.eqB x p.1 with
  | true =>
   rw[he] at h
   have h':some (i,p.2)=some q:=h
   injection h' with h'
   subst h'
   rw[qts hk he]
   exact List.mem_cons_self
  | false =>
   rw[he] at h
   exact List.mem_cons_of_mem _ (qB8 hk l (i+1) q h)
theorem qFX{kt:Ty}(hk:kt.keyB=true){α:Type}{z:α}{x:kt.den}{l:List (kt.den×α)}(h:qlr kt x l=true):(x,qeu kt z x l)∈l:=by
 unfold qlr at h
 unfold qeu
 cases he:mpAt kt x l 0 with
 | none=>rw[he] at h;cases h
 | some q=>exact qB8 hk l 0 q he
theorem qDp{kt:Ty}{α:Type}{x:kt.den}:∀(l:List (kt.den×α)) (i:Nat) (q:Nat×α),mpAt kt x l i=some q→i≤q.1∧∃p,l[q.1-i]?=some p∧kt.eqB x p.1=true
 | [],_,_,h=>by cases h
 | p::l,i,q,h=>by
  unfold mpAt at h
  cases he:kt.eqB x p.1 with
  | true =>
   rw[he] at h
   have h':some (i,p.2)=some q:=h
   injection h' with h'
   subst h'
   exact ⟨Nat.le_refl _,p,by simp,he⟩
  | false =>
   rw[he] at h
   obtain ⟨h1,p',h2,h3⟩:=qDp l (i+1) q h
   refine ⟨by omega,p',?_,h3⟩
   rw[show q.1-i=(q.1-(i+1))+1 by omega,List.getElem?_cons_succ]
   exact h2
theorem qwn{kt:Ty}{α:Type}{y:kt.den}:∀{l m:List (kt.den×α)} {i:Nat},(mpAt kt y l i).isSome=true→(mpAt kt y (l++m) i).isSome=true
 | [],_,_,h=>by cases h
 | p::l,m,i,h=>by
  unfold mpAt at h
  show (mpAt kt y (p::(l++m)) i).isSome=true
  unfold mpAt
  cases he:kt.eqB y p.1 with
  | true=>rfl
  | false =>
   rw[he] at h
   exact qwn (l:=l) h
theorem qxj{kt:Ty}{α:Type}{y:kt.den}{v:α}:∀(l:List (kt.den×α)) (j i:Nat),(mpAt kt y (l.modify j fun p=>(p.1,v)) i).isSome=(mpAt kt y l i).isSome
 | [],j,i=>by cases j<;>rfl
 | p::l,0,i=>by
  show (mpAt kt y ((p.1,v)::l) i).isSome=(mpAt kt y (p::l) i).isSome
  unfold mpAt
  show (match kt.eqB y p.1 with | true=>some (i,v) | false=>mpAt kt y l (i+1)).isSome=_
  cases kt.eqB y p.1<;>rfl
 | p::l,j+1,i=>by
  show (mpAt kt y (p::l.modify j _) i).isSome=(mpAt kt y (p::l) i).isSome
  unfold mpAt
  cases kt.eqB y p.1 with
  | true=>rfl
  | false=>exact qxj l j (i+1)
theorem qFY{kt:Ty}{α:Type}{x y:kt.den}{v:α}{l:List (kt.den×α)}(h:qlr kt y l=true):qlr kt y (qgL kt v x l)=true:=by
 unfold qlr qgL at *
 cases mpAt kt x l 0 with
 | none=>exact qwn h
 | some q=>exact (qxj l q.1 0).trans h
theorem qFZ{kt:Ty}(hk:kt.keyB=true){α:Type}{x:kt.den}{v:α}{l:List (kt.den×α)}{P:kt.den×α→Prop}(h:∀p,p∈l→P p)(hx:P (x,v)):∀p,p∈qgL kt v x l→P p:=by
 intro p hp
 unfold qgL at hp
 cases he:mpAt kt x l 0 with
 | none =>
  rw[he] at hp
  rcases List.mem_append.1 hp with hp | hp
  ·exact h p hp
  ·rw[List.mem_singleton] at hp;rw[hp];exact hx
 | some q =>
  rw[he] at hp
  obtain ⟨_,a,h2,h3⟩:=qDp l 0 q he
  have hp':p∈l.modify q.1 fun p=>(p.1,v):=hp
  obtain ⟨j,hj⟩:=List.mem_iff_getElem?.1 hp'
  rw[List.getElem?_modify] at hj
  cases hb:l[j]? with
  | none=>rw[hb] at hj;cases hj
  | some b =>
   rw[hb] at hj
   have hj':some (if q.1=j then (b.1,v) else b)=some p:=hj
   injection hj' with hj'
   by_cases e:q.1=j
   ·rw[if_pos e] at hj'
    rw[Nat.sub_zero,e,hb] at h2
    injection h2 with h2
    rw[← hj',h2,← qts hk h3]
    exact hx
   ·rw[if_neg e] at hj'
    rw[← hj']
    exact h b (List.mem_of_getElem? hb)
end Go.Proofs.YtcjcacbhkoainaaGreatDoor
