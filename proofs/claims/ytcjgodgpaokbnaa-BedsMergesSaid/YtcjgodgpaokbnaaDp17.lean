/- Beds, plain: Check of whatever there is. -/
import Derived.Test.YtcjgodgpaokbnaaPc
set_option linter.constructorNameAsVariable false
set_option linter.unusedSimpArgs false
set_option linter.unusedVariables false
set_option linter.unusedSectionVars false
namespace Go.Proofs.Ytcjgodgpaokbnaa
open Go Go.Proofs Go.RowKit
set_option maxHeartbeats 1000000
def qEt(x y:Msg):Bool:=decide (y.2.1=x.2.1)&&decide (y.1=x.1)
def adjK:List Msg→Bool
 | x::y::l=>qEt x y||adjK (y::l)
 | _=>false
theorem qHI:∀(q:List Msg),adjK q=true↔∃i,∃h:i+1<q.length,qEt q[i] q[i+1]=true
 | []=>by simp[adjK]
 | [x]=>by simp[adjK]
 | x::y::l=>by
  unfold adjK
  rw[Bool.or_eq_true,qHI (y::l)]
  constructor
  ·rintro (h | ⟨i,h1,h2⟩)
   ·exact ⟨0,by simp,h⟩
   ·exact ⟨i+1,by simpa using h1,by simpa using h2⟩
  ·rintro ⟨i,h1,h2⟩
   cases i with
   | zero=>exact .inl h2
   | succ i=>exact .inr ⟨i,by simpa using h1,by simpa using h2⟩
theorem qMR(n:Nat)(q:List Msg)(hl:q.length≤1000):∀(B A:List Msg) (p:Msg) (n':Nat),q=A++p::B→B.length<n' →
  qh n' (qtn n) (q,(q,((q.length:Int),(((A.length+1:Nat):Int),()))))=some (cond (adjK (p::B)) (.inr (true,())) (.inl ())):=by
 intro B
 induction B with
 | nil =>
  intro A p n' hq hn
  obtain ⟨n',rfl⟩:∃m,n'=m+1:=⟨n'-1,by omega⟩
  have e:A.length+1=q.length:=by rw[hq];simp
  rw[qM,qkw]
  simp only[e,qdk,cond_false]
  rfl
 | cons y B ih =>
  intro A p n' hq hn
  simp only[List.length_cons] at hn
  obtain ⟨n',rfl⟩:∃m,n'=m+1:=⟨n'-1,by omega⟩
  have e:A.length+1<q.length:=by rw[hq];simp
  have e1:q[A.length+1]?=some y:=by rw[hq];exact app1 _ _ _ _
  have e0:q[A.length]?=some p:=by rw[hq];exact app0 _ _ _ _
  have ih':=ih (A++[p]) y n' (by rw[hq];simp) (by omega)
  rw[List.length_append,List.length_singleton] at ih'
  rw[qM,qkw]
  simp only[qcY e,cond_true,qrQ,e1,qzI,qwU (show A.length<9223372036854775807 by omega),e0,Option.bind_some,qbE (show A.length+1<9223372036854775807 by omega)]
  unfold adjK qEt
  by_cases h1:y.2.1=p.2.1
  ·rw[qhs h1]
   by_cases h2:y.1=p.1
   ·rw[qhs h2];simp[h1,h2]
   ·rw[qj0 h2];simp only[cond_true,cond_false,h2,decide_false,Bool.and_false,Bool.false_or];exact ih'
  ·rw[qj0 h1];simp only[cond_false,h1,decide_false,Bool.false_and,Bool.false_or];exact ih'
theorem qIp(n:Nat)(q:List Msg)(hl:q.length≤1000)(hn:2000≤n):qs9 n (q,())=some (adjK q,()):=by
 rw[qAH]
 obtain ⟨n,rfl⟩:∃m,n=m+1:=⟨n-1,by omega⟩
 cases q with
 | nil =>
  rw[qM,qkw]
  rfl
 | cons p B =>
  have h:=qMR (n+1) (p::B) hl B [] p n rfl (by simp at hl;omega)
  simp only[List.length_nil,Nat.zero_add] at h
  have e:(0:Int)<((p::B).length:Int):=by rw[List.length_cons];omega
  rw[qM,qkw]
  simp only[show iLt 0 ((p::B).length:Int)=true from decide_eq_true e,cond_true,qFW,Option.bind_some,show iGt 0 0=false from rfl,cond_false]
  rw[show iW (iAdd 0 1)=((1:Nat):Int) from rfl,h]
  cases adjK (p::B)<;>rfl
theorem qG2{l:List Msg}(hk:∀m,m∈l→m.1=1∨m.1=2):adjK (qc5 l)=qkv l:=by
 have hs:(qc5 l).Pairwise (fun a b=>key1 a≤key1 b):=by
  have h1:=qv0 (fun x y=>decide (cmpM x y<0)) key1 l fun x y hx hy=>by
   have:=qJY (hk x hx) (hk y hy)
   simpa using this
  exact h1.sublist (qzJ _)
 have hadj:=qvY (qnM (fun x y=>decide (cmpM x y<0)) l)
 have hkd:∀m,m∈qc5 l→m.1=1∨m.1=2:=fun m hm=>hk m (qhG.1 hm)
 cases hc:qkv l with
 | false =>
  rw[← Bool.not_eq_true]
  intro h
  obtain ⟨i,h1,h2⟩:=(qHI _).1 h
  unfold qEt at h2
  simp only[Bool.and_eq_true,decide_eq_true_eq] at h2
  exact qHB _ hadj i h1 (qvX hc _ _ (qhG.1 (List.getElem_mem _)) (qhG.1 (List.getElem_mem _)) h2.1 h2.2)
 | true =>
  have hne:¬∀x y,x∈l→y∈l→x.2.1=y.2.1→x.1=y.1→x=y:=fun h=>by rw[qIl h] at hc;cases hc
  have:∃x y,x∈l∧y∈l∧x.2.1=y.2.1∧x.1=y.1∧x≠y:=by
   refine Classical.byContradiction fun h=>hne fun x y hx hy h1 h2=>Classical.byContradiction fun h3=>h ⟨x,y,hx,hy,h1,h2,h3⟩
  obtain ⟨x,y,hx,hy,h1,h2,h3⟩:=this
  have key:∀i j (hi:i<(qc5 l).length) (hj:j<(qc5 l).length),i<j→key1 (qc5 l)[i]=key1 (qc5 l)[j]→adjK (qc5 l)=true:=fun i j hi hj hij e=>by
   rw[List.pairwise_iff_getElem] at hs
   have e1:=hs i (i+1) hi (by omega) (by omega)
   have e2:key1 (qc5 l)[i+1]≤key1 (qc5 l)[j]:=by
    rcases Nat.lt_or_ge (i+1) j with h | h
    ·exact hs (i+1) j (by omega) hj h
    ·have:j=i+1:=by omega
     subst this;exact Int.le_refl _
   refine (qHI _).2 ⟨i,by omega,?_⟩
   have k1:=hkd (qc5 l)[i] (List.getElem_mem _)
   have k2:=hkd (qc5 l)[i+1] (List.getElem_mem _)
   unfold key1 at e e1 e2
   unfold qEt
   simp only[Bool.and_eq_true,decide_eq_true_eq]
   omega
  obtain ⟨i,hi,ei⟩:=List.mem_iff_getElem.1 (qhG.2 hx)
  obtain ⟨j,hj,ej⟩:=List.mem_iff_getElem.1 (qhG.2 hy)
  have ek:key1 (qc5 l)[i]=key1 (qc5 l)[j]:=by rw[ei,ej];unfold key1;omega
  rcases Nat.lt_trichotomy i j with h | h | h
  ·exact key i j hi hj h ek
  ·subst h;exact absurd (ei.symm.trans ej) h3
  ·exact key j i hj hi h ek.symm
structure Near (c:Chn) (l:List Msg):Prop where
 st:∀m,m∈l→m.2.2.2.2.length≤20
 hu:c.1.length≤20
 ln:l.length≤9∨(40<l.length∧l.length≤60)
end Go.Proofs.Ytcjgodgpaokbnaa
