/- Balances: the transfers of all groups settle, and are as few as can be. -/
import Derived.Test.YtcjcacbhkoainaaGreatDoorDv4
set_option linter.constructorNameAsVariable false
set_option linter.unusedSimpArgs false
set_option linter.unusedVariables false
set_option linter.unusedSectionVars false
namespace Go.Proofs.YtcjcacbhkoainaaGreatDoor
open Go Go.Proofs Go.RowKit
set_option maxHeartbeats 1000000
theorem qo9:∀(l:List Int) (f:Nat→Bool),smB l f=((List.range l.length).map fun i=>if f i=true then (l[i]?).getD 0 else 0).sum
 | [],_=>rfl
 | x::l,f=>by
  unfold smB
  rw[List.length_cons,List.range_succ_eq_map,List.map_cons,List.sum_cons,List.map_map,qo9 l]
  rfl
theorem qpW{α:Type}(p:α→Bool)(g:α→Int):∀l:List α,((l.filter p).map g).sum=(l.map fun x=>if p x=true then g x else 0).sum
 | []=>rfl
 | x::l=>by
  rw[List.map_cons,List.sum_cons,← qpW p g l,List.filter_cons]
  cases p x<;>simp
def dl(l:List Int)(a:Nat):List Debt:=((List.range l.length).filter a.testBit).map fun(i:Nat)=>((i:Int),(l[i]?).getD 0)
theorem qkN{l:List Int}{a:Nat}{p:Debt}(h:p∈dl l a):∃i:Nat,p=((i:Int),(l[i]?).getD 0)∧i<l.length∧a.testBit i=true:=by
 unfold dl at h
 obtain ⟨i,h1,rfl⟩:=List.mem_map.1 h
 rw[List.mem_filter,List.mem_range] at h1
 exact ⟨i,rfl,h1.1,h1.2⟩
theorem qy5{l:List Int}{a i:Nat}(h1:i<l.length)(h2:a.testBit i=true):((i:Int),(l[i]?).getD 0)∈dl l a:=by
 unfold dl
 exact List.mem_map.2 ⟨i,by rw[List.mem_filter,List.mem_range];exact ⟨h1,h2⟩,rfl⟩
theorem qx3(l:List Int)(a b:Nat)(f:Int→Bool)(h:∀j,b.testBit j=(a.testBit j&&f (j:Int))):ws f (dl l a)=sm l b:=by
 unfold ws dl sm
 rw[qo9,List.map_map,qpW]
 refine congrArg List.sum (List.map_congr_left fun i _=>?_)
 rw[h i]
 show (if a.testBit i=true then (if f (i:Int)=true then (l[i]?).getD 0 else 0) else 0)=_
 cases a.testBit i<;>simp
theorem qzB{l:List Int}{m:Nat}{F:List Nat}(h:IsMax (Zs l) m F.length)(hF:Part (Zs l) m F)(hm:∀i,m.testBit i=true→i<l.length∧(l[i]?).getD 0≠0){a:Nat}(ha:a∈F):DOk (dl l a):=by
 obtain ⟨h2,h3,h4,h5⟩:=hF.sub ha
 have hsub:=qH.1 h3
 refine ⟨?_,fun p hp=>?_,?_,fun f hf=>?_⟩
 ·unfold dl
  rw[List.map_map]
  refine List.Pairwise.map (R:=fun i j:Nat=>i≠j) _ (fun i j hij e=>hij ?_) (List.Pairwise.filter _ List.nodup_range)
  have e':(i:Int)=(j:Int):=e
  omega
 ·obtain ⟨i,rfl,h6,h7⟩:=qkN hp
  exact (hm i (hsub i h7)).2
 ·rw[qx3 l a a (fun _=>true) fun j=>by simp];exact h4
 ·have hnd:(((List.range l.length).filter a.testBit).filter fun(i:Nat)=>!f (i:Int)).Nodup:=List.Pairwise.filter _ (List.Pairwise.filter _ List.nodup_range)
  obtain ⟨b,hb⟩:∃b,b=qpx a (((List.range l.length).filter a.testBit).filter fun(i:Nat)=>!f (i:Int)):=⟨_,rfl⟩
  have hbit:∀j,b.testBit j=(a.testBit j&&f (j:Int)):=fun j=>by
   rw[hb,qo7 _ _ hnd fun i hi=>by
    rw[List.mem_filter,List.mem_filter] at hi
    exact hi.1.2]
   cases haj:a.testBit j with
   | false=>rfl
   | true =>
    have hj:=(hm j (hsub j haj)).1
    cases hfj:f (j:Int) with
    | true =>
     rw[decide_eq_false fun hc=>by
      rw[List.mem_filter] at hc
      rw[hfj] at hc
      exact absurd hc.2 (by decide)]
     rfl
    | false =>
     rw[decide_eq_true (by rw[List.mem_filter,List.mem_filter,List.mem_range,hfj];exact ⟨⟨hj,haj⟩,rfl⟩)]
     rfl
  have hba:b &&& a=b:=qH.2 fun i hi=>by
   rw[hbit,Bool.and_eq_true] at hi
   exact hi.1
  have hs:sm l b=0:=by rw[← qx3 l a b f hbit];exact hf
  by_cases h0:b=0
  ·right
   intro p hp
   obtain ⟨i,rfl,h6,h7⟩:=qkN hp
   have:=hbit i
   rw[h0,Nat.zero_testBit,h7] at this
   simpa using this.symm
  ·by_cases h1:b=a
   ·left
    intro p hp
    obtain ⟨i,rfl,h6,h7⟩:=qkN hp
    have:=hbit i
    rw[h1,h7] at this
    simpa using this.symm
   ·exact absurd hs (h.whole hF ha hba h0 h1)
def card(n m:Nat):Nat:=((List.range n).filter m.testBit).length
theorem qwn{n a m:Nat}(h:a &&& m=a):card n m=card n a+card n (m ^^^ a):=by
 unfold card
 generalize List.range n=xs
 induction xs with
 | nil=>rfl
 | cons x xs ih =>
  have h1:=qG h x
  have h2:=qH.1 h x
  rw[List.filter_cons,List.filter_cons,List.filter_cons]
  cases hm:m.testBit x<;>cases ha:a.testBit x<;>rw[hm,ha] at h1<;>simp[h1]<;>simp_all<;>omega
inductive TrsAll (l:List Int):List Nat→List (Int×(Int×Int))→Prop
 | nil:TrsAll l [] []
 | cons (a:Nat) (F:List Nat) (ts us:List (Int×(Int×Int))):Trs (dl l a) ts→TrsAll l F us→TrsAll l (a::F) (ts++us)
theorem qwo{l:List Int}{F:List Nat}{us:List (Int×(Int×Int))}(h:TrsAll l F us):∀m,Part (Zs l) m F→(∀a,a∈F→DOk (dl l a)∧1≤(dl l a).length∧∀i,a.testBit i=true→i<l.length)→∀l':List Int,l'.length=l.length→(∀i,m.testBit i=true→(l'[i]?).getD 0=(l[i]?).getD 0) →
  us.length+F.length=card l.length m∧(us.foldl pay1 l').length=l.length∧(∀i,m.testBit i=true→((us.foldl pay1 l')[i]?).getD 0=0)∧(∀i,m.testBit i=false→((us.foldl pay1 l')[i]?).getD 0=(l'[i]?).getD 0)∧∀t,t∈us→(0≤t.1∧t.1<l.length)∧(0≤t.2.1∧t.2.1<l.length)∧t.1≠t.2.1∧1≤t.2.2:=by
 induction h with
 | nil =>
  intro m hm _ l' hl _
  rw[show m=0 from hm]
  refine ⟨?_,hl,(fun i hi=>(by rw[Nat.zero_testBit] at hi;cases hi)),(fun i _=>rfl),(fun t ht=>absurd ht List.not_mem_nil)⟩
  unfold card
  rw[List.filter_eq_nil_iff.2 fun i _=>by rw[Nat.zero_testBit];decide]
  rfl
 | cons a F ts us ht _ ih =>
  intro m hP hF l' hl hl'
  obtain ⟨p1,p2,p3,p4⟩:=hP
  obtain ⟨k,k1,k2⟩:=hF a List.mem_cons_self
  have hsub:=qH.1 p2
  obtain ⟨t1,t2,t3,t4⟩:=qyA ht k l' fun p hp=>by
   obtain ⟨i,rfl,h6,h7⟩:=qkN hp
   exact ⟨Int.natCast_nonneg _,by show (i:Int)<_;omega,hl' i (hsub i h7)⟩
  have hin:∀i,a.testBit i=true→((ts.foldl pay1 l')[i]?).getD 0=0:=fun i hi=>by
   have:=t2 _ (qy5 (k2 i hi) hi)
   rwa [Int.toNat_natCast] at this
  have hout:∀i,a.testBit i=false→((ts.foldl pay1 l')[i]?).getD 0=(l'[i]?).getD 0:=fun i hi=>t3 i fun p hp e=>by
   obtain ⟨j,rfl,h6,h7⟩:=qkN hp
   rw[Int.toNat_natCast] at e
   rw[e,hi] at h7
   cases h7
  obtain ⟨u1,u2,u3,u4,u5⟩:=ih (m ^^^ a) p4 (fun b hb=>hF b (List.mem_cons_of_mem _ hb)) (ts.foldl pay1 l') (by rw[t1,hl]) fun i hi=>by
   rw[qG p2,Bool.and_eq_true] at hi
   rw[hout i (by simpa using hi.2)]
   exact hl' i hi.1
  have hlen:=quy ht k k1
  have hcard:=qwn (n:=l.length) p2
  have hdl:(dl l a).length=card l.length a:=by unfold dl card;rw[List.length_map]
  refine ⟨by rw[List.length_append,List.length_cons];omega,by rw[List.foldl_append];exact u2,fun i hi=>?_,fun i hi=>?_,fun t ht'=>?_⟩
  ·rw[List.foldl_append]
   cases hai:a.testBit i with
   | true=>rw[u4 i (by rw[qG p2,hai];simp)];exact hin i hai
   | false=>exact u3 i (by rw[qG p2,hai,hi];rfl)
  ·rw[List.foldl_append,u4 i (by rw[qG p2,hi];rfl)]
   exact hout i (by
    cases hai:a.testBit i with
    | false=>rfl
    | true=>have:=hsub i hai;rw[hi] at this;cases this)
  ·rcases List.mem_append.1 ht' with ht' | ht'
   ·obtain ⟨⟨p,q1,q2⟩,⟨q,q3,q4⟩,q5,q6⟩:=t4 t ht'
    obtain ⟨i,rfl,h6,h7⟩:=qkN q1
    obtain ⟨j,rfl,h8,h9⟩:=qkN q3
    rw[← q2,← q4]
    rw[← q2,← q4] at q5
    exact ⟨⟨Int.natCast_nonneg _,by show (i:Int)<_;omega⟩,⟨Int.natCast_nonneg _,by show (j:Int)<_;omega⟩,q5,q6⟩
   ·exact u5 t ht'
end Go.Proofs.YtcjcacbhkoainaaGreatDoor
