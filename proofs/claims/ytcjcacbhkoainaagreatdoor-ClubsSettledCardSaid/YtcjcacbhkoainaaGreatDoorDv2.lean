/- Balances: no settlement has fewer transfers than there are numbers that are not 0, less the groups. -/
import Derived.Test.YtcjcacbhkoainaaGreatDoorDv1
set_option linter.constructorNameAsVariable false
set_option linter.unusedSimpArgs false
set_option linter.unusedVariables false
set_option linter.unusedSectionVars false
namespace Go.Proofs.YtcjcacbhkoainaaGreatDoor
open Go Go.Proofs Go.RowKit
set_option maxHeartbeats 1000000
theorem qwk:∀(l:List Int) (i:Nat) (f:Nat→Bool),(∀j,f j=decide (i=j))→smB l f=(l[i]?).getD 0
 | [],_,_,_=>rfl
 | x::l,0,f,h=>by
  unfold smB
  rw[h 0,qn0 l _ fun j=>by rw[h (j+1)];exact decide_eq_false (by omega)]
  simp
 | x::l,i+1,f,h=>by
  unfold smB
  rw[h 0,qwk l i (fun j=>f (j+1)) fun j=>by rw[h (j+1)];exact decide_eq_decide.2 (by omega)]
  simp
theorem qwl(l:List Int)(i:Nat):sm l (2 ^ i)=(l[i]?).getD 0:=qwk l i _ fun j=>qdU i j
theorem qtD:∀(l:List Int) (f:Nat→Bool),(∀x,x∈l→x=0)→smB l f=0
 | [],_,_=>rfl
 | x::l,f,h=>by
  unfold smB
  rw[h x List.mem_cons_self,qtD l _ fun y hy=>h y (List.mem_cons_of_mem _ hy)]
  simp
def qpx(m:Nat)(zs:List Nat):Nat:=zs.foldl (fun m i=>m ^^^ 2 ^ i) m
theorem qo7:∀(zs:List Nat) (m:Nat),zs.Nodup→(∀i,i∈zs→m.testBit i=true)→∀j,(qpx m zs).testBit j=(m.testBit j && !decide (j∈zs))
 | [],m,_,_,j=>by simp[qpx]
 | i::zs,m,hn,h,j=>by
  have hi:=h i List.mem_cons_self
  rw[List.nodup_cons] at hn
  have hp:2 ^ i &&& m=2 ^ i:=qH.2 fun j hj=>by
   rw[qdU,decide_eq_true_eq] at hj
   rw[← hj];exact hi
  have:=qo7 zs (m ^^^ 2 ^ i) hn.2 (fun k hk=>by
   rw[qG hp,h k (List.mem_cons_of_mem _ hk),qdU,decide_eq_false (show ¬i=k from fun e=>hn.1 (by rw[e];exact hk))];rfl) j
  show (qpx (m ^^^ 2 ^ i) zs).testBit j=_
  rw[this,qG hp,qdU]
  by_cases e:i=j
  ·subst e;simp[hn.1]
  ·rw[decide_eq_false e]
   simp[List.mem_cons,Ne.symm e]
theorem qx2{l:List Int}:∀(zs:List Nat) {m:Nat} {F:List Nat},Part (Zs l) m F→zs.Nodup→(∀i,i∈zs→m.testBit i=true∧sm l (2 ^ i)=0)→∃F',Part (Zs l) (qpx m zs) F'∧F.length≤F'.length+zs.length
 | [],m,F,h,_,_=>⟨F,h,by simp⟩
 | i::zs,m,F,h,hn,hz=>by
  have h0:=hz i List.mem_cons_self
  rw[List.nodup_cons] at hn
  obtain ⟨F1,h1,h2⟩:=qzA h h0.1 h0.2
  have hp:2 ^ i &&& m=2 ^ i:=qH.2 fun j hj=>by
   rw[qdU,decide_eq_true_eq] at hj
   rw[← hj];exact h0.1
  obtain ⟨F2,h3,h4⟩:=qx2 zs h1 hn.2 fun k hk=>⟨by
   rw[qG hp,(hz k (List.mem_cons_of_mem _ hk)).1,qdU,decide_eq_false (show ¬i=k from fun e=>hn.1 (by rw[e];exact hk))];rfl,(hz k (List.mem_cons_of_mem _ hk)).2⟩
  exact ⟨F2,h3,by rw[List.length_cons];omega⟩
def qkL(l:List Int):List Nat:=(List.range l.length).filter fun i=>decide ((l[i]?).getD 0=0)
def qbU(l:List Int):Nat:=((List.range l.length).filter fun i=>!decide ((l[i]?).getD 0=0)).length
theorem qqw(l:List Int):qbU l+(qkL l).length=l.length:=by
 unfold qbU qkL
 have:∀(xs:List Nat) (p:Nat→Bool),(xs.filter fun i=>!p i).length+(xs.filter p).length=xs.length:=by
  intro xs p
  induction xs with
  | nil=>rfl
  | cons x xs ih=>cases h:p x<;>simp[List.filter_cons,h]<;>omega
 rw[this,List.length_range]
def qcf(l:List Int):Nat:=qpx (full l.length) (qkL l)
theorem qkM{l:List Int}{i:Nat}:i∈qkL l↔i<l.length∧(l[i]?).getD 0=0:=by
 unfold qkL
 rw[List.mem_filter,List.mem_range,decide_eq_true_eq]
theorem qjH(l:List Int)(j:Nat):(qcf l).testBit j=(decide (j<l.length) && !decide ((l[j]?).getD 0=0)):=by
 unfold qcf
 rw[qo7 (qkL l) _ (show (qkL l).Nodup from List.Pairwise.filter _ List.nodup_range) fun i hi=>by rw[qij,decide_eq_true_eq];exact (qkM.1 hi).1,qij]
 by_cases h:j<l.length
 ·by_cases h0:(l[j]?).getD 0=0
  ·rw[decide_eq_true (qkM.2 ⟨h,h0⟩),decide_eq_true h,decide_eq_true h0]
  ·rw[decide_eq_false (fun h'=>h0 (qkM.1 h').2),decide_eq_true h,decide_eq_false h0]
 ·rw[decide_eq_false h];rfl
theorem qvb{l:List Int}{ts:List (Int×(Int×Int))}{r:Nat}(ht:∀t,t∈ts→(0≤t.1∧t.1<l.length)∧(0≤t.2.1∧t.2.1<l.length))(h0:∀x,x∈ts.foldl pay1 l→x=0)(hr:IsMax (Zs l) (qcf l) r):qbU l≤ts.length+r:=by
 obtain ⟨F,h1,h2⟩:=quw (Eqs l l) (fun a=>rfl) l.length
 obtain ⟨F1,h3,h4⟩:=qva ts rfl h1 ht
 have h5:Part (Zs l) (full l.length) F1:=Part.mono h3 fun c _ hc=>by
  have hc':sm l c=sm (ts.foldl pay1 l) c:=hc
  exact hc'.trans (qtD _ _ h0)
 obtain ⟨F2,h6,h7⟩:=qx2 (qkL l) h5 ((List.Pairwise.filter _ List.nodup_range)) fun i hi=>⟨by rw[qij,decide_eq_true_eq];exact (qkM.1 hi).1,by rw[qwl];exact (qkM.1 hi).2⟩
 have h8:=hr.2 F2 h6
 have h9:=qqw l
 omega
end Go.Proofs.YtcjcacbhkoainaaGreatDoor
