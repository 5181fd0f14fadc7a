/- Clubs: the reference's Settles. -/
import Derived.Test.YtcjcacbhkoainaaGreatDoorDv12
set_option linter.constructorNameAsVariable false
set_option linter.unusedSimpArgs false
set_option linter.unusedVariables false
set_option linter.unusedSectionVars false
namespace Go.Proofs.YtcjcacbhkoainaaGreatDoor
open Go Go.Proofs Go.RowKit
set_option maxHeartbeats 1000000
abbrev Trf:=Int×(Int×Int)
def trOk(n:Nat)(t:Trf):Bool:=wi t.1 0 ((n:Int)-1)&&(wi t.2.1 0 ((n:Int)-1)&&(!iEq t.1 t.2.1&&wi t.2.2 1 8000000000))
theorem qyH(n:Nat)(ts:List Trf)(h60:ts.length≤100)(N:Nat)(hN:N≤1000):∀(Y A:List Trf) (n':Nat) (left:List Int),ts=A++Y→Y.length<n'→left.length=N→(∀x,x∈left→-(8000000000*(A.length:Int)+1000000000)≤x∧x≤8000000000*(A.length:Int)+1000000000) →
  qg n' (qfR n) (ts,((A.length:Int),(left,())))=some (cond (Y.all (trOk N)) (.inl (Y.foldl pay1 left,())) (.inr (false,()))):=by
 intro Y
 induction Y with
 | nil =>
  intro A n' left e hn hl hb
  obtain ⟨n',rfl⟩:∃j,n'=j+1:=⟨n'-1,by simp at hn;omega⟩
  rw[List.append_nil] at e
  rw[← e,qw,qhe]
  simp only[qg3,cond_false]
  rfl
 | cons t Y ih =>
  intro A n' left e hn hl hb
  obtain ⟨n',rfl⟩:∃j,n'=j+1:=⟨n'-1,by simp at hn;omega⟩
  have hlen:ts.length=A.length+(Y.length+1):=by rw[e,List.length_append,List.length_cons]
  have hlt:A.length<ts.length:=by omega
  have hlat:lat ts (A.length:Int)=some t:=by rw[e];exact latA A Y t rfl
  rw[qw,qhe]
  simp only[qg2 hlt,cond_true,hlat,Option.bind_some,qpY,qcH (show A.length<9223372036854775807 by omega),hl,qgM (n:=iSub (N:Int) 1) (by unfold iSub;omega) (by unfold iSub;omega)]
  rw[List.all_cons]
  unfold trOk
  rw[show iSub (N:Int) 1=(N:Int)-1 from rfl]
  cases w1:wi t.1 0 ((N:Int)-1) with
  | false=>rfl
  | true =>
  cases w2:wi t.2.1 0 ((N:Int)-1) with
  | false=>rfl
  | true =>
  cases w3:iEq t.1 t.2.1 with
  | true=>rfl
  | false =>
  cases w4:wi t.2.2 1 8000000000 with
  | false=>rfl
  | true =>
  have h1:=qjf.1 w1
  have h2:=qjf.1 w2
  have h4:=qjf.1 w4
  obtain ⟨f,g,amt⟩:=t
  obtain ⟨i,rfl⟩:=Int.eq_ofNat_of_zero_le h1.1
  obtain ⟨j,rfl⟩:=Int.eq_ofNat_of_zero_le h2.1
  have hi:i<left.length:=by simp only at h1;omega
  have hj:j<left.length:=by simp only at h2;omega
  have hne:i≠j:=fun e'=>by simp[iEq,e'] at w3
  have b1:=hb _ (List.getElem_mem hi)
  have b2:=hb _ (List.getElem_mem hj)
  simp only at h4
  have e1:iW (iAdd left[i] amt)=left[i]+amt:=qgM (by unfold iAdd;omega) (by unfold iAdd;omega)
  have hj':j<(left.set i (left[i]+amt)).length:=by rw[List.length_set];exact hj
  have hgj:(left.set i (left[i]+amt))[j]=left[j]:=by rw[List.getElem_set_ne hne]
  have e2:iW (iSub left[j] amt)=left[j]-amt:=qgM (by unfold iSub;omega) (by unfold iSub;omega)
  simp only[Bool.not_true,cond_false,Bool.not_false,Bool.true_and,qjG left hi,Option.bind_some,Int.toNat_natCast,List.getElem?_eq_getElem hi,e1,qjG _ hj',List.getElem?_eq_getElem hj',hgj,e2]
  have hp:pay1 left ((i:Int),((j:Int),amt))=(left.set i (left[i]+amt)).set j (left[j]-amt):=by
   unfold pay1
   simp only[Int.toNat_natCast,List.getElem?_eq_getElem hi,Option.getD_some,List.getElem?_eq_getElem hj',hgj]
  have:=ih (A++[((i:Int),((j:Int),amt))]) n' ((left.set i (left[i]+amt)).set j (left[j]-amt)) (by rw[e];simp) (by simp at hn;omega) (by rw[List.length_set,List.length_set,hl]) (fun x hx=>by
   rw[List.length_append,List.length_singleton]
   rcases List.mem_or_eq_of_mem_set hx with hx | hx
   ·rcases List.mem_or_eq_of_mem_set hx with hx | hx
    ·have:=hb x hx;omega
    ·omega
   ·omega)
  rw[List.length_append] at this
  rw[List.foldl_cons,hp]
  exact this
theorem qoc:∀(ts:List Trf) (l:List Int),(ts.foldl pay1 l).length=l.length
 | [],_=>rfl
 | t::ts,l=>by rw[List.foldl_cons,qoc ts,qqv]
theorem qod(n:Nat)(l:List Int)(ts:List Trf)(h60:ts.length≤100)(hN:l.length≤1000)(hb:∀x,x∈l→-1000000000≤x∧x≤1000000000)(hn:2000≤n):qbC n (l,(ts,()))=some (ts.all (trOk l.length)&&(ts.foldl pay1 l).all fun x=>decide (x=0),()):=by
 rw[qlr]
 simp only[qil (show Nat.ble (nAdd 0 l.length) 17592186044416=true by rw[Nat.ble_eq];unfold nAdd;omega),Option.bind_some]
 have h:=qyH n ts h60 l.length hN ts [] n l rfl (by omega) rfl (fun x hx=>by have:=hb x hx;simp;omega)
 rw[show List.append [] l=l from rfl]
 show Option.bind (qg n _ (ts,((([]:List Trf).length:Int),(l,())))) _=_
 rw[h]
 cases ts.all (trOk l.length) with
 | false=>rfl
 | true =>
  have hl:=qoc ts l
  simp only[cond_true,Option.bind_some,Sum.elim_inl,Bool.true_and]
  generalize ts.foldl pay1 l=r at *
  have h2:=qwj (step:=qdQ n) r (fun k=>((k:Int),(r,()))) (fun x=>decide (x=0)) (.inl ()) (.inr (false,())) (fun rec k hk=>by
   rw[qhf]
   simp only[qg2 hk,cond_true,qjG r hk,Option.bind_some,Int.toNat_natCast,List.getElem?_eq_getElem hk,qcH (show k<9223372036854775807 by omega)]
   by_cases h0:r[k]=0
   ·rw[qiy h0,decide_eq_true h0];rfl
   ·rw[qkw h0,decide_eq_false h0];rfl) (fun rec=>by
   rw[qhf]
   simp only[qg3,cond_false]) (n:=n) (by omega)
  have h2':qg n (qdQ n) ((0:Int),(r,()))=_:=h2
  rw[h2']
  cases r.all fun x=>decide (x=0)<;>rfl
end Go.Proofs.YtcjcacbhkoainaaGreatDoor
