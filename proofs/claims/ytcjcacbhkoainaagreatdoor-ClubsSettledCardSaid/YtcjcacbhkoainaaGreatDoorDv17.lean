/- Clubs: Settle and Fewest. -/
import Derived.Test.YtcjcacbhkoainaaGreatDoorDv16
set_option linter.constructorNameAsVariable false
set_option linter.unusedSimpArgs false
set_option linter.unusedVariables false
set_option linter.unusedSectionVars false
namespace Go.Proofs.YtcjcacbhkoainaaGreatDoor
open Go Go.Proofs Go.RowKit
set_option maxHeartbeats 1000000
theorem qwy{l:List Int}{a:Nat}(B:Bal l):(dl l a).length≤8:=by
 unfold dl
 rw[List.length_map]
 have:=List.length_filter_le a.testBit (List.range l.length)
 rw[List.length_range] at this
 have:=B.ln
 omega
theorem qzd{l:List Int}{a:Nat}(B:Bal l):AmtB (dl l a):=fun p hp=>by
 obtain ⟨i,rfl,h1,h2⟩:=qkN hp
 show _≤(l[i]?).getD 0∧(l[i]?).getD 0≤_
 rw[List.getElem?_eq_getElem h1]
 exact B.bd _ (List.getElem_mem h1)
theorem qtH(n:Nat)(l:List Int)(B:Bal l)(hn:2000≤n)(a:Nat)(ha:a<256)(hi:InL l a)(hD:DOk (dl l a)):∃ts,Trs (dl l a) ts∧(∀t,t∈ts→t.2.2≤1000000000)∧qfP n (l,((a:Int),()))=some (ts,()):=by
 have h8:=qwy (a:=a) B
 obtain ⟨ts,t1,t2,t3⟩:=qxJ n hn 8 (dl l a) [] n h8 (by omega) hD (qzd B) (by omega) (by simp;omega)
 refine ⟨ts,t1,t2,?_⟩
 rw[qkJ]
 have h0:=qyK n l [] a a [] n (Nat.le_refl _) ha hi (by omega) (by simp;omega)
 rw[List.nil_append] at h0 t3
 simp only[h0,Option.bind_some,t3]
theorem qyL(n:Nat)(l:List Int)(B:Bal l)(hn:2000≤n)(F:List Nat)(hF:F.length<256)(hok:∀a,a∈F→a<256∧InL l a∧DOk (dl l a)∧1≤(dl l a).length):∀(Y A:List Nat) (out:List Stay) (n':Nat),F=A++Y→Y.length<n'→out.length≤8*A.length →
  ∃us,TrsAll l Y us∧(∀t,t∈us→t.2.2≤1000000000)∧qg n' (qhx n) (l,(qey F,((F.length:Int),((A.length:Int),(out,())))))=some (out++us,()):=by
 intro Y
 induction Y with
 | nil =>
  intro A out n' e hn' ho
  obtain ⟨n',rfl⟩:∃j,n'=j+1:=⟨n'-1,by simp at hn';omega⟩
  rw[List.append_nil] at e
  refine ⟨[],.nil,fun t ht=>absurd ht List.not_mem_nil,?_⟩
  rw[← e,qw,qjZ]
  simp only[qg3,cond_false,List.append_nil]
 | cons a Y ih =>
  intro A out n' e hn' ho
  obtain ⟨n',rfl⟩:∃j,n'=j+1:=⟨n'-1,by simp at hn';omega⟩
  have hlen:F.length=A.length+(Y.length+1):=by rw[e,List.length_append,List.length_cons]
  obtain ⟨a1,a2,a3,a4⟩:=hok a (by rw[e];simp)
  obtain ⟨ts,t1,t2,t3⟩:=qtH n l B hn a a1 a2 a3
  have hl:=quy t1 a3 a4
  have h8:=qwy (a:=a) B
  have hlat:lat (qey F) (A.length:Int)=some (a:Int):=by
   rw[e]
   unfold qey
   rw[List.map_append,List.map_cons]
   exact latA _ _ _ (by rw[List.length_map])
  rw[qw,qjZ]
  simp only[qg2 (show A.length<F.length by omega),cond_true,hlat,Option.bind_some,t3]
  rw[qil (show Nat.ble (nAdd out.length ts.length) 5864062014805=true by rw[Nat.ble_eq];unfold nAdd;omega)]
  simp only[Option.bind_some,qcH (show A.length<9223372036854775807 by omega)]
  obtain ⟨us,u1,u2,u3⟩:=ih (A++[a]) (out++ts) n' (by rw[e];simp) (by simp at hn';omega) (by rw[List.length_append,List.length_append,List.length_singleton];omega)
  rw[show (A++[a]).length=A.length+1 by simp] at u3
  refine ⟨ts++us,.cons a Y ts us t1 u1,fun t ht=>?_,?_⟩
  ·rcases List.mem_append.1 ht with h | h
   ·exact t2 t h
   ·exact u2 t h
  ·rw[show List.append out ts=out++ts from rfl,u3,List.append_assoc]
theorem qtI(l:List Int):sm l (qcf l)=l.sum:=by
 have h:∀l:List Int,l.sum=((List.range l.length).map fun i=>(l[i]?).getD 0).sum:=by
  intro l
  induction l with
  | nil=>rfl
  | cons x l ih =>
   rw[List.length_cons,List.range_succ_eq_map,List.map_cons,List.sum_cons,List.sum_cons,List.map_map,ih]
   rfl
 unfold sm
 rw[qo9,h l]
 refine congrArg List.sum (List.map_congr_left fun i hi=>?_)
 rw[qjH,decide_eq_true (List.mem_range.1 hi)]
 by_cases h0:(l[i]?).getD 0=0
 ·rw[h0];simp
 ·rw[decide_eq_false h0];rfl
theorem quE(l:List Int):card l.length (qcf l)=qbU l:=by
 unfold card qbU
 rw[List.filter_congr fun i hi=>by
  rw[qjH,decide_eq_true (List.mem_range.1 hi),Bool.true_and]]
theorem qze{l:List Int}{a:Nat}(ha:a<256)(h0:a≠0)(hi:InL l a):1≤(dl l a).length:=by
 rw[qwx ha h0 hi,List.length_cons];omega
structure SetOk (l:List Int) (us:List Stay) (r:Nat):Prop where
 mx:IsMax (Zs l) (qcf l) r
 ln:us.length+r=qbU l
 zr:∀x,x∈us.foldl pay1 l→x=0
 ok:us.all (trOk l.length)=true
 n8:us.length≤8
theorem qsr(n:Nat)(l:List Int)(hn:2000≤n)(h:balB l=true):∃us r,qei n (l,())=some (us,(0,()))∧SetOk l us r:=by
 obtain ⟨B,hs⟩:=qnn h
 have hm:=qx8 B
 obtain ⟨F,g1,g2,g3⟩:=qwv n l B hn (qcf l) hm (qve l) (by rw[qtI,hs])
 have hbit:∀i,(qcf l).testBit i=true→i<l.length∧(l[i]?).getD 0≠0:=fun i hi=>by
  rw[qjH,Bool.and_eq_true,decide_eq_true_eq] at hi
  exact ⟨hi.1,by simpa using hi.2⟩
 have hok:∀a,a∈F→a<256∧InL l a∧DOk (dl l a)∧1≤(dl l a).length:=fun a ha=>by
  obtain ⟨a1,a2,a3,_⟩:=g2.sub ha
  have hle:=Nat.and_le_right (n:=a) (m:=qcf l)
  have ha':a<256:=by omega
  have hi:=(qve l).sub a2
  exact ⟨ha',hi,qzB g3 g2 hbit ha,qze ha' a1 hi⟩
 have hFl:=g2.len
 obtain ⟨us,u1,u2,u3⟩:=qyL n l B hn F (by omega) hok F [] [] n rfl (by omega) (Nat.zero_le _)
 rw[List.nil_append] at u3
 obtain ⟨v1,v2,v3,v4,v5⟩:=qwo u1 (qcf l) g2 (fun a ha=>⟨(hok a ha).2.2.1,(hok a ha).2.2.2,(hok a ha).2.1⟩) l rfl fun i _=>rfl
 rw[quE] at v1
 refine ⟨us,F.length,?_,g3,v1,fun x hx=>?_,?_,?_⟩
 ·rw[qla,qsq n l hn,h]
  simp only[cond_true,Option.bind_some,show iNe (0:Int) 0=false from rfl,cond_false,qxG n l B hn,g1]
  have u3':qg n (qhx n) (l,(qey F,(((qey F).length:Int),((0:Int),(([]:List Stay),())))))=some (us,()):=by rw[qso];exact u3
  rw[u3']
  rfl
 ·obtain ⟨i,hi,rfl⟩:=List.mem_iff_getElem.1 hx
  have hil:i<l.length:=by rw[v2] at hi;exact hi
  have hg:((us.foldl pay1 l)[i]?).getD 0=(us.foldl pay1 l)[i]:=by rw[List.getElem?_eq_getElem hi];rfl
  rw[← hg]
  cases hb:(qcf l).testBit i with
  | true=>exact v3 i hb
  | false =>
   rw[v4 i hb]
   rw[qjH,decide_eq_true hil,Bool.true_and] at hb
   simpa using hb
 ·rw[List.all_eq_true]
  intro t ht
  obtain ⟨⟨p1,p2⟩,⟨p3,p4⟩,p5,p6⟩:=v5 t ht
  unfold trOk
  simp only[Bool.and_eq_true,qjf,Bool.not_eq_true']
  refine ⟨by omega,by omega,by simp[iEq,p5],p6,?_⟩
  have:=u2 t ht
  omega
 ·have:qbU l≤8:=by have:=qqw l;have:=B.ln;omega
  omega
theorem qvi(n:Nat)(l:List Int)(hn:2000≤n)(h:balB l=false):qei n (l,())=some ([],(111,())):=by
 rw[qla,qsq n l hn,h]
 rfl
end Go.Proofs.YtcjcacbhkoainaaGreatDoor
