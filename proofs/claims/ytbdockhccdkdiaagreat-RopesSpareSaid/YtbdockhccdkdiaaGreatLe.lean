/- Texts Dl8, Dl9, Dl10 in one. -/
import Derived.Test.YtbdockhccdkdiaaGreatLd
/- Ropes: the fewest posts (Prop). -/
set_option linter.constructorNameAsVariable false
set_option linter.unusedSimpArgs false
set_option linter.unusedVariables false
set_option linter.unusedSectionVars false
namespace Go.Proofs.YtbdockhccdkdiaaGreat
open Go Go.Proofs Go.RowKit
set_option maxHeartbeats 1000000
def qbO(l:List Nat):List Int:=l.map fun i:Nat=>(i:Int)
theorem qeH(l:List Nat):(qbO l).length=l.length:=by unfold qbO;simp
theorem qr1(s i:Nat):bitB (s:Int) i=s.testBit i:=by
 unfold bitB
 rw[Nat.testBit_eq_decide_div_mod_eq]
 have h1:((s/2 ^ i:Nat):Int)=(s:Int)/2 ^ i:=by simp
 rw[← h1]
 by_cases h:s/2 ^ i % 2=1
 ·rw[decide_eq_true h,decide_eq_true (by omega)]
 ·rw[decide_eq_false h,decide_eq_false (by omega)]
theorem qs1(L s:Nat):∀k,k≤L→selT (qbO (List.range L)) (bitB (s:Int)) k=qbO (qo k s)
 | 0,_=>rfl
 | k+1,h=>by
  have hk:(qbO (List.range L))[k]?=some (k:Int):=by unfold qbO;rw[List.getElem?_map,List.getElem?_range (by omega)];rfl
  rw[qcc,qs1 L s k (by omega),qhk,hk,qr1]
  unfold qbO
  rw[List.map_append]
  cases s.testBit k<;>rfl
theorem qw8(a b:Nat):cmpI (a:Int) (b:Int)=cmpN a b:=by
 unfold cmpI cmpN
 by_cases h:a<b
 ·rw[if_pos h,if_pos (by omega)]
 ·by_cases h2:b<a
  ·rw[if_neg h,if_pos h2,if_neg (by omega),if_pos (by omega)]
  ·rw[if_neg h,if_neg h2,if_neg (by omega),if_neg (by omega)]
theorem quO(a b:Nat)(l m:List Nat):cmpL (a::l) (b::m)=if cmpN a b=0 then cmpL l m else cmpN a b:=by rw[cmpL]
theorem qv6(n:Nat)(A B:List Nat)(hA:A.length<100):∀(j k:Nat) (m:Nat),k+j=A.length→j<m→k≤B.length→cmpL A B=cmpL (A.drop k) (B.drop k) →
  qn m (qd4 n) (qbO A,(qbO B,(qbO A,((A.length:Int),((k:Int),())))))=some (.inl (qbO A,(qbO B,())))∧(cmpL A B=if A.length<B.length then -1 else 0)∨qn m (qd4 n) (qbO A,(qbO B,(qbO A,((A.length:Int),((k:Int),())))))=some (.inr (cmpL A B,())):=by
 intro j
 induction j with
 | zero =>
  intro k m hk hm hB hc
  obtain ⟨m,rfl⟩:∃j,m=j+1:=⟨m-1,by omega⟩
  refine .inl ⟨?_,?_⟩
  ·rw[qC,qgL]
   simp only[show iLt (k:Int) (A.length:Int)=false from decide_eq_false (by omega),cond_false]
  ·rw[hc,List.drop_eq_nil_of_le (by omega)]
   cases hd:B.drop k with
   | nil =>
    have:=congrArg List.length hd
    rw[List.length_drop,List.length_nil] at this
    rw[if_neg (by omega)]
    rfl
   | cons y Y =>
    have:=congrArg List.length hd
    rw[List.length_drop,List.length_cons] at this
    rw[if_pos (by omega)]
    rfl
 | succ j ih =>
  intro k m hk hm hB hc
  obtain ⟨m,rfl⟩:∃j,m=j+1:=⟨m-1,by omega⟩
  have hkA:k<A.length:=by omega
  have la:lat (qbO A) (k:Int)=some (A[k]:Int):=by rw[qkm];unfold qbO;rw[List.getElem?_map,List.getElem?_eq_getElem hkA];rfl
  have dA:A.drop k=A[k]::A.drop (k+1):=List.drop_eq_getElem_cons hkA
  rw[qC,qgL]
  simp only[show iLt (k:Int) (A.length:Int)=true from decide_eq_true (by omega),cond_true,la,Option.bind_some,qeH]
  by_cases hkB:k<B.length
  ·have lb:lat (qbO B) (k:Int)=some (B[k]:Int):=by rw[qkm];unfold qbO;rw[List.getElem?_map,List.getElem?_eq_getElem hkB];rfl
   have dB:B.drop k=B[k]::B.drop (k+1):=List.drop_eq_getElem_cons hkB
   rw[dA,dB,quO] at hc
   simp only[show iGe (k:Int) (B.length:Int)=false from decide_eq_false (by omega),cond_false,lb,Option.bind_some,qsY,qw8]
   by_cases h0:cmpN A[k] B[k]=0
   ·rw[if_pos h0] at hc
    rw[h0]
    simp only[show iNe (0:Int) 0=false from rfl,cond_false,qcm (show k<9223372036854775807 by omega)]
    exact ih (k+1) m (by omega) (by omega) (by omega) hc
   ·rw[if_neg h0] at hc
    rw[hc]
    refine .inr ?_
    rw[show iNe (cmpN A[k] B[k]) 0=true by unfold iNe;simp[h0]]
    rfl
  ·have dB:B.drop k=[]:=List.drop_eq_nil_of_le (by omega)
   rw[dA,dB] at hc
   rw[hc]
   refine .inr ?_
   rw[show iGe (k:Int) (B.length:Int)=true from decide_eq_true (by omega)]
   rfl
theorem qtJ(n:Nat)(A B:List Nat)(hA:A.length<100)(hn:200≤n):qgm n (qbO A,(qbO B,()))=some (cmpL A B,()):=by
 have h:=qv6 n A B hA A.length 0 n (by omega) (by omega) (by omega) rfl
 rw[show ((0:Nat):Int)=0 from rfl] at h
 rw[qkL]
 simp only[qeH]
 rcases h with ⟨h,hc⟩ | h
 ·rw[h,hc]
  simp only[Option.bind_some,Sum.elim_inl,qeH]
  by_cases hl:A.length<B.length
  ·rw[if_pos hl,show iLt (A.length:Int) (B.length:Int)=true from decide_eq_true (by omega)]
   rfl
  ·rw[if_neg hl,show iLt (A.length:Int) (B.length:Int)=false from decide_eq_false (by omega)]
   rfl
 ·rw[h]
  rfl
def qlb(o:Option (List Nat)):List Int:=qbO (o.getD [])
theorem qjA{L:Nat}(hL:L≤8):2 ^ L≤256:=Nat.pow_le_pow_right (by decide) hL
theorem qwv(L:Nat)(hL:L≤8):qH (iMk (L:Int))=some ()∧qH (iEq (L:Int) (L:Int))=some ()∧qH (iSh .i64 (L:Int))=some ()∧iW (iShl 1 (L:Int))=((2 ^ L:Nat):Int):=by
 rcases (by omega:L=0∨L=1∨L=2∨L=3∨L=4∨L=5∨L=6∨L=7∨L=8) with rfl | rfl | rfl | rfl | rfl | rfl | rfl | rfl | rfl<;>decide
theorem qr2(n:Int):bits .and .i64 n 1=n % 2:=by
 show IntKind.i64.wrap ((BitVec.ofInt 64 n &&& BitVec.ofInt 64 1).toNat:Int)=n % 2
 rw[BitVec.toNat_and,show (BitVec.ofInt 64 1).toNat=2 ^ 1-1 by decide,Nat.and_two_pow_sub_one_eq_mod,BitVec.toNat_ofInt,IntKind.wrap_i64]
 omega
theorem qs2(s:Int)(hs:0≤s)(k:Nat):s/2 ^ k % 2=if s.toNat.testBit k=true then 1 else 0:=by
 obtain ⟨m,rfl⟩:∃m:Nat,s=m:=⟨s.toNat,by omega⟩
 rw[Int.toNat_natCast,Nat.testBit_eq_decide_div_mod_eq]
 have e:(m:Int)/2 ^ k=((m/2 ^ k:Nat):Int):=by simp
 rw[e]
 generalize m/2 ^ k=q
 by_cases h:q % 2=1
 ·rw[decide_eq_true h,if_pos rfl];omega
 ·rw[decide_eq_false h,if_neg (by simp)];omega
theorem qtK(k:Nat)(hk:k<64):IntKind.wrap .u64 (k:Int)=(k:Int):=by
 have h:(List.range 64).all (fun k=>IntKind.wrap .u64 (k:Int)==(k:Int))=true:=by decide +kernel
 rw[List.all_eq_true] at h
 exact eq_of_beq (h k (List.mem_range.2 hk))
theorem qs3(a:Int)(k:Nat):iShr a (k:Int)=a/2 ^ k:=by unfold iShr;rw[Int.toNat_natCast]
theorem quP(n:Nat)(s:Int)(hs:0≤s)(L:Nat)(hL:L≤8):∀(j k m:Nat),k+j=L→j<m →
  qn m (qek n) (s,((L:Int),(((qo k s.toNat).length:Int),((k:Int),()))))=some (((qo L s.toNat).length:Int),()):=by
 intro j
 induction j with
 | zero =>
  intro k m hk hm
  obtain ⟨m,rfl⟩:∃j,m=j+1:=⟨m-1,by omega⟩
  rw[qC,qg6]
  simp only[show iLt (k:Int) (L:Int)=false from decide_eq_false (by omega),cond_false]
  rw[show L=k by omega]
 | succ j ih =>
  intro k m hk hm
  obtain ⟨m,rfl⟩:∃j,m=j+1:=⟨m-1,by omega⟩
  have hlen:(qo k s.toNat).length≤k:=by unfold qo;have:=List.length_filter_le (fun i=>s.toNat.testBit i) (List.range k);simpa using this
  have:=ih (k+1) m (by omega) (by omega)
  rw[qhk,List.length_append] at this
  rw[qC,qg6]
  simp only[show iLt (k:Int) (L:Int)=true from decide_eq_true (by omega),cond_true,qtK k (by omega),shk k (by omega),Option.bind_some,qs3,qr2,qs2 s hs k,qcm (show k<9223372036854775807 by omega)]
  cases hb:s.toNat.testBit k with
  | true =>
   rw[hb] at this
   simp only[if_true] at this ⊢
   rw[show iW (iAdd ((qo k s.toNat).length:Int) 1)=(((qo k s.toNat).length+[k].length:Nat):Int) from qcm (by omega)]
   exact this
  | false =>
   rw[hb] at this
   simp only[Bool.false_eq_true,if_false,List.length_nil,Nat.add_zero] at this ⊢
   rw[show iW (iAdd ((qo k s.toNat).length:Int) 0)=((qo k s.toNat).length:Int) from by rw[qip (by unfold iAdd;omega) (by unfold iAdd;omega)];unfold iAdd;omega]
   exact this
theorem qp6(n:Nat)(s:Int)(hs:0≤s)(L:Nat)(hL:L≤8)(hn:100≤n):qcN n (s,((L:Int),()))=some (((qo L s.toNat).length:Int),()):=by
 have h:=quP n s hs L hL L 0 n (by omega) (by omega)
 rw[qll]
 show Option.bind (qn n (qek n) (s,((L:Int),(((qo 0 s.toNat).length:Int),(((0:Nat):Int),()))))) _=_
 rw[h]
 rfl
structure PairOk (l:List qtG) (limit years set:Int) (sinks:List Int) (Y:Int) (p:Int):Prop where
 bd:PBd l
 len:l.length≤8
 sl:sinks.length=l.length
 lim:0≤limit∧limit≤1000
 yr:0≤years∧years≤1000
 Yr:0≤Y∧Y≤1000
 set0:0≤set
 p0:0≤p
 ord:∀k (h:k<l.length),l[k].2.1≤l[k].2.2
 sk:∀k (h:k<l.length) (h':k<sinks.length),l[k].2.1≤sinks[k]∧sinks[k]≤l[k].2.2
 lev:∀i k (hi:i<l.length) (hk:k<l.length),i<k→canB (pO l[i]) (pO l[k]) limit Y=false
 prp:∀i k (hi:i<l.length) (hk:k<l.length),i<k→p.toNat.testBit i=false→p.toNat.testBit k=false→canB (pO l[i]) (pO l[k]) limit years=false
end Go.Proofs.YtbdockhccdkdiaaGreat
