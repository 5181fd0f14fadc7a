/- Texts Dl8, Dl9, Dl10, Dl11, Dl12 in one. -/
import Derived.Test.YtbdockhccdkdiaaLd
/- Ropes: the fewest posts (Prop). -/
set_option linter.constructorNameAsVariable false
set_option linter.unusedSimpArgs false
set_option linter.unusedVariables false
set_option linter.unusedSectionVars false
namespace Go.Proofs.Ytbdockhccdkdiaa
open Go Go.Proofs Go.RowKit
set_option maxHeartbeats 1000000
def qbI(l:List Nat):List Int:=l.map fun i:Nat=>(i:Int)
theorem qdb(l:List Nat):(qbI l).length=l.length:=by unfold qbI;simp
theorem quE(n:Nat)(x:List qG×(Int×Int)):qm (n+20) (qp (n+20)) ((0:Int),((0:Int),((0:Int),(x.1,(x.2.1,(x.2.2,(List.replicate 0 (0:Int),())))))))=some ((0:Int),(x.1,(x.2.1,(x.2.2,(([]:List Int),()))))):=by kernel_rfl
theorem quF(n:Nat)(x:List qG×(Int×Int)):qm (n+20) (qp (n+20)) ((1:Int),((1:Int),((0:Int),(x.1,(x.2.1,(x.2.2,(List.replicate 1 (0:Int),())))))))=some ((1:Int),(x.1,(x.2.1,(x.2.2,(([0]:List Int),()))))):=by kernel_rfl
theorem quG(n:Nat)(x:List qG×(Int×Int)):qm (n+20) (qp (n+20)) ((2:Int),((2:Int),((0:Int),(x.1,(x.2.1,(x.2.2,(List.replicate 2 (0:Int),())))))))=some ((2:Int),(x.1,(x.2.1,(x.2.2,(([0,1]:List Int),()))))):=by kernel_rfl
theorem quH(n:Nat)(x:List qG×(Int×Int)):qm (n+20) (qp (n+20)) ((3:Int),((3:Int),((0:Int),(x.1,(x.2.1,(x.2.2,(List.replicate 3 (0:Int),())))))))=some ((3:Int),(x.1,(x.2.1,(x.2.2,(([0,1,2]:List Int),()))))):=by kernel_rfl
theorem quI(n:Nat)(x:List qG×(Int×Int)):qm (n+20) (qp (n+20)) ((4:Int),((4:Int),((0:Int),(x.1,(x.2.1,(x.2.2,(List.replicate 4 (0:Int),())))))))=some ((4:Int),(x.1,(x.2.1,(x.2.2,(([0,1,2,3]:List Int),()))))):=by kernel_rfl
theorem quJ(n:Nat)(x:List qG×(Int×Int)):qm (n+20) (qp (n+20)) ((5:Int),((5:Int),((0:Int),(x.1,(x.2.1,(x.2.2,(List.replicate 5 (0:Int),())))))))=some ((5:Int),(x.1,(x.2.1,(x.2.2,(([0,1,2,3,4]:List Int),()))))):=by kernel_rfl
theorem quK(n:Nat)(x:List qG×(Int×Int)):qm (n+20) (qp (n+20)) ((6:Int),((6:Int),((0:Int),(x.1,(x.2.1,(x.2.2,(List.replicate 6 (0:Int),())))))))=some ((6:Int),(x.1,(x.2.1,(x.2.2,(([0,1,2,3,4,5]:List Int),()))))):=by kernel_rfl
theorem quL(n:Nat)(x:List qG×(Int×Int)):qm (n+20) (qp (n+20)) ((7:Int),((7:Int),((0:Int),(x.1,(x.2.1,(x.2.2,(List.replicate 7 (0:Int),())))))))=some ((7:Int),(x.1,(x.2.1,(x.2.2,(([0,1,2,3,4,5,6]:List Int),()))))):=by kernel_rfl
theorem quM(n:Nat)(x:List qG×(Int×Int)):qm (n+20) (qp (n+20)) ((8:Int),((8:Int),((0:Int),(x.1,(x.2.1,(x.2.2,(List.replicate 8 (0:Int),())))))))=some ((8:Int),(x.1,(x.2.1,(x.2.2,(([0,1,2,3,4,5,6,7]:List Int),()))))):=by kernel_rfl
theorem qtT(n:Nat)(l:List qG)(a b:Int)(L:Nat)(hL:L≤8)(hn:20≤n):qm n (qp n) ((L:Int),((L:Int),((0:Int),(l,(a,(b,(List.replicate L (0:Int),())))))))=some ((L:Int),(l,(a,(b,(qbI (List.range L),()))))):=by
 obtain ⟨m,rfl⟩:∃m,n=m+20:=⟨n-20,by omega⟩
 rcases (by omega:L=0∨L=1∨L=2∨L=3∨L=4∨L=5∨L=6∨L=7∨L=8) with rfl | rfl | rfl | rfl | rfl | rfl | rfl | rfl | rfl
 ·exact quE m (l,(a,b))
 ·exact quF m (l,(a,b))
 ·exact quG m (l,(a,b))
 ·exact quH m (l,(a,b))
 ·exact quI m (l,(a,b))
 ·exact quJ m (l,(a,b))
 ·exact quK m (l,(a,b))
 ·exact quL m (l,(a,b))
 ·exact quM m (l,(a,b))
theorem quk(s:Nat)(hs:s<256):bits .xor .i64 (Int.negSucc 0) (s:Int) = -(s:Int)-1:=by
 have h:(List.range 256).all (fun s=>bits .xor .i64 (Int.negSucc 0) (s:Int) == -(s:Int)-1)=true:=by decide +kernel
 rw[List.all_eq_true] at h
 exact eq_of_beq (h s (List.mem_range.2 hs))
theorem qs0(s i:Nat):bitB (s:Int) i=s.testBit i:=by
 unfold bitB
 rw[Nat.testBit_eq_decide_div_mod_eq]
 have h1:((s/2 ^ i:Nat):Int)=(s:Int)/2 ^ i:=by simp
 rw[← h1]
 by_cases h:s/2 ^ i % 2=1
 ·rw[decide_eq_true h,decide_eq_true (by omega)]
 ·rw[decide_eq_false h,decide_eq_false (by omega)]
theorem qp0(L s:Nat):∀k,k≤L→selT (qbI (List.range L)) (bitB (s:Int)) k=qbI (qg k s)
 | 0,_=>rfl
 | k+1,h=>by
  have hk:(qbI (List.range L))[k]?=some (k:Int):=by unfold qbI;rw[List.getElem?_map,List.getElem?_range (by omega)];rfl
  rw[qiX,qp0 L s k (by omega),qkd,hk,qs0]
  unfold qbI
  rw[List.map_append]
  cases s.testBit k<;>rfl
theorem qrH(l:List qG)(p:Nat→Bool):∀k,k≤l.length→pL (selT l p k)=qn7 (pL l) p k
 | 0,_=>rfl
 | k+1,h=>by
  have hk:(pL l)[k]! = pO l[k]:=by
   rw[getElem!_def,qkf l k (by omega)]
  have ih:=qrH l p k (by omega)
  unfold qn7 at ih ⊢
  rw[qiX,List.range_succ,List.filter_append,List.map_append,← ih,List.getElem?_eq_getElem (show k<l.length by omega)]
  unfold pL at hk ⊢
  rw[List.map_append]
  cases hp:p k with
  | false=>simp[hp]
  | true=>simp[hp,List.getElem?_eq_getElem (show k<l.length by omega)]
theorem qs1(n:Nat)(l:List qG)(limit years:Int)(s:Nat)(hs:s<256)(hb:PBd l)(hl:0≤limit∧limit≤1000)(hy:0≤years∧years≤1000)(hL:l.length≤8)(hn:200≤n):qeh n ((s:Int),(l,(limit,(years,()))))=some (qc5 (pL l) limit years s,(l,(limit,(years,())))):=by
 have hlen:=qkg l (bitB (-(s:Int)-1)) l.length
 rw[qk1]
 simp only[quk s hs]
 rw[qqE n l (-(s:Int)-1) (by omega) hL (by omega)]
 simp only[Option.bind_some]
 rw[qo6 n (selT l (bitB (-(s:Int)-1)) l.length) limit years (fun t ht=>hb t (qo9 ht)) hl hy (by omega) hn,qrH l _ l.length (Nat.le_refl _)]
 unfold qc5
 rw[qcy]
 rfl
theorem qtU(a b:Nat):cmpI (a:Int) (b:Int)=cmpN a b:=by
 unfold cmpI cmpN
 by_cases h:a<b
 ·rw[if_pos h,if_pos (by omega)]
 ·by_cases h2:b<a
  ·rw[if_neg h,if_pos h2,if_neg (by omega),if_pos (by omega)]
  ·rw[if_neg h,if_neg h2,if_neg (by omega),if_neg (by omega)]
theorem qrI(a b:Nat)(l m:List Nat):cmpL (a::l) (b::m)=if cmpN a b=0 then cmpL l m else cmpN a b:=by rw[cmpL]
theorem qs2(n:Nat)(A B:List Nat)(hA:A.length<100):∀(j k:Nat) (m:Nat),k+j=A.length→j<m→k≤B.length→cmpL A B=cmpL (A.drop k) (B.drop k) →
  qm m (qdo n) (qbI A,(qbI B,(qbI A,((A.length:Int),((k:Int),())))))=some (.inl (qbI A,(qbI B,())))∧(cmpL A B=if A.length<B.length then -1 else 0)∨qm m (qdo n) (qbI A,(qbI B,(qbI A,((A.length:Int),((k:Int),())))))=some (.inr (cmpL A B,())):=by
 intro j
 induction j with
 | zero =>
  intro k m hk hm hB hc
  obtain ⟨m,rfl⟩:∃j,m=j+1:=⟨m-1,by omega⟩
  refine .inl ⟨?_,?_⟩
  ·rw[qn,qfq]
   simp only[show iLt (k:Int) (A.length:Int)=false from decide_eq_false (by omega),cond_false]
  ·rw[hc,List.drop_eq_nil_of_le (by omega)]
   cases hd:B.drop k with
   | nil =>
    have:=congrArg List.length hd
    rw[List.length_drop,List.length_nil] at this
    rw[if_neg (by omega)]
    rfl
   | cons y Y =>
    have:=congrArg List.length hd
    rw[List.length_drop,List.length_cons] at this
    rw[if_pos (by omega)]
    rfl
 | succ j ih =>
  intro k m hk hm hB hc
  obtain ⟨m,rfl⟩:∃j,m=j+1:=⟨m-1,by omega⟩
  have hkA:k<A.length:=by omega
  have la:lat (qbI A) (k:Int)=some (A[k]:Int):=by rw[qid];unfold qbI;rw[List.getElem?_map,List.getElem?_eq_getElem hkA];rfl
  have dA:A.drop k=A[k]::A.drop (k+1):=List.drop_eq_getElem_cons hkA
  rw[qn,qfq]
  simp only[show iLt (k:Int) (A.length:Int)=true from decide_eq_true (by omega),cond_true,la,Option.bind_some,qdb]
  by_cases hkB:k<B.length
  ·have lb:lat (qbI B) (k:Int)=some (B[k]:Int):=by rw[qid];unfold qbI;rw[List.getElem?_map,List.getElem?_eq_getElem hkB];rfl
   have dB:B.drop k=B[k]::B.drop (k+1):=List.drop_eq_getElem_cons hkB
   rw[dA,dB,qrI] at hc
   simp only[show iGe (k:Int) (B.length:Int)=false from decide_eq_false (by omega),cond_false,lb,Option.bind_some,qpV,qtU]
   by_cases h0:cmpN A[k] B[k]=0
   ·rw[if_pos h0] at hc
    rw[h0]
    simp only[show iNe (0:Int) 0=false from rfl,cond_false,qcf (show k<9223372036854775807 by omega)]
    exact ih (k+1) m (by omega) (by omega) (by omega) hc
   ·rw[if_neg h0] at hc
    rw[hc]
    refine .inr ?_
    rw[show iNe (cmpN A[k] B[k]) 0=true by unfold iNe;simp[h0]]
    rfl
  ·have dB:B.drop k=[]:=List.drop_eq_nil_of_le (by omega)
   rw[dA,dB] at hc
   rw[hc]
   refine .inr ?_
   rw[show iGe (k:Int) (B.length:Int)=true from decide_eq_true (by omega)]
   rfl
theorem qqG(n:Nat)(A B:List Nat)(hA:A.length<100)(hn:200≤n):qe2 n (qbI A,(qbI B,()))=some (cmpL A B,()):=by
 have h:=qs2 n A B hA A.length 0 n (by omega) (by omega) (by omega) rfl
 rw[show ((0:Nat):Int)=0 from rfl] at h
 rw[qiA]
 simp only[qdb]
 rcases h with ⟨h,hc⟩ | h
 ·rw[h,hc]
  simp only[Option.bind_some,Sum.elim_inl,qdb]
  by_cases hl:A.length<B.length
  ·rw[if_pos hl,show iLt (A.length:Int) (B.length:Int)=true from decide_eq_true (by omega)]
   rfl
  ·rw[if_neg hl,show iLt (A.length:Int) (B.length:Int)=false from decide_eq_false (by omega)]
   rfl
 ·rw[h]
  rfl
def qlr(o:Option (List Nat)):List Int:=qbI (o.getD [])
theorem qnT{L:Nat}(hL:L≤8):2 ^ L≤256:=Nat.pow_le_pow_right (by decide) hL
theorem qs3(n:Nat)(l:List qG)(limit years:Int)(hb:PBd l)(hl:0≤limit∧limit≤1000)(hy:0≤years∧years≤1000)(hL:l.length≤8)(hn:200≤n):∀(j s m:Nat),s+j=2 ^ l.length→j<m →
  qm m (qb6 n) (qbI (List.range l.length),(qlr (qeC l.length (qc5 (pL l) limit years) s),((qeC l.length (qc5 (pL l) limit years) s).isSome,(((2 ^ l.length:Nat):Int),((s:Int),(l,(limit,(years,())))))))) =
   some (qlr (fewV l.length (qc5 (pL l) limit years)),((fewV l.length (qc5 (pL l) limit years)).isSome,(l,(limit,(years,()))))):=by
 have hpow:=qnT hL
 intro j
 induction j with
 | zero =>
  intro s m hs hm
  obtain ⟨m,rfl⟩:∃j,m=j+1:=⟨m-1,by omega⟩
  have:s=2 ^ l.length:=by omega
  subst this
  rw[qn,qdT]
  simp only[show iLt ((2 ^ l.length:Nat):Int) ((2 ^ l.length:Nat):Int)=false from decide_eq_false (by omega),cond_false]
  rfl
 | succ j ih =>
  intro s m hs hm
  obtain ⟨m,rfl⟩:∃j,m=j+1:=⟨m-1,by omega⟩
  have hs2:s<256:=by omega
  have hch:=qqF n (qbI (List.range l.length)) (s:Int) (by omega) (by rw[qdb,List.length_range];exact hL) (by omega)
  rw[qdb,List.length_range,qp0 _ s _ (Nat.le_refl _)] at hch
  have hp:=qs1 n l limit years s hs2 hb hl hy hL hn
  have:=ih (s+1) m (by omega) (by omega)
  have hlen:(qg l.length s).length≤l.length:=by unfold qg;have:=List.length_filter_le (fun i=>s.testBit i) (List.range l.length);simpa using this
  rw[qn,qdT]
  simp only[show iLt (s:Int) ((2 ^ l.length:Nat):Int)=true from decide_eq_true (by omega),cond_true,hch,Option.bind_some,hp,qcf (show s<9223372036854775807 by omega),qdb]
  have hf:qeC l.length (qc5 (pL l) limit years) (s+1)=match qeC l.length (qc5 (pL l) limit years) s with
   | none=>if qc5 (pL l) limit years s then some (qg l.length s) else none
   | some b=>if b.length<(qg l.length s).length∨((qg l.length s).length=b.length∧0≤cmpL (qg l.length s) b) then some b else if qc5 (pL l) limit years s then some (qg l.length s) else some b:=rfl
  rw[hf] at this
  generalize qeC l.length (qc5 (pL l) limit years) s=o at this ⊢
  cases o with
  | none =>
   simp only[Option.isSome_none,cond_false]
   cases hx:qc5 (pL l) limit years s with
   | true=>simp only[hx,if_true] at this;exact this
   | false=>simp only[hx,Bool.false_eq_true,if_false] at this;exact this
  | some b =>
   simp only[Option.isSome_some,cond_true]
   have hbl:(qlr (some b)).length=b.length:=qdb b
   rw[hbl]
   by_cases h1:b.length<(qg l.length s).length
   ·simp only[show iGt ((qg l.length s).length:Int) (b.length:Int)=true from decide_eq_true (by omega),cond_true]
    simp only[h1,true_or,if_true] at this
    exact this
   ·simp only[show iGt ((qg l.length s).length:Int) (b.length:Int)=false from decide_eq_false (by omega),cond_false]
    by_cases h2:(qg l.length s).length=b.length
    ·have hcm:=qqG n (qg l.length s) b (by omega) hn
     simp only[show iEq ((qg l.length s).length:Int) (b.length:Int)=true by rw[h2];unfold iEq;simp,cond_true]
     rw[show qlr (some b)=qbI b from rfl,hcm]
     simp only[Option.bind_some]
     by_cases h3:0≤cmpL (qg l.length s) b
     ·simp only[show iGe (cmpL (qg l.length s) b) 0=true from decide_eq_true h3,cond_true]
      simp only[h2,h3,and_self,or_true,if_true] at this
      exact this
     ·simp only[show iGe (cmpL (qg l.length s) b) 0=false from decide_eq_false h3,cond_false]
      simp only[h1,h2,h3,and_false,or_false,Nat.lt_irrefl,if_false] at this
      cases hx:qc5 (pL l) limit years s with
      | true=>simp only[hx,if_true] at this;exact this
      | false=>simp only[hx,Bool.false_eq_true,if_false] at this;exact this
    ·simp only[show iEq ((qg l.length s).length:Int) (b.length:Int)=false by unfold iEq;simp;omega,cond_false]
     simp only[h1,h2,false_and,or_false,if_false] at this
     cases hx:qc5 (pL l) limit years s with
     | true=>simp only[hx,if_true] at this;exact this
     | false=>simp only[hx,Bool.false_eq_true,if_false] at this;exact this
theorem quN(L:Nat)(hL:L≤8):qL (iMk (L:Int))=some ()∧qL (iEq (L:Int) (L:Int))=some ()∧qL (iSh .i64 (L:Int))=some ()∧iW (iShl 1 (L:Int))=((2 ^ L:Nat):Int):=by
 rcases (by omega:L=0∨L=1∨L=2∨L=3∨L=4∨L=5∨L=6∨L=7∨L=8) with rfl | rfl | rfl | rfl | rfl | rfl | rfl | rfl | rfl<;>decide
theorem qrJ(n:Nat)(l:List qG)(limit years:Int)(hb:PBd l)(hl:0≤limit∧limit≤1000)(hy:0≤years∧years≤1000)(hL:l.length≤8)(hn:300≤n) :
  qch n ((l.length:Int),(l,(limit,(years,()))))=some (qlr (fewV l.length (qc5 (pL l) limit years)),((fewV l.length (qc5 (pL l) limit years)).isSome,(l,(limit,(years,()))))):=by
 obtain ⟨g1,g2,g3,g4⟩:=quN l.length hL
 have hpow:=qnT hL
 have h:=qs3 n l limit years hb hl hy hL (by omega) (2 ^ l.length) 0 n (by omega) (by omega)
 rw[show ((0:Nat):Int)=0 from rfl] at h
 have hfill:=qtT n l limit years l.length hL (by omega)
 rw[qgA]
 simp only[g1,g2,Option.bind_some,List.length_replicate,Int.toNat_natCast,hfill,g3,g4]
 show Option.bind (qm n (qb6 n) (qbI (List.range l.length),(qlr (qeC l.length (qc5 (pL l) limit years) 0),((qeC l.length (qc5 (pL l) limit years) 0).isSome,(((2 ^ l.length:Nat):Int),((0:Int),(l,(limit,(years,()))))))))) _=_
 rw[h]
 rfl
theorem qp1(n:Nat)(l:List qG)(limit years:Int)(hn:300≤n):qc3 n (l,(limit,(years,())))=some (qbI (qlp (pL l) limit years),(qh6 (pL l) limit years,())):=by
 rw[qmP]
 simp only[qk5,Option.bind_some,qkn n l _ (show 100≤n by omega)]
 unfold qlp qh6
 cases hw:qD limit 0 1000 with
 | false =>
  simp only[cond_false,Bool.false_and]
  rcases qfN (pL l) false with h | h | ⟨h,_,h2⟩
  ·rw[h];rfl
  ·rw[h];rfl
  ·cases h2
 | true =>
  simp only[cond_true,Bool.true_and]
  rcases qfN (pL l) (qD years 0 100) with h | h | ⟨h,ha,hy⟩
  ·rw[h];rfl
  ·rw[h];rfl
  ·rw[h]
   simp only[show iNe (0:Int) 0=false from rfl,cond_false,if_true]
   have hy2:=qdy hy
   rw[qrJ n l limit years (qo8 ha) (qdy hw) (by omega) (qhm ha).1 hn,qcy]
   rfl
theorem qpc(n:Int):bits .and .i64 n 1=n % 2:=by
 show IntKind.i64.wrap ((BitVec.ofInt 64 n &&& BitVec.ofInt 64 1).toNat:Int)=n % 2
 rw[BitVec.toNat_and,show (BitVec.ofInt 64 1).toNat=2 ^ 1-1 by decide,Nat.and_two_pow_sub_one_eq_mod,BitVec.toNat_ofInt,IntKind.wrap_i64]
 omega
theorem qni(s:Int)(hs:0≤s)(k:Nat):s/2 ^ k % 2=if s.toNat.testBit k=true then 1 else 0:=by
 obtain ⟨m,rfl⟩:∃m:Nat,s=m:=⟨s.toNat,by omega⟩
 rw[Int.toNat_natCast,Nat.testBit_eq_decide_div_mod_eq]
 have e:(m:Int)/2 ^ k=((m/2 ^ k:Nat):Int):=by simp
 rw[e]
 generalize m/2 ^ k=q
 by_cases h:q % 2=1
 ·rw[decide_eq_true h,if_pos rfl];omega
 ·rw[decide_eq_false h,if_neg (by simp)];omega
theorem qtV(a b:Int):bits .and .i64 (bits .or .i64 a b) 1=if a % 2=1∨b % 2=1 then 1 else 0:=by
 rw[qpc]
 show IntKind.i64.wrap ((BitVec.ofInt 64 a ||| BitVec.ofInt 64 b).toNat:Int) % 2=_
 rw[IntKind.wrap_i64,BitVec.toNat_or,BitVec.toNat_ofInt,BitVec.toNat_ofInt]
 obtain ⟨p,hp⟩:∃p,p=(a % ((2 ^ 64:Nat):Int)).toNat:=⟨_,rfl⟩
 obtain ⟨r,hr⟩:∃r,r=(b % ((2 ^ 64:Nat):Int)).toNat:=⟨_,rfl⟩
 rw[← hp,← hr]
 have e1:(p % 2=1)↔a % 2=1:=by omega
 have e2:(r % 2=1)↔b % 2=1:=by omega
 have h1:=Nat.testBit_or p r 0
 simp only[Nat.testBit_zero] at h1
 generalize p ||| r=q at *
 clear hp hr
 by_cases h2:a % 2=1∨b % 2=1
 ·rw[if_pos h2]
  have:(decide (p % 2=1)||decide (r % 2=1))=true:=by
   rw[Bool.or_eq_true,decide_eq_true_eq,decide_eq_true_eq,e1,e2];exact h2
  rw[this,decide_eq_true_eq] at h1
  omega
 ·rw[if_neg h2]
  have:(decide (p % 2=1)||decide (r % 2=1))=false:=by
   rw[Bool.or_eq_false_iff,decide_eq_false_iff_not,decide_eq_false_iff_not,e1,e2];exact ⟨fun x=>h2 (.inl x),fun x=>h2 (.inr x)⟩
  rw[this,decide_eq_false_iff_not] at h1
  omega
theorem qiY(k:Nat)(hk:k<64):IntKind.wrap .u64 (k:Int)=(k:Int):=by
 have h:(List.range 64).all (fun k=>IntKind.wrap .u64 (k:Int)==(k:Int))=true:=by decide +kernel
 rw[List.all_eq_true] at h
 exact eq_of_beq (h k (List.mem_range.2 hk))
theorem qnj(a:Int)(k:Nat):iShr a (k:Int)=a/2 ^ k:=by unfold iShr;rw[Int.toNat_natCast]
theorem bit2(s:Int)(hs:0≤s)(i k:Nat)(hi:i<60)(hk:k<60):iEq (bits .and .i64 (bits .or .i64 (iShr s (IntKind.wrap .u64 (i:Int))) (iShr s (IntKind.wrap .u64 (k:Int)))) (1:Int)) (0:Int)=(!s.toNat.testBit i && !s.toNat.testBit k):=by
 rw[qiY i (by omega),qiY k (by omega),qnj,qnj,qtV,qni s hs i,qni s hs k]
 cases s.toNat.testBit i<;>cases s.toNat.testBit k<;>rfl
theorem qrK(n:Nat)(s:Int)(hs:0≤s)(L:Nat)(hL:L≤8):∀(j k m:Nat),k+j=L→j<m →
  qm m (qdH n) (s,((L:Int),(((qg k s.toNat).length:Int),((k:Int),()))))=some (((qg L s.toNat).length:Int),()):=by
 intro j
 induction j with
 | zero =>
  intro k m hk hm
  obtain ⟨m,rfl⟩:∃j,m=j+1:=⟨m-1,by omega⟩
  rw[qn,qfL]
  simp only[show iLt (k:Int) (L:Int)=false from decide_eq_false (by omega),cond_false]
  rw[show L=k by omega]
 | succ j ih =>
  intro k m hk hm
  obtain ⟨m,rfl⟩:∃j,m=j+1:=⟨m-1,by omega⟩
  have hlen:(qg k s.toNat).length≤k:=by unfold qg;have:=List.length_filter_le (fun i=>s.toNat.testBit i) (List.range k);simpa using this
  have:=ih (k+1) m (by omega) (by omega)
  rw[qkd,List.length_append] at this
  rw[qn,qfL]
  simp only[show iLt (k:Int) (L:Int)=true from decide_eq_true (by omega),cond_true,qiY k (by omega),shk k (by omega),Option.bind_some,qnj,qpc,qni s hs k,qcf (show k<9223372036854775807 by omega)]
  cases hb:s.toNat.testBit k with
  | true =>
   rw[hb] at this
   simp only[if_true] at this ⊢
   rw[show iW (iAdd ((qg k s.toNat).length:Int) 1)=(((qg k s.toNat).length+[k].length:Nat):Int) from qcf (by omega)]
   exact this
  | false =>
   rw[hb] at this
   simp only[Bool.false_eq_true,if_false,List.length_nil,Nat.add_zero] at this ⊢
   rw[show iW (iAdd ((qg k s.toNat).length:Int) 0)=((qg k s.toNat).length:Int) from by rw[qef (by unfold iAdd;omega) (by unfold iAdd;omega)];unfold iAdd;omega]
   exact this
theorem qtW(n:Nat)(s:Int)(hs:0≤s)(L:Nat)(hL:L≤8)(hn:100≤n):qN n (s,((L:Int),()))=some (((qg L s.toNat).length:Int),()):=by
 have h:=qrK n s hs L hL L 0 n (by omega) (by omega)
 rw[qi6]
 show Option.bind (qm n (qdH n) (s,((L:Int),(((qg 0 s.toNat).length:Int),(((0:Nat):Int),()))))) _=_
 rw[h]
 rfl
def qe4(x:Int):Prop:=0≤x∧x≤100
theorem qh7(n:Nat)(a b:qG)(s t limit years:Int)(ha:0≤a.1∧a.1≤100000)(hb:0≤b.1∧b.1≤100000)(hs:qe4 s)(ht:qe4 t)(hl:0≤limit∧limit≤1000)(hy:0≤years∧years≤1000) :
  qbe n (a,(b,(s,(t,(limit,(years,()))))))=some (qew (pO a) (pO b) s t limit years,()):=by
 unfold qe4 at hs ht
 rw[qh4]
 simp only[show iW (iSub s t)=s-t from qef (by unfold iSub;omega) (by unfold iSub;omega),show iW (iSub t s)=t-s from qef (by unfold iSub;omega) (by unfold iSub;omega),show iW (iSub b.1 a.1)=b.1-a.1 from qef (by unfold iSub;omega) (by unfold iSub;omega)]
 rw[qpY]
 have hm:-100≤max (s-t) (t-s)∧max (s-t) (t-s)≤100:=by omega
 have h1:=qlq hy.1 hy.2 hm.1 hm.2 (by decide)
 have h2:=qlq hl.1 hl.2 (show -100000≤b.1-a.1 by omega) (show b.1-a.1≤100000 by omega) (by decide)
 rw[Int.mul_comm years] at h1
 have e1:iW (iMul (max (s-t) (t-s)) years)=max (s-t) (t-s)*years:=qef (by unfold iMul;omega) (by unfold iMul;omega)
 rw[e1]
 have e2:iW (iMul (max (s-t) (t-s)*years) 1000)=max (s-t) (t-s)*years*1000:=qef (by unfold iMul;omega) (by unfold iMul;omega)
 have e3:iW (iMul limit (b.1-a.1))=limit*(b.1-a.1):=qef (by unfold iMul;omega) (by unfold iMul;omega)
 rw[e2,e3]
 rfl
structure PairOk (l:List qG) (limit years set:Int) (sinks:List Int) (Y:Int) (p:Int):Prop where
 bd:PBd l
 len:l.length≤8
 sl:sinks.length=l.length
 lim:0≤limit∧limit≤1000
 yr:0≤years∧years≤1000
 Yr:0≤Y∧Y≤1000
 set0:0≤set
 p0:0≤p
 ord:∀k (h:k<l.length),l[k].2.1≤l[k].2.2
 sk:∀k (h:k<l.length) (h':k<sinks.length),l[k].2.1≤sinks[k]∧sinks[k]≤l[k].2.2
 lev:∀i k (hi:i<l.length) (hk:k<l.length),i<k→canB (pO l[i]) (pO l[k]) limit Y=false
 prp:∀i k (hi:i<l.length) (hk:k<l.length),i<k→p.toNat.testBit i=false→p.toNat.testBit k=false→canB (pO l[i]) (pO l[k]) limit years=false
theorem qtX(n:Nat)(l:List qG)(limit years set Y p:Int)(sinks l3:List Int)(H:PairOk l limit years set sinks Y p)(i:Nat)(hi:i<l.length):∀(j k m:Nat) (r:Bool),k+j=l.length→i<k→j<m →
  ∃r',qm m (qI n) (l,(Y,(l3,(p,(r,((i:Int),((k:Int),((limit,(years,(set,sinks))),()))))))))=some (.inl (l,(Y,(l3,(p,(r',((i:Int),((limit,(years,(set,sinks))),()))))))))
   ∧ (r'=true→r=true∧∀q (hq:q<l.length),k≤q→set.toNat.testBit i=false→set.toNat.testBit q=false→canB (pO l[i]) (pO l[q]) limit years=false):=by
 have hlen:=H.len
 intro j
 induction j with
 | zero =>
  intro k m r hk hik hm
  obtain ⟨m,rfl⟩:∃j,m=j+1:=⟨m-1,by omega⟩
  refine ⟨r,?_,fun h=>⟨h,fun q hq hkq=>by omega⟩⟩
  rw[qn,qek]
  simp only[show iLt (k:Int) (l.length:Int)=false from decide_eq_false (by omega),cond_false]
 | succ j ih =>
  intro k m r hk hik hm
  obtain ⟨m,rfl⟩:∃j,m=j+1:=⟨m-1,by omega⟩
  have hkl:k<l.length:=by omega
  have hsl:=H.sl
  have bi:=H.bd _ (List.getElem_mem hi)
  have bk:=H.bd _ (List.getElem_mem hkl)
  have si:=H.sk i hi (by omega)
  have sk:=H.sk k hkl (by omega)
  have oi:=H.ord i hi
  have ok:=H.ord k hkl
  have i1:qe4 sinks[i]:=by unfold qe4;omega
  have i2:qe4 sinks[k]:=by unfold qe4;omega
  have i3:qe4 l[i].2.1:=by unfold qe4;omega
  have i4:qe4 l[i].2.2:=by unfold qe4;omega
  have i5:qe4 l[k].2.1:=by unfold qe4;omega
  have i6:qe4 l[k].2.2:=by unfold qe4;omega
  have x1:=qlO (x:=pO l[i]) (y:=pO l[k]) si sk H.Yr.1 (H.lev i k hi hkl hik)
  have e1:=qh7 n l[i] l[k] sinks[i] sinks[k] limit Y bi.1 bk.1 i1 i2 H.lim H.Yr
  have e2:=qh7 n l[i] l[k] sinks[i] sinks[k] limit years bi.1 bk.1 i1 i2 H.lim H.yr
  have e3:=qh7 n l[i] l[k] l[i].2.2 l[k].2.1 limit years bi.1 bk.1 i4 i5 H.lim H.yr
  have e4:=qh7 n l[i] l[k] l[i].2.1 l[k].2.2 limit years bi.1 bk.1 i3 i6 H.lim H.yr
  rw[x1] at e1
  have hcan:canB (pO l[i]) (pO l[k]) limit years=(qew (pO l[i]) (pO l[k]) l[i].2.2 l[k].2.1 limit years||qew (pO l[i]) (pO l[k]) l[i].2.1 l[k].2.2 limit years):=rfl
  generalize qew (pO l[i]) (pO l[k]) l[i].2.2 l[k].2.1 limit years=E1 at e3 hcan
  generalize qew (pO l[i]) (pO l[k]) l[i].2.1 l[k].2.2 limit years=E2 at e4 hcan
  have nxt:∀r1:Bool,(r1=true→r=true∧(set.toNat.testBit i=false→set.toNat.testBit k=false→canB (pO l[i]) (pO l[k]) limit years=false)) →
    ∃r',qm m (qI n) (l,(Y,(l3,(p,(r1,((i:Int),(((k+1:Nat):Int),((limit,(years,(set,sinks))),()))))))))=some (.inl (l,(Y,(l3,(p,(r',((i:Int),((limit,(years,(set,sinks))),()))))))))
     ∧ (r'=true→r=true∧∀q (hq:q<l.length),k≤q→set.toNat.testBit i=false→set.toNat.testBit q=false→canB (pO l[i]) (pO l[q]) limit years=false):=fun r1 h1=>by
   obtain ⟨r',h2,h3⟩:=ih (k+1) m r1 (by omega) (by omega) (by omega)
   refine ⟨r',h2,fun hr=>?_⟩
   obtain ⟨h4,h5⟩:=h3 hr
   obtain ⟨h6,h7⟩:=h1 h4
   refine ⟨h6,fun q hq hkq b1 b2=>?_⟩
   by_cases hqk:q=k
   ·subst hqk;exact h7 b1 b2
   ·exact h5 q hq (by omega) b1 b2
  rw[qn,qek]
  simp only[show iLt (k:Int) (l.length:Int)=true from decide_eq_true (by omega),cond_true,qds l hi,qds l hkl,qds sinks (show i<sinks.length by omega),qds sinks (show k<sinks.length by omega),Option.bind_some,e1,e2,cond_false,qiY i (by omega),qiY k (by omega),shk i (by omega),shk k (by omega),qcf (show k<9223372036854775807 by omega)]
  have b1:=bit2 p H.p0 i k (by omega) (by omega)
  have b2:=bit2 set H.set0 i k (by omega) (by omega)
  rw[qiY i (by omega),qiY k (by omega)] at b1 b2
  simp only[b1,b2,e3,e4,Option.bind_some]
  have tail:∃r',(cond (!set.toNat.testBit i && !set.toNat.testBit k) (cond r (cond (!E1) (qm m (qI n) (l,(Y,(l3,(p,((!E2),((i:Int),(((k+1:Nat):Int),((limit,(years,(set,sinks))),()))))))))) (qm m (qI n) (l,(Y,(l3,(p,(false,((i:Int),(((k+1:Nat):Int),((limit,(years,(set,sinks))),())))))))))) (qm m (qI n) (l,(Y,(l3,(p,(false,((i:Int),(((k+1:Nat):Int),((limit,(years,(set,sinks))),())))))))))) (qm m (qI n) (l,(Y,(l3,(p,(r,((i:Int),(((k+1:Nat):Int),((limit,(years,(set,sinks))),()))))))))))=some (.inl (l,(Y,(l3,(p,(r',((i:Int),((limit,(years,(set,sinks))),()))))))))
     ∧ (r'=true→r=true∧∀q (hq:q<l.length),k≤q→set.toNat.testBit i=false→set.toNat.testBit q=false→canB (pO l[i]) (pO l[q]) limit years=false):=by
   cases hb:(!set.toNat.testBit i && !set.toNat.testBit k) with
   | false =>
    exact nxt r fun h=>⟨h,fun a b=>by rw[a,b] at hb;cases hb⟩
   | true =>
    cases r with
    | false=>exact nxt false fun h=>by cases h
    | true =>
     cases E1 with
     | true=>exact nxt false fun h=>by cases h
     | false=>exact nxt (!E2) fun h=>⟨rfl,fun _ _=>by rw[hcan];cases E2<;>first | rfl | cases h⟩
  cases hp:(!p.toNat.testBit i && !p.toNat.testBit k) with
  | false=>exact tail
  | true =>
   rw[Bool.and_eq_true,Bool.not_eq_true',Bool.not_eq_true'] at hp
   have x2:=qlO (x:=pO l[i]) (y:=pO l[k]) si sk H.yr.1 (H.prp i k hi hkl hik hp.1 hp.2)
   rw[x2]
   exact tail
set_option maxHeartbeats 2000000
theorem qs4(n:Nat)(hn:300≤n)(l:List qG)(limit years set Y p:Int)(sinks l3:List Int)(H:PairOk l limit years set sinks Y p):∀(j i m:Nat) (r:Bool),i+j=l.length→j<m →
  ∃r',qm m (qw n) (l,(Y,(l3,(p,(r,((i:Int),((limit,(years,(set,sinks))),())))))))=some (.inl (l,(l3,(r',((limit,(years,(set,sinks))),())))))
   ∧ (r'=true→r=true∧∀a q (ha:a<l.length) (hq:q<l.length),i≤a→a<q→set.toNat.testBit a=false→set.toNat.testBit q=false→canB (pO l[a]) (pO l[q]) limit years=false):=by
 have hlen:=H.len
 intro j
 induction j with
 | zero =>
  intro i m r hk hm
  obtain ⟨m,rfl⟩:∃j,m=j+1:=⟨m-1,by omega⟩
  refine ⟨r,?_,fun h=>⟨h,fun a q ha hq h1 h2=>by omega⟩⟩
  rw[qn,qel]
  simp only[show iLt (i:Int) (l.length:Int)=false from decide_eq_false (by omega),cond_false]
 | succ j ih =>
  intro i m r hk hm
  obtain ⟨m,rfl⟩:∃j,m=j+1:=⟨m-1,by omega⟩
  have hil:i<l.length:=by omega
  obtain ⟨r1,h1,h2⟩:=qtX n l limit years set Y p sinks l3 H i hil j (i+1) n r (by omega) (by omega) (by omega)
  obtain ⟨r2,h3,h4⟩:=ih (i+1) m r1 (by omega) (by omega)
  refine ⟨r2,?_,fun h=>?_⟩
  ·rw[qn,qel]
   simp only[show iLt (i:Int) (l.length:Int)=true from decide_eq_true (by omega),cond_true,qcf (show i<9223372036854775807 by omega),h1,Option.bind_some,Sum.elim_inl]
   exact h3
  ·obtain ⟨h5,h6⟩:=h4 h
   obtain ⟨h7,h8⟩:=h2 h5
   refine ⟨h7,fun a q ha hq hia haq b1 b2=>?_⟩
   by_cases hai:a=i
   ·subst hai;exact h8 q hq (by omega) b1 b2
   ·exact h6 a q ha hq (by omega) haq b1 b2
theorem qrL(ps:List Nat)(h8:∀x,x∈ps→x<8):∀k,k≤ps.length→qgf ps k≤128*k
 | 0,_=>by unfold qgf;simp
 | k+1,hk=>by
  have:=qrL ps h8 k (by omega)
  rw[qmU ps k (by omega)]
  have h2:=h8 _ (List.getElem_mem (show k<ps.length by omega))
  have:2 ^ ps[k]≤2 ^ 7:=Nat.pow_le_pow_right (by decide) (by omega)
  omega
theorem shl8(x:Nat)(hx:x<8):iW (iShl 1 (x:Int))=((2 ^ x:Nat):Int):=by
 rcases (by omega:x=0∨x=1∨x=2∨x=3∨x=4∨x=5∨x=6∨x=7) with rfl | rfl | rfl | rfl | rfl | rfl | rfl | rfl<;>decide
theorem qs5(n:Nat)(l:List qG)(Y:Int)(X:Int×(Int×(Int×List Int)))(ps:List Nat)(hps:∀x,x∈ps→x<l.length)(hL:l.length≤8)(hpw:ps.Pairwise (· < ·))(hpl:ps.length≤8):∀(j k m:Nat),k+j=ps.length→j<m →
  qm m (qcp n) (l,(Y,(qbI ps,(((qgf ps k:Nat):Int),((k:Int),(X,()))))))=some (.inl (l,(Y,(qbI ps,(((qgf ps ps.length:Nat):Int),(X,())))))):=by
 intro j
 induction j with
 | zero =>
  intro k m hk hm
  obtain ⟨m,rfl⟩:∃j,m=j+1:=⟨m-1,by omega⟩
  rw[qn,qej]
  simp only[qdb,show iLt (k:Int) (ps.length:Int)=false from decide_eq_false (by omega),cond_false]
  rw[show ps.length=k by omega]
 | succ j ih =>
  intro k m hk hm
  obtain ⟨m,rfl⟩:∃j,m=j+1:=⟨m-1,by omega⟩
  have hkp:k<ps.length:=by omega
  have hat:∀q (hq:q<ps.length),lat (qbI ps) (q:Int)=some (ps[q]:Int):=fun q hq=>by rw[qid];unfold qbI;rw[List.getElem?_map,List.getElem?_eq_getElem hq];rfl
  have hx:=hps _ (List.getElem_mem hkp)
  have hpk:=qrL ps (fun x hx=>by have:=hps x hx;omega) k (by omega)
  have h27:2 ^ ps[k]≤2 ^ 7:=Nat.pow_le_pow_right (by decide) (by omega)
  have hsum:iW (iAdd ((qgf ps k:Nat):Int) ((2 ^ ps[k]:Nat):Int))=((qgf ps (k+1):Nat):Int):=by
   rw[qmU ps k hkp]
   generalize 2 ^ ps[k]=P at h27 ⊢
   rw[qef (by unfold iAdd;omega) (by unfold iAdd;omega)]
   unfold iAdd
   omega
  have:=ih (k+1) m (by omega) (by omega)
  rw[qn,qej]
  simp only[qdb,show iLt (k:Int) (ps.length:Int)=true from decide_eq_true (by omega),cond_true,hat k hkp,Option.bind_some,show iLt (ps[k]:Int) 0=false from decide_eq_false (by omega),cond_false,show iGe (ps[k]:Int) (l.length:Int)=false from decide_eq_false (by omega),qiY ps[k] (by omega),shk ps[k] (by omega),shl8 ps[k] (by omega),hsum,qcf (show k<9223372036854775807 by omega)]
  cases k with
  | zero =>
   simp only[show iGt ((0:Nat):Int) 0=false from rfl,cond_false]
   exact this
  | succ k =>
   have hlt:ps[k]<ps[k+1]:=List.pairwise_iff_getElem.1 hpw k (k+1) (by omega) hkp (by omega)
   simp only[show iGt ((k+1:Nat):Int) 0=true from decide_eq_true (by omega),cond_true,qnh (show k<9223372036854775807 by omega),hat k (by omega),Option.bind_some,show iLe (ps[k+1]:Int) (ps[k]:Int)=false from decide_eq_false (by omega),cond_false]
   exact this
theorem qrM(n:Nat)(hn:3000≤n)(l:List qG)(limit years set:Int)(sinks:List Int)(hL:l.length≤20)(hs:sinks.length=l.length):∀(j k m:Nat),k+j=l.length→j<m→(∀q (hq:q<l.length) (hq':q<sinks.length),q<k→l[q].2.1≤sinks[q]∧sinks[q]≤l[q].2.2) →
  qm m (qbR n) (l,((k:Int),((limit,(years,(set,sinks))),())))=some (.inr (true,())) ∨
   (qm m (qbR n) (l,((k:Int),((limit,(years,(set,sinks))),())))=some (.inl (l,((limit,(years,(set,sinks))),())))∧∀q (hq:q<l.length) (hq':q<sinks.length),l[q].2.1≤sinks[q]∧sinks[q]≤l[q].2.2):=by
 intro j
 induction j with
 | zero =>
  intro k m hk hm h
  obtain ⟨m,rfl⟩:∃j,m=j+1:=⟨m-1,by omega⟩
  refine .inr ⟨?_,fun q hq hq'=>h q hq hq' (by omega)⟩
  rw[qn,qei]
  simp only[show iLt (k:Int) (l.length:Int)=false from decide_eq_false (by omega),cond_false]
 | succ j ih =>
  intro k m hk hm h
  obtain ⟨m,rfl⟩:∃j,m=j+1:=⟨m-1,by omega⟩
  have hkl:k<l.length:=by omega
  have hks:k<sinks.length:=by omega
  rw[qn,qei]
  simp only[show iLt (k:Int) (l.length:Int)=true from decide_eq_true (by omega),cond_true,qds sinks hks,qds l hkl,Option.bind_some,qpX n hn,qcf (show k<9223372036854775807 by omega)]
  by_cases h1:sinks[k]<l[k].2.1
  ·rw[show iLt sinks[k] l[k].2.1=true from decide_eq_true h1]
   exact .inl rfl
  ·rw[show iLt sinks[k] l[k].2.1=false from decide_eq_false h1]
   by_cases h2:sinks[k]>l[k].2.2
   ·rw[show iGt sinks[k] l[k].2.2=true from decide_eq_true h2]
    exact .inl rfl
   ·rw[show iGt sinks[k] l[k].2.2=false from decide_eq_false h2]
    simp only[cond_false]
    exact ih (k+1) m (by omega) (by omega) fun q hq hq' hqk=>by
     by_cases hqe:q=k
     ·subst hqe;omega
     ·exact h q hq hq' (by omega)
theorem qul{l:List qG}(h:qdK (pL l)=true):∀(i k:Nat) (hi:i<(pL l).length) (hk:k<(pL l).length),k<i→(pL l)[k].at_≤(pL l)[i].at_:=by
 have hp:=(qhm h).2
 have step:∀i (hi:i+1<(pL l).length),(pL l)[i].at_≤(pL l)[i+1].at_:=fun i hi=>by
  have h2:=qgY (k:=i+1+1) (by omega) hp
  rw[qfM,Bool.and_eq_true,qhJ _ (i+1) hi,Bool.and_eq_true] at h2
  have:=qdy h2.2.1
  rw[qhw _ i (by omega)] at this
  omega
 intro i
 induction i with
 | zero=>intro k hi hk hlt;omega
 | succ i ih =>
  intro k hi hk hlt
  have h1:=step i hi
  by_cases hki:k=i
  ·subst hki;exact h1
  ·have:=ih k (by omega) hk (by omega);omega
theorem qi7{l:List Post}(ha:qdK l=true):qe6 l true=0:=by unfold qe6;rw[ha];rfl
theorem los{l:List qG}(ha:qdK (pL l)=true):∀p,p∈pL l→p.lo≤p.hi:=fun p hp=>by
 obtain ⟨k,hk,rfl⟩:=List.getElem_of_mem hp
 have:=(qo4 (qhm ha).2 hk).2
 omega
theorem qls(l:List qG)(k:Nat)(h:k<l.length):(pL l)[k]! = pO l[k]:=by rw[getElem!_def,qkf l k h]
theorem qiZ(n s i:Nat)(hs:s<2 ^ n)(hi:i<n):(2 ^ n-1-s).testBit i = !s.testBit i:=by
 rw[show 2 ^ n-1-s=2 ^ n-(s+1) by omega,Nat.testBit_two_pow_sub_succ hs,decide_eq_true hi,Bool.true_and]
theorem qrN(n s:Nat):qg n (s % 2 ^ n)=qg n s:=by
 unfold qg
 refine List.filter_congr fun i hi=>?_
 rw[Nat.testBit_mod_two_pow,decide_eq_true (List.mem_range.1 hi),Bool.true_and]
theorem qtY{l:List qG}{limit years set:Int}{sinks:List Int}(ha:qdK (pL l)=true)(hlim:0≤limit∧limit≤1000)(hy:0≤years∧years≤100)(hset:0≤set)(hsl:sinks.length=l.length)
  (hsp:∀q (hq:q<l.length) (hq':q<sinks.length),l[q].2.1≤sinks[q]∧sinks[q]≤l[q].2.2) {Y s:Nat} (hY:Y≤100) (hYl:qce (pL l) limit Y=true) (hs:s<2 ^ (pL l).length) (hrl:qfh (pL l) (qg (pL l).length (2 ^ (pL l).length-1-s)) limit years=true) :
  PairOk l limit years set sinks Y (s:Int) where
 bd:=qo8 ha
 len:=(qhm ha).1
 sl:=hsl
 lim:=hlim
 yr:=by omega
 Yr:=by omega
 set0:=hset
 p0:=by omega
 ord k h:=by
  have h1:=los ha (pO l[k]) (by unfold pL;exact List.mem_map_of_mem (List.getElem_mem h))
  exact h1
 sk k h h':=hsp k h h'
 lev i k hi hk hik:=by
  have:=qrD (los ha) (by omega) hYl (i:=i) (k:=k) (by rw[qcy];exact hi) (by rw[qcy];exact hk) hik
  rwa [qo7 l i hi,qo7 l k hk] at this
 prp i k hi hk hik b1 b2:=by
  rw[Int.toNat_natCast] at b1 b2
  have:=(qmV _ _).1 hrl i k hik (by rw[qcy];exact hk) (by rw[qiZ _ _ _ hs (by rw[qcy];exact hi),b1];rfl) (by rw[qiZ _ _ _ hs (by rw[qcy];exact hk),b2];rfl)
  rwa [qls l i hi,qls l k hk] at this
theorem qnZ(n:Nat)(hn:4000≤n)(l:List qG)(limit years set:Int)(sinks:List Int):qcR n (l,((limit,(years,(set,sinks))),()))=some (true,()):=by
 have hw:=qpX n (by omega)
 rw[qhl]
 by_cases h20:l.length≤20
 case neg =>
  simp only[show iGt (l.length:Int) 20=true from decide_eq_true (by omega),cond_true,hw,Option.bind_some]
 simp only[show iGt (l.length:Int) 20=false from decide_eq_false (by omega),cond_false]
 by_cases hy0:0≤years
 case neg =>
  simp only[show iGe years 0=false from decide_eq_false hy0,cond_false,qjF n l limit false (by omega) (by omega),Option.bind_some]
  rcases qfN (pL l) (qD limit 0 1000&&false) with h | h | ⟨h,ha,ht⟩
  ·simp only[h,show iNe (94:Int) 0=true from rfl,cond_true,hw,Option.bind_some]
  ·simp only[h,show iNe (1:Int) 0=true from rfl,cond_true,hw,Option.bind_some]
  ·rw[Bool.and_false] at ht;cases ht
 simp only[show iGe years 0=true from decide_eq_true hy0,cond_true,qjF n l limit (iLe years 100) (by omega) (by omega),Option.bind_some]
 rcases qfN (pL l) (qD limit 0 1000&&iLe years 100) with h | h | ⟨h,ha,ht⟩
 ·simp only[h,show iNe (94:Int) 0=true from rfl,cond_true,hw,Option.bind_some]
 ·simp only[h,show iNe (1:Int) 0=true from rfl,cond_true,hw,Option.bind_some]
 rw[Bool.and_eq_true] at ht
 have hlim:=qdy ht.1
 have hyr:years≤100:=of_decide_eq_true ht.2
 simp only[h,show iNe (0:Int) 0=false from rfl,cond_false]
 by_cases hsl:sinks.length=l.length
 case neg =>
  simp only[show iNe (sinks.length:Int) (l.length:Int)=true by unfold iNe;simp;omega,cond_true,hw,Option.bind_some]
 simp only[show iNe (sinks.length:Int) (l.length:Int)=false by unfold iNe;simp;omega,cond_false]
 by_cases hset:set<0
 ·simp only[show iLt set 0=true from decide_eq_true hset,cond_true,hw,Option.bind_some]
 simp only[show iLt set 0=false from decide_eq_false hset,cond_false]
 have h0:=qrM n (by omega) l limit years set sinks h20 hsl l.length 0 n (by omega) (by omega) (fun q hq hq' hlt=>by omega)
 rw[show ((0:Nat):Int)=0 from rfl] at h0
 rcases h0 with h0 | ⟨h0,hsp⟩
 ·simp only[h0,Option.bind_some,Sum.elim_inr]
 have hL8:=(qhm ha).1
 have hwy:qD years 0 100=true:=by unfold qD;rw[decide_eq_true hy0,decide_eq_true hyr];rfl
 have hLE:qjD (pL l) limit=0:=by unfold qjD;rw[ht.1];exact qi7 ha
 have hPE:qh6 (pL l) limit years=0:=by unfold qh6;rw[ht.1,hwy];exact qi7 ha
 obtain ⟨hY,hYl⟩:=qqz hLE (los ha) hlim.1 (qul ha)
 have hLv:=qsZ n l limit (by omega)
 rw[hLE] at hLv
 generalize qgW (pL l) limit=Y at *
 obtain ⟨s,hs,hPs,hrl,hmin⟩:=qo2 hPE (los ha) hy0
 have hn3:=(qo3 hPE (los ha) hy0).trans (hYl years hy0 hyr)
 have hP3:=qp1 n l limit years (by omega)
 rw[hPE,hPs] at hP3
 rw[hPs] at hn3
 have hy4:∃y4:Int,iMin 100 (iW (iAdd (Y:Int) 1))=y4∧0≤y4∧y4≤100∧(y4≤Y↔Y=100):=⟨_,rfl,by
  rw[qcf (by omega)]
  unfold iMin
  split<;>omega⟩
 obtain ⟨y4,hy4e,hy40,hy41,hy42⟩:=hy4
 have hwy4:qD y4 0 100=true:=by unfold qD;rw[decide_eq_true hy40,decide_eq_true hy41];rfl
 have hPE4:qh6 (pL l) limit y4=0:=by unfold qh6;rw[ht.1,hwy4];exact qi7 ha
 have hn4:=((qo3 hPE4 (los ha) hy40).trans (hYl y4 hy40 hy41)).trans hy42
 have hP4:=qp1 n l limit y4 (by omega)
 rw[hPE4] at hP4
 generalize qlp (pL l) limit y4=P4 at hP4 hn4
 have hb4:bNe (iEq (P4.length:Int) 0) (iEq (Y:Int) 100)=false:=by
  by_cases hY1:Y=100
  ·have:=hn4.2 hY1
   subst this hY1
   rfl
  ·have hne:P4≠[]:=fun e=>hY1 (hn4.1 e)
   have hpos:0<P4.length:=List.length_pos_iff.2 hne
   rw[show iEq (P4.length:Int) 0=false from beq_eq_false_iff_ne.2 (by omega),show iEq (Y:Int) 100=false from beq_eq_false_iff_ne.2 (by omega)]
   rfl
 rw[qcy] at hPs hP3 hn3 hmin hs hrl
 have H:PairOk l limit years set sinks Y (s:Int):=qtY ha hlim ⟨hy0,hyr⟩ (by omega) hsl hsp hY ((hYl Y (by omega) (by omega)).2 (by omega)) (by rw[qcy];exact hs) (by rw[qcy];exact hrl)
 have hplen:(qg l.length s).length≤l.length:=by unfold qg;have:=List.length_filter_le (fun i=>s.testBit i) (List.range l.length);simpa using this
 have hpow:=qs5 n l Y (limit,(years,(set,sinks))) (qg l.length s) (fun x hx=>(qgy.1 hx).1) hL8 (qmS _ _) (by omega) (qg l.length s).length 0 n (by omega) (by omega)
 rw[pow_pos l.length s hs,show ((qgf (qg l.length s) 0:Nat):Int)=0 from rfl,show ((0:Nat):Int)=0 from rfl] at hpow
 obtain ⟨r',hr,hr2⟩:=qs4 n (by omega) l limit years set Y s sinks (qbI (qg l.length s)) H l.length 0 n true (by omega) (by omega)
 rw[show ((0:Nat):Int)=0 from rfl] at hr
 have hsz:=qtW n set (by omega) l.length hL8 (by omega)
 have hge:r'=true→iGe ((qg l.length set.toNat).length:Int) ((qg l.length s).length:Int)=true:=fun h=>by
  have h2:=(hr2 h).2
  have h3:=hmin (set.toNat % 2 ^ l.length) (Nat.mod_lt _ (Nat.two_pow_pos _)) ((qmV _ _).2 fun i k hik hk b1 b2=>by
   have hi:i<l.length:=by omega
   rw[qiZ _ _ _ (Nat.mod_lt _ (Nat.two_pow_pos _)) hi,Nat.testBit_mod_two_pow,decide_eq_true hi,Bool.true_and,Bool.not_eq_true'] at b1
   rw[qiZ _ _ _ (Nat.mod_lt _ (Nat.two_pow_pos _)) hk,Nat.testBit_mod_two_pow,decide_eq_true hk,Bool.true_and,Bool.not_eq_true'] at b2
   rw[qls l i hi,qls l k hk]
   exact h2 i k hi hk (by omega) hik b1 b2)
  rw[qrN] at h3
  exact decide_eq_true (by omega)
 simp only[h0,Option.bind_some,Sum.elim_inl,hLv,hP3,hy4e,hP4,show iNe (0:Int) 0=false from rfl,cond_false,show iLt (Y:Int) 0=false from decide_eq_false (by omega),show iGt (Y:Int) 100=false from decide_eq_false (by omega),qdb,hb4,hpow]
 have fin:(cond (!r') (Option.bind (qe n ()) fun y=>some y) (Option.bind (qN n (set,((l.length:Int),()))) fun y7=>cond (iGe y7.1 ((qg l.length s).length:Int)) (Option.bind (qe n ()) fun y=>some y) (some (false,()))))=some (true,()):=by
  rw[hw,hsz]
  cases hr':r' with
  | false=>rfl
  | true =>
   simp only[Option.bind_some,hge hr',cond_true,Bool.not_true,cond_false]
 by_cases hP:(qg l.length s).length=0
 ·have hyY:years≤Y:=hn3.1 (List.eq_nil_of_length_eq_zero hP)
  simp only[show iGt ((qg l.length s).length:Int) 0=false from decide_eq_false (by omega),cond_false,show iEq ((qg l.length s).length:Int) 0=true by rw[hP];rfl,cond_true,show iGt years (Y:Int)=false from decide_eq_false (by omega),hr,Option.bind_some,Sum.elim_inl,qdb]
  exact fin
 ·have hyY:¬years≤Y:=fun h=>hP (by rw[hn3.2 h];rfl)
  simp only[show iGt ((qg l.length s).length:Int) 0=true from decide_eq_true (by omega),cond_true,show iLe years (Y:Int)=false from decide_eq_false hyY,cond_false,show iEq ((qg l.length s).length:Int) 0=false from beq_eq_false_iff_ne.2 (by omega),hr,Option.bind_some,Sum.elim_inl,qdb]
  exact fin
end Go.Proofs.Ytbdockhccdkdiaa
