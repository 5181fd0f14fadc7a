/- Ropes: Choose of the reference; the law of Holds, Spare and Choose. -/
import Derived.Test.YtbdockhccdkdiaaGreatHb
set_option linter.constructorNameAsVariable false
set_option linter.unusedSimpArgs false
set_option linter.unusedVariables false
set_option linter.unusedSectionVars false
namespace Go.Proofs.YtbdockhccdkdiaaGreat
open Go Go.Proofs Go.RowKit
set_option maxHeartbeats 1000000
theorem qss(n:Nat)(A B:List Nat)(hAB:A.length=B.length)(hA:A.length<100):∀(j k m:Nat),k+j=A.length→j<m→cmpL A B=cmpL (A.drop k) (B.drop k) →
  (qn m (qdG n) (qL A,(qL B,((k:Int),())))=some (Sum.inl ())∧cmpL A B=0)∨qn m (qdG n) (qL A,(qL B,((k:Int),())))=some (Sum.inr (decide (cmpL A B<0),())):=by
 intro j
 induction j with
 | zero =>
  intro k m hk hm hc
  obtain ⟨m,rfl⟩:∃j,m=j+1:=⟨m-1,by omega⟩
  refine .inl ⟨?_,?_⟩
  ·rw[qx,qgm]
   simp only[qdy,qiE (show A.length≤k by omega),cond_false]
  ·rw[hc,List.drop_eq_nil_of_le (by omega),List.drop_eq_nil_of_le (by omega)]
   rfl
 | succ j ih =>
  intro k m hk hm hc
  obtain ⟨m,rfl⟩:∃j,m=j+1:=⟨m-1,by omega⟩
  have hkA:k<A.length:=by omega
  have hkB:k<B.length:=by omega
  have la:lat (qL A) (k:Int)=some (A[k]:Int):=by rw[qi0];unfold qL;rw[List.getElem?_map,List.getElem?_eq_getElem hkA];rfl
  have lb:lat (qL B) (k:Int)=some (B[k]:Int):=by rw[qi0];unfold qL;rw[List.getElem?_map,List.getElem?_eq_getElem hkB];rfl
  have dA:A.drop k=A[k]::A.drop (k+1):=List.drop_eq_getElem_cons hkA
  have dB:B.drop k=B[k]::B.drop (k+1):=List.drop_eq_getElem_cons hkB
  rw[dA,dB,qqF] at hc
  rw[qx,qgm]
  simp only[qdy,iLtN hkA,cond_true,la,lb,Option.bind_some]
  by_cases h0:A[k]=B[k]
  ·rw[show iNe (A[k]:Int) (B[k]:Int)=false by rw[h0];unfold iNe;simp]
   simp only[cond_false,qbT (show k<9223372036854775807 by omega)]
   rw[if_pos (by unfold cmpN;rw[h0];simp)] at hc
   exact ih (k+1) m (by omega) (by omega) hc
  ·rw[show iNe (A[k]:Int) (B[k]:Int)=true by unfold iNe;simp;omega]
   refine .inr ?_
   simp only[cond_true]
   have hne:cmpN A[k] B[k]≠0:=by unfold cmpN;split<;>first | (simp;done) | (split<;>first | (simp;done) | omega)
   rw[if_neg hne] at hc
   rw[hc]
   congr 3
   show decide ((A[k]:Int)<(B[k]:Int))=_
   refine decide_eq_decide.2 ?_
   unfold cmpN
   split
   ·simp;omega
   ·split
    ·simp;omega
    ·omega
theorem qtG(n:Nat)(A B:List Nat)(hA:A.length<100)(hn:200≤n):qek n (qL A,(qL B,()))=some (qb7 A B,()):=by
 rw[qkq]
 simp only[qdy]
 unfold qb7
 by_cases h:A.length=B.length
 ·rw[show iNe (A.length:Int) (B.length:Int)=false by rw[h];unfold iNe;simp]
  simp only[cond_false]
  rw[decide_eq_false (by omega:¬A.length<B.length),decide_eq_true h,Bool.false_or,Bool.true_and]
  rcases qss n A B h hA A.length 0 n (by omega) (by omega) rfl with ⟨h1,h2⟩ | h1
  ·rw[show ((0:Nat):Int)=0 from rfl] at h1
   rw[h1,h2]
   rfl
  ·rw[show ((0:Nat):Int)=0 from rfl] at h1
   rw[h1]
   rfl
 ·rw[show iNe (A.length:Int) (B.length:Int)=true by unfold iNe;simp;omega]
  rw[decide_eq_false h,Bool.false_and,Bool.or_false]
  show some (decide ((A.length:Int)<(B.length:Int)),())=_
  rw[show decide ((A.length:Int)<(B.length:Int))=decide (A.length<B.length) from decide_eq_decide.2 (by omega)]
theorem qxT(s:Int)(hs:0≤s)(k:Nat)(hk:k<60):iEq (bits .and .i64 (iShr s (IntKind.wrap .u64 (k:Int))) (1:Int)) (1:Int)=s.toNat.testBit k:=by
 rw[qmp k (by omega),qlM,qoK,qsY s hs k]
 cases s.toNat.testBit k<;>rfl
theorem qtH(n:Nat)(s L:Nat)(hs:s<2 ^ L)(hL:L≤8)(hn:100≤n):qfq n ((s:Int),())=some (qL (qt L s),()):=by
 obtain ⟨N,hNL,hN,hmin⟩:=qjB (fun k=>s<2 ^ k) L hs
 rw[qj1,qvT hNL (Nat.div_eq_of_lt hN)]
 have:=forN (qdu n) N (fun k=>((s:Int),((k:Int),(qL (qt k s),())))) (some (qL (qt N s),())) (fun k hk rec=>by
  have hp:0<s/2 ^ k:=Nat.div_pos (Nat.le_of_not_lt (hmin k hk)) (Nat.two_pow_pos k)
  have hlen:(qt k s).length≤k:=by unfold qt;have:=List.length_filter_le (fun i=>s.testBit i) (List.range k);simpa using this
  have hg:qu (iSh .i64 (IntKind.wrap .u64 (k:Int)))=some ():=by rw[qmp k (by omega)];exact shk k (by omega)
  have hb:=qxT (s:Int) (by omega) k (by omega)
  rw[Int.toNat_natCast] at hb
  have hz:iNe (iShr (s:Int) (IntKind.wrap .u64 (k:Int))) 0=true:=by
   rw[qmp k (by omega),qlM,show (s:Int)/2 ^ k=((s/2 ^ k:Nat):Int) by simp]
   generalize s/2 ^ k=q at hp
   unfold iNe
   simp
   omega
  rw[qf2]
  simp only[hg,Option.bind_some,hz,cond_true,hb,bleM (nAdd (qL (qt k s)).length 1) 17592186044416 (by show (qL (qt k s)).length+1≤_;rw[qdy];omega),qbT (show k<9223372036854775807 by omega)]
  rw[qmn]
  unfold qL
  rw[List.map_append]
  cases s.testBit k with
  | true=>rfl
  | false=>simp) (fun rec=>by
   have hg:qu (iSh .i64 (IntKind.wrap .u64 (N:Int)))=some ():=by rw[qmp N (by omega)];exact shk N (by omega)
   have hz:iNe (iShr (s:Int) (IntKind.wrap .u64 (N:Int))) 0=false:=by
    rw[qmp N (by omega),qlM,show (s:Int)/2 ^ N=((s/2 ^ N:Nat):Int) by simp,Nat.div_eq_of_lt hN]
    rfl
   rw[qf2]
   simp only[hg,Option.bind_some,hz,cond_false]) n (by omega)
 show Option.bind (qn n (qdu n) ((s:Int),(((0:Nat):Int),(qL (qt 0 s),())))) _=_
 rw[this]
 rfl
theorem qr9(n:Nat)(p:List SpT)(load least:Int)(hl:p.length≤8)(hb:PtB p)(hn:2000≤n) :
  qn n (qdH n) (p,(load,(least,(([]:List Int),(false,((0:Int),()))))))=some (qhF (chsV p load least),((chsV p load least).isSome,())):=by
 obtain ⟨g1,g2,g3⟩:=qr4 p.length hl
 have hpow:=qh1 hl
 have:=forN (qdH n) (2 ^ p.length) (fun k=>(p,(load,(least,(qhF (qdV p.length (chsB p load least) k),((qdV p.length (chsB p load least) k).isSome,((k:Int),()))))))) (some (qhF (chsV p load least),((chsV p load least).isSome,()))) (fun k hk rec=>by
  have hlen:(qt p.length k).length≤p.length:=by unfold qt;have:=List.length_filter_le (fun i=>k.testBit i) (List.range p.length);simpa using this
  rw[qgn]
  simp only[g1,g2,Option.bind_some,iLtN hk,cond_true,qtH n k p.length hk hl (show 100≤n by omega),qqN n p load k hk hl (qg5 hb false) hn,qbT (show k<9223372036854775807 by omega)]
  have hc:iGe (sprV (selT (p.map (endT false)) k.testBit p.length) load) least=chsB p load least k:=rfl
  cases hf:qdV p.length (chsB p load least) k with
  | none =>
   have hf2:qdV p.length (chsB p load least) (k+1)=if chsB p load least k then some (qt p.length k) else none:=by rw[qdV,hf]
   rw[hf2,hc]
   simp only[Option.isSome_none,Bool.not_false,cond_true]
   cases chsB p load least k<;>rfl
  | some b =>
   have hso:qek n (qL (qt p.length k),(qhF (some b),()))=some (qb7 (qt p.length k) b,()):=qtG n (qt p.length k) b (by omega) (by omega)
   rw[qrV p.length (chsB p load least) k b hf,hso,hc]
   simp only[Option.isSome_some,Bool.not_true,cond_false,Option.bind_some]
   cases qb7 (qt p.length k) b<;>cases chsB p load least k<;>rfl) (fun rec=>by
   rw[qgn]
   simp only[g1,g2,Option.bind_some,qiE (Nat.le_refl (2 ^ p.length)),cond_false]
   rfl) n (by omega)
 exact this
theorem qtI(n:Nat)(p:List SpT)(load least:Int)(hlp:p.length≤50)(hn:2000≤n):qc5 n (p,(load,(least,())))=some (chsL p load least,(chsR p load least,())):=by
 rw[qkr]
 simp only[qpz,Option.bind_some,qkt n p load _ hlp (show 100≤n by omega)]
 unfold chsL chsR chsE
 rcases qd5 p (qbN load 1 5000&&qbN least 0 8) with ⟨h0,ha,hw⟩ | ⟨h1,h2⟩
 ·obtain ⟨hl,hb⟩:=qjd ha
  rw[h0]
  simp only[show iNe (0:Int) 0=false from rfl,cond_false,if_true]
  rw[qr9 n p load least hl hb hn]
  simp only[Option.bind_some]
  cases chsV p load least with
  | none=>rfl
  | some b=>rfl
 ·rw[h1,if_neg h2,if_neg h2];rfl
theorem qw3(n:Nat)(l:List Int)(hl:l.length≤100)(hn:200≤n):qba n (l,(l,()))=some (true,()):=by
 rw[qjE]
 rw[show iNe (l.length:Int) (l.length:Int)=false by unfold iNe;simp]
 simp only[cond_false]
 have:=forN (qew n) l.length (fun k=>(l,(l,((k:Int),())))) (some (Sum.inl ())) (fun k hk rec=>by
  rw[qfN]
  simp only[iLtN hk,cond_true,qeI l hk,Option.bind_some,qbT (show k<9223372036854775807 by omega)]
  rw[show iNe l[k] l[k]=false by unfold iNe;simp]
  rfl) (fun rec=>by
   rw[qfN]
   simp only[qiE (Nat.le_refl l.length),cond_false]) n (by omega)
 rw[show ((0:Nat):Int)=0 from rfl] at this
 rw[this]
 rfl
theorem qv6(p:List SpT)(load least:Int):(chsL p load least).length≤8:=by
 unfold chsL chsE
 rcases qd5 p (qbN load 1 5000&&qbN least 0 8) with ⟨h0,ha,hw⟩ | ⟨h1,h2⟩
 ·rw[if_pos h0]
  obtain ⟨hl,hb⟩:=qjd ha
  unfold chsV fewV
  have:=qsV (n:=p.length) (is:=chsB p load least) (2 ^ p.length)
  cases hf:qdV p.length (chsB p load least) (2 ^ p.length) with
  | none=>simp[qhF,qL]
  | some b =>
   rw[hf] at this
   obtain ⟨⟨s,_,_,rfl⟩,_⟩:=this
   show (qL (qt p.length s)).length≤8
   rw[qdy]
   have hlen:(qt p.length s).length≤p.length:=by unfold qt;have:=List.length_filter_le (fun i=>s.testBit i) (List.range p.length);simpa using this
   omega
 ·rw[if_neg h2];simp
theorem qqU(n:Nat)(p:List SpT)(load least:Int)(hn:4000≤n):qc7 n (p,(load,(least,())))=some (true,()):=by
 have hw:=qwX n (show 3000≤n by omega)
 rw[qjb]
 have e0:List.append [] p=p:=rfl
 simp only[hw,Option.bind_some,e0]
 by_cases h20:p.length≤20
 ·have hle:=qv6 p load least
  have body:(Option.bind (qu (Nat.ble (nAdd (0:Nat) (List.length p)) (8796093022208:Nat))) fun _=>(Option.bind (qgk n (p,(load,()))) fun y1=>(Option.bind (qdr n (p,(load,()))) fun y2=>(cond (bNe y1.1 y2.1) (some (false,())) (cond (bNe y1.2.1 y2.2.1) (some (false,())) (cond (iNe y1.2.2.1 y2.2.2.1) (some (false,())) (Option.bind (qgl n (p,(load,()))) fun y3=>(Option.bind (qdt n (p,(load,()))) fun y4=>(Option.bind (qfV n (p,(load,(least,())))) fun y5=>(Option.bind (qc5 n (p,(load,(least,())))) fun y6=>(cond (iEq y3.1 y4.1) (cond (iEq y3.2.1 y4.2.1) (Option.bind (qba n (y5.1,(y6.1,()))) fun y7=>(cond y7.1 (cond (iEq y5.2.1 y6.2.1) (some (true,())) (some (false,()))) (some (false,())))) (some (false,()))) (some (false,())))))))))))))=some (true,()):=by
   simp only[bleM (nAdd (0:Nat) (List.length p)) 8796093022208 (Nat.le_trans (Nat.le_of_eq (Nat.zero_add _)) (Nat.le_trans h20 (by decide))),Option.bind_some]
   rw[qv1 n p load (by omega),quK n p load (by omega) (by omega),qv4 n p load (by omega),quM n p load (by omega) (by omega),quO n p load least (by omega),qtI n p load least (by omega) (by omega)]
   simp only[Option.bind_some,qw3 n (chsL p load least) (show (chsL p load least).length≤100 by omega) (show 200≤n by omega)]
   have b1:∀b:Bool,bNe b b=false:=fun b=>by cases b<;>rfl
   have b2:∀i:Int,iNe i i=false:=fun i=>by unfold iNe;simp
   have b3:∀i:Int,iEq i i=true:=fun i=>by unfold iEq;simp
   simp only[b1,b2,b3,cond_false,cond_true]
  by_cases h6:p.length≤6
  ·simp only[show iGt (p.length:Int) 6=false from decide_eq_false (by omega),show iGt (p.length:Int) 20=false from decide_eq_false (by omega),cond_false]
   exact body
  ·by_cases h8:p.length≤8
   ·simp only[show iGt (p.length:Int) 6=true from decide_eq_true (by omega),show iLe (p.length:Int) 8=true from decide_eq_true (by omega),cond_true]
   ·simp only[show iGt (p.length:Int) 6=true from decide_eq_true (by omega),show iLe (p.length:Int) 8=false from decide_eq_false (by omega),show iGt (p.length:Int) 20=false from decide_eq_false (by omega),cond_true,cond_false]
    exact body
 ·simp only[show iGt (p.length:Int) 6=true from decide_eq_true (by omega),show iLe (p.length:Int) 8=false from decide_eq_false (by omega),show iGt (p.length:Int) 20=true from decide_eq_true (by omega),cond_true,cond_false]
end Go.Proofs.YtbdockhccdkdiaaGreat
