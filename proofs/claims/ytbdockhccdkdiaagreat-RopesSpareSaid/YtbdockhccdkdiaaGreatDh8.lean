/- Ropes: the theorem of the missing points. -/
import Derived.Test.YtbdockhccdkdiaaGreatDh7
set_option linter.constructorNameAsVariable false
set_option linter.unusedSimpArgs false
set_option linter.unusedVariables false
set_option linter.unusedSectionVars false
namespace Go.Proofs.YtbdockhccdkdiaaGreat
open Go Go.Proofs Go.RowKit
set_option maxHeartbeats 1000000
abbrev qpG:=Int×(Int×(List Int×SpT))
theorem quX(ps:List Nat)(h8:∀x,x∈ps→x<8):∀k,k≤ps.length→qhK ps k≤128*k
 | 0,_=>by unfold qhK;simp
 | k+1,hk=>by
  have:=quX ps h8 k (by omega)
  rw[qpB ps k (by omega)]
  have h2:=h8 _ (List.getElem_mem (show k<ps.length by omega))
  have:2 ^ ps[k]≤2 ^ 7:=Nat.pow_le_pow_right (by decide) (by omega)
  omega
theorem qib(s:Nat):∀L,(qo L s).length=cntP s.testBit L
 | 0=>rfl
 | L+1=>by
  rw[qhk,List.length_append,qib s L]
  show _=cntP s.testBit L+(if s.testBit L=true then 1 else 0)
  cases s.testBit L<;>simp
theorem qor{s t:Nat}:∀L,(∀i,i<L→s.testBit i=t.testBit i)→qo L s=qo L t
 | 0,_=>rfl
 | L+1,h=>by rw[qhk,qhk,qor L fun i hi=>h i (by omega),h L (by omega)]
theorem qqa(q:Nat→Bool):∀k,cntP q k+cntP (fun i=>!q i) k=k
 | 0=>rfl
 | k+1=>by
  have ih:=qqa q k
  show cntP q k+(if q k=true then 1 else 0)+(cntP (fun i=>!q i) k+(if (!q k)=true then 1 else 0))=k+1
  cases q k<;>simp<;>omega
theorem qmB(n:Nat)(p:List SpT)(s:Int)(hs:0≤s)(hl:p.length≤8)(hn:100≤n):qbn n (p,(s,()))=some (selT p (fun i=>!s.toNat.testBit i) p.length,()):=by
 rw[qkf]
 have:=forN (qdE n) p.length (fun k=>(p,(s,((k:Int),(selT p (fun i=>!s.toNat.testBit i) k,()))))) (some (selT p (fun i=>!s.toNat.testBit i) p.length,())) (fun k hk rec=>by
  have hlen:=qg8 p (fun i=>!s.toNat.testBit i) k
  have hg:qH (iSh .i64 (IntKind.wrap .u64 (k:Int)))=some ():=by rw[qtK k (by omega)];exact shk k (by omega)
  rw[qgd]
  simp only[iLtN hk,cond_true,hg,Option.bind_some,bit1 s hs k (by omega),qfQ p hk,bleM (nAdd (selT p (fun i=>!s.toNat.testBit i) k).length 1) 8796093022208 (by show (selT p (fun i=>!s.toNat.testBit i) k).length+1≤_;omega),qcm (show k<9223372036854775807 by omega)]
  rw[qcc,List.getElem?_eq_getElem hk]
  cases hb:s.toNat.testBit k with
  | false=>rfl
  | true=>simp) (fun rec=>by
   rw[qgd]
   simp only[qkg (Nat.le_refl p.length),cond_false]) n (by omega)
 show Option.bind (qn n (qdE n) (p,(s,(((0:Nat):Int),(selT p (fun i=>!s.toNat.testBit i) 0,()))))) _=_
 rw[this]
 rfl
theorem qmC{p:List SpT}(h:areP p=true)(q:Nat→Bool):areP (selT p q p.length)=true:=by
 unfold areP at *
 rw[Bool.and_eq_true,decide_eq_true_eq,List.all_eq_true] at *
 have:=qg8 p q p.length
 exact ⟨by omega,fun x hx=>h.2 x (qoR hx)⟩
theorem qse(p:List SpT)(q:Nat→Bool)(up:Bool):(selT p q p.length).map (endT up)=selT (p.map (endT up)) q p.length:=(qoW (endT up) p q p.length).symm
theorem qwd{p:List SpT}{up:Bool}{load:Int}(ha:areP p=true)(hw:qbN load 1 5000=true):hldV p up load=qgP (p.map (endT up)) load:=by
 unfold hldV
 rw[decide_eq_true (qhI.2 ⟨ha,hw⟩),Bool.true_and]
theorem qqO(n:Nat)(p:List SpT)(q:Nat→Bool)(load:Int)(ha:areP p=true)(hw:qbN load 1 5000=true)(hn:2000≤n):∃m,qgu n (selT p q p.length,(load,()))=some (qgP (selT (p.map (endT false)) q p.length) load,(m,(0,()))):=by
 refine ⟨hldV (selT p q p.length) true load,?_⟩
 rw[qwb n _ load hn,qhI.2 ⟨qmC ha q,hw⟩,qwd (qmC ha q) hw,qse]
theorem qqP(n:Nat)(p:List SpT)(q:Nat→Bool)(load:Int)(ha:areP p=true)(hw:qbN load 1 5000=true)(hn:2000≤n):qdI n (selT p q p.length,(load,()))=some (sprV (selT (p.map (endT false)) q p.length) load,(0,())):=by
 rw[qsc n _ load hn,qhI.2 ⟨qmC ha q,hw⟩]
 unfold sprE
 rw[if_pos (qhI.2 ⟨qmC ha q,hw⟩),qse]
theorem qxJ(n:Nat)(p:List SpT)(set:Int)(K:Int)(b:Bool)(x:qpG)(ha:areP p=true)(hw:qbN x.1 1 5000=true)(hset:0≤set)(hb:b=true→Hold (selT (p.map (endT false)) (fun i=>!set.toNat.testBit i) p.length) x.1)(hn:2000≤n) :
  qdO n (p,(set,(K,(b,(x,())))))=some (Sum.inl (p,(set,(K,(x,()))))):=by
 rw[qhU]
 cases b with
 | false=>rfl
 | true =>
  obtain ⟨m,hh⟩:=qqO n p (fun i=>!set.toNat.testBit i) x.1 ha hw hn
  simp only[cond_true,qmB n p set hset (qkn ha).1 (show 100≤n by omega),Option.bind_some,hh,qjG.2 (hb rfl)]
  rfl
noncomputable def qiC(l:List Int)(load K:Int):Nat→Bool
 | 0=>false
 | k+1=>qiC l load K k||(decide ((cntP k.testBit l.length:Int)=K+1) && !qgP (selT l (fun i=>!k.testBit i) l.length) load)
theorem qpH{l:List Int}{load K:Int}{T:Nat}:∀k,T<k→(cntP T.testBit l.length:Int)=K+1→¬Hold (selT l (fun i=>!T.testBit i) l.length) load→qiC l load K k=true
 | 0,h,_,_=>by omega
 | k+1,h,h1,h2=>by
  unfold qiC
  by_cases hT:T=k
  ·subst hT
   rw[decide_eq_true h1,qlp.2 h2]
   simp
  ·rw[qpH k (by omega) h1 h2,Bool.true_or]
theorem qtR{l:List Int}{load K:Int}(h:Spr l load K):qiC l load K (2 ^ l.length)=true:=by
 obtain ⟨_,t,ht,hh,hk⟩:=h
 rw[← qp9 l] at ht
 obtain ⟨q,_,rfl⟩:=qp8 l (fun _=>true) l.length (Nat.le_refl _) t ht
 have hb:∀i,i<l.length→(qiB (fun i=>!q i) l.length).testBit i = !q i:=fun i hi=>qjF _ _ i hi
 have hsel:selT l (fun i=>!(qiB (fun i=>!q i) l.length).testBit i) l.length=selT l q l.length:=qgr l _ fun i hi=>by
  show (!(qiB (fun i=>!q i) l.length).testBit i)=q i
  rw[hb i hi,Bool.not_not]
 refine qpH (T:=qiB (fun i=>!q i) l.length) _ (qkI _ _) ?_ (by rw[hsel];exact hh)
 rw[qqL l.length hb]
 rw[qoX l q l.length (Nat.le_refl _)] at hk
 have:=qqa q l.length
 omega
theorem qsw(n:Nat)(p:List SpT)(set K:Int)(x:qpG)(ha:areP p=true)(hw:qbN x.1 1 5000=true)(hK:-1≤K∧K≤8)(hn:2000≤n) :
  qn n (qcI n) (p,(set,(K,(false,((0:Int),(x,()))))))=some (p,(set,(qiC (p.map (endT false)) x.1 K (2 ^ p.length),(x,())))):=by
 obtain ⟨hl,hb⟩:=qkn ha
 obtain ⟨g1,g2,g3⟩:=qr7 p.length hl
 have hpow:=qjA hl
 have hml:(p.map (endT false)).length=p.length:=List.length_map ..
 have:=forN (qcI n) (2 ^ p.length) (fun k=>(p,(set,(K,(qiC (p.map (endT false)) x.1 K k,((k:Int),(x,()))))))) (some (p,(set,(qiC (p.map (endT false)) x.1 K (2 ^ p.length),(x,()))))) (fun k hk rec=>by
  have hsz:=qp6 n (k:Int) (by omega) p.length hl (by omega)
  rw[Int.toNat_natCast,qib] at hsz
  have hwo:=qmB n p (k:Int) (by omega) hl (show 100≤n by omega)
  rw[Int.toNat_natCast] at hwo
  obtain ⟨m,hh⟩:=qqO n p (fun i=>!k.testBit i) x.1 ha hw hn
  have hk1:iW (iAdd K 1)=K+1:=qip (by unfold iAdd;omega) (by unfold iAdd;omega)
  have hbr:qiC (p.map (endT false)) x.1 K (k+1)=(qiC (p.map (endT false)) x.1 K k||(decide ((cntP k.testBit p.length:Int)=K+1) && !qgP (selT (p.map (endT false)) (fun i=>!k.testBit i) p.length) x.1)):=by
   conv=>lhs;unfold qiC
   rw[hml]
  rw[qfn,hbr]
  simp only[g1,g2,Option.bind_some,iLtN hk,cond_true,Int.ofNat_eq_natCast,hsz,hk1,hwo,hh,qcm (show k<9223372036854775807 by omega)]
  by_cases hc:(cntP k.testBit p.length:Int)=K+1
  ·rw[decide_eq_true hc,show iEq (cntP k.testBit p.length:Int) (K+1)=true by rw[hc];unfold iEq;simp]
   cases qiC (p.map (endT false)) x.1 K k<;>rfl
  ·rw[decide_eq_false hc,show iEq (cntP k.testBit p.length:Int) (K+1)=false from beq_eq_false_iff_ne.2 hc]
   simp) (fun rec=>by
   rw[qfn]
   simp only[g1,g2,Option.bind_some,qkg (Nat.le_refl (2 ^ p.length)),cond_false]) n (by omega)
 exact this
theorem qwe(n:Nat)(p:List SpT)(set least keep:Int)(en:Bool)(X:qpG)(ps:List Nat)(hps:∀x,x∈ps→x<p.length)(hL:p.length≤8)(hpw:ps.Pairwise (· < ·))(hpl:ps.length≤8)(hn:100≤n) :
  qn n (qb1 n) (p,(set,(least,(qbO ps,(keep,(en,((0:Int),((0:Int),(X,())))))))))=some (.inl (p,(set,(least,(qbO ps,(keep,(en,(((qhK ps ps.length:Nat):Int),(X,()))))))))):=by
 have hat:∀q (hq:q<ps.length),lat (qbO ps) (q:Int)=some (ps[q]:Int):=fun q hq=>by rw[qkm];unfold qbO;rw[List.getElem?_map,List.getElem?_eq_getElem hq];rfl
 have:=forN (qb1 n) ps.length (fun k=>(p,(set,(least,(qbO ps,(keep,(en,(((qhK ps k:Nat):Int),((k:Int),(X,())))))))))) (some (.inl (p,(set,(least,(qbO ps,(keep,(en,(((qhK ps ps.length:Nat):Int),(X,())))))))))) (fun k hkp rec=>by
  have hx:=hps _ (List.getElem_mem hkp)
  have hpk:=quX ps (fun x hx=>by have:=hps x hx;omega) k (by omega)
  have h27:2 ^ ps[k]≤2 ^ 7:=Nat.pow_le_pow_right (by decide) (by omega)
  obtain ⟨g1,g2,g3⟩:=qr7 ps[k] (by omega)
  have hsum:iW (iAdd ((qhK ps k:Nat):Int) ((2 ^ ps[k]:Nat):Int))=((qhK ps (k+1):Nat):Int):=by
   rw[qpB ps k hkp]
   generalize 2 ^ ps[k]=P at h27 ⊢
   rw[qip (by unfold iAdd;omega) (by unfold iAdd;omega)]
   unfold iAdd
   omega
  rw[qfo]
  simp only[qeH,iLtN hkp,cond_true,hat k hkp,Option.bind_some,show iLt (ps[k]:Int) 0=false from decide_eq_false (by omega),cond_false,show iGe (ps[k]:Int) (p.length:Int)=false from decide_eq_false (by omega),g1,g2,hsum,qcm (show k<9223372036854775807 by omega)]
  cases k with
  | zero =>
   simp only[show iGt ((0:Nat):Int) 0=false from rfl,cond_false]
  | succ k =>
   have hlt:ps[k]<ps[k+1]:=List.pairwise_iff_getElem.1 hpw k (k+1) (by omega) hkp (by omega)
   simp only[show iGt ((k+1:Nat):Int) 0=true from decide_eq_true (by omega),cond_true,qnX (show k<9223372036854775807 by omega),hat k (by omega),Option.bind_some,show iLe (ps[k+1]:Int) (ps[k]:Int)=false from decide_eq_false (by omega),cond_false]) (fun rec=>by
   rw[qfo]
   simp only[qeH,qkg (Nat.le_refl ps.length),cond_false]) n (by omega)
 exact this
theorem qsf(x lo hi:Int):qbN x lo hi=true↔lo≤x∧x≤hi:=by
 unfold qbN
 rw[Bool.and_eq_true,decide_eq_true_eq,decide_eq_true_eq]
theorem qs9(n:Nat)(p:List SpT)(s:Int)(hs:0≤s)(hl:p.length≤8)(hn:100≤n):qbn n (p,((bits .andNot .i64 (((2 ^ p.length:Nat):Int)-1) s),()))=some (selT p s.toNat.testBit p.length,()):=by
 have hpow:=qjA hl
 have hpos:=Nat.two_pow_pos p.length
 obtain ⟨m,rfl⟩:∃m:Nat,s=m:=⟨s.toNat,by omega⟩
 have h63:2 ^ p.length-1<2 ^ 63:=by omega
 rw[show ((2 ^ p.length:Nat):Int)-1=((2 ^ p.length-1:Nat):Int) by omega,quU _ _ h63,qmB n p _ (by omega) hl hn,Int.toNat_natCast,Int.toNat_natCast]
 rw[qgr p p.length fun i hi=>by
  show (!(anN (2 ^ p.length-1) m).testBit i)=m.testBit i
  rw[qs8 _ _ i h63,Nat.testBit_two_pow_sub_one,decide_eq_true hi,Bool.true_and,Bool.not_not]]
theorem qqW(n:Nat)(p:List SpT)(x:qpG)(set:Int)(hn:4000≤n):qdi n (p,(x,(set,())))=some (true,()):=by
 have hwk:=qw6 n (show 3000≤n by omega)
 rw[qjf]
 simp only[hwk,Option.bind_some]
 by_cases h6:p.length≤6
 rotate_left
 ·rw[show iGt (p.length:Int) 6=true from decide_eq_true (by omega)]
  rfl
 rw[show iGt (p.length:Int) 6=false from decide_eq_false (by omega)]
 simp only[cond_false,qr6 n p x.1 true (show p.length≤50 by omega) (show 100≤n by omega),Option.bind_some,Bool.and_true]
 rcases qha p (qbN x.1 1 5000) with ⟨h0,ha,hw⟩ | ⟨h1,h2⟩
 rotate_left
 ·rw[h1];rfl
 rw[h0]
 simp only[show iNe (0:Int) 0=false from rfl,cond_false]
 by_cases hset:set<0
 ·rw[show iLt set 0=true from decide_eq_true hset]
  rfl
 rw[show iLt set 0=false from decide_eq_false hset]
 simp only[cond_false]
 obtain ⟨hl,hb⟩:=qkn ha
 have hml:(p.map (endT false)).length=p.length:=List.length_map ..
 have hspare:qdI n (p,(x.1,()))=some (sprV (p.map (endT false)) x.1,(0,())):=by
  rw[qsc n p x.1 (by omega),h0]
  unfold sprE
  rw[if_pos h0]
 have hS:=qv9 (p.map (endT false)) x.1
 have hbd:=hS.bd
 rw[hspare]
 simp only[Option.bind_some,show iNe (0:Int) 0=false from rfl,cond_false]
 generalize hK:sprV (p.map (endT false)) x.1=K at *
 rw[hml] at hbd
 simp only[show iLt K (Int.negSucc 0)=false from decide_eq_false (by show ¬K < -1;omega),cond_false,qw7,show iGe K (max 1 (p.length:Int))=false from decide_eq_false (by omega),Int.ofNat_eq_natCast,qp6 n set (show 0≤set by omega) p.length hl (show 100≤n by omega),Option.bind_some,qib]
 rw[qxJ n p set K _ x ha hw (by omega) (fun h=>by
  have hle:(cntP set.toNat.testBit p.length:Int)≤K:=of_decide_eq_true h
  have hsub:(selT (p.map (endT false)) (fun i=>!set.toNat.testBit i) p.length).Sublist (p.map (endT false)):=by
   have:=qr9 (p.map (endT false)) fun i=>!set.toNat.testBit i
   rwa [hml] at this
  refine hS.hold hsub ?_
  rw[qoX _ _ p.length (by rw[hml];exact Nat.le_refl _),hml]
  have:=qqa set.toNat.testBit p.length
  omega) (by omega)]
 have hbrk:=qtR hS
 rw[hml] at hbrk
 simp only[Option.bind_some,Sum.elim_inl,qsw n p set K x ha hw (show -1≤K∧K≤8 by omega) (show 2000≤n by omega),hbrk,Bool.not_true,cond_false]
 by_cases hl0:x.2.1<0
 ·rw[show iLt x.2.1 0=true from decide_eq_true hl0]
  rfl
 by_cases hl8:8<x.2.1
 ·rw[show iLt x.2.1 0=false from decide_eq_false hl0,show iGt x.2.1 8=true from decide_eq_true hl8]
  rfl
 obtain ⟨g1,g2,g3⟩:=qr7 p.length hl
 have hE:chsE p x.1 x.2.1=0:=qhI.2 ⟨ha,by rw[hw,(qsf _ _ _).2 ⟨by omega,by omega⟩];rfl⟩
 simp only[show iLt x.2.1 0=false from decide_eq_false hl0,show iGt x.2.1 8=false from decide_eq_false hl8,cond_false,g1,g3,Option.bind_some,qs9 n p set (show 0≤set by omega) hl (show 100≤n by omega),qqP n p set.toNat.testBit x.1 ha hw (show 2000≤n by omega),show iEq (0:Int) 0=true from rfl,cond_true,quW n p x.1 x.2.1 (show 2000≤n by omega)]
 unfold chsL chsR
 rw[if_pos hE,if_pos hE]
 obtain ⟨S,hSd⟩:∃S,S=qiB set.toNat.testBit p.length:=⟨_,rfl⟩
 have hSl:S<2 ^ p.length:=by rw[hSd];exact qkI _ _
 have hSb:∀i,i<p.length→S.testBit i=set.toNat.testBit i:=fun i hi=>by rw[hSd];exact qjF _ _ i hi
 have hSsel:selT (p.map (endT false)) set.toNat.testBit p.length=selT (p.map (endT false)) S.testBit p.length:=qgr _ _ fun i hi=>(hSb i hi).symm
 have hen:iGe (sprV (selT (p.map (endT false)) set.toNat.testBit p.length) x.1) x.2.1=chsB p x.1 x.2.1 S:=by rw[hSsel];rfl
 rw[hen]
 have hmin:=qsZ (n:=p.length) (is:=chsB p x.1 x.2.1) (2 ^ p.length)
 unfold chsV fewV
 cases hf:qfL p.length (chsB p x.1 x.2.1) (2 ^ p.length) with
 | none =>
  rw[hf] at hmin
  rw[hmin S hSl]
  rfl
 | some b =>
  rw[hf] at hmin
  obtain ⟨⟨s0,hs0,hs1,rfl⟩,hm⟩:=hmin
  have hps:∀i,i∈qo p.length s0→i<p.length:=fun i hi=>(qv3 hi).1
  have hlen:(qo p.length s0).length≤p.length:=by unfold qo;have:=List.length_filter_le (fun i=>s0.testBit i) (List.range p.length);simpa using this
  have hsum:=qwe n p set x.2.1 (((2 ^ p.length:Nat):Int)-1) (chsB p x.1 x.2.1 S) x (qo p.length s0) hps hl (qtE _ _) (by omega) (by omega)
  rw[qw5 p.length s0 hs0] at hsum
  have hkeep:=qs9 n p (s0:Int) (by omega) hl (show 100≤n by omega)
  rw[Int.toNat_natCast] at hkeep
  have hge:iGe (sprV (selT (p.map (endT false)) s0.testBit p.length) x.1) x.2.1=true:=hs1
  simp only[Option.isSome_some,cond_true,show iNe (0:Int) 0=false from rfl,cond_false,show qlb (some (qo p.length s0))=qbO (qo p.length s0) from rfl,hsum,Option.bind_some,Sum.elim_inl,hkeep,qqP n p s0.testBit x.1 ha hw (show 2000≤n by omega),show iEq (0:Int) 0=true from rfl,hge,qeH]
  cases hc:chsB p x.1 x.2.1 S with
  | false=>rfl
  | true =>
   have h3:=hm S hSl hc
   have hle:(qo p.length s0).length≤(qo p.length S).length:=by
    rcases Nat.lt_or_ge (qo p.length S).length (qo p.length s0).length with h | h
    ·rw[qhl.2 (.inl h)] at h3;cases h3
    ·exact h
   rw[qor p.length hSb,qib _ p.length] at hle
   rw[show qo p.length set.toNat=qo p.length set.toNat from rfl] at *
   simp only[Bool.not_true,cond_false,qp6 n set (show 0≤set by omega) p.length hl (show 100≤n by omega),Option.bind_some,qib]
   rw[qib] at hle
   rw[show iLe ((cntP s0.testBit p.length:Nat):Int) ((cntP set.toNat.testBit p.length:Nat):Int)=true from decide_eq_true (by omega)]
   rfl
end Go.Proofs.YtbdockhccdkdiaaGreat
