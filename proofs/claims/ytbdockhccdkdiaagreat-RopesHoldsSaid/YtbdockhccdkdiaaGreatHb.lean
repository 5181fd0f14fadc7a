/- Texts Dh5, Dh6 in one. -/
import Derived.Test.YtbdockhccdkdiaaGreatHa
/- Ropes: how many points may be missing: the program and the reference alike. -/
set_option linter.constructorNameAsVariable false
set_option linter.unusedSimpArgs false
set_option linter.unusedVariables false
set_option linter.unusedSectionVars false
namespace Go.Proofs.YtbdockhccdkdiaaGreat
open Go Go.Proofs Go.RowKit
set_option maxHeartbeats 1000000
theorem qw1(a b:Int):iMin a b=min a b:=by
 unfold iMin
 split<;>omega
theorem qs1{α:Type}(l:List α):selT l (fun _=>true) l.length=l:=by
 rw[qoP l _ l.length (Nat.le_refl _) fun _ _=>rfl,List.take_length]
theorem qw2{α:Type}{l t:List α}(h:t.Sublist l):∃s:Nat,s<2 ^ l.length∧t=selT l s.testBit l.length:=by
 rw[← qs1 l] at h
 obtain ⟨q,_,hq⟩:=qp4 l (fun _=>true) l.length (Nat.le_refl _) t h
 refine ⟨qmr q l.length,qms q _,?_⟩
 rw[hq]
 exact qiD l _ fun i hi=>(qk2 q _ i hi).symm
theorem qv2{α:Type}(l:List α)(q:Nat→Bool):(selT l q l.length).Sublist l:=by
 have:=qp5 l (p:=fun _=>true) (q:=q) l.length fun _ _ _=>rfl
 rwa [qs1] at this
noncomputable def qet(l:List Int)(load:Int):Nat→Int
 | 0=>l.length
 | s+1=>if qeT (selT l s.testBit l.length) load=true then qet l load s else min (qet l load s) ((l.length:Int)-(selT l s.testBit l.length).length-1)
theorem qpD(l:List Int)(load:Int):∀s,(∀T,T<s→¬Hold (selT l T.testBit l.length) load→qet l load s+1+(selT l T.testBit l.length).length≤l.length)∧(qet l load s=l.length∨∃T,T<s∧¬Hold (selT l T.testBit l.length) load∧qet l load s+1+(selT l T.testBit l.length).length=l.length)
 | 0=>⟨fun T h=>by omega,.inl rfl⟩
 | s+1=>by
  obtain ⟨h1,h2⟩:=qpD l load s
  unfold qet
  cases hh:qeT (selT l s.testBit l.length) load with
  | true =>
   rw[qg4] at hh
   simp only[if_true]
   refine ⟨fun T hT hT2=>?_,?_⟩
   ·by_cases hTs:T=s
    ·subst hTs;exact absurd hh hT2
    ·exact h1 T (by omega) hT2
   ·rcases h2 with h2 | ⟨T,a,b,c⟩
    ·exact .inl h2
    ·exact .inr ⟨T,by omega,b,c⟩
  | false =>
   rw[qhD] at hh
   simp only[Bool.false_eq_true,if_false]
   refine ⟨fun T hT hT2=>?_,?_⟩
   ·by_cases hTs:T=s
    ·subst hTs;omega
    ·have:=h1 T (by omega) hT2;omega
   ·by_cases hm:qet l load s≤(l.length:Int)-(selT l s.testBit l.length).length-1
    ·rcases h2 with h2 | ⟨T,a,b,c⟩
     ·omega
     ·exact .inr ⟨T,by omega,b,by omega⟩
    ·exact .inr ⟨s,by omega,hh,by omega⟩
theorem qr6{α:Type}(l:List α)(k:Nat):selT l (Nat.testBit 0) k=[]:=qnv l _ k fun i _=>Nat.zero_testBit i
theorem qtC(l:List Int)(load:Int):Spr l load (qet l load (2 ^ l.length)):=by
 obtain ⟨h1,h2⟩:=qpD l load (2 ^ l.length)
 refine ⟨fun t ht hh=>?_,?_⟩
 ·obtain ⟨s,hs,rfl⟩:=qw2 ht
  exact h1 s hs hh
 ·rcases h2 with h2 | ⟨T,a,b,c⟩
  ·have:=h1 0 (Nat.two_pow_pos _) (by rw[qr6];exact qks load)
   rw[qr6] at this
   simp at this
   omega
  ·exact ⟨_,qv2 l T.testBit,b,c⟩
theorem qqL(l:List Int)(load:Int):∀s,-1≤qet l load s∧qet l load s≤l.length
 | 0=>by unfold qet;omega
 | s+1=>by
  have:=qqL l load s
  have:=qg0 l s.testBit l.length
  unfold qet
  split<;>omega
theorem qs2(s:Nat):bitB (s:Int)=s.testBit:=funext fun i=>qrZ s i
theorem qr7(n:Nat)(l:List Int)(load:Int)(hl:l.length≤8)(hb:StrB l)(hn:2000≤n):qhG n (l,(load,()))=some (sprV l load,()):=by
 obtain ⟨g1,g2,g3,g4⟩:=qwn l.length hl
 have hpow:=qh1 hl
 rw[qoN]
 simp only[g3,g4,Option.bind_some]
 have:=forN (qiw n) (2 ^ l.length) (fun k=>(l,(load,(qet l load k,(((2 ^ l.length:Nat):Int),((k:Int),())))))) (some (qet l load (2 ^ l.length),())) (fun k hk rec=>by
  have hlen:=qg0 l k.testBit l.length
  have hbd:=qqL l load k
  have hc:=qpA n l (k:Int) (by omega) hl (by omega)
  rw[qs2] at hc
  rw[qjy]
  simp only[iLtN hk,cond_true,hc,Option.bind_some,qoR n (selT l k.testBit l.length) load (by omega) (qoS hb _ _) hn,qbT (show k<9223372036854775807 by omega)]
  have e1:iW (iSub (l.length:Int) ((selT l k.testBit l.length).length:Int))=(l.length:Int)-(selT l k.testBit l.length).length:=qim (by unfold iSub;omega) (by unfold iSub;omega)
  have e2:iW (iSub ((l.length:Int)-(selT l k.testBit l.length).length) 1)=(l.length:Int)-(selT l k.testBit l.length).length-1:=qim (by unfold iSub;omega) (by unfold iSub;omega)
  rw[e1,e2,qw1]
  conv=>rhs;unfold qet
  cases qeT (selT l k.testBit l.length) load<;>simp) (fun rec=>by
   rw[qjy]
   simp only[qiE (Nat.le_refl (2 ^ l.length)),cond_false]) n (by omega)
 have e0:qet l load 0=(l.length:Int):=rfl
 rw[show ((0:Nat):Int)=0 from rfl,e0] at this
 rw[this,qs0 (qtC l load)]
 rfl
def anN(a b:Nat):Nat:=(BitVec.ofNat 64 a &&& ~~~(BitVec.ofNat 64 b)).toNat
theorem qje(a b i:Nat)(ha:a<2 ^ 63):(anN a b).testBit i=(a.testBit i && !b.testBit i):=by
 unfold anN
 rw[BitVec.testBit_toNat,BitVec.getLsbD_and,BitVec.getLsbD_not,BitVec.getLsbD_ofNat,BitVec.getLsbD_ofNat]
 by_cases hi:i<64
 ·simp[hi]
 ·rw[Nat.testBit_lt_two_pow (Nat.lt_of_lt_of_le ha (Nat.pow_le_pow_right (by decide) (by omega)))]
  simp[hi]
theorem qxp(a b:Nat)(ha:a<2 ^ 63):anN a b≤a:=Nat.le_of_testBit fun i h=>by
 rw[qje a b i ha,Bool.and_eq_true] at h
 exact h.1
theorem qqM(a b:Nat)(ha:a<2 ^ 63):bits .andNot .i64 (a:Int) (b:Int)=(anN a b:Int):=by
 have h:=qxp a b ha
 show IntKind.i64.wrap (((BitVec.ofInt 64 (a:Int)) &&& ~~~(BitVec.ofInt 64 (b:Int))).toNat:Int)=_
 rw[BitVec.ofInt_natCast,BitVec.ofInt_natCast]
 exact qim (by show _≤((anN a b:Nat):Int);omega) (by show ((anN a b:Nat):Int)≤_;omega)
theorem qoT(a b:Nat)(ha:a<2 ^ 63):anN a b=0↔∀i,a.testBit i=true→b.testBit i=true:=by
 constructor
 ·intro h i hi
  have:=qje a b i ha
  rw[h,Nat.zero_testBit,hi] at this
  simpa using this.symm
 ·intro h
  refine Nat.eq_of_testBit_eq fun i=>?_
  rw[qje a b i ha,Nat.zero_testBit]
  cases ha:a.testBit i with
  | false=>rfl
  | true=>rw[h i ha];rfl
theorem quL{s L i:Nat}(hs:s<2 ^ L)(h:L≤i):s.testBit i=false:=Nat.testBit_lt_two_pow (Nat.lt_of_lt_of_le hs (Nat.pow_le_pow_right (by decide) h))
theorem qxq{s N L:Nat}(h:N≤L)(hs:s<2 ^ N):cntP s.testBit L=cntP s.testBit N:=by
 obtain ⟨d,rfl⟩:∃d,L=N+d:=⟨L-N,by omega⟩
 clear h
 induction d with
 | zero=>rfl
 | succ d ih =>
  rw[← Nat.add_assoc]
  show cntP s.testBit (N+d)+(if s.testBit (N+d)=true then 1 else 0)=_
  rw[ih,quL hs (show N≤N+d by omega)]
  rfl
theorem qv3(n:Nat)(s L:Nat)(hs:s<2 ^ L)(hL:L≤8)(hn:100≤n):qez n ((s:Int),())=some ((cntP s.testBit L:Int),()):=by
 have hx:∃k,s<2 ^ k:=⟨L,hs⟩
 obtain ⟨N,hNL,hN,hmin⟩:=qjB (fun k=>s<2 ^ k) L hs
 rw[qkD,qxq hNL hN]
 have:=forN (qdX n) N (fun k=>(((s/2 ^ k:Nat):Int),((cntP s.testBit k:Int),()))) (some ((cntP s.testBit N:Int),())) (fun k hk rec=>by
  have hp:0<s/2 ^ k:=Nat.div_pos (Nat.le_of_not_lt (hmin k hk)) (Nat.two_pow_pos k)
  have hc:=qpC s.testBit k
  rw[qgG]
  have e1:iShr ((s/2 ^ k:Nat):Int) 1=((s/2 ^ (k+1):Nat):Int):=by
   rw[show (1:Int)=((1:Nat):Int) from rfl,qlM,Nat.pow_succ,← Nat.div_div_eq_div_mul]
   simp
  have e2:((s/2 ^ k:Nat):Int) % 2=if s.testBit k=true then 1 else 0:=by
   rw[Nat.testBit_eq_decide_div_mod_eq]
   generalize s/2 ^ k=q
   by_cases h:q % 2=1
   ·rw[decide_eq_true h,if_pos rfl];omega
   ·rw[decide_eq_false h,if_neg (by simp)];omega
  simp only[show iGt ((s/2 ^ k:Nat):Int) 0=true from decide_eq_true (by omega),cond_true,show qu (iSh .i64 1)=some () from shk 1 (by omega),Option.bind_some,e1,qoK,e2]
  have e3:iW (iAdd (cntP s.testBit k:Int) (if s.testBit k=true then 1 else 0))=((cntP s.testBit (k+1):Nat):Int):=by
   show iW ((cntP s.testBit k:Int)+(if s.testBit k=true then 1 else 0))=(((cntP s.testBit k+(if s.testBit k=true then 1 else 0)):Nat):Int)
   cases s.testBit k with
   | true=>rw[qim (by simp;omega) (by simp;omega)];simp
   | false=>rw[qim (by simp<;>omega) (by simp<;>omega)];simp
  rw[e3]) (fun rec=>by
   rw[qgG,Nat.div_eq_of_lt hN]
   rfl) n (by omega)
 have e0:cntP s.testBit 0=0:=rfl
 rw[show s/2 ^ 0=s by simp,e0] at this
 show Option.bind (qn n (qdX n) ((s:Int),(((0:Nat):Int),()))) _=_
 rw[this]
 rfl
noncomputable def qb1(l:List Int)(load:Int)(set:Nat):Nat→Nat
 | 0=>l.length+1
 | k+1=>if anN k set=0∧cntP k.testBit l.length<qb1 l load set k∧qeT (selT l (anN set k).testBit l.length) load=false then cntP k.testBit l.length else qb1 l load set k
theorem qmt(l:List Int)(load:Int)(set:Nat):∀k,qb1 l load set k≤l.length+1
 | 0=>Nat.le_refl _
 | k+1=>by have:=qmt l load set k;unfold qb1;split<;>omega
theorem qoj(l:List Int)(load:Int)(set:Nat):∀k,(∀T,T<k→anN T set=0→¬Hold (selT l (anN set T).testBit l.length) load→qb1 l load set k≤cntP T.testBit l.length)∧(qb1 l load set k=l.length+1∨∃T,T<k∧anN T set=0∧¬Hold (selT l (anN set T).testBit l.length) load∧qb1 l load set k=cntP T.testBit l.length)
 | 0=>⟨fun T h=>by omega,.inl rfl⟩
 | k+1=>by
  obtain ⟨h1,h2⟩:=qoj l load set k
  unfold qb1
  split
  ·next h =>
   rw[qhD] at h
   refine ⟨fun T hT hT2 hT3=>?_,.inr ⟨k,by omega,h.1,h.2.2,rfl⟩⟩
   by_cases hTk:T=k
   ·subst hTk;exact Nat.le_refl _
   ·have:=h1 T (by omega) hT2 hT3;omega
  ·next h =>
   refine ⟨fun T hT hT2 hT3=>?_,?_⟩
   ·by_cases hTk:T=k
    ·subst hTk
     rw[← qhD] at hT3
     exact Nat.le_of_not_lt fun hx=>h ⟨hT2,hx,hT3⟩
    ·exact h1 T (by omega) hT2 hT3
   ·rcases h2 with h2 | ⟨T,a,b⟩
    ·exact .inl h2
    ·exact .inr ⟨T,by omega,b⟩
theorem qsr(l:List Int)(load:Int)(set:Nat)(hset:set<2 ^ l.length)(hL:l.length≤8):Spr (selT l set.testBit l.length) load ((qb1 l load set (set+1):Int)-1):=by
 have hpow:=qh1 hL
 obtain ⟨h1,h2⟩:=qoj l load set (set+1)
 have hlen:=qoQ l set.testBit l.length (Nat.le_refl _)
 have hcs:=qpC set.testBit l.length
 have h63:∀T,T≤set→T<2 ^ 63:=fun T h=>by omega
 have hself:∀i,(anN set set).testBit i=false:=fun i=>by rw[qje set set i (h63 set (Nat.le_refl _))];cases set.testBit i<;>rfl
 have h0:=h1 set (by omega) ((qoT set set (h63 set (Nat.le_refl _))).2 fun i h=>h) (by rw[qnv l _ _ fun i _=>hself i];exact qks load)
 have split:∀T,T≤set→anN T set=0→cntP set.testBit l.length=cntP T.testBit l.length+(selT l (anN set T).testBit l.length).length:=fun T hT hT0=>by
  rw[qoQ l _ l.length (Nat.le_refl _),qqH (p:=set.testBit) (q:=T.testBit) l.length fun i _ h=>(qoT T set (h63 T hT)).1 hT0 i h]
  congr 1
  exact qqI _ fun i _=>(qje set T i (h63 set (Nat.le_refl _))).symm
 refine ⟨fun t ht hh=>?_,?_⟩
 ·obtain ⟨q,hq,rfl⟩:=qp4 l set.testBit l.length (Nat.le_refl _) t ht
  obtain ⟨T,hTd⟩:∃T,T=qmr (fun i=>set.testBit i && !q i) l.length:=⟨_,rfl⟩
  have hTl:T<2 ^ l.length:=by rw[hTd];exact qms _ _
  have hTb:∀i,i<l.length→T.testBit i=(set.testBit i && !q i):=fun i hi=>by rw[hTd];exact qk2 _ _ i hi
  have hsub:∀i,T.testBit i=true→set.testBit i=true:=fun i h=>by
   rcases Nat.lt_or_ge i l.length with hi | hi
   ·rw[hTb i hi,Bool.and_eq_true] at h;exact h.1
   ·rw[quL hTl hi] at h;cases h
  have hle:T≤set:=Nat.le_of_testBit hsub
  have hT0:anN T set=0:=(qoT T set (h63 T hle)).2 hsub
  have hsel:selT l (anN set T).testBit l.length=selT l q l.length:=qiD l _ fun i hi=>by
   rw[qje set T i (h63 set (Nat.le_refl _)),hTb i hi]
   have:=hq i hi
   cases hq1:q i with
   | true=>rw[this hq1];rfl
   | false=>cases set.testBit i<;>rfl
  have:=h1 T (by omega) hT0 (by rw[hsel];exact hh)
  have h3:=split T hle hT0
  rw[hsel] at h3
  omega
 ·rcases h2 with h2 | ⟨T,a,b,c,d⟩
  ·omega
  ·have h3:=split T (by omega) b
   refine ⟨_,qp5 l l.length fun i _ h=>?_,c,by omega⟩
   rw[qje set T i (h63 set (Nat.le_refl _)),Bool.and_eq_true] at h
   exact h.1
theorem qqN(n:Nat)(p:List SpT)(load:Int)(set:Nat)(hset:set<2 ^ p.length)(hl:p.length≤8)(hb:StrB (p.map (endT false)))(hn:2000≤n):qds n (p,((set:Int),(load,())))=some (sprV (selT (p.map (endT false)) set.testBit p.length) load,()):=by
 have hpow:=qh1 hl
 have hml:(p.map (endT false)).length=p.length:=List.length_map ..
 rw[qkE]
 have h63:∀T:Nat,T≤256→T<2 ^ 63:=fun T h=>by omega
 have:=forN (qfp n) (set+1) (fun k=>(p,((set:Int),(load,((qb1 (p.map (endT false)) load set k:Int),((k:Int),())))))) (some ((qb1 (p.map (endT false)) load set (set+1):Int),())) (fun k hk rec=>by
  have hlt:=qmt (p.map (endT false)) load set k
  have hcl:=qpC k.testBit p.length
  have hk2:k<2 ^ p.length:=by omega
  have hsl:=qg0 (p.map (endT false)) (anN set k).testBit p.length
  have hcount:=qv3 n k p.length hk2 hl (by omega)
  have hends:=qp6 n p ((anN set k:Nat):Int) false (by omega) hl (by omega)
  rw[Int.toNat_natCast] at hends
  rw[qgH]
  simp only[show iLe (k:Int) (set:Int)=true from decide_eq_true (by omega),cond_true,qqM k set (h63 k (by omega)),qqM set k (h63 set (by omega)),hcount,hends,Option.bind_some,qnw n (selT (p.map (endT false)) (anN set k).testBit p.length) load (by omega) (qoS hb _ _) hn,qbT (show k<9223372036854775807 by omega)]
  have hf:qb1 (p.map (endT false)) load set (k+1)=if anN k set=0∧cntP k.testBit p.length<qb1 (p.map (endT false)) load set k∧qeT (selT (p.map (endT false)) (anN set k).testBit p.length) load=false then cntP k.testBit p.length else qb1 (p.map (endT false)) load set k:=by
   conv=>lhs;unfold qb1
   rw[hml]
  rw[hf]
  by_cases h1:anN k set=0
  ·rw[h1]
   simp only[show iEq ((0:Nat):Int) 0=true from rfl,cond_true,true_and]
   by_cases h2:cntP k.testBit p.length<qb1 (p.map (endT false)) load set k
   ·rw[show iLt (cntP k.testBit p.length:Int) (qb1 (p.map (endT false)) load set k:Int)=true from decide_eq_true (by omega)]
    simp only[cond_true,h2,true_and]
    cases qeT (selT (p.map (endT false)) (anN set k).testBit p.length) load<;>simp
   ·rw[show iLt (cntP k.testBit p.length:Int) (qb1 (p.map (endT false)) load set k:Int)=false from decide_eq_false (by omega)]
    simp only[cond_false,h2,false_and,if_false]
  ·rw[show iEq ((anN k set:Nat):Int) 0=false from beq_eq_false_iff_ne.2 (by omega)]
   simp only[cond_false,h1,false_and,if_false]) (fun rec=>by
   rw[qgH]
   simp only[show iLe ((set+1:Nat):Int) (set:Int)=false from decide_eq_false (by omega),cond_false]) n (by omega)
 have e0:qb1 (p.map (endT false)) load set 0=p.length+1:=by unfold qb1;rw[hml]
 rw[show ((0:Nat):Int)=0 from rfl,e0] at this
 rw[show iW (iAdd (p.length:Int) 1)=((p.length+1:Nat):Int) from qbT (by omega),this]
 have hspr:=qsr (p.map (endT false)) load set (by rw[hml];exact hset) (by rw[hml];exact hl)
 rw[hml] at hspr
 have hlt:=qmt (p.map (endT false)) load set (set+1)
 rw[qs0 hspr]
 simp only[Option.bind_some]
 rw[show iW (iSub (qb1 (p.map (endT false)) load set (set+1):Int) 1)=(qb1 (p.map (endT false)) load set (set+1):Int)-1 from qim (by unfold iSub;omega) (by unfold iSub;omega)]
noncomputable def sprE(p:List SpT)(load:Int):Int:=if qeO p (qbN load 1 5000)=0 then sprV (p.map (endT false)) load else 0
theorem qv4(n:Nat)(p:List SpT)(load:Int)(hn:2000≤n):qgl n (p,(load,()))=some (sprE p load,(qeO p (qbN load 1 5000),())):=by
 rw[qoO]
 simp only[qns,Option.bind_some,qjc n p _ (show 100≤n by omega)]
 unfold sprE
 rcases qd5 p (qbN load 1 5000) with ⟨h0,ha,hw⟩ | ⟨h1,h2⟩
 ·obtain ⟨hl,hb⟩:=qjd ha
  rw[h0]
  simp only[show iNe (0:Int) 0=false from rfl,cond_false,qnx n p (show p.length≤50 by omega) (show 100≤n by omega),Option.bind_some,if_true]
  rw[qr7 n (p.map (·.1)) load (by rw[List.length_map];omega) (qg5 hb false) hn]
  rfl
 ·rw[h1,if_neg h2]
  rfl
theorem quM(n:Nat)(p:List SpT)(load:Int)(hlp:p.length≤50)(hn:2000≤n):qdt n (p,(load,()))=some (sprE p load,(qeO p (qbN load 1 5000),())):=by
 rw[qkF]
 simp only[Option.bind_some,qkt n p load true hlp (show 100≤n by omega),Bool.and_true]
 unfold sprE
 rcases qd5 p (qbN load 1 5000) with ⟨h0,ha,hw⟩ | ⟨h1,h2⟩
 ·obtain ⟨hl,hb⟩:=qjd ha
  obtain ⟨g1,g2,g3⟩:=qr4 p.length hl
  have hpos:=Nat.two_pow_pos p.length
  rw[h0]
  have hs:=qqN n p load (2 ^ p.length-1) (by omega) hl (qg5 hb false) hn
  have hfull:selT (p.map (endT false)) (2 ^ p.length-1).testBit p.length=p.map (endT false):=by
   have:=qr5 p false
   rwa [show (((2 ^ p.length:Nat):Int)-1).toNat=2 ^ p.length-1 by omega] at this
  rw[hfull,show ((2 ^ p.length-1:Nat):Int)=((2 ^ p.length:Nat):Int)-1 by omega] at hs
  simp only[show iNe (0:Int) 0=false from rfl,cond_false,g1,g3,Option.bind_some,hs,if_true]
 ·rw[h1,if_neg h2]
  rfl
theorem qr8(n:Nat)(l:List SpT)(s:Int)(hs:-256≤s∧s<256)(hL:l.length≤8):∀(j k:Nat) (m:Nat),k+j=l.length→j<m →
  qn m (qdo n) (s,(l,((l.length:Int),((k:Int),(selT l (bitB s) k,())))))=some (selT l (bitB s) l.length,()):=by
 intro j
 induction j with
 | zero =>
  intro k m hk hm
  obtain ⟨m,rfl⟩:∃j,m=j+1:=⟨m-1,by omega⟩
  rw[qx,qf1]
  simp only[show iLt (k:Int) (l.length:Int)=false from decide_eq_false (by omega),cond_false]
  rw[show l.length=k by omega]
 | succ j ih =>
  intro k m hk hm
  obtain ⟨m,rfl⟩:∃j,m=j+1:=⟨m-1,by omega⟩
  have hkl:k<l.length:=by omega
  have hlen:=qg0 l (bitB s) k
  have:=ih (k+1) m (by omega) (by omega)
  rw[qcb] at this
  rw[qx,qf1]
  simp only[show iLt (k:Int) (l.length:Int)=true from decide_eq_true (by omega),cond_true,qeI l hkl,Option.bind_some,shk k (by omega),qsW s hs k (by omega),qbT (show k<9223372036854775807 by omega),bleM (nAdd (selT l (bitB s) k).length 1) 8796093022208 (by show (selT l (bitB s) k).length+1≤_;omega)]
  rw[List.getElem?_eq_getElem hkl] at this
  cases hb:bitB s k with
  | true =>
   rw[hb] at this
   exact this
  | false =>
   rw[hb] at this
   simp only[cond_false]
   rw[show selT l (bitB s) k=selT l (bitB s) k++[] from (List.append_nil _).symm]
   exact this
theorem qtD(n:Nat)(l:List SpT)(s:Int)(hs:-256≤s∧s<256)(hL:l.length≤8)(hn:100≤n):qfn n (l,(s,()))=some (selT l (bitB s) l.length,()):=by
 have h:=qr8 n l s hs hL l.length 0 n (by omega) (by omega)
 rw[show ((0:Nat):Int)=0 from rfl] at h
 rw[qjZ]
 show Option.bind (qn n (qdo n) (s,(l,((l.length:Int),((0:Int),(selT l (bitB s) 0,())))))) _=_
 rw[h]
 rfl
def PtB(p:List SpT):Prop:=∀s,s∈p→0≤s.1∧s.1≤s.2∧s.2≤5000
noncomputable def chsB(p:List SpT)(load least:Int)(s:Nat):Bool:=decide (least≤sprV (selT (p.map (endT false)) s.testBit p.length) load)
theorem qtE(n:Nat)(l:List SpT)(limit years:Int)(s:Nat)(hs:s<256)(hb:PtB l)(hL:l.length≤8)(hn:2000≤n):qes n ((s:Int),(l,(limit,(years,()))))=some (chsB l limit years s,(l,(limit,(years,())))):=by
 have hlen:=qg0 l s.testBit l.length
 have hc:=qtD n l (s:Int) (by omega) hL (by omega)
 rw[qs2] at hc
 rw[qmq]
 simp only[hc,Option.bind_some,qnx n (selT l s.testBit l.length) (show (selT l s.testBit l.length).length≤50 by omega) (show 100≤n by omega)]
 have e:(selT l s.testBit l.length).map (·.1)=selT (l.map (endT false)) s.testBit l.length:=(qr1 (·.1) l s.testBit l.length).symm
 rw[e,qr7 n _ limit (by rw[← e,List.length_map];omega) (qoS (qg5 hb false) _ _) hn]
 rfl
theorem qxr(n:Nat)(x:List SpT×(Int×Int)):qn (n+20) (qo (n+20)) ((0:Int),((0:Int),((0:Int),(x.1,(x.2.1,(x.2.2,(List.replicate 0 (0:Int),())))))))=some ((0:Int),(x.1,(x.2.1,(x.2.2,(([]:List Int),()))))):=by kernel_rfl
theorem qxs(n:Nat)(x:List SpT×(Int×Int)):qn (n+20) (qo (n+20)) ((1:Int),((1:Int),((0:Int),(x.1,(x.2.1,(x.2.2,(List.replicate 1 (0:Int),())))))))=some ((1:Int),(x.1,(x.2.1,(x.2.2,(([0]:List Int),()))))):=by kernel_rfl
theorem qxt(n:Nat)(x:List SpT×(Int×Int)):qn (n+20) (qo (n+20)) ((2:Int),((2:Int),((0:Int),(x.1,(x.2.1,(x.2.2,(List.replicate 2 (0:Int),())))))))=some ((2:Int),(x.1,(x.2.1,(x.2.2,(([0,1]:List Int),()))))):=by kernel_rfl
theorem qxu(n:Nat)(x:List SpT×(Int×Int)):qn (n+20) (qo (n+20)) ((3:Int),((3:Int),((0:Int),(x.1,(x.2.1,(x.2.2,(List.replicate 3 (0:Int),())))))))=some ((3:Int),(x.1,(x.2.1,(x.2.2,(([0,1,2]:List Int),()))))):=by kernel_rfl
theorem qxv(n:Nat)(x:List SpT×(Int×Int)):qn (n+20) (qo (n+20)) ((4:Int),((4:Int),((0:Int),(x.1,(x.2.1,(x.2.2,(List.replicate 4 (0:Int),())))))))=some ((4:Int),(x.1,(x.2.1,(x.2.2,(([0,1,2,3]:List Int),()))))):=by kernel_rfl
theorem qxw(n:Nat)(x:List SpT×(Int×Int)):qn (n+20) (qo (n+20)) ((5:Int),((5:Int),((0:Int),(x.1,(x.2.1,(x.2.2,(List.replicate 5 (0:Int),())))))))=some ((5:Int),(x.1,(x.2.1,(x.2.2,(([0,1,2,3,4]:List Int),()))))):=by kernel_rfl
theorem qxx(n:Nat)(x:List SpT×(Int×Int)):qn (n+20) (qo (n+20)) ((6:Int),((6:Int),((0:Int),(x.1,(x.2.1,(x.2.2,(List.replicate 6 (0:Int),())))))))=some ((6:Int),(x.1,(x.2.1,(x.2.2,(([0,1,2,3,4,5]:List Int),()))))):=by kernel_rfl
theorem qxy(n:Nat)(x:List SpT×(Int×Int)):qn (n+20) (qo (n+20)) ((7:Int),((7:Int),((0:Int),(x.1,(x.2.1,(x.2.2,(List.replicate 7 (0:Int),())))))))=some ((7:Int),(x.1,(x.2.1,(x.2.2,(([0,1,2,3,4,5,6]:List Int),()))))):=by kernel_rfl
theorem qxz(n:Nat)(x:List SpT×(Int×Int)):qn (n+20) (qo (n+20)) ((8:Int),((8:Int),((0:Int),(x.1,(x.2.1,(x.2.2,(List.replicate 8 (0:Int),())))))))=some ((8:Int),(x.1,(x.2.1,(x.2.2,(([0,1,2,3,4,5,6,7]:List Int),()))))):=by kernel_rfl
theorem qv5(n:Nat)(l:List SpT)(a b:Int)(L:Nat)(hL:L≤8)(hn:20≤n):qn n (qo n) ((L:Int),((L:Int),((0:Int),(l,(a,(b,(List.replicate L (0:Int),())))))))=some ((L:Int),(l,(a,(b,(qL (List.range L),()))))):=by
 obtain ⟨m,rfl⟩:∃m,n=m+20:=⟨n-20,by omega⟩
 rcases (by omega:L=0∨L=1∨L=2∨L=3∨L=4∨L=5∨L=6∨L=7∨L=8) with rfl | rfl | rfl | rfl | rfl | rfl | rfl | rfl | rfl
 ·exact qxr m (l,(a,b))
 ·exact qxs m (l,(a,b))
 ·exact qxt m (l,(a,b))
 ·exact qxu m (l,(a,b))
 ·exact qxv m (l,(a,b))
 ·exact qxw m (l,(a,b))
 ·exact qxx m (l,(a,b))
 ·exact qxy m (l,(a,b))
 ·exact qxz m (l,(a,b))
theorem quN(n:Nat)(l:List SpT)(limit years:Int)(hb:PtB l)(hL:l.length≤8)(hn:2000≤n):∀(j s m:Nat),s+j=2 ^ l.length→j<m →
  qn m (qb3 n) (qL (List.range l.length),(qhF (qdV l.length (chsB l limit years) s),((qdV l.length (chsB l limit years) s).isSome,(((2 ^ l.length:Nat):Int),((s:Int),(l,(limit,(years,())))))))) =
   some (qhF (fewV l.length (chsB l limit years)),((fewV l.length (chsB l limit years)).isSome,(l,(limit,(years,()))))):=by
 have hpow:=qh1 hL
 intro j
 induction j with
 | zero =>
  intro s m hs hm
  obtain ⟨m,rfl⟩:∃j,m=j+1:=⟨m-1,by omega⟩
  have:s=2 ^ l.length:=by omega
  subst this
  rw[qx,qei]
  simp only[show iLt ((2 ^ l.length:Nat):Int) ((2 ^ l.length:Nat):Int)=false from decide_eq_false (by omega),cond_false]
  rfl
 | succ j ih =>
  intro s m hs hm
  obtain ⟨m,rfl⟩:∃j,m=j+1:=⟨m-1,by omega⟩
  have hs2:s<256:=by omega
  have hch:=qpA n (qL (List.range l.length)) (s:Int) (by omega) (by rw[qdy,List.length_range];exact hL) (by omega)
  rw[qdy,List.length_range,qsX _ s _ (Nat.le_refl _)] at hch
  have hp:=qtE n l limit years s hs2 hb hL hn
  have:=ih (s+1) m (by omega) (by omega)
  have hlen:(qt l.length s).length≤l.length:=by unfold qt;have:=List.length_filter_le (fun i=>s.testBit i) (List.range l.length);simpa using this
  rw[qx,qei]
  simp only[show iLt (s:Int) ((2 ^ l.length:Nat):Int)=true from decide_eq_true (by omega),cond_true,hch,Option.bind_some,hp,qbT (show s<9223372036854775807 by omega),qdy]
  have hf:qdV l.length (chsB l limit years) (s+1)=match qdV l.length (chsB l limit years) s with
   | none=>if chsB l limit years s then some (qt l.length s) else none
   | some b=>if b.length<(qt l.length s).length∨((qt l.length s).length=b.length∧0≤cmpL (qt l.length s) b) then some b else if chsB l limit years s then some (qt l.length s) else some b:=rfl
  rw[hf] at this
  generalize qdV l.length (chsB l limit years) s=o at this ⊢
  cases o with
  | none =>
   simp only[Option.isSome_none,cond_false]
   cases hx:chsB l limit years s with
   | true=>simp only[hx,if_true] at this;exact this
   | false=>simp only[hx,Bool.false_eq_true,if_false] at this;exact this
  | some b =>
   simp only[Option.isSome_some,cond_true]
   have hbl:(qhF (some b)).length=b.length:=qdy b
   rw[hbl]
   by_cases h1:b.length<(qt l.length s).length
   ·simp only[show iGt ((qt l.length s).length:Int) (b.length:Int)=true from decide_eq_true (by omega),cond_true]
    simp only[h1,true_or,if_true] at this
    exact this
   ·simp only[show iGt ((qt l.length s).length:Int) (b.length:Int)=false from decide_eq_false (by omega),cond_false]
    by_cases h2:(qt l.length s).length=b.length
    ·have hcm:=qtz n (qt l.length s) b (by omega) (by omega)
     simp only[show iEq ((qt l.length s).length:Int) (b.length:Int)=true by rw[h2];unfold iEq;simp,cond_true]
     rw[show qhF (some b)=qL b from rfl,hcm]
     simp only[Option.bind_some]
     by_cases h3:0≤cmpL (qt l.length s) b
     ·simp only[show iGe (cmpL (qt l.length s) b) 0=true from decide_eq_true h3,cond_true]
      simp only[h2,h3,and_self,or_true,if_true] at this
      exact this
     ·simp only[show iGe (cmpL (qt l.length s) b) 0=false from decide_eq_false h3,cond_false]
      simp only[h1,h2,h3,and_false,or_false,Nat.lt_irrefl,if_false] at this
      cases hx:chsB l limit years s with
      | true=>simp only[hx,if_true] at this;exact this
      | false=>simp only[hx,Bool.false_eq_true,if_false] at this;exact this
    ·simp only[show iEq ((qt l.length s).length:Int) (b.length:Int)=false by unfold iEq;simp;omega,cond_false]
     simp only[h1,h2,false_and,or_false,if_false] at this
     cases hx:chsB l limit years s with
     | true=>simp only[hx,if_true] at this;exact this
     | false=>simp only[hx,Bool.false_eq_true,if_false] at this;exact this
theorem qtF(n:Nat)(l:List SpT)(limit years:Int)(hb:PtB l)(hL:l.length≤8)(hn:2000≤n) :
  qci n ((l.length:Int),(l,(limit,(years,()))))=some (qhF (fewV l.length (chsB l limit years)),((fewV l.length (chsB l limit years)).isSome,(l,(limit,(years,()))))):=by
 obtain ⟨g1,g2,g3,g4⟩:=qwn l.length hL
 have hpow:=qh1 hL
 have h:=quN n l limit years hb hL (by omega) (2 ^ l.length) 0 n (by omega) (by omega)
 rw[show ((0:Nat):Int)=0 from rfl] at h
 have hfill:=qv5 n l limit years l.length hL (by omega)
 rw[qhx]
 simp only[g1,g2,Option.bind_some,List.length_replicate,Int.toNat_natCast,hfill,g3,g4]
 show Option.bind (qn n (qb3 n) (qL (List.range l.length),(qhF (qdV l.length (chsB l limit years) 0),((qdV l.length (chsB l limit years) 0).isSome,(((2 ^ l.length:Nat):Int),((0:Int),(l,(limit,(years,()))))))))) _=_
 rw[h]
 rfl
noncomputable def chsE(p:List SpT)(load least:Int):Int:=qeO p (qbN load 1 5000&&qbN least 0 8)
noncomputable def chsV(p:List SpT)(load least:Int):Option (List Nat):=fewV p.length (chsB p load least)
noncomputable def chsL(p:List SpT)(load least:Int):List Int:=if chsE p load least=0 then qhF (chsV p load least) else []
noncomputable def chsR(p:List SpT)(load least:Int):Int:=if chsE p load least=0 then cond (chsV p load least).isSome 0 3 else chsE p load least
theorem quO(n:Nat)(p:List SpT)(load least:Int)(hn:2000≤n):qfV n (p,(load,(least,())))=some (chsL p load least,(chsR p load least,())):=by
 rw[qn0]
 simp only[qns,Option.bind_some,qjc n p _ (show 100≤n by omega)]
 unfold chsL chsR chsE
 cases hw:qbN load 1 5000 with
 | false =>
  simp only[cond_false,Bool.false_and]
  rcases qd5 p false with ⟨_,_,h⟩ | ⟨h1,h2⟩
  ·cases h
  ·rw[h1,if_neg h2,if_neg h2];rfl
 | true =>
  simp only[cond_true,Bool.true_and]
  rcases qd5 p (qbN least 0 8) with ⟨h0,ha,hw⟩ | ⟨h1,h2⟩
  ·obtain ⟨hl,hb⟩:=qjd ha
   rw[h0]
   simp only[show iNe (0:Int) 0=false from rfl,cond_false,if_true]
   rw[qtF n p load least hb hl hn]
   simp only[Option.bind_some]
   unfold chsV
   cases fewV p.length (chsB p load least) with
   | none=>rfl
   | some b=>rfl
  ·rw[h1,if_neg h2,if_neg h2];rfl
end Go.Proofs.YtbdockhccdkdiaaGreat
