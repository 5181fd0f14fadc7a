/- Texts Dh5, Dh6 in one. -/
import Derived.Test.YtbdockhccdkdiaaGreatHa
/- Ropes: how many points may be missing: the program and the reference alike. -/
set_option linter.constructorNameAsVariable false
set_option linter.unusedSimpArgs false
set_option linter.unusedVariables false
set_option linter.unusedSectionVars false
namespace Go.Proofs.YtbdockhccdkdiaaGreat
open Go Go.Proofs Go.RowKit
set_option maxHeartbeats 1000000
theorem qxb(a b:Int):iMin a b=min a b:=by
 unfold iMin
 split<;>omega
theorem qp9{α:Type}(l:List α):selT l (fun _=>true) l.length=l:=by
 rw[qr4 l _ l.length (Nat.le_refl _) fun _ _=>rfl,List.take_length]
theorem qxc{α:Type}{l t:List α}(h:t.Sublist l):∃s:Nat,s<2 ^ l.length∧t=selT l s.testBit l.length:=by
 rw[← qp9 l] at h
 obtain ⟨q,_,hq⟩:=qp8 l (fun _=>true) l.length (Nat.le_refl _) t h
 refine ⟨qiB q l.length,qkI q _,?_⟩
 rw[hq]
 exact qgr l _ fun i hi=>(qjF q _ i hi).symm
theorem qr9{α:Type}(l:List α)(q:Nat→Bool):(selT l q l.length).Sublist l:=by
 have:=qs5 l (p:=fun _=>true) (q:=q) l.length fun _ _ _=>rfl
 rwa [qp9] at this
noncomputable def qez(l:List Int)(load:Int):Nat→Int
 | 0=>l.length
 | s+1=>if qgP (selT l s.testBit l.length) load=true then qez l load s else min (qez l load s) ((l.length:Int)-(selT l s.testBit l.length).length-1)
theorem qpF(l:List Int)(load:Int):∀s,(∀T,T<s→¬Hold (selT l T.testBit l.length) load→qez l load s+1+(selT l T.testBit l.length).length≤l.length)∧(qez l load s=l.length∨∃T,T<s∧¬Hold (selT l T.testBit l.length) load∧qez l load s+1+(selT l T.testBit l.length).length=l.length)
 | 0=>⟨fun T h=>by omega,.inl rfl⟩
 | s+1=>by
  obtain ⟨h1,h2⟩:=qpF l load s
  unfold qez
  cases hh:qgP (selT l s.testBit l.length) load with
  | true =>
   rw[qjG] at hh
   simp only[if_true]
   refine ⟨fun T hT hT2=>?_,?_⟩
   ·by_cases hTs:T=s
    ·subst hTs;exact absurd hh hT2
    ·exact h1 T (by omega) hT2
   ·rcases h2 with h2 | ⟨T,a,b,c⟩
    ·exact .inl h2
    ·exact .inr ⟨T,by omega,b,c⟩
  | false =>
   rw[qlp] at hh
   simp only[Bool.false_eq_true,if_false]
   refine ⟨fun T hT hT2=>?_,?_⟩
   ·by_cases hTs:T=s
    ·subst hTs;omega
    ·have:=h1 T (by omega) hT2;omega
   ·by_cases hm:qez l load s≤(l.length:Int)-(selT l s.testBit l.length).length-1
    ·rcases h2 with h2 | ⟨T,a,b,c⟩
     ·omega
     ·exact .inr ⟨T,by omega,b,by omega⟩
    ·exact .inr ⟨s,by omega,hh,by omega⟩
theorem qsa{α:Type}(l:List α)(k:Nat):selT l (Nat.testBit 0) k=[]:=qqK l _ k fun i _=>Nat.zero_testBit i
theorem qtN(l:List Int)(load:Int):Spr l load (qez l load (2 ^ l.length)):=by
 obtain ⟨h1,h2⟩:=qpF l load (2 ^ l.length)
 refine ⟨fun t ht hh=>?_,?_⟩
 ·obtain ⟨s,hs,rfl⟩:=qxc ht
  exact h1 s hs hh
 ·rcases h2 with h2 | ⟨T,a,b,c⟩
  ·have:=h1 0 (Nat.two_pow_pos _) (by rw[qsa];exact qkH load)
   rw[qsa] at this
   simp at this
   omega
  ·exact ⟨_,qr9 l T.testBit,b,c⟩
theorem qqN(l:List Int)(load:Int):∀s,-1≤qez l load s∧qez l load s≤l.length
 | 0=>by unfold qez;omega
 | s+1=>by
  have:=qqN l load s
  have:=qg8 l s.testBit l.length
  unfold qez
  split<;>omega
theorem qs7(s:Nat):bitB (s:Int)=s.testBit:=funext fun i=>qr1 s i
theorem qsb(n:Nat)(l:List Int)(load:Int)(hl:l.length≤8)(hb:StrB l)(hn:2000≤n):qhL n (l,(load,()))=some (sprV l load,()):=by
 obtain ⟨g1,g2,g3,g4⟩:=qwv l.length hl
 have hpow:=qjA hl
 rw[qoU]
 simp only[g3,g4,Option.bind_some]
 have:=forN (qiz n) (2 ^ l.length) (fun k=>(l,(load,(qez l load k,(((2 ^ l.length:Nat):Int),((k:Int),())))))) (some (qez l load (2 ^ l.length),())) (fun k hk rec=>by
  have hlen:=qg8 l k.testBit l.length
  have hbd:=qqN l load k
  have hc:=qpD n l (k:Int) (by omega) hl (by omega)
  rw[qs7] at hc
  rw[qjC]
  simp only[iLtN hk,cond_true,hc,Option.bind_some,qoY n (selT l k.testBit l.length) load (by omega) (qr8 hb _ _) hn,qcm (show k<9223372036854775807 by omega)]
  have e1:iW (iSub (l.length:Int) ((selT l k.testBit l.length).length:Int))=(l.length:Int)-(selT l k.testBit l.length).length:=qip (by unfold iSub;omega) (by unfold iSub;omega)
  have e2:iW (iSub ((l.length:Int)-(selT l k.testBit l.length).length) 1)=(l.length:Int)-(selT l k.testBit l.length).length-1:=qip (by unfold iSub;omega) (by unfold iSub;omega)
  rw[e1,e2,qxb]
  conv=>rhs;unfold qez
  cases qgP (selT l k.testBit l.length) load<;>simp) (fun rec=>by
   rw[qjC]
   simp only[qkg (Nat.le_refl (2 ^ l.length)),cond_false]) n (by omega)
 have e0:qez l load 0=(l.length:Int):=rfl
 rw[show ((0:Nat):Int)=0 from rfl,e0] at this
 rw[this,qs6 (qtN l load)]
 rfl
def anN(a b:Nat):Nat:=(BitVec.ofNat 64 a &&& ~~~(BitVec.ofNat 64 b)).toNat
theorem qs8(a b i:Nat)(ha:a<2 ^ 63):(anN a b).testBit i=(a.testBit i && !b.testBit i):=by
 unfold anN
 rw[BitVec.testBit_toNat,BitVec.getLsbD_and,BitVec.getLsbD_not,BitVec.getLsbD_ofNat,BitVec.getLsbD_ofNat]
 by_cases hi:i<64
 ·simp[hi]
 ·rw[Nat.testBit_lt_two_pow (Nat.lt_of_lt_of_le ha (Nat.pow_le_pow_right (by decide) (by omega)))]
  simp[hi]
theorem qxz(a b:Nat)(ha:a<2 ^ 63):anN a b≤a:=Nat.le_of_testBit fun i h=>by
 rw[qs8 a b i ha,Bool.and_eq_true] at h
 exact h.1
theorem quU(a b:Nat)(ha:a<2 ^ 63):bits .andNot .i64 (a:Int) (b:Int)=(anN a b:Int):=by
 have h:=qxz a b ha
 show IntKind.i64.wrap (((BitVec.ofInt 64 (a:Int)) &&& ~~~(BitVec.ofInt 64 (b:Int))).toNat:Int)=_
 rw[BitVec.ofInt_natCast,BitVec.ofInt_natCast]
 exact qip (by show _≤((anN a b:Nat):Int);omega) (by show ((anN a b:Nat):Int)≤_;omega)
noncomputable def sprE(p:List SpT)(load:Int):Int:=if qeW p (qbN load 1 5000)=0 then sprV (p.map (endT false)) load else 0
theorem qsc(n:Nat)(p:List SpT)(load:Int)(hn:2000≤n):qdI n (p,(load,()))=some (sprE p load,(qeW p (qbN load 1 5000),())):=by
 rw[qoV]
 simp only[qnB,Option.bind_some,qjg n p _ (show 100≤n by omega)]
 unfold sprE
 rcases qha p (qbN load 1 5000) with ⟨h0,ha,hw⟩ | ⟨h1,h2⟩
 ·obtain ⟨hl,hb⟩:=qkn ha
  rw[h0]
  simp only[show iNe (0:Int) 0=false from rfl,cond_false,qnE n p (show p.length≤50 by omega) (show 100≤n by omega),Option.bind_some,if_true]
  rw[qsb n (p.map (·.1)) load (by rw[List.length_map];omega) (qmA hb false) hn]
  rfl
 ·rw[h1,if_neg h2]
  rfl
theorem qsd(n:Nat)(l:List SpT)(s:Int)(hs:-256≤s∧s<256)(hL:l.length≤8):∀(j k:Nat) (m:Nat),k+j=l.length→j<m →
  qn m (qdD n) (s,(l,((l.length:Int),((k:Int),(selT l (bitB s) k,())))))=some (selT l (bitB s) l.length,()):=by
 intro j
 induction j with
 | zero =>
  intro k m hk hm
  obtain ⟨m,rfl⟩:∃j,m=j+1:=⟨m-1,by omega⟩
  rw[qC,qga]
  simp only[show iLt (k:Int) (l.length:Int)=false from decide_eq_false (by omega),cond_false]
  rw[show l.length=k by omega]
 | succ j ih =>
  intro k m hk hm
  obtain ⟨m,rfl⟩:∃j,m=j+1:=⟨m-1,by omega⟩
  have hkl:k<l.length:=by omega
  have hlen:=qg8 l (bitB s) k
  have:=ih (k+1) m (by omega) (by omega)
  rw[qcc] at this
  rw[qC,qga]
  simp only[show iLt (k:Int) (l.length:Int)=true from decide_eq_true (by omega),cond_true,qfQ l hkl,Option.bind_some,shk k (by omega),qs0 s hs k (by omega),qcm (show k<9223372036854775807 by omega),bleM (nAdd (selT l (bitB s) k).length 1) 8796093022208 (by show (selT l (bitB s) k).length+1≤_;omega)]
  rw[List.getElem?_eq_getElem hkl] at this
  cases hb:bitB s k with
  | true =>
   rw[hb] at this
   exact this
  | false =>
   rw[hb] at this
   simp only[cond_false]
   rw[show selT l (bitB s) k=selT l (bitB s) k++[] from (List.append_nil _).symm]
   exact this
theorem qtO(n:Nat)(l:List SpT)(s:Int)(hs:-256≤s∧s<256)(hL:l.length≤8)(hn:100≤n):qfx n (l,(s,()))=some (selT l (bitB s) l.length,()):=by
 have h:=qsd n l s hs hL l.length 0 n (by omega) (by omega)
 rw[show ((0:Nat):Int)=0 from rfl] at h
 rw[qj9]
 show Option.bind (qn n (qdD n) (s,(l,((l.length:Int),((0:Int),(selT l (bitB s) 0,())))))) _=_
 rw[h]
 rfl
def PtB(p:List SpT):Prop:=∀s,s∈p→0≤s.1∧s.1≤s.2∧s.2≤5000
noncomputable def chsB(p:List SpT)(load least:Int)(s:Nat):Bool:=decide (least≤sprV (selT (p.map (endT false)) s.testBit p.length) load)
theorem qtP(n:Nat)(l:List SpT)(limit years:Int)(s:Nat)(hs:s<256)(hb:PtB l)(hL:l.length≤8)(hn:2000≤n):qey n ((s:Int),(l,(limit,(years,()))))=some (chsB l limit years s,(l,(limit,(years,())))):=by
 have hlen:=qg8 l s.testBit l.length
 have hc:=qtO n l (s:Int) (by omega) hL (by omega)
 rw[qs7] at hc
 rw[qmy]
 simp only[hc,Option.bind_some,qnE n (selT l s.testBit l.length) (show (selT l s.testBit l.length).length≤50 by omega) (show 100≤n by omega)]
 have e:(selT l s.testBit l.length).map (·.1)=selT (l.map (endT false)) s.testBit l.length:=(qoW (·.1) l s.testBit l.length).symm
 rw[e,qsb n _ limit (by rw[← e,List.length_map];omega) (qr8 (qmA hb false) _ _) hn]
 rfl
theorem qxA(n:Nat)(x:List SpT×(Int×Int)):qn (n+20) (qp (n+20)) ((0:Int),((0:Int),((0:Int),(x.1,(x.2.1,(x.2.2,(List.replicate 0 (0:Int),())))))))=some ((0:Int),(x.1,(x.2.1,(x.2.2,(([]:List Int),()))))):=by kernel_rfl
theorem qxB(n:Nat)(x:List SpT×(Int×Int)):qn (n+20) (qp (n+20)) ((1:Int),((1:Int),((0:Int),(x.1,(x.2.1,(x.2.2,(List.replicate 1 (0:Int),())))))))=some ((1:Int),(x.1,(x.2.1,(x.2.2,(([0]:List Int),()))))):=by kernel_rfl
theorem qxC(n:Nat)(x:List SpT×(Int×Int)):qn (n+20) (qp (n+20)) ((2:Int),((2:Int),((0:Int),(x.1,(x.2.1,(x.2.2,(List.replicate 2 (0:Int),())))))))=some ((2:Int),(x.1,(x.2.1,(x.2.2,(([0,1]:List Int),()))))):=by kernel_rfl
theorem qxD(n:Nat)(x:List SpT×(Int×Int)):qn (n+20) (qp (n+20)) ((3:Int),((3:Int),((0:Int),(x.1,(x.2.1,(x.2.2,(List.replicate 3 (0:Int),())))))))=some ((3:Int),(x.1,(x.2.1,(x.2.2,(([0,1,2]:List Int),()))))):=by kernel_rfl
theorem qxE(n:Nat)(x:List SpT×(Int×Int)):qn (n+20) (qp (n+20)) ((4:Int),((4:Int),((0:Int),(x.1,(x.2.1,(x.2.2,(List.replicate 4 (0:Int),())))))))=some ((4:Int),(x.1,(x.2.1,(x.2.2,(([0,1,2,3]:List Int),()))))):=by kernel_rfl
theorem qxF(n:Nat)(x:List SpT×(Int×Int)):qn (n+20) (qp (n+20)) ((5:Int),((5:Int),((0:Int),(x.1,(x.2.1,(x.2.2,(List.replicate 5 (0:Int),())))))))=some ((5:Int),(x.1,(x.2.1,(x.2.2,(([0,1,2,3,4]:List Int),()))))):=by kernel_rfl
theorem qxG(n:Nat)(x:List SpT×(Int×Int)):qn (n+20) (qp (n+20)) ((6:Int),((6:Int),((0:Int),(x.1,(x.2.1,(x.2.2,(List.replicate 6 (0:Int),())))))))=some ((6:Int),(x.1,(x.2.1,(x.2.2,(([0,1,2,3,4,5]:List Int),()))))):=by kernel_rfl
theorem qxH(n:Nat)(x:List SpT×(Int×Int)):qn (n+20) (qp (n+20)) ((7:Int),((7:Int),((0:Int),(x.1,(x.2.1,(x.2.2,(List.replicate 7 (0:Int),())))))))=some ((7:Int),(x.1,(x.2.1,(x.2.2,(([0,1,2,3,4,5,6]:List Int),()))))):=by kernel_rfl
theorem qxI(n:Nat)(x:List SpT×(Int×Int)):qn (n+20) (qp (n+20)) ((8:Int),((8:Int),((0:Int),(x.1,(x.2.1,(x.2.2,(List.replicate 8 (0:Int),())))))))=some ((8:Int),(x.1,(x.2.1,(x.2.2,(([0,1,2,3,4,5,6,7]:List Int),()))))):=by kernel_rfl
theorem qwc(n:Nat)(l:List SpT)(a b:Int)(L:Nat)(hL:L≤8)(hn:20≤n):qn n (qp n) ((L:Int),((L:Int),((0:Int),(l,(a,(b,(List.replicate L (0:Int),())))))))=some ((L:Int),(l,(a,(b,(qbO (List.range L),()))))):=by
 obtain ⟨m,rfl⟩:∃m,n=m+20:=⟨n-20,by omega⟩
 rcases (by omega:L=0∨L=1∨L=2∨L=3∨L=4∨L=5∨L=6∨L=7∨L=8) with rfl | rfl | rfl | rfl | rfl | rfl | rfl | rfl | rfl
 ·exact qxA m (l,(a,b))
 ·exact qxB m (l,(a,b))
 ·exact qxC m (l,(a,b))
 ·exact qxD m (l,(a,b))
 ·exact qxE m (l,(a,b))
 ·exact qxF m (l,(a,b))
 ·exact qxG m (l,(a,b))
 ·exact qxH m (l,(a,b))
 ·exact qxI m (l,(a,b))
theorem quV(n:Nat)(l:List SpT)(limit years:Int)(hb:PtB l)(hL:l.length≤8)(hn:2000≤n):∀(j s m:Nat),s+j=2 ^ l.length→j<m →
  qn m (qb3 n) (qbO (List.range l.length),(qlb (qfL l.length (chsB l limit years) s),((qfL l.length (chsB l limit years) s).isSome,(((2 ^ l.length:Nat):Int),((s:Int),(l,(limit,(years,())))))))) =
   some (qlb (fewV l.length (chsB l limit years)),((fewV l.length (chsB l limit years)).isSome,(l,(limit,(years,()))))):=by
 have hpow:=qjA hL
 intro j
 induction j with
 | zero =>
  intro s m hs hm
  obtain ⟨m,rfl⟩:∃j,m=j+1:=⟨m-1,by omega⟩
  have:s=2 ^ l.length:=by omega
  subst this
  rw[qC,qeo]
  simp only[show iLt ((2 ^ l.length:Nat):Int) ((2 ^ l.length:Nat):Int)=false from decide_eq_false (by omega),cond_false]
  rfl
 | succ j ih =>
  intro s m hs hm
  obtain ⟨m,rfl⟩:∃j,m=j+1:=⟨m-1,by omega⟩
  have hs2:s<256:=by omega
  have hch:=qpD n (qbO (List.range l.length)) (s:Int) (by omega) (by rw[qeH,List.length_range];exact hL) (by omega)
  rw[qeH,List.length_range,qs1 _ s _ (Nat.le_refl _)] at hch
  have hp:=qtP n l limit years s hs2 hb hL hn
  have:=ih (s+1) m (by omega) (by omega)
  have hlen:(qo l.length s).length≤l.length:=by unfold qo;have:=List.length_filter_le (fun i=>s.testBit i) (List.range l.length);simpa using this
  rw[qC,qeo]
  simp only[show iLt (s:Int) ((2 ^ l.length:Nat):Int)=true from decide_eq_true (by omega),cond_true,hch,Option.bind_some,hp,qcm (show s<9223372036854775807 by omega),qeH]
  have hf:qfL l.length (chsB l limit years) (s+1)=match qfL l.length (chsB l limit years) s with
   | none=>if chsB l limit years s then some (qo l.length s) else none
   | some b=>if b.length<(qo l.length s).length∨((qo l.length s).length=b.length∧0≤cmpL (qo l.length s) b) then some b else if chsB l limit years s then some (qo l.length s) else some b:=rfl
  rw[hf] at this
  generalize qfL l.length (chsB l limit years) s=o at this ⊢
  cases o with
  | none =>
   simp only[Option.isSome_none,cond_false]
   cases hx:chsB l limit years s with
   | true=>simp only[hx,if_true] at this;exact this
   | false=>simp only[hx,Bool.false_eq_true,if_false] at this;exact this
  | some b =>
   simp only[Option.isSome_some,cond_true]
   have hbl:(qlb (some b)).length=b.length:=qeH b
   rw[hbl]
   by_cases h1:b.length<(qo l.length s).length
   ·simp only[show iGt ((qo l.length s).length:Int) (b.length:Int)=true from decide_eq_true (by omega),cond_true]
    simp only[h1,true_or,if_true] at this
    exact this
   ·simp only[show iGt ((qo l.length s).length:Int) (b.length:Int)=false from decide_eq_false (by omega),cond_false]
    by_cases h2:(qo l.length s).length=b.length
    ·have hcm:=qtJ n (qo l.length s) b (by omega) (by omega)
     simp only[show iEq ((qo l.length s).length:Int) (b.length:Int)=true by rw[h2];unfold iEq;simp,cond_true]
     rw[show qlb (some b)=qbO b from rfl,hcm]
     simp only[Option.bind_some]
     by_cases h3:0≤cmpL (qo l.length s) b
     ·simp only[show iGe (cmpL (qo l.length s) b) 0=true from decide_eq_true h3,cond_true]
      simp only[h2,h3,and_self,or_true,if_true] at this
      exact this
     ·simp only[show iGe (cmpL (qo l.length s) b) 0=false from decide_eq_false h3,cond_false]
      simp only[h1,h2,h3,and_false,or_false,Nat.lt_irrefl,if_false] at this
      cases hx:chsB l limit years s with
      | true=>simp only[hx,if_true] at this;exact this
      | false=>simp only[hx,Bool.false_eq_true,if_false] at this;exact this
    ·simp only[show iEq ((qo l.length s).length:Int) (b.length:Int)=false by unfold iEq;simp;omega,cond_false]
     simp only[h1,h2,false_and,or_false,if_false] at this
     cases hx:chsB l limit years s with
     | true=>simp only[hx,if_true] at this;exact this
     | false=>simp only[hx,Bool.false_eq_true,if_false] at this;exact this
theorem qtQ(n:Nat)(l:List SpT)(limit years:Int)(hb:PtB l)(hL:l.length≤8)(hn:2000≤n) :
  qcj n ((l.length:Int),(l,(limit,(years,()))))=some (qlb (fewV l.length (chsB l limit years)),((fewV l.length (chsB l limit years)).isSome,(l,(limit,(years,()))))):=by
 obtain ⟨g1,g2,g3,g4⟩:=qwv l.length hL
 have hpow:=qjA hL
 have h:=quV n l limit years hb hL (by omega) (2 ^ l.length) 0 n (by omega) (by omega)
 rw[show ((0:Nat):Int)=0 from rfl] at h
 have hfill:=qwc n l limit years l.length hL (by omega)
 rw[qhG]
 simp only[g1,g2,Option.bind_some,List.length_replicate,Int.toNat_natCast,hfill,g3,g4]
 show Option.bind (qn n (qb3 n) (qbO (List.range l.length),(qlb (qfL l.length (chsB l limit years) 0),((qfL l.length (chsB l limit years) 0).isSome,(((2 ^ l.length:Nat):Int),((0:Int),(l,(limit,(years,()))))))))) _=_
 rw[h]
 rfl
noncomputable def chsE(p:List SpT)(load least:Int):Int:=qeW p (qbN load 1 5000&&qbN least 0 8)
noncomputable def chsV(p:List SpT)(load least:Int):Option (List Nat):=fewV p.length (chsB p load least)
noncomputable def chsL(p:List SpT)(load least:Int):List Int:=if chsE p load least=0 then qlb (chsV p load least) else []
noncomputable def chsR(p:List SpT)(load least:Int):Int:=if chsE p load least=0 then cond (chsV p load least).isSome 0 3 else chsE p load least
theorem quW(n:Nat)(p:List SpT)(load least:Int)(hn:2000≤n):qje n (p,(load,(least,())))=some (chsL p load least,(chsR p load least,())):=by
 rw[qn8]
 simp only[qnB,Option.bind_some,qjg n p _ (show 100≤n by omega)]
 unfold chsL chsR chsE
 cases hw:qbN load 1 5000 with
 | false =>
  simp only[cond_false,Bool.false_and]
  rcases qha p false with ⟨_,_,h⟩ | ⟨h1,h2⟩
  ·cases h
  ·rw[h1,if_neg h2,if_neg h2];rfl
 | true =>
  simp only[cond_true,Bool.true_and]
  rcases qha p (qbN least 0 8) with ⟨h0,ha,hw⟩ | ⟨h1,h2⟩
  ·obtain ⟨hl,hb⟩:=qkn ha
   rw[h0]
   simp only[show iNe (0:Int) 0=false from rfl,cond_false,if_true]
   rw[qtQ n p load least hb hl hn]
   simp only[Option.bind_some]
   unfold chsV
   cases fewV p.length (chsB p load least) with
   | none=>rfl
   | some b=>rfl
  ·rw[h1,if_neg h2,if_neg h2];rfl
end Go.Proofs.YtbdockhccdkdiaaGreat
