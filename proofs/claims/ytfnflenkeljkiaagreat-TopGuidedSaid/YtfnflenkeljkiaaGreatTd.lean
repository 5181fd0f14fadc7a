/- Texts Dt7, Dt8 in one. -/
import Derived.Test.YtfnflenkeljkiaaGreatTc
import Derived.Test.YtfnflenkeljkiaaGreatQe
/- Ropes: the fewest guides, of the reference and of the program. -/
set_option linter.constructorNameAsVariable false
set_option linter.unusedSimpArgs false
set_option linter.unusedVariables false
set_option linter.unusedSectionVars false
namespace Go.Proofs.YtfnflenkeljkiaaGreat
open Go Go.Proofs Go.RowKit
set_option maxHeartbeats 1000000
def qBe(n:Nat)(o:qz)(e:List Nat):Prop:=∃rep,RopedOk o (cnts (tO n o) e) rep
theorem qAk(n:Nat)(o:qz)(hk:Okay9 o)(hn:2000≤n):TmOk n (qgD o):=by
 obtain ⟨_,_,o3,o4,o5,o6,_,_⟩:=hk.oth'
 exact qzI n hn (qgD o) o3 o5 o6 (fun z hz=>(o4 z hz).2) (fun f hf=>qoU o f hf)
theorem qAQ(n:Nat)(o:qz)(hk:Okay9 o)(hn:2000≤n)(e:List Nat)(he:e.length=o.2.2.2.2.1.length):(∀rep,(tO n o).rop (cnts (tO n o) e)=some rep→RopedOk o (cnts (tO n o) e) rep)∧(qBe n o e→∃rep,(tO n o).rop (cnts (tO n o) e)=some rep):=by
 obtain ⟨_,_,_,_,o5,_⟩:=hk.oth'
 exact qAM n o (cnts (tO n o) e) hk (qoV _ _) (qAj n o e (by omega)) hn
theorem qp6(n:Nat)(o:qz)(hk:Okay9 o)(hn:2000≤n)(e:List Nat×List Int)(h:e∈qdI (tO n o)):Good (tO n o) e.1∧RopedOk o (cnts (tO n o) e.1) e.2:=by
 obtain ⟨h1,h2⟩:=(qwF _ _).1 h
 exact ⟨h1,(qAQ n o hk hn e.1 h1.1).1 e.2 h2⟩
theorem qg0{α β:Type}{x:Option α}{a:α}{f:α→Option β}(h:x=some a):x.bind f=f a:=by rw[h];rfl
theorem qzl(n:Nat)(o:qz)(hs:qoS o)(hc:chkE o=0)(hn:2000≤n):qd1 n (o,())=some (Sum.inl (qgD o,(0,()))):=by
 rw[qsj n o hs hn,if_pos hc]
 rfl
theorem qvs(n:Nat)(a:Int)(l:List Int):qge n ((a::l:List Int),())=Option.bind (qdo (Nat.ble (nAdd (0:Nat) (List.length (a::l))) 17592186044416)) fun _=>(some ((List.append [] (a::l)),())):=by kernel_rfl
theorem qxN(n:Nat):qgf n ([],())=some ([],()):=by kernel_rfl
theorem qxO(n:Nat)(a:Int)(l:List Int):qgf n (a::l,())=qge n ((a::l:List Int),()):=by kernel_rfl
theorem qxP(n:Nat)(l:List Int)(hl:l.length≤1000):qgf n (l,())=some (l,()):=by
 cases l with
 | nil=>exact qxN n
 | cons a l =>
  rw[qxO]
  refine (qvs n a l).trans ?_
  rw[bleT (nAdd (0:Nat) (List.length (a::l))) 17592186044416 (Nat.le_trans (Nat.le_of_eq (Nat.zero_add _)) (Nat.le_trans hl (by decide)))]
  rfl
theorem qzm(n:Nat)(o:qz)(hs:qoS o)(hn:2000≤n):(chkE o≠0∧qhM n (o,())=some ([],([],(chkE o,()))))∨(chkE o=0∧qdI (tO n o)=[]∧qhM n (o,())=some ([],([],(3,()))))∨(chkE o=0∧∃e,e∈qdI (tO n o)∧qhM n (o,())=some (nI e.1,(e.2,(0,())))):=by
 rw[qrv]
 by_cases hc:chkE o=0
 ·right
  rw[qzl n o hs hc hn]
  have hk:=qp3 hc
  have htg:qpU n (qgD o)=some ((qdI (tO n o)).map fun e=>(e.1.map fun g:Nat=>(g:Int),(e.2,()))):=by
   unfold qpU
   rw[qtA (qAk n o hk hn)]
   rfl
  obtain ⟨_,_,_,_,o5,_⟩:=hk.oth'
  simp only[Option.bind_some,Sum.elim_inl,show iNe (0:Int) 0=false from rfl,cond_false,qiz]
  cases hT:qdI (tO n o) with
  | nil =>
   rw[hT] at htg
   refine .inl ⟨hc,rfl,(qg0 htg).trans ?_⟩
   exact (qg0 (show rgF (qgC n) [] (([]:List Int),(([]:List Int),((0:Int),())))=some (Sum.inl (([]:List Int),(([]:List Int),((0:Int),())))) from rfl)).trans rfl
  | cons e L =>
   have he:e∈qdI (tO n o):=by rw[hT];exact List.mem_cons_self
   refine .inr ⟨hc,e,List.mem_cons_self,?_⟩
   have hlen:(e.1.map fun g:Nat=>(g:Int)).length≤1000:=by
    rw[List.length_map,(qp6 n o hk hn e he).1.1,qzJ];omega
   have hst:∀rec,qgC n rec (([]:List Int),(([]:List Int),((0:Int),()))) (e.1.map (fun g:Nat=>(g:Int)),(e.2,()))=some (Sum.inr (nI e.1,(e.2,((0:Int),())))):=fun rec=>by
    rw[qpY]
    simp only[qxP n (e.1.map fun g:Nat=>(g:Int)) hlen,Option.bind_some]
    rfl
   rw[hT] at htg
   refine (qg0 htg).trans ?_
   exact (qg0 (hst (rgF (qgC n) (L.map fun e=>(e.1.map fun g:Nat=>(g:Int),(e.2,())))))).trans rfl
 ·left
  rw[qsj n o hs hn,if_neg hc]
  refine ⟨hc,?_⟩
  simp only[Option.bind_some,Sum.elim_inr]
  rw[show iNe (chkE o) 0=true by unfold iNe;simp[hc]]
  rfl
theorem qAl{len k:Nat}(h:k≤len):cutO len (k:Int)=some k:=by
 unfold cutO
 rw[if_pos ⟨by omega,by omega⟩,Int.toNat_natCast]
def qxQ(n:Nat)(o:qz)(gs' own:List Int):Prop:=∃gs:List Nat,gs'=nI gs∧Good (tO n o) gs∧RopedOk o (cnts (tO n o) gs) own
def qoX(o:qz)(gs:List Nat)(own:List Int)(g:Nat):Bool :=
 cond (decide (ldC gs g gs.length=0)) (decide (atI own g = -1)) (ql1 o g&&((match o.2.2.2.1[g]? with
  | some z=>decide (ldP o.2.2.2.2.1 gs g gs.length≤z.2.2)
  | none=>false)&&(qc (atI own g) 0 ((o.2.2.2.2.2.2.length:Int)-1)&&(!decide (atI own g∈own.take g)&&qlp o (atI own g).toNat (ldC gs g gs.length)))))
theorem qxR{n:Nat}{o:qz}{gs:List Nat}{own:List Int}(hk:Okay9 o)(hl:gs.length=o.2.2.2.2.1.length)(hg:∀g,g∈gs→g<o.2.2.2.1.length)(ho:own.length=o.2.2.2.1.length):(List.range own.length).all (qoX o gs own)=true↔Good (tO n o) gs∧RopedOk o (cnts (tO n o) gs) own:=by
 obtain ⟨_,o2,o3,o4,o5,o6,o7,_⟩:=hk.oth'
 have hC:∀c,c∈(tO n o).clients→0≤c:=fun c hc=>by have:=o6 c hc;omega
 rw[qrx hC,List.all_eq_true,qzJ,tO_G,ho]
 have hat:∀g,g<o.2.2.2.1.length→own[g]?=some (atI own g):=fun g h=>(qer (by omega)).1
 have hin:∀g h,h<g→g<o.2.2.2.1.length→atI own h∈own.take g:=fun g h a b=>by
  rw[List.mem_take_iff_getElem]
  exact ⟨h,by omega,(qer (show h<own.length by omega)).2⟩
 constructor
 ·intro h
  have h:∀g,g<o.2.2.2.1.length→qoX o gs own g=true:=fun g hg=>h g (List.mem_range.2 hg)
  have use:∀g,g<o.2.2.2.1.length→0<ldC gs g gs.length→ql1 o g=true∧(∃hh:g<o.2.2.2.1.length,ldP o.2.2.2.2.1 gs g gs.length≤o.2.2.2.1[g].2.2)∧(0≤atI own g∧atI own g≤(o.2.2.2.2.2.2.length:Int)-1)∧¬atI own g∈own.take g∧qlp o (atI own g).toNat (ldC gs g gs.length)=true:=fun g hg hp=>by
   have:=h g hg
   unfold qoX at this
   rw[decide_eq_false (by omega:¬ldC gs g gs.length=0),List.getElem?_eq_getElem hg] at this
   simp only[cond_false,Bool.and_eq_true,decide_eq_true_eq,qy,Bool.not_eq_true',decide_eq_false_iff_not] at this
   exact ⟨this.1,⟨hg,this.2.1⟩,this.2.2.1,this.2.2.2.1,this.2.2.2.2⟩
  refine ⟨⟨hl,hg,fun g hg hp=>?_⟩,ho,fun g hg h0=>?_,fun g hg hp=>?_,fun g g' hg hg' hp hp' he=>?_⟩
  ·obtain ⟨a,⟨_,b⟩,_⟩:=use g hg hp
   rw[qsW n o hg,qxL n o hg]
   exact ⟨a,b⟩
  ·rw[qga n o gs hg] at h0
   have:=h g hg
   unfold qoX at this
   rw[h0] at this
   have:atI own g = -1:=of_decide_eq_true this
   rw[hat g hg,this]
  ·rw[qga n o gs hg] at hp ⊢
   obtain ⟨_,_,c,_,e⟩:=use g hg hp
   obtain ⟨x,y⟩:=qtH.1 e
   exact ⟨(atI own g).toNat,by rw[hat g hg];congr 1;omega,x,y⟩
  ·rw[qga n o gs hg] at hp
   rw[qga n o gs hg'] at hp'
   rw[hat g hg,hat g' hg'] at he
   injection he with he
   rcases Nat.lt_trichotomy g g' with hlt | heq | hlt
   ·exact absurd (by rw[← he];exact hin g' g hlt hg') (use g' hg' hp').2.2.2.1
   ·exact heq
   ·exact absurd (by rw[he];exact hin g g' hlt hg) (use g hg hp).2.2.2.1
 ·rintro ⟨⟨_,_,h3⟩,h4⟩ g hg
  rw[List.mem_range] at hg
  unfold qoX
  have hb:=(qlo gs g gs.length).1
  by_cases h0:ldC gs g gs.length=0
  ·have:=h4.no g hg (by rw[qga n o gs hg];exact h0)
   rw[hat g hg] at this
   injection this with this
   rw[decide_eq_true h0,decide_eq_true this]
   rfl
  ·have hp:0<ldC gs g gs.length:=by omega
   obtain ⟨a,b⟩:=h3 g hg hp
   rw[qsW n o hg] at a
   rw[qxL n o hg] at b
   obtain ⟨r,c,d,e⟩:=h4.yes g hg (by rw[qga n o gs hg];exact hp)
   rw[qga n o gs hg] at e
   rw[hat g hg] at c
   injection c with c
   have hr:=d.1
   have hs:qlp o (atI own g).toNat (ldC gs g gs.length)=true:=by
    rw[qtH,c,Int.toNat_natCast]
    exact ⟨d,e⟩
   have hn:¬atI own g∈own.take g:=fun hm=>by
    rw[List.mem_take_iff_getElem] at hm
    obtain ⟨i,hi,he⟩:=hm
    have hig:i<g:=by omega
    have hi2:i<o.2.2.2.1.length:=by omega
    have hei:atI own i=atI own g:=by rw[← (qer (show i<own.length by omega)).2];exact he
    have hbi:=(qlo gs i gs.length).1
    by_cases hi0:ldC gs i gs.length=0
    ·have:=h4.no i hi2 (by rw[qga n o gs hi2];exact hi0)
     rw[hat i hi2] at this
     injection this with this
     omega
    ·have:=h4.own i g hi2 hg (by rw[qga n o gs hi2];omega) (by rw[qga n o gs hg];exact hp) (by rw[hat i hi2,hat g hg,hei])
     omega
   rw[decide_eq_false h0,List.getElem?_eq_getElem hg,a,decide_eq_false hn,hs,qy.2 (show 0≤atI own g∧atI own g≤(o.2.2.2.2.2.2.length:Int)-1 by omega)]
   simp only[cond_false,Bool.true_and,Bool.not_false,Bool.and_true,decide_eq_true_eq]
   exact b
theorem qvt(n:Nat)(o:qz)(gs' own:List Int)(hk:Okay9 o)(hn:2000≤n):∃b,qgm n (o,(gs',(own,())))=some (b,())∧(b=true↔qxQ n o gs' own):=by
 obtain ⟨_,o2,o3,o4,o5,o6,o7,_⟩:=hk.oth'
 have hC:∀c,c∈o.2.2.2.2.1→0≤c∧c≤20:=fun c hc=>by have:=o6 c hc;omega
 rw[qlw]
 by_cases hl:gs'.length=o.2.2.2.2.1.length
 rotate_left
 ·rw[show iNe (gs'.length:Int) (o.2.2.2.2.1.length:Int)=true by unfold iNe;simp;omega]
  refine ⟨false,rfl,fun h=>(by cases h),fun⟨gs,h1,h2,_⟩=>?_⟩
  rw[h1,qu0] at hl
  exact absurd h2.1 hl
 by_cases ho:own.length=o.2.2.2.1.length
 rotate_left
 ·rw[show iNe (gs'.length:Int) (o.2.2.2.2.1.length:Int)=false by rw[hl];unfold iNe;simp,show iNe (own.length:Int) (o.2.2.2.1.length:Int)=true by unfold iNe;simp;omega]
  exact ⟨false,rfl,fun h=>(by cases h),fun⟨gs,h1,h2,h3⟩=>absurd h3.len ho⟩
 rw[show iNe (gs'.length:Int) (o.2.2.2.2.1.length:Int)=false by rw[hl];unfold iNe;simp,show iNe (own.length:Int) (o.2.2.2.1.length:Int)=false by rw[ho];unfold iNe;simp]
 simp only[cond_false]
 have l0:=qgZ (qfM n) gs' (fun x=>qc x 0 ((o.2.2.2.1.length:Int)-1)) (fun k=>(gs',(own,((k:Int),(o,()))))) (some (Sum.inl (gs',(own,(o,()))))) (fun _=>some (Sum.inr (false,()))) (fun k hkl rec=>by
  rw[qhc]
  simp only[iLtN hkl,cond_true,qr gs' hkl,Option.bind_some,qfJ,show iW (iSub (o.2.2.2.1.length:Int) 1)=(o.2.2.2.1.length:Int)-1 from qfF (by unfold iSub;omega) (by unfold iSub;omega),qQ (show k<9223372036854775807 by omega)]
  cases qc gs'[k] 0 ((o.2.2.2.1.length:Int)-1)<;>rfl) (fun rec=>by
   rw[qhc]
   simp only[qcu (Nat.le_refl gs'.length),cond_false]) n (by omega)
 rw[show ((0:Nat):Int)=0 from rfl] at l0
 rcases l0 with ⟨a0,b0⟩ | ⟨a0,k,_,b0⟩
 rotate_left
 ·rw[b0]
  refine ⟨false,rfl,fun h=>(by cases h),fun⟨gs,h1,h2,h3⟩=>?_⟩
  have hgl:=((qrx (fun c hc=>by have:=o6 c hc;omega)).1 h2).2.1
  have:gs'.all (fun x=>qc x 0 ((o.2.2.2.1.length:Int)-1))=true:=by
   rw[List.all_eq_true,h1]
   intro x hx
   unfold nI at hx
   obtain ⟨g,hg,rfl⟩:=List.mem_map.1 hx
   have:=hgl g hg
   rw[tO_G] at this
   exact qy.2 ⟨by omega,by omega⟩
  rw[this] at a0
  cases a0
 rw[b0]
 simp only[Option.bind_some,Sum.elim_inl]
 have hall:∀x,x∈gs'→0≤x∧x≤(o.2.2.2.1.length:Int)-1:=fun x hx=>qy.1 (List.all_eq_true.1 a0 x hx)
 obtain ⟨gs,hgs⟩:∃gs,gs=gs'.map Int.toNat:=⟨_,rfl⟩
 have he:gs'=nI gs:=by
  rw[hgs]
  unfold nI
  rw[List.map_map]
  conv=>lhs;rw[← List.map_id gs']
  refine List.map_congr_left fun x hx=>?_
  have:=hall x hx
  show x=((x.toNat:Nat):Int)
  omega
 have hgl:gs.length=o.2.2.2.2.1.length:=by rw[hgs,List.length_map];exact hl
 have hgr:∀g,g∈gs→g<o.2.2.2.1.length:=fun g hg=>by
  have:=hall (g:Int) (by rw[he];exact (qAO gs g).2 hg)
  omega
 clear hgs
 subst he
 have l1:=qoQ (qfN n) own.length (fun g=>(nI gs,(own,((g:Int),(o,()))))) (qoX o gs own) (some (Sum.inl ())) (fun _=>some (Sum.inr (false,()))) (fun g hg _ rec=>by
  have hgG:g<o.2.2.2.1.length:=by omega
  have hb:=qlo gs g gs.length
  have hat:lat own (g:Int)=some (atI own g):=by rw[qr own hg,(qer hg).2]
  rw[qhd]
  simp only[iLtN hg,cond_true,qAi n o gs g hC (show gs.length≤o.2.2.2.2.1.length by omega) (show gs.length≤50 by omega) (show 100≤n by omega),Option.bind_some,hat,qQ (show g<9223372036854775807 by omega)]
  unfold qoX
  by_cases h0:ldC gs g gs.length=0
  ·rw[h0]
   simp only[show iEq (0:Int) 0=true from rfl,cond_true,decide_true]
   have e:iNe (atI own g) (Int.negSucc 0) = !decide (atI own g = -1):=by unfold iNe;rw[Bool.eq_iff_iff];simp
   rw[e]
   cases decide (atI own g = -1)<;>rfl
  ·rw[show iEq (ldC gs g gs.length) 0=false from beq_eq_false_iff_ne.2 h0,decide_eq_false h0,List.getElem?_eq_getElem hgG]
   simp only[cond_false,qxJ n o g hgG,qr o.2.2.2.1 hgG,Option.bind_some,qfJ,show iW (iSub (o.2.2.2.2.2.2.length:Int) 1)=(o.2.2.2.2.2.2.length:Int)-1 from qfF (by unfold iSub;omega) (by unfold iSub;omega),qAl (show g≤own.length by omega),qAP n (own.take g) (atI own g) (show (own.take g).length≤50 by rw[List.length_take];omega) (show 100≤n by omega)]
   have e:iGt (ldP o.2.2.2.2.1 gs g gs.length) o.2.2.2.1[g].2.2 = !decide (ldP o.2.2.2.2.1 gs g gs.length≤o.2.2.2.1[g].2.2):=by
    rw[Bool.eq_iff_iff,Bool.not_eq_true',decide_eq_false_iff_not];show decide (ldP o.2.2.2.2.1 gs g gs.length>o.2.2.2.1[g].2.2)=true↔_;rw[decide_eq_true_eq];omega
   rw[e]
   cases ql1 o g
   ·rfl
   cases decide (ldP o.2.2.2.2.1 gs g gs.length≤o.2.2.2.1[g].2.2)
   ·rfl
   cases hwi:qc (atI own g) 0 ((o.2.2.2.2.2.2.length:Int)-1)
   ·rfl
   cases decide (atI own g∈own.take g)
   rotate_left
   ·rfl
   have hw:=qy.1 hwi
   have hse:=qxM n o (atI own g).toNat (ldC gs g gs.length) hk (by omega) (by omega) (show 100≤n by omega)
   rw[show (((atI own g).toNat:Nat):Int)=atI own g by omega] at hse
   simp only[hse,Option.bind_some,Bool.not_true,cond_false,Bool.not_false,Bool.true_and,cond_true]
   cases qlp o (atI own g).toNat (ldC gs g gs.length)<;>rfl) (fun _ rec=>by
   rw[qhd]
   simp only[qcu (Nat.le_refl own.length),cond_false]) n (by omega)
 rw[show ((0:Nat):Int)=0 from rfl] at l1
 have key:=qxR (n:=n) hk hgl hgr ho
 have hP:qxQ n o (nI gs) own↔Good (tO n o) gs∧RopedOk o (cnts (tO n o) gs) own:=by
  constructor
  ·rintro ⟨hs,h1,h2⟩
   have:gs=hs:=by
    unfold nI at h1
    exact List.map_inj_right (f:=fun g:Nat=>(g:Int)) (fun a b h=>by have h:(a:Int)=(b:Int):=h;omega) |>.1 h1
   rw[this]
   exact h2
  ·intro h;exact ⟨gs,rfl,h⟩
 rcases l1 with ⟨a1,b1⟩ | ⟨a1,k,_,b1⟩
 ·rw[b1]
  exact ⟨true,rfl,fun _=>hP.2 (key.1 a1),fun _=>rfl⟩
 ·rw[b1]
  refine ⟨false,rfl,fun h=>(by cases h),fun h=>?_⟩
  rw[key.2 (hP.1 h)] at a1
  cases a1
theorem qAR(n:Nat)(o:qz)(hn:2000≤n):∃b,qiF n (o,())=some (b,())∧(b=false→qoS o):=by
 rw[qn3]
 by_cases h1:o.2.2.2.1.length≤20
 rotate_left
 ·rw[show iGt (o.2.2.2.1.length:Int) 20=true from decide_eq_true (by omega)]
  exact ⟨true,rfl,fun h=>by cases h⟩
 by_cases h2:o.2.2.2.2.1.length≤20
 rotate_left
 ·rw[show iGt (o.2.2.2.1.length:Int) 20=false from decide_eq_false (by omega),show iGt (o.2.2.2.2.1.length:Int) 20=true from decide_eq_true (by omega)]
  exact ⟨true,rfl,fun h=>by cases h⟩
 by_cases h3:o.2.2.2.2.2.2.length≤20
 rotate_left
 ·rw[show iGt (o.2.2.2.1.length:Int) 20=false from decide_eq_false (by omega),show iGt (o.2.2.2.2.1.length:Int) 20=false from decide_eq_false (by omega),show iGt (o.2.2.2.2.2.2.length:Int) 20=true from decide_eq_true (by omega)]
  exact ⟨true,rfl,fun h=>by cases h⟩
 by_cases h4:o.2.2.2.2.2.1.2.2.2.length≤20
 rotate_left
 ·rw[show iGt (o.2.2.2.1.length:Int) 20=false from decide_eq_false (by omega),show iGt (o.2.2.2.2.1.length:Int) 20=false from decide_eq_false (by omega),show iGt (o.2.2.2.2.2.2.length:Int) 20=false from decide_eq_false (by omega),show iGt (o.2.2.2.2.2.1.2.2.2.length:Int) 20=true from decide_eq_true (by omega)]
  exact ⟨true,rfl,fun h=>by cases h⟩
 simp only[show iGt (o.2.2.2.1.length:Int) 20=false from decide_eq_false (by omega),show iGt (o.2.2.2.2.1.length:Int) 20=false from decide_eq_false (by omega),show iGt (o.2.2.2.2.2.2.length:Int) 20=false from decide_eq_false (by omega),show iGt (o.2.2.2.2.2.1.2.2.2.length:Int) 20=false from decide_eq_false (by omega),cond_false]
 have l0:=qgZ (qhA n) o.2.2.2.2.2.2 (fun r=>!(iGt (o.2.2.2.2.2.1.2.2.2.length:Int) 8||iGt (r.2.2.2.length:Int) 12)) (fun k=>((k:Int),(o,()))) (some (Sum.inl (o,()))) (fun _=>some (Sum.inr (true,()))) (fun k hk rec=>by
  rw[qi3]
  simp only[iLtN hk,cond_true,qr o.2.2.2.2.2.2 hk,Option.bind_some,qlZ,qQ (show k<9223372036854775807 by omega)]
  cases iGt (o.2.2.2.2.2.1.2.2.2.length:Int) 8<;>cases iGt (o.2.2.2.2.2.2[k].2.2.2.length:Int) 12<;>rfl) (fun rec=>by
   rw[qi3]
   simp only[qcu (Nat.le_refl o.2.2.2.2.2.2.length),cond_false]) n (by omega)
 rw[show ((0:Nat):Int)=0 from rfl] at l0
 rcases l0 with ⟨a0,b0⟩ | ⟨a0,k,_,b0⟩
 rotate_left
 ·rw[b0]
  exact ⟨true,rfl,fun h=>by cases h⟩
 have hs:qoS o:=by
  refine ⟨h1,h2,h3,by omega,fun r hr=>?_⟩
  have:=List.all_eq_true.1 a0 r hr
  simp only[Bool.not_eq_true',Bool.or_eq_false_iff] at this
  have h5:¬((r.2.2.2.length:Int)>12):=of_decide_eq_false this.2
  omega
 rw[b0]
 simp only[Option.bind_some,Sum.elim_inl,qtD n o hs (show 100≤n by omega)]
 cases iEq (chkE o) 0 with
 | false=>exact ⟨false,rfl,fun _=>hs⟩
 | true =>
  cases iGt (o.2.2.2.1.length:Int) 3 with
  | true=>exact ⟨true,rfl,fun _=>hs⟩
  | false =>
   cases iGt (o.2.2.2.2.1.length:Int) 5 with
   | true=>exact ⟨true,rfl,fun _=>hs⟩
   | false=>exact ⟨_,rfl,fun _=>hs⟩
end Go.Proofs.YtfnflenkeljkiaaGreat
