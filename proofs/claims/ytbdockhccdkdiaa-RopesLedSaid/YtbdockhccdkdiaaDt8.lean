/- Ropes: what teams are, and the two laws on teams. -/
import Derived.Test.YtbdockhccdkdiaaDt7
import Derived.Test.YtbdockhccdkdiaaDqN
set_option linter.constructorNameAsVariable false
set_option linter.unusedSimpArgs false
set_option linter.unusedVariables false
set_option linter.unusedSectionVars false
namespace Go.Proofs.Ytbdockhccdkdiaa
open Go Go.Proofs Go.RowKit
set_option maxHeartbeats 1000000
theorem qyw{len k:Nat}(h:k≤len):cutO len (k:Int)=some k:=by
 unfold cutO
 rw[if_pos ⟨by omega,by omega⟩,Int.toNat_natCast]
def qwl(n:Nat)(o:qp)(gs' own:List Int):Prop:=∃gs:List Nat,gs'=nI gs∧Good (tO n o) gs∧RopedOk o (cnts (tO n o) gs) own
def qn4(o:qp)(gs:List Nat)(own:List Int)(g:Nat):Bool :=
 cond (decide (ldC gs g gs.length=0)) (decide (atI own g = -1)) (qjD o g&&((match o.2.2.2.1[g]? with
  | some z=>decide (ldP o.2.2.2.2.1 gs g gs.length≤z.2.2)
  | none=>false)&&(qf (atI own g) 0 ((o.2.2.2.2.2.2.length:Int)-1)&&(!decide (atI own g∈own.take g)&&qfF o (atI own g).toNat (ldC gs g gs.length)))))
theorem qwm{n:Nat}{o:qp}{gs:List Nat}{own:List Int}(hk:Okay9 o)(hl:gs.length=o.2.2.2.2.1.length)(hg:∀g,g∈gs→g<o.2.2.2.1.length)(ho:own.length=o.2.2.2.1.length):(List.range own.length).all (qn4 o gs own)=true↔Good (tO n o) gs∧RopedOk o (cnts (tO n o) gs) own:=by
 obtain ⟨_,o2,o3,o4,o5,o6,o7,_⟩:=hk.oth'
 have hC:∀c,c∈(tO n o).clients→0≤c:=fun c hc=>by have:=o6 c hc;omega
 rw[qtC hC,List.all_eq_true,tO_C,tO_G,ho]
 have hat:∀g,g<o.2.2.2.1.length→own[g]?=some (atI own g):=fun g h=>(qdX (by omega)).1
 have hin:∀g h,h<g→g<o.2.2.2.1.length→atI own h∈own.take g:=fun g h a b=>by
  rw[List.mem_take_iff_getElem]
  exact ⟨h,by omega,(qdX (show h<own.length by omega)).2⟩
 constructor
 ·intro h
  have h:∀g,g<o.2.2.2.1.length→qn4 o gs own g=true:=fun g hg=>h g (List.mem_range.2 hg)
  have use:∀g,g<o.2.2.2.1.length→0<ldC gs g gs.length→qjD o g=true∧(∃hh:g<o.2.2.2.1.length,ldP o.2.2.2.2.1 gs g gs.length≤o.2.2.2.1[g].2.2)∧(0≤atI own g∧atI own g≤(o.2.2.2.2.2.2.length:Int)-1)∧¬atI own g∈own.take g∧qfF o (atI own g).toNat (ldC gs g gs.length)=true:=fun g hg hp=>by
   have:=h g hg
   unfold qn4 at this
   rw[decide_eq_false (by omega:¬ldC gs g gs.length=0),List.getElem?_eq_getElem hg] at this
   simp only[cond_false,Bool.and_eq_true,decide_eq_true_eq,qbx,Bool.not_eq_true',decide_eq_false_iff_not] at this
   exact ⟨this.1,⟨hg,this.2.1⟩,this.2.2.1,this.2.2.2.1,this.2.2.2.2⟩
  refine ⟨⟨hl,hg,fun g hg hp=>?_⟩,ho,fun g hg h0=>?_,fun g hg hp=>?_,fun g g' hg hg' hp hp' he=>?_⟩
  ·obtain ⟨a,⟨_,b⟩,_⟩:=use g hg hp
   rw[qrC n o hg,qtE n o hg]
   exact ⟨a,b⟩
  ·rw[qcA n o gs hg] at h0
   have:=h g hg
   unfold qn4 at this
   rw[h0] at this
   have:atI own g = -1:=of_decide_eq_true this
   rw[hat g hg,this]
  ·rw[qcA n o gs hg] at hp ⊢
   obtain ⟨_,_,c,_,e⟩:=use g hg hp
   obtain ⟨x,y⟩:=qkD.1 e
   exact ⟨(atI own g).toNat,by rw[hat g hg];congr 1;omega,x,y⟩
  ·rw[qcA n o gs hg] at hp
   rw[qcA n o gs hg'] at hp'
   rw[hat g hg,hat g' hg'] at he
   injection he with he
   rcases Nat.lt_trichotomy g g' with hlt | heq | hlt
   ·exact absurd (by rw[← he];exact hin g' g hlt hg') (use g' hg' hp').2.2.2.1
   ·exact heq
   ·exact absurd (by rw[he];exact hin g g' hlt hg) (use g hg hp).2.2.2.1
 ·rintro ⟨⟨_,_,h3⟩,h4⟩ g hg
  rw[List.mem_range] at hg
  unfold qn4
  have hb:=(qiB gs g gs.length).1
  by_cases h0:ldC gs g gs.length=0
  ·have:=h4.no g hg (by rw[qcA n o gs hg];exact h0)
   rw[hat g hg] at this
   injection this with this
   rw[decide_eq_true h0,decide_eq_true this]
   rfl
  ·have hp:0<ldC gs g gs.length:=by omega
   obtain ⟨a,b⟩:=h3 g hg hp
   rw[qrC n o hg] at a
   rw[qtE n o hg] at b
   obtain ⟨r,c,d,e⟩:=h4.yes g hg (by rw[qcA n o gs hg];exact hp)
   rw[qcA n o gs hg] at e
   rw[hat g hg] at c
   injection c with c
   have hr:=d.1
   have hs:qfF o (atI own g).toNat (ldC gs g gs.length)=true:=by
    rw[qkD,c,Int.toNat_natCast]
    exact ⟨d,e⟩
   have hn:¬atI own g∈own.take g:=fun hm=>by
    rw[List.mem_take_iff_getElem] at hm
    obtain ⟨i,hi,he⟩:=hm
    have hig:i<g:=by omega
    have hi2:i<o.2.2.2.1.length:=by omega
    have hei:atI own i=atI own g:=by rw[← (qdX (show i<own.length by omega)).2];exact he
    have hbi:=(qiB gs i gs.length).1
    by_cases hi0:ldC gs i gs.length=0
    ·have:=h4.no i hi2 (by rw[qcA n o gs hi2];exact hi0)
     rw[hat i hi2] at this
     injection this with this
     omega
    ·have:=h4.own i g hi2 hg (by rw[qcA n o gs hi2];omega) (by rw[qcA n o gs hg];exact hp) (by rw[hat i hi2,hat g hg,hei])
     omega
   rw[decide_eq_false h0,List.getElem?_eq_getElem hg,a,decide_eq_false hn,hs,qbx.2 (show 0≤atI own g∧atI own g≤(o.2.2.2.2.2.2.length:Int)-1 by omega)]
   simp only[cond_false,Bool.true_and,Bool.not_false,Bool.and_true,decide_eq_true_eq]
   exact b
theorem qpX(n:Nat)(o:qp)(gs' own:List Int)(hk:Okay9 o)(hn:2000≤n):∃b,qbl n (o,(gs',(own,())))=some (b,())∧(b=true↔qwl n o gs' own):=by
 obtain ⟨_,o2,o3,o4,o5,o6,o7,_⟩:=hk.oth'
 have hC:∀c,c∈o.2.2.2.2.1→0≤c∧c≤20:=fun c hc=>by have:=o6 c hc;omega
 rw[qkJ]
 by_cases hl:gs'.length=o.2.2.2.2.1.length
 rotate_left
 ·rw[show iNe (gs'.length:Int) (o.2.2.2.2.1.length:Int)=true by unfold iNe;simp;omega]
  refine ⟨false,rfl,fun h=>(by cases h),fun⟨gs,h1,h2,_⟩=>?_⟩
  rw[h1,qkC] at hl
  exact absurd h2.1 hl
 by_cases ho:own.length=o.2.2.2.1.length
 rotate_left
 ·rw[show iNe (gs'.length:Int) (o.2.2.2.2.1.length:Int)=false by rw[hl];unfold iNe;simp,show iNe (own.length:Int) (o.2.2.2.1.length:Int)=true by unfold iNe;simp;omega]
  exact ⟨false,rfl,fun h=>(by cases h),fun⟨gs,h1,h2,h3⟩=>absurd h3.len ho⟩
 rw[show iNe (gs'.length:Int) (o.2.2.2.2.1.length:Int)=false by rw[hl];unfold iNe;simp,show iNe (own.length:Int) (o.2.2.2.1.length:Int)=false by rw[ho];unfold iNe;simp]
 simp only[cond_false]
 have l0:=qjB (qfj n) gs' (fun x=>qf x 0 ((o.2.2.2.1.length:Int)-1)) (fun k=>(gs',(own,((k:Int),(o,()))))) (some (Sum.inl (gs',(own,(o,()))))) (fun _=>some (Sum.inr (false,()))) (fun k hkl rec=>by
  rw[qgx]
  simp only[iLtN hkl,cond_true,qE gs' hkl,Option.bind_some,qfg,show iW (iSub (o.2.2.2.1.length:Int) 1)=(o.2.2.2.1.length:Int)-1 from qh3 (by unfold iSub;omega) (by unfold iSub;omega),qD (show k<9223372036854775807 by omega)]
  cases qf gs'[k] 0 ((o.2.2.2.1.length:Int)-1)<;>rfl) (fun rec=>by
   rw[qgx]
   simp only[qcO (Nat.le_refl gs'.length),cond_false]) n (by omega)
 rw[show ((0:Nat):Int)=0 from rfl] at l0
 rcases l0 with ⟨a0,b0⟩ | ⟨a0,k,_,b0⟩
 rotate_left
 ·rw[b0]
  refine ⟨false,rfl,fun h=>(by cases h),fun⟨gs,h1,h2,h3⟩=>?_⟩
  have hgl:=((qtC (fun c hc=>by have:=o6 c hc;omega)).1 h2).2.1
  have:gs'.all (fun x=>qf x 0 ((o.2.2.2.1.length:Int)-1))=true:=by
   rw[List.all_eq_true,h1]
   intro x hx
   unfold nI at hx
   obtain ⟨g,hg,rfl⟩:=List.mem_map.1 hx
   have:=hgl g hg
   rw[tO_G] at this
   exact qbx.2 ⟨by omega,by omega⟩
  rw[this] at a0
  cases a0
 rw[b0]
 simp only[Option.bind_some,Sum.elim_inl]
 have hall:∀x,x∈gs'→0≤x∧x≤(o.2.2.2.1.length:Int)-1:=fun x hx=>qbx.1 (List.all_eq_true.1 a0 x hx)
 obtain ⟨gs,hgs⟩:∃gs,gs=gs'.map Int.toNat:=⟨_,rfl⟩
 have he:gs'=nI gs:=by
  rw[hgs]
  unfold nI
  rw[List.map_map]
  conv=>lhs;rw[← List.map_id gs']
  refine List.map_congr_left fun x hx=>?_
  have:=hall x hx
  show x=((x.toNat:Nat):Int)
  omega
 have hgl:gs.length=o.2.2.2.2.1.length:=by rw[hgs,List.length_map];exact hl
 have hgr:∀g,g∈gs→g<o.2.2.2.1.length:=fun g hg=>by
  have:=hall (g:Int) (by rw[he];exact (qwa gs g).2 hg)
  omega
 clear hgs
 subst he
 have l1:=qmj (qfk n) own.length (fun g=>(nI gs,(own,((g:Int),(o,()))))) (qn4 o gs own) (some (Sum.inl ())) (fun _=>some (Sum.inr (false,()))) (fun g hg _ rec=>by
  have hgG:g<o.2.2.2.1.length:=by omega
  have hb:=qiB gs g gs.length
  have hat:lat own (g:Int)=some (atI own g):=by rw[qE own hg,(qdX hg).2]
  rw[qgy]
  simp only[iLtN hg,cond_true,qrB n o gs g hC (show gs.length≤o.2.2.2.2.1.length by omega) (show gs.length≤50 by omega) (show 100≤n by omega),Option.bind_some,hat,qD (show g<9223372036854775807 by omega)]
  unfold qn4
  by_cases h0:ldC gs g gs.length=0
  ·rw[h0]
   simp only[show iEq (0:Int) 0=true from rfl,cond_true,decide_true]
   have e:iNe (atI own g) (Int.negSucc 0) = !decide (atI own g = -1):=by unfold iNe;rw[Bool.eq_iff_iff];simp
   rw[e]
   cases decide (atI own g = -1)<;>rfl
  ·rw[show iEq (ldC gs g gs.length) 0=false from beq_eq_false_iff_ne.2 h0,decide_eq_false h0,List.getElem?_eq_getElem hgG]
   simp only[cond_false,qsh n o g hgG,qE o.2.2.2.1 hgG,Option.bind_some,qfg,show iW (iSub (o.2.2.2.2.2.2.length:Int) 1)=(o.2.2.2.2.2.2.length:Int)-1 from qh3 (by unfold iSub;omega) (by unfold iSub;omega),qyw (show g≤own.length by omega),qtF n (own.take g) (atI own g) (show (own.take g).length≤50 by rw[List.length_take];omega) (show 100≤n by omega)]
   have e:iGt (ldP o.2.2.2.2.1 gs g gs.length) o.2.2.2.1[g].2.2 = !decide (ldP o.2.2.2.2.1 gs g gs.length≤o.2.2.2.1[g].2.2):=by
    rw[Bool.eq_iff_iff,Bool.not_eq_true',decide_eq_false_iff_not];show decide (ldP o.2.2.2.2.1 gs g gs.length>o.2.2.2.1[g].2.2)=true↔_;rw[decide_eq_true_eq];omega
   rw[e]
   cases qjD o g
   ·rfl
   cases decide (ldP o.2.2.2.2.1 gs g gs.length≤o.2.2.2.1[g].2.2)
   ·rfl
   cases hwi:qf (atI own g) 0 ((o.2.2.2.2.2.2.length:Int)-1)
   ·rfl
   cases decide (atI own g∈own.take g)
   rotate_left
   ·rfl
   have hw:=qbx.1 hwi
   have hse:=qsi n o (atI own g).toNat (ldC gs g gs.length) hk (by omega) (by omega) (show 100≤n by omega)
   rw[show (((atI own g).toNat:Nat):Int)=atI own g by omega] at hse
   simp only[hse,Option.bind_some,Bool.not_true,cond_false,Bool.not_false,Bool.true_and,cond_true]
   cases qfF o (atI own g).toNat (ldC gs g gs.length)<;>rfl) (fun _ rec=>by
   rw[qgy]
   simp only[qcO (Nat.le_refl own.length),cond_false]) n (by omega)
 rw[show ((0:Nat):Int)=0 from rfl] at l1
 have key:=qwm (n:=n) hk hgl hgr ho
 have hP:qwl n o (nI gs) own↔Good (tO n o) gs∧RopedOk o (cnts (tO n o) gs) own:=by
  constructor
  ·rintro ⟨hs,h1,h2⟩
   have:gs=hs:=by
    unfold nI at h1
    exact List.map_inj_right (f:=fun g:Nat=>(g:Int)) (fun a b h=>by have h:(a:Int)=(b:Int):=h;omega) |>.1 h1
   rw[this]
   exact h2
  ·intro h;exact ⟨gs,rfl,h⟩
 rcases l1 with ⟨a1,b1⟩ | ⟨a1,k,_,b1⟩
 ·rw[b1]
  exact ⟨true,rfl,fun _=>hP.2 (key.1 a1),fun _=>rfl⟩
 ·rw[b1]
  refine ⟨false,rfl,fun h=>(by cases h),fun h=>?_⟩
  rw[key.2 (hP.1 h)] at a1
  cases a1
theorem qyV(n:Nat)(o:qp)(hn:2000≤n):∃b,qhO n (o,())=some (b,())∧(b=false→qla o):=by
 rw[qnf]
 by_cases h1:o.2.2.2.1.length≤20
 rotate_left
 ·rw[show iGt (o.2.2.2.1.length:Int) 20=true from decide_eq_true (by omega)]
  exact ⟨true,rfl,fun h=>by cases h⟩
 by_cases h2:o.2.2.2.2.1.length≤20
 rotate_left
 ·rw[show iGt (o.2.2.2.1.length:Int) 20=false from decide_eq_false (by omega),show iGt (o.2.2.2.2.1.length:Int) 20=true from decide_eq_true (by omega)]
  exact ⟨true,rfl,fun h=>by cases h⟩
 by_cases h3:o.2.2.2.2.2.2.length≤20
 rotate_left
 ·rw[show iGt (o.2.2.2.1.length:Int) 20=false from decide_eq_false (by omega),show iGt (o.2.2.2.2.1.length:Int) 20=false from decide_eq_false (by omega),show iGt (o.2.2.2.2.2.2.length:Int) 20=true from decide_eq_true (by omega)]
  exact ⟨true,rfl,fun h=>by cases h⟩
 by_cases h4:o.2.2.2.2.2.1.2.2.2.length≤20
 rotate_left
 ·rw[show iGt (o.2.2.2.1.length:Int) 20=false from decide_eq_false (by omega),show iGt (o.2.2.2.2.1.length:Int) 20=false from decide_eq_false (by omega),show iGt (o.2.2.2.2.2.2.length:Int) 20=false from decide_eq_false (by omega),show iGt (o.2.2.2.2.2.1.2.2.2.length:Int) 20=true from decide_eq_true (by omega)]
  exact ⟨true,rfl,fun h=>by cases h⟩
 simp only[show iGt (o.2.2.2.1.length:Int) 20=false from decide_eq_false (by omega),show iGt (o.2.2.2.2.1.length:Int) 20=false from decide_eq_false (by omega),show iGt (o.2.2.2.2.2.2.length:Int) 20=false from decide_eq_false (by omega),show iGt (o.2.2.2.2.2.1.2.2.2.length:Int) 20=false from decide_eq_false (by omega),cond_false]
 have l0:=qjB (qgV n) o.2.2.2.2.2.2 (fun r=>!(iGt (o.2.2.2.2.2.1.2.2.2.length:Int) 8||iGt (r.2.2.2.length:Int) 12)) (fun k=>((k:Int),(o,()))) (some (Sum.inl (o,()))) (fun _=>some (Sum.inr (true,()))) (fun k hk rec=>by
  rw[qij]
  simp only[iLtN hk,cond_true,qE o.2.2.2.2.2.2 hk,Option.bind_some,qk8,qD (show k<9223372036854775807 by omega)]
  cases iGt (o.2.2.2.2.2.1.2.2.2.length:Int) 8<;>cases iGt (o.2.2.2.2.2.2[k].2.2.2.length:Int) 12<;>rfl) (fun rec=>by
   rw[qij]
   simp only[qcO (Nat.le_refl o.2.2.2.2.2.2.length),cond_false]) n (by omega)
 rw[show ((0:Nat):Int)=0 from rfl] at l0
 rcases l0 with ⟨a0,b0⟩ | ⟨a0,k,_,b0⟩
 rotate_left
 ·rw[b0]
  exact ⟨true,rfl,fun h=>by cases h⟩
 have hs:qla o:=by
  refine ⟨h1,h2,h3,by omega,fun r hr=>?_⟩
  have:=List.all_eq_true.1 a0 r hr
  simp only[Bool.not_eq_true',Bool.or_eq_false_iff] at this
  have h5:¬((r.2.2.2.length:Int)>12):=of_decide_eq_false this.2
  omega
 rw[b0]
 simp only[Option.bind_some,Sum.elim_inl,qo8 n o hs (show 100≤n by omega)]
 cases iEq (chkE o) 0 with
 | false=>exact ⟨false,rfl,fun _=>hs⟩
 | true =>
  cases iGt (o.2.2.2.1.length:Int) 3 with
  | true=>exact ⟨true,rfl,fun _=>hs⟩
  | false =>
   cases iGt (o.2.2.2.2.1.length:Int) 5 with
   | true=>exact ⟨true,rfl,fun _=>hs⟩
   | false=>exact ⟨_,rfl,fun _=>hs⟩
theorem qvd{n:Nat}{o:qp}(hk:Okay9 o)(hn:2000≤n){v:Int}(hv:IsFew (qmo n o) (qjC o.2.2.2.1.length) v):v<0↔qcn (tO n o)=[]:=by
 constructor
 ·intro h
  rcases hv with ⟨_,h2⟩ | ⟨h0,_⟩
  ·cases hT:qcn (tO n o) with
   | nil=>rfl
   | cons e L =>
    obtain ⟨a,b⟩:=qgz n o hk hn e (by rw[hT];exact List.mem_cons_self)
    exact absurd ⟨a,e.2,b⟩ (h2 e.1)
  ·omega
 ·intro h
  rcases hv with ⟨h1,_⟩ | ⟨h0,⟨gs,hg,_⟩,_⟩
  ·omega
  ·obtain ⟨e,he,_⟩:=qlJ n o hk hn gs hg
   rw[h] at he
   cases he
theorem qyW(n:Nat)(o:qp)(r:RopT)(hk:Okay9 o)(hr:r∈o.2.2.2.2.2.2)(hn:2000≤n):∃m,qmE n (o.2.2.2.2.2.1,(r,(o.1,())))=some (fits o r,(m,(0,()))):=by
 have hrk:=hk.rps r hr
 obtain ⟨p1,_,_,_,_,_,_,p8⟩:=hk.oth'
 obtain ⟨_,_,_,r4,r5⟩:=qkz hrk
 have m3:=(qkA hk.mdl).2.2
 obtain ⟨f1,f2⟩:=quB n o r hk hrk (by omega)
 have h1:qnP n (o.2.2.2.2.2.1,(r,(o.1,())))=some ((o.2.2.2.2.2.1,()),(0,())):=by
  rw[qso,qqX]
  simp only[qqZ n o.2.2.2.2.2.1 (show o.2.2.2.2.2.1.2.2.2.length≤50 by omega) (show 100≤n by omega),qsd n r (show r.2.2.2.length≤50 by omega) (show 100≤n by omega),hk.mdl,hrk,Option.bind_some,Bool.not_true,cond_false,qgD,qbx.2 (show r.1≤o.1∧o.1≤99999 from ⟨p8 r hr,p1.2⟩)]
  rfl
 rw[qrA]
 simp only[h1,Option.bind_some,show iNe (0:Int) 0=false from rfl,cond_false,f1,f2,qv7 n o.2.2.2.2.2.1 r o.1 _ hk.mdl hrk p1]
 exact ⟨_,rfl⟩
theorem qxB(n:Nat)(o:qp)(guides own b:List Int)(v:Int)(hk:Okay9 o)(hb:∀x,x∈b→x = -1∨∃r:Nat,x=r∧∃h:r<o.2.2.2.2.2.2.length,fits o o.2.2.2.2.2.2[r]=true)(hl:b.length≤50)(hn:2000≤n) :
  qj n (qW n) (guides,(own,(b,((0:Int),(v,((0:Int),(o,())))))))=some (Sum.inl (guides,(own,((0:Int),(v,(o,())))))):=by
 have:=forN (qW n) b.length (fun k=>(guides,(own,(b,((0:Int),(v,((k:Int),(o,())))))))) (some (Sum.inl (guides,(own,((0:Int),(v,(o,()))))))) (fun k hkb rec=>by
  rw[qew]
  simp only[show iEq (0:Int) 0=true from rfl,cond_true,iLtN hkb,qE b hkb,Option.bind_some,qD (show k<9223372036854775807 by omega)]
  rcases hb _ (List.getElem_mem hkb) with h | ⟨r,h,hr,hf⟩
  ·rw[h]
   rfl
  ·obtain ⟨m,hm⟩:=qyW n o o.2.2.2.2.2.2[r] hk (List.getElem_mem hr) hn
   rw[hf] at hm
   rw[h]
   simp only[show iLt (r:Int) 0=false from decide_eq_false (by omega),cond_false,qE o.2.2.2.2.2.2 hr,Option.bind_some,hm]
   rfl) (fun rec=>by
   rw[qew]
   simp only[show iEq (0:Int) 0=true from rfl,cond_true,qcO (Nat.le_refl b.length),cond_false]) n (by omega)
 exact this
theorem qt2(n:Nat)(o:qp)(guides own:List Int)(hn:4000≤n):qeo n (o,(guides,(own,())))=some (true,()):=by
 have hw:=qyl n (show 3000≤n by omega)
 have b2:∀i:Int,iNe i i=false:=fun i=>by unfold iNe;simp
 rw[qkK]
 obtain ⟨b,hb,hbs⟩:=qyV n o (by omega)
 simp only[hb,hw,Option.bind_some]
 cases b with
 | true=>rfl
 | false =>
  have hs:=hbs rfl
  simp only[cond_false,Option.bind_some,qo8 n o hs (show 100≤n by omega)]
  by_cases hc:chkE o=0
  rotate_left
  ·rw[show iNe (chkE o) 0=true by unfold iNe;simp[hc]]
   rfl
  rw[hc]
  simp only[show iNe (0:Int) 0=false from rfl,cond_false]
  cases iGt (guides.length:Int) 20 with
  | true=>rfl
  | false =>
  by_cases hol:own.length≤20
  rotate_left
  ·rw[show iGt (own.length:Int) 20=true from decide_eq_true (by omega)]
   rfl
  rw[show iGt (own.length:Int) 20=false from decide_eq_false (by omega)]
  have hk:=qkB hc
  simp only[cond_false,qwh n o hs (show 2000≤n by omega)]
  obtain ⟨c,hc1,hc2⟩:=qpX n o guides own hk (show 2000≤n by omega)
  rcases qq8 n o hs (by omega) with ⟨hc',_⟩ | ⟨_,v,hv,h⟩
  ·exact absurd hc hc'
  have hnone:=qvd hk (show 2000≤n by omega) hv
  have hshow:c=true→∃gs,qmo n o gs∧qdr own=qjC o.2.2.2.1.length gs:=fun hx=>by
   obtain ⟨gs,h1,h2,h3⟩:=hc2.1 hx
   exact ⟨gs,⟨h2,own,h3⟩,qmp h3⟩
  rcases qxA n o hs (by omega) with ⟨hc',_⟩ | ⟨_,hT,ht⟩ | ⟨_,e,he,ht⟩
  ·exact absurd hc hc'
  ·have hv0:=hnone.2 hT
   rw[if_pos hv0] at h
   have hcf:c=false:=by
    cases hcc:c with
    | false=>rfl
    | true =>
     obtain ⟨gs,hg,_⟩:=hshow hcc
     rcases hv with ⟨_,h2⟩ | ⟨h0,_⟩
     ·exact absurd hg (h2 gs)
     ·omega
   have hloop:qj n (qW n) (guides,(own,(([]:List Int),((3:Int),((0:Int),((0:Int),(o,())))))))=some (Sum.inl (guides,(own,((3:Int),((0:Int),(o,())))))):=by
    obtain ⟨m,hm⟩:∃m,n=m+1:=⟨n-1,by omega⟩
    conv=>lhs;rw[hm]
    rw[qbs,qew]
    rfl
   simp only[h,ht,Option.bind_some,b2,cond_false,show iNe (3:Int) 0=true from rfl,cond_true,show iEq (3:Int) 0=false from rfl,hloop,Sum.elim_inl,hc1,hcf,Bool.not_false]
  ·have hv0:¬v<0:=fun hx=>by rw[hnone.1 hx] at he;cases he
   rw[if_neg hv0] at h
   obtain ⟨s1,s2⟩:=qgz n o hk (by omega) e he
   obtain ⟨d,hd1,hd2⟩:=qpX n o (nI e.1) e.2 hk (show 2000≤n by omega)
   have hdt:d=true:=hd2.2 ⟨e.1,rfl,s1,s2⟩
   subst hdt
   have hmin:∀gs,qmo n o gs→v≤qjC o.2.2.2.1.length gs:=fun gs hg=>by
    rcases hv with ⟨hx,_⟩ | ⟨_,_,h2⟩
    ·omega
    ·exact h2 gs hg
   have hbe:v≤qdr e.2:=by rw[qmp s2];exact hmin e.1 ⟨s1,e.2,s2⟩
   obtain ⟨_,_,o3,_⟩:=hk.oth'
   have hel:e.2.length≤50:=by rw[s2.len];omega
   have hent:∀x,x∈e.2→x = -1∨∃r:Nat,x=r∧∃h:r<o.2.2.2.2.2.2.length,fits o o.2.2.2.2.2.2[r]=true:=fun x hx=>by
    obtain ⟨g,hg,rfl⟩:=List.getElem_of_mem hx
    have hgG:g<o.2.2.2.1.length:=by rw[← s2.len];exact hg
    have hbd:=(qiB e.1 g e.1.length).1
    by_cases hp:0<ldC e.1 g e.1.length
    ·obtain ⟨r,a,b,_⟩:=s2.yes g hgG (by rw[qcA n o e.1 hgG];exact hp)
     rw[List.getElem?_eq_getElem hg] at a
     injection a with a
     exact .inr ⟨r,a,b⟩
    ·have a:=s2.no g hgG (by rw[qcA n o e.1 hgG];omega)
     rw[List.getElem?_eq_getElem hg] at a
     injection a with a
     exact .inl a
   have hloop:=qxB n o guides own e.2 v hk hent hel (by omega)
   simp only[h,ht,Option.bind_some,b2,cond_false,show iEq (0:Int) 0=true from rfl,cond_true,hd1,Bool.not_true,quD n e.2 hel (show 100≤n by omega),show iLt (qdr e.2) v=false from decide_eq_false (by omega),hloop,Sum.elim_inl,hc1,quD n own (show own.length≤50 by omega) (show 100≤n by omega)]
   cases hcc:c with
   | false=>rfl
   | true =>
    obtain ⟨gs,hg,hu⟩:=hshow hcc
    have:=hmin gs hg
    rw[← hu] at this
    rw[show iGe (qdr own) v=true from decide_eq_true this]
    rfl
end Go.Proofs.Ytbdockhccdkdiaa
