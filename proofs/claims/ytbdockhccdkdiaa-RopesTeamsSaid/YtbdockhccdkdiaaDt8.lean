/- Ropes: what teams are, and the two laws on teams. -/
import Derived.Test.YtbdockhccdkdiaaDt7
import Derived.Test.YtbdockhccdkdiaaDqN
set_option linter.constructorNameAsVariable false
set_option linter.unusedSimpArgs false
set_option linter.unusedVariables false
set_option linter.unusedSectionVars false
namespace Go.Proofs.Ytbdockhccdkdiaa
open Go Go.Proofs Go.RowKit
set_option maxHeartbeats 1000000
theorem qyr{len k:Nat}(h:k≤len):cutO len (k:Int)=some k:=by
 unfold cutO
 rw[if_pos ⟨by omega,by omega⟩,Int.toNat_natCast]
def qwi(n:Nat)(o:qp)(gs' own:List Int):Prop:=∃gs:List Nat,gs'=nI gs∧Good (tO n o) gs∧RopedOk o (cnts (tO n o) gs) own
def qn5(o:qp)(gs:List Nat)(own:List Int)(g:Nat):Bool :=
 cond (decide (ldC gs g gs.length=0)) (decide (atI own g = -1)) (qjB o g&&((match o.2.2.2.1[g]? with
  | some z=>decide (ldP o.2.2.2.2.1 gs g gs.length≤z.2.2)
  | none=>false)&&(qf (atI own g) 0 ((o.2.2.2.2.2.2.length:Int)-1)&&(!decide (atI own g∈own.take g)&&qfA o (atI own g).toNat (ldC gs g gs.length)))))
theorem qwj{n:Nat}{o:qp}{gs:List Nat}{own:List Int}(hk:Okay9 o)(hl:gs.length=o.2.2.2.2.1.length)(hg:∀g,g∈gs→g<o.2.2.2.1.length)(ho:own.length=o.2.2.2.1.length):(List.range own.length).all (qn5 o gs own)=true↔Good (tO n o) gs∧RopedOk o (cnts (tO n o) gs) own:=by
 obtain ⟨_,o2,o3,o4,o5,o6,o7,_⟩:=hk.oth'
 have hC:∀c,c∈(tO n o).clients→0≤c:=fun c hc=>by have:=o6 c hc;omega
 rw[qtt hC,List.all_eq_true,tO_C,tO_G,ho]
 have hat:∀g,g<o.2.2.2.1.length→own[g]?=some (atI own g):=fun g h=>(qdU (by omega)).1
 have hin:∀g h,h<g→g<o.2.2.2.1.length→atI own h∈own.take g:=fun g h a b=>by
  rw[List.mem_take_iff_getElem]
  exact ⟨h,by omega,(qdU (show h<own.length by omega)).2⟩
 constructor
 ·intro h
  have h:∀g,g<o.2.2.2.1.length→qn5 o gs own g=true:=fun g hg=>h g (List.mem_range.2 hg)
  have use:∀g,g<o.2.2.2.1.length→0<ldC gs g gs.length→qjB o g=true∧(∃hh:g<o.2.2.2.1.length,ldP o.2.2.2.2.1 gs g gs.length≤o.2.2.2.1[g].2.2)∧(0≤atI own g∧atI own g≤(o.2.2.2.2.2.2.length:Int)-1)∧¬atI own g∈own.take g∧qfA o (atI own g).toNat (ldC gs g gs.length)=true:=fun g hg hp=>by
   have:=h g hg
   unfold qn5 at this
   rw[decide_eq_false (by omega:¬ldC gs g gs.length=0),List.getElem?_eq_getElem hg] at this
   simp only[cond_false,Bool.and_eq_true,decide_eq_true_eq,qbK,Bool.not_eq_true',decide_eq_false_iff_not] at this
   exact ⟨this.1,⟨hg,this.2.1⟩,this.2.2.1,this.2.2.2.1,this.2.2.2.2⟩
  refine ⟨⟨hl,hg,fun g hg hp=>?_⟩,ho,fun g hg h0=>?_,fun g hg hp=>?_,fun g g' hg hg' hp hp' he=>?_⟩
  ·obtain ⟨a,⟨_,b⟩,_⟩:=use g hg hp
   rw[qrr n o hg,qtv n o hg]
   exact ⟨a,b⟩
  ·rw[qcR n o gs hg] at h0
   have:=h g hg
   unfold qn5 at this
   rw[h0] at this
   have:atI own g = -1:=of_decide_eq_true this
   rw[hat g hg,this]
  ·rw[qcR n o gs hg] at hp ⊢
   obtain ⟨_,_,c,_,e⟩:=use g hg hp
   obtain ⟨x,y⟩:=qkD.1 e
   exact ⟨(atI own g).toNat,by rw[hat g hg];congr 1;omega,x,y⟩
  ·rw[qcR n o gs hg] at hp
   rw[qcR n o gs hg'] at hp'
   rw[hat g hg,hat g' hg'] at he
   injection he with he
   rcases Nat.lt_trichotomy g g' with hlt | heq | hlt
   ·exact absurd (by rw[← he];exact hin g' g hlt hg') (use g' hg' hp').2.2.2.1
   ·exact heq
   ·exact absurd (by rw[he];exact hin g g' hlt hg) (use g hg hp).2.2.2.1
 ·rintro ⟨⟨_,_,h3⟩,h4⟩ g hg
  rw[List.mem_range] at hg
  unfold qn5
  have hb:=(qjA gs g gs.length).1
  by_cases h0:ldC gs g gs.length=0
  ·have:=h4.no g hg (by rw[qcR n o gs hg];exact h0)
   rw[hat g hg] at this
   injection this with this
   rw[decide_eq_true h0,decide_eq_true this]
   rfl
  ·have hp:0<ldC gs g gs.length:=by omega
   obtain ⟨a,b⟩:=h3 g hg hp
   rw[qrr n o hg] at a
   rw[qtv n o hg] at b
   obtain ⟨r,c,d,e⟩:=h4.yes g hg (by rw[qcR n o gs hg];exact hp)
   rw[qcR n o gs hg] at e
   rw[hat g hg] at c
   injection c with c
   have hr:=d.1
   have hs:qfA o (atI own g).toNat (ldC gs g gs.length)=true:=by
    rw[qkD,c,Int.toNat_natCast]
    exact ⟨d,e⟩
   have hn:¬atI own g∈own.take g:=fun hm=>by
    rw[List.mem_take_iff_getElem] at hm
    obtain ⟨i,hi,he⟩:=hm
    have hig:i<g:=by omega
    have hi2:i<o.2.2.2.1.length:=by omega
    have hei:atI own i=atI own g:=by rw[← (qdU (show i<own.length by omega)).2];exact he
    have hbi:=(qjA gs i gs.length).1
    by_cases hi0:ldC gs i gs.length=0
    ·have:=h4.no i hi2 (by rw[qcR n o gs hi2];exact hi0)
     rw[hat i hi2] at this
     injection this with this
     omega
    ·have:=h4.own i g hi2 hg (by rw[qcR n o gs hi2];omega) (by rw[qcR n o gs hg];exact hp) (by rw[hat i hi2,hat g hg,hei])
     omega
   rw[decide_eq_false h0,List.getElem?_eq_getElem hg,a,decide_eq_false hn,hs,qbK.2 (show 0≤atI own g∧atI own g≤(o.2.2.2.2.2.2.length:Int)-1 by omega)]
   simp only[cond_false,Bool.true_and,Bool.not_false,Bool.and_true,decide_eq_true_eq]
   exact b
theorem qtW(n:Nat)(o:qp)(gs' own:List Int)(hk:Okay9 o)(hn:2000≤n):∃b,qfN n (o,(gs',(own,())))=some (b,())∧(b=true↔qwi n o gs' own):=by
 obtain ⟨_,o2,o3,o4,o5,o6,o7,_⟩:=hk.oth'
 have hC:∀c,c∈o.2.2.2.2.1→0≤c∧c≤20:=fun c hc=>by have:=o6 c hc;omega
 rw[qkJ]
 by_cases hl:gs'.length=o.2.2.2.2.1.length
 rotate_left
 ·rw[show iNe (gs'.length:Int) (o.2.2.2.2.1.length:Int)=true by unfold iNe;simp;omega]
  refine ⟨false,rfl,fun h=>(by cases h),fun⟨gs,h1,h2,_⟩=>?_⟩
  rw[h1,qkC] at hl
  exact absurd h2.1 hl
 by_cases ho:own.length=o.2.2.2.1.length
 rotate_left
 ·rw[show iNe (gs'.length:Int) (o.2.2.2.2.1.length:Int)=false by rw[hl];unfold iNe;simp,show iNe (own.length:Int) (o.2.2.2.1.length:Int)=true by unfold iNe;simp;omega]
  exact ⟨false,rfl,fun h=>(by cases h),fun⟨gs,h1,h2,h3⟩=>absurd h3.len ho⟩
 rw[show iNe (gs'.length:Int) (o.2.2.2.2.1.length:Int)=false by rw[hl];unfold iNe;simp,show iNe (own.length:Int) (o.2.2.2.1.length:Int)=false by rw[ho];unfold iNe;simp]
 simp only[cond_false]
 have l0:=qjz (qfc n) gs' (fun x=>qf x 0 ((o.2.2.2.1.length:Int)-1)) (fun k=>(gs',(own,((k:Int),(o,()))))) (some (Sum.inl (gs',(own,(o,()))))) (fun _=>some (Sum.inr (false,()))) (fun k hkl rec=>by
  rw[qgv]
  simp only[iLtN hkl,cond_true,qJ gs' hkl,Option.bind_some,qe9,show iW (iSub (o.2.2.2.1.length:Int) 1)=(o.2.2.2.1.length:Int)-1 from qh0 (by unfold iSub;omega) (by unfold iSub;omega),qC (show k<9223372036854775807 by omega)]
  cases qf gs'[k] 0 ((o.2.2.2.1.length:Int)-1)<;>rfl) (fun rec=>by
   rw[qgv]
   simp only[qcW (Nat.le_refl gs'.length),cond_false]) n (by omega)
 rw[show ((0:Nat):Int)=0 from rfl] at l0
 rcases l0 with ⟨a0,b0⟩ | ⟨a0,k,_,b0⟩
 rotate_left
 ·rw[b0]
  refine ⟨false,rfl,fun h=>(by cases h),fun⟨gs,h1,h2,h3⟩=>?_⟩
  have hgl:=((qtt (fun c hc=>by have:=o6 c hc;omega)).1 h2).2.1
  have:gs'.all (fun x=>qf x 0 ((o.2.2.2.1.length:Int)-1))=true:=by
   rw[List.all_eq_true,h1]
   intro x hx
   unfold nI at hx
   obtain ⟨g,hg,rfl⟩:=List.mem_map.1 hx
   have:=hgl g hg
   rw[tO_G] at this
   exact qbK.2 ⟨by omega,by omega⟩
  rw[this] at a0
  cases a0
 rw[b0]
 simp only[Option.bind_some,Sum.elim_inl]
 have hall:∀x,x∈gs'→0≤x∧x≤(o.2.2.2.1.length:Int)-1:=fun x hx=>qbK.1 (List.all_eq_true.1 a0 x hx)
 obtain ⟨gs,hgs⟩:∃gs,gs=gs'.map Int.toNat:=⟨_,rfl⟩
 have he:gs'=nI gs:=by
  rw[hgs]
  unfold nI
  rw[List.map_map]
  conv=>lhs;rw[← List.map_id gs']
  refine List.map_congr_left fun x hx=>?_
  have:=hall x hx
  show x=((x.toNat:Nat):Int)
  omega
 have hgl:gs.length=o.2.2.2.2.1.length:=by rw[hgs,List.length_map];exact hl
 have hgr:∀g,g∈gs→g<o.2.2.2.1.length:=fun g hg=>by
  have:=hall (g:Int) (by rw[he];exact (qv6 gs g).2 hg)
  omega
 clear hgs
 subst he
 have l1:=qmm (qfd n) own.length (fun g=>(nI gs,(own,((g:Int),(o,()))))) (qn5 o gs own) (some (Sum.inl ())) (fun _=>some (Sum.inr (false,()))) (fun g hg _ rec=>by
  have hgG:g<o.2.2.2.1.length:=by omega
  have hb:=qjA gs g gs.length
  have hat:lat own (g:Int)=some (atI own g):=by rw[qJ own hg,(qdU hg).2]
  rw[qgw]
  simp only[iLtN hg,cond_true,qrq n o gs g hC (show gs.length≤o.2.2.2.2.1.length by omega) (show gs.length≤50 by omega) (show 100≤n by omega),Option.bind_some,hat,qC (show g<9223372036854775807 by omega)]
  unfold qn5
  by_cases h0:ldC gs g gs.length=0
  ·rw[h0]
   simp only[show iEq (0:Int) 0=true from rfl,cond_true,decide_true]
   have e:iNe (atI own g) (Int.negSucc 0) = !decide (atI own g = -1):=by unfold iNe;rw[Bool.eq_iff_iff];simp
   rw[e]
   cases decide (atI own g = -1)<;>rfl
  ·rw[show iEq (ldC gs g gs.length) 0=false from beq_eq_false_iff_ne.2 h0,decide_eq_false h0,List.getElem?_eq_getElem hgG]
   simp only[cond_false,qr5 n o g hgG,qJ o.2.2.2.1 hgG,Option.bind_some,qe9,show iW (iSub (o.2.2.2.2.2.2.length:Int) 1)=(o.2.2.2.2.2.2.length:Int)-1 from qh0 (by unfold iSub;omega) (by unfold iSub;omega),qyr (show g≤own.length by omega),qtw n (own.take g) (atI own g) (show (own.take g).length≤50 by rw[List.length_take];omega) (show 100≤n by omega)]
   have e:iGt (ldP o.2.2.2.2.1 gs g gs.length) o.2.2.2.1[g].2.2 = !decide (ldP o.2.2.2.2.1 gs g gs.length≤o.2.2.2.1[g].2.2):=by
    rw[Bool.eq_iff_iff,Bool.not_eq_true',decide_eq_false_iff_not];show decide (ldP o.2.2.2.2.1 gs g gs.length>o.2.2.2.1[g].2.2)=true↔_;rw[decide_eq_true_eq];omega
   rw[e]
   cases qjB o g
   ·rfl
   cases decide (ldP o.2.2.2.2.1 gs g gs.length≤o.2.2.2.1[g].2.2)
   ·rfl
   cases hwi:qf (atI own g) 0 ((o.2.2.2.2.2.2.length:Int)-1)
   ·rfl
   cases decide (atI own g∈own.take g)
   rotate_left
   ·rfl
   have hw:=qbK.1 hwi
   have hse:=qr6 n o (atI own g).toNat (ldC gs g gs.length) hk (by omega) (by omega) (show 100≤n by omega)
   rw[show (((atI own g).toNat:Nat):Int)=atI own g by omega] at hse
   simp only[hse,Option.bind_some,Bool.not_true,cond_false,Bool.not_false,Bool.true_and,cond_true]
   cases qfA o (atI own g).toNat (ldC gs g gs.length)<;>rfl) (fun _ rec=>by
   rw[qgw]
   simp only[qcW (Nat.le_refl own.length),cond_false]) n (by omega)
 rw[show ((0:Nat):Int)=0 from rfl] at l1
 have key:=qwj (n:=n) hk hgl hgr ho
 have hP:qwi n o (nI gs) own↔Good (tO n o) gs∧RopedOk o (cnts (tO n o) gs) own:=by
  constructor
  ·rintro ⟨hs,h1,h2⟩
   have:gs=hs:=by
    unfold nI at h1
    exact List.map_inj_right (f:=fun g:Nat=>(g:Int)) (fun a b h=>by have h:(a:Int)=(b:Int):=h;omega) |>.1 h1
   rw[this]
   exact h2
  ·intro h;exact ⟨gs,rfl,h⟩
 rcases l1 with ⟨a1,b1⟩ | ⟨a1,k,_,b1⟩
 ·rw[b1]
  exact ⟨true,rfl,fun _=>hP.2 (key.1 a1),fun _=>rfl⟩
 ·rw[b1]
  refine ⟨false,rfl,fun h=>(by cases h),fun h=>?_⟩
  rw[key.2 (hP.1 h)] at a1
  cases a1
theorem qyS(n:Nat)(o:qp)(hn:2000≤n):∃b,qhO n (o,())=some (b,())∧(b=false→qkl o):=by
 rw[qni]
 by_cases h1:o.2.2.2.1.length≤20
 rotate_left
 ·rw[show iGt (o.2.2.2.1.length:Int) 20=true from decide_eq_true (by omega)]
  exact ⟨true,rfl,fun h=>by cases h⟩
 by_cases h2:o.2.2.2.2.1.length≤20
 rotate_left
 ·rw[show iGt (o.2.2.2.1.length:Int) 20=false from decide_eq_false (by omega),show iGt (o.2.2.2.2.1.length:Int) 20=true from decide_eq_true (by omega)]
  exact ⟨true,rfl,fun h=>by cases h⟩
 by_cases h3:o.2.2.2.2.2.2.length≤20
 rotate_left
 ·rw[show iGt (o.2.2.2.1.length:Int) 20=false from decide_eq_false (by omega),show iGt (o.2.2.2.2.1.length:Int) 20=false from decide_eq_false (by omega),show iGt (o.2.2.2.2.2.2.length:Int) 20=true from decide_eq_true (by omega)]
  exact ⟨true,rfl,fun h=>by cases h⟩
 by_cases h4:o.2.2.2.2.2.1.2.2.2.length≤20
 rotate_left
 ·rw[show iGt (o.2.2.2.1.length:Int) 20=false from decide_eq_false (by omega),show iGt (o.2.2.2.2.1.length:Int) 20=false from decide_eq_false (by omega),show iGt (o.2.2.2.2.2.2.length:Int) 20=false from decide_eq_false (by omega),show iGt (o.2.2.2.2.2.1.2.2.2.length:Int) 20=true from decide_eq_true (by omega)]
  exact ⟨true,rfl,fun h=>by cases h⟩
 simp only[show iGt (o.2.2.2.1.length:Int) 20=false from decide_eq_false (by omega),show iGt (o.2.2.2.2.1.length:Int) 20=false from decide_eq_false (by omega),show iGt (o.2.2.2.2.2.2.length:Int) 20=false from decide_eq_false (by omega),show iGt (o.2.2.2.2.2.1.2.2.2.length:Int) 20=false from decide_eq_false (by omega),cond_false]
 have l0:=qjz (qgT n) o.2.2.2.2.2.2 (fun r=>!(iGt (o.2.2.2.2.2.1.2.2.2.length:Int) 8||iGt (r.2.2.2.length:Int) 12)) (fun k=>((k:Int),(o,()))) (some (Sum.inl (o,()))) (fun _=>some (Sum.inr (true,()))) (fun k hk rec=>by
  rw[qig]
  simp only[iLtN hk,cond_true,qJ o.2.2.2.2.2.2 hk,Option.bind_some,qlb,qC (show k<9223372036854775807 by omega)]
  cases iGt (o.2.2.2.2.2.1.2.2.2.length:Int) 8<;>cases iGt (o.2.2.2.2.2.2[k].2.2.2.length:Int) 12<;>rfl) (fun rec=>by
   rw[qig]
   simp only[qcW (Nat.le_refl o.2.2.2.2.2.2.length),cond_false]) n (by omega)
 rw[show ((0:Nat):Int)=0 from rfl] at l0
 rcases l0 with ⟨a0,b0⟩ | ⟨a0,k,_,b0⟩
 rotate_left
 ·rw[b0]
  exact ⟨true,rfl,fun h=>by cases h⟩
 have hs:qkl o:=by
  refine ⟨h1,h2,h3,by omega,fun r hr=>?_⟩
  have:=List.all_eq_true.1 a0 r hr
  simp only[Bool.not_eq_true',Bool.or_eq_false_iff] at this
  have h5:¬((r.2.2.2.length:Int)>12):=of_decide_eq_false this.2
  omega
 rw[b0]
 simp only[Option.bind_some,Sum.elim_inl,qo6 n o hs (show 100≤n by omega)]
 cases iEq (chkE o) 0 with
 | false=>exact ⟨false,rfl,fun _=>hs⟩
 | true =>
  cases iGt (o.2.2.2.1.length:Int) 3 with
  | true=>exact ⟨true,rfl,fun _=>hs⟩
  | false =>
   cases iGt (o.2.2.2.2.1.length:Int) 5 with
   | true=>exact ⟨true,rfl,fun _=>hs⟩
   | false=>exact ⟨_,rfl,fun _=>hs⟩
theorem qtX(n:Nat)(r:RopT)(h:r.2.2.2.length≤50):qfO n (r,())=some (r,()):=by
 rw[qkK,bleT (nAdd (0:Nat) r.2.2.2.length) 3518437208883 (by show 0+r.2.2.2.length≤_;omega)]
 rfl
theorem qtA(n:Nat)(m:MdlT)(h:m.2.2.2.length≤50):qfz n (m,())=some (m,()):=by
 rw[qkA,bleT (nAdd (0:Nat) m.2.2.2.length) 8796093022208 (by show 0+m.2.2.2.length≤_;omega)]
 rfl
theorem qys(n:Nat)(o:qp)(hs:qkl o)(hn:2000≤n):qhe n (o,())=some (o,()):=by
 obtain ⟨h1,h2,h3,h4,h5⟩:=hs
 rw[qmK]
 simp only[bleT (nAdd (0:Nat) o.2.2.2.1.length) 5864062014805 (by show 0+o.2.2.2.1.length≤_;omega),bleT (nAdd (0:Nat) o.2.2.2.2.1.length) 17592186044416 (by show 0+o.2.2.2.2.1.length≤_;omega),Option.bind_some,qtA n o.2.2.2.2.2.1 h4]
 obtain ⟨z,hz⟩:∃z:qp,z=((0:Int),((0:Int),((0:Int),([],([],(((0:Int),((0:Int),((0:Int),[]))),[])))))):=⟨_,rfl⟩
 have:=forN (qeX n) o.2.2.2.2.2.2.length (fun k=>((k:Int),(o,(z,(o.1,(o.2.1,(o.2.2.1,(o.2.2.2.1,(o.2.2.2.2.1,(o.2.2.2.2.2.1,(o.2.2.2.2.2.2.take k,())))))))))))  (some (z,(o.1,(o.2.1,(o.2.2.1,(o.2.2.2.1,(o.2.2.2.2.1,(o.2.2.2.2.2.1,(o.2.2.2.2.2.2,()))))))))) (fun k hk rec=>by
  rw[qhS]
  simp only[iLtN hk,cond_true,qJ o.2.2.2.2.2.2 hk,Option.bind_some,qtX n o.2.2.2.2.2.2[k] (h5 _ (List.getElem_mem hk)),bleT (nAdd (o.2.2.2.2.2.2.take k).length 1) 2932031007402 (by show (o.2.2.2.2.2.2.take k).length+1≤_;rw[List.length_take];omega),qC (show k<9223372036854775807 by omega)]
  rw[List.take_add_one,List.getElem?_eq_getElem hk]
  rfl) (fun rec=>by
   rw[qhS]
   simp only[qcW (Nat.le_refl o.2.2.2.2.2.2.length),cond_false,List.take_length]) n (by omega)
 rw[← hz]
 have e0:ql n (qeX n) ((0:Int),(o,(z,(o.1,(o.2.1,(o.2.2.1,(List.append [] o.2.2.2.1,(List.append [] o.2.2.2.2.1,(o.2.2.2.2.2.1,([],()))))))))))=some (z,(o.1,(o.2.1,(o.2.2.1,(o.2.2.2.1,(o.2.2.2.2.1,(o.2.2.2.2.2.1,(o.2.2.2.2.2.2,())))))))):=this
 rw[e0]
 rfl
theorem qu9{n:Nat}{o:qp}(hk:Okay9 o)(hn:2000≤n){v:Int}(hv:IsFew (qpv n o) (qld o.2.2.2.1.length) v):v<0↔qcl (tO n o)=[]:=by
 constructor
 ·intro h
  rcases hv with ⟨_,h2⟩ | ⟨h0,_⟩
  ·cases hT:qcl (tO n o) with
   | nil=>rfl
   | cons e L =>
    obtain ⟨a,b⟩:=qgx n o hk hn e (by rw[hT];exact List.mem_cons_self)
    exact absurd ⟨a,e.2,b⟩ (h2 e.1)
  ·omega
 ·intro h
  rcases hv with ⟨h1,_⟩ | ⟨h0,⟨gs,hg,_⟩,_⟩
  ·omega
  ·obtain ⟨e,he,_⟩:=qlM n o hk hn gs hg
   rw[h] at he
   cases he
theorem qsc(n:Nat)(o:qp)(hn:4000≤n):qdW n (o,())=some (true,()):=by
 have hw:=qyf n (show 3000≤n by omega)
 have b2:∀i:Int,iNe i i=false:=fun i=>by unfold iNe;simp
 rw[qkb]
 obtain ⟨b,hb,hbs⟩:=qyS n o (by omega)
 simp only[hb,hw,Option.bind_some]
 cases b with
 | true=>rfl
 | false =>
  have hs:=hbs rfl
  simp only[cond_false,qys n o hs (show 2000≤n by omega),Option.bind_some,qti n o hs (show 100≤n by omega),qo6 n o hs (show 100≤n by omega),b2,qwe n o hs (show 2000≤n by omega)]
  rcases qqZ n o hs (by omega) with ⟨hc,h⟩ | ⟨hc,v,hv,h⟩
  ·rcases qtz n o hs (by omega) with ⟨_,ht⟩ | ⟨hc2,_⟩ | ⟨hc2,_⟩
   ·simp only[h,ht,Option.bind_some,b2,cond_false]
    rw[show iNe (chkE o) 0=true by unfold iNe;simp[hc]]
    rfl
   ·exact absurd hc2 hc
   ·exact absurd hc2 hc
  ·have hk:=qkB hc
   have hnone:=qu9 hk (show 2000≤n by omega) hv
   rcases qtz n o hs (by omega) with ⟨hc2,_⟩ | ⟨_,hT,ht⟩ | ⟨_,e,he,ht⟩
   ·exact absurd hc hc2
   ·rw[if_pos (hnone.2 hT)] at h
    simp only[h,ht,Option.bind_some,b2,cond_false]
    rfl
   ·have hv0:¬v<0:=fun hx=>by rw[hnone.1 hx] at he;cases he
    rw[if_neg hv0] at h
    obtain ⟨b,hb1,hb2⟩:=qtW n o (nI e.1) e.2 hk (show 2000≤n by omega)
    have hbt:b=true:=hb2.2 ⟨e.1,rfl,qgx n o hk (by omega) e he⟩
    subst hbt
    simp only[h,ht,Option.bind_some,b2,cond_false,hb1,cond_true]
end Go.Proofs.Ytbdockhccdkdiaa
