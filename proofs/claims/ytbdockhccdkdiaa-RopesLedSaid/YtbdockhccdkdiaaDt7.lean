/- Ropes: the fewest guides, of the reference and of the program. -/
import Derived.Test.YtbdockhccdkdiaaTc
import Derived.Test.YtbdockhccdkdiaaQe
set_option linter.constructorNameAsVariable false
set_option linter.unusedSimpArgs false
set_option linter.unusedVariables false
set_option linter.unusedSectionVars false
namespace Go.Proofs.Ytbdockhccdkdiaa
open Go Go.Proofs Go.RowKit
set_option maxHeartbeats 1000000
def qvc(n:Nat)(o:qp)(e:List Nat):Prop:=∃rep,RopedOk o (cnts (tO n o) e) rep
def FewP(n:Nat)(o:qp)(m:Nat)(gs e:List Nat):Prop:=ExtT (tO n o) m gs e∧qvc n o e
theorem qyu(gs:List Nat)(g:Nat):g∈gs↔0<ldC gs g gs.length:=by
 constructor
 ·intro h
  obtain ⟨k,hk,rfl⟩:=List.getElem_of_mem h
  exact quC (List.getElem?_eq_getElem hk) hk
 ·intro h
  obtain ⟨k,hk,hg⟩:=qtx h
  exact List.mem_of_getElem? hg
def qiC(gs:List Nat)(k:Nat):Nat:=((List.range k).filter fun g=>decide (0<ldC gs g gs.length)).length
theorem qt0(gs:List Nat)(k:Nat):qiC gs (k+1)=qiC gs k+(if 0<ldC gs k gs.length then 1 else 0):=by
 unfold qiC
 rw[List.range_succ,List.filter_append,List.length_append]
 by_cases h:0<ldC gs k gs.length
 ·simp[h]
 ·simp[h]
theorem qwd(gs:List Nat)(k:Nat):qiC gs k≤k:=by
 unfold qiC
 have:=List.length_filter_le (fun g=>decide (0<ldC gs g gs.length)) (List.range k)
 simpa using this
def qlb(o:qp)(gs:List Nat)(g:Nat):Bool:=qjD o g&&(match o.2.2.2.1[g]? with
 | some z=>decide (ldP o.2.2.2.2.1 gs g gs.length+cntN o.2.2.2.2.1 gs.length≤z.2.2)
 | none=>false)
def qh7(o:qp)(gs:List Nat)(v:Nat→Int):Nat→Int
 | 0=>-1
 | k+1=>cond (qlb o gs k) (few2 (qh7 o gs v k) (v k)) (qh7 o gs v k)
theorem qyU(n:Nat)(o:qp)(hk:Okay9 o)(hn:100≤n):∀(m:Nat) (gs:List Nat) (k:Nat),m+gs.length=o.2.2.2.2.1.length→m≤k →
  ∃v,qdg (qv n (k+1)) (o,(nI gs,()))=some (v,())∧IsFew (FewP n o m gs) (qjC o.2.2.2.1.length) v:=by
 obtain ⟨_,o2,o3,o4,o5,o6,o7,_⟩:=hk.oth'
 have hC:∀c,c∈o.2.2.2.2.1→0≤c∧c≤20:=fun c hc=>by have:=o6 c hc;omega
 intro m
 induction m with
 | zero =>
  intro gs k hm hkk
  have hgl:gs.length=o.2.2.2.2.1.length:=by omega
  rw[qgH,qg3]
  rw[qkC,hgl,show iEq (o.2.2.2.2.1.length:Int) (o.2.2.2.2.1.length:Int)=true by unfold iEq;simp]
  simp only[cond_true]
  have:=forN (qd9 n (qv n k)) o.2.2.2.1.length (fun k=>(nI gs,((qiC gs k:Int),((k:Int),(o,()))))) (some (nI gs,((qiC gs o.2.2.2.1.length:Int),(o,())))) (fun j hj rec=>by
   have hle:=qwd gs j
   rw[qgF]
   simp only[iLtN hj,cond_true,qtF n (nI gs) (j:Int) (show (nI gs).length≤50 by rw[qkC];omega) hn,Option.bind_some,qD (show j<9223372036854775807 by omega)]
   have e:decide ((j:Int)∈nI gs)=decide (0<ldC gs j gs.length):=decide_eq_decide.2 ((qwa gs j).trans (qyu gs j))
   rw[e,qt0]
   by_cases h:0<ldC gs j gs.length
   ·rw[decide_eq_true h,if_pos h]
    simp only[cond_true,qD (show qiC gs j<9223372036854775807 by omega)]
   ·rw[decide_eq_false h,if_neg h]
    rfl) (fun rec=>by
    rw[qgF]
    simp only[qcO (Nat.le_refl o.2.2.2.1.length),cond_false]) n (by omega)
  have e0:qj n (qd9 n (qv n k)) (nI gs,((0:Int),((0:Int),(o,()))))=some (nI gs,((qiC gs o.2.2.2.1.length:Int),(o,()))):=this
  rw[e0]
  simp only[Option.bind_some,qyt n o gs hk (show gs.length≤o.2.2.2.2.1.length by omega) hn]
  cases hb:qiF o gs 0 [] with
  | true =>
   refine ⟨qiC gs o.2.2.2.1.length,rfl,.inr ⟨by omega,⟨gs,⟨qn1.2 rfl,(qpe n o gs).1 (qjc.1 hb)⟩,rfl⟩,fun e he=>?_⟩⟩
   have:=qn1.1 he.1
   subst this
   exact Int.le_refl _
  | false =>
   refine ⟨-1,rfl,.inl ⟨rfl,fun e he=>?_⟩⟩
   have:=qn1.1 he.1
   subst this
   rw[qjc.2 ((qpe n o e).2 he.2)] at hb
   cases hb
 | succ m ih =>
  intro gs k hm hkk
  obtain ⟨k,rfl⟩:∃j,k=j+1:=⟨k-1,by omega⟩
  have hgl:gs.length<o.2.2.2.2.1.length:=by omega
  have hv0:∀g:Nat,∃v:Int,qdg (qv n (k+1)) (o,(nI (gs++[g]),()))=some (v,())∧IsFew (FewP n o m (gs++[g])) (qjC o.2.2.2.1.length) v:=fun g=>ih (gs++[g]) k (by rw[List.length_append,List.length_singleton];omega) (by omega)
  obtain ⟨v,hv⟩:=Classical.skolem.1 hv0
  rw[qgH,qg3]
  rw[qkC,show iEq (gs.length:Int) (o.2.2.2.2.1.length:Int)=false from beq_eq_false_iff_ne.2 (by omega)]
  simp only[cond_false]
  have:=forN (qea n (qv n (k+1))) o.2.2.2.1.length (fun j=>(nI gs,(qh7 o gs v j,((j:Int),(o,()))))) (some (qh7 o gs v o.2.2.2.1.length,())) (fun j hj rec=>by
   have hle2:(List.append [] (nI gs)).length=gs.length:=by show ([]++nI gs).length=_;rw[List.nil_append,qkC]
   have hld:=qrB n o (gs++[j]) j hC (by rw[List.length_append,List.length_singleton];omega) (by rw[List.length_append,List.length_singleton];omega) hn
   rw[List.length_append,List.length_singleton,qtu,if_pos rfl] at hld
   rw[qgG]
   simp only[iLtN hj,cond_true,qyT,hld,qsh n o j hj,qE o.2.2.2.1 hj,(hv j).1,Option.bind_some,bleT (nAdd (0:Nat) (nI gs).length) 17592186044416 (by show 0+(nI gs).length≤_;rw[qkC];omega),bleT (nAdd (List.append [] (nI gs)).length 1) 17592186044416 (by show (List.append [] (nI gs)).length+1≤_;omega),qD (show j<9223372036854775807 by omega)]
   have hb:qh7 o gs v (j+1)=cond (qlb o gs j) (few2 (qh7 o gs v j) (v j)) (qh7 o gs v j):=rfl
   have hcd:qlb o gs j=(qjD o j&&decide (ldP o.2.2.2.2.1 gs j gs.length+cntN o.2.2.2.2.1 gs.length≤o.2.2.2.1[j].2.2)):=by
    unfold qlb
    rw[List.getElem?_eq_getElem hj]
   rw[hb,hcd]
   cases qjD o j with
   | false=>rfl
   | true =>
    simp only[Bool.not_true,cond_false,Bool.true_and]
    have hcn:(o.2.2.2.2.1[gs.length]?).getD 0=cntN o.2.2.2.2.1 gs.length:=rfl
    rw[hcn]
    by_cases hp:ldP o.2.2.2.2.1 gs j gs.length+cntN o.2.2.2.2.1 gs.length≤o.2.2.2.1[j].2.2
    ·rw[show iGt (ldP o.2.2.2.2.1 gs j gs.length+cntN o.2.2.2.2.1 gs.length) o.2.2.2.1[j].2.2=false from decide_eq_false (by omega),decide_eq_true hp]
     simp only[cond_false,cond_true]
     generalize qh7 o gs v j=a
     generalize v j=b
     unfold few2
     by_cases h1:0≤b
     ·rw[show iGe b 0=true from decide_eq_true h1]
      simp only[cond_true]
      by_cases h2:a<0
      ·rw[show iLt a 0=true from decide_eq_true h2,if_pos ⟨h1,.inl h2⟩]
       rfl
      ·rw[show iLt a 0=false from decide_eq_false h2]
       simp only[cond_false]
       by_cases h3:b<a
       ·rw[show iLt b a=true from decide_eq_true h3,if_pos ⟨h1,.inr h3⟩]
        rfl
       ·rw[show iLt b a=false from decide_eq_false h3,if_neg (fun h=>h.2.elim h2 h3)]
        rfl
     ·rw[show iGe b 0=false from decide_eq_false h1,if_neg (fun h=>h1 h.1)]
      rfl
    ·rw[show iGt (ldP o.2.2.2.2.1 gs j gs.length+cntN o.2.2.2.2.1 gs.length) o.2.2.2.1[j].2.2=true from decide_eq_true (by omega),decide_eq_false hp]
     rfl) (fun rec=>by
    rw[qgG]
    simp only[qcO (Nat.le_refl o.2.2.2.1.length),cond_false]) n (by omega)
  have e0:qj n (qea n (qv n (k+1))) (nI gs,((Int.negSucc 0),((0:Int),(o,()))))=some (qh7 o gs v o.2.2.2.1.length,()):=this
  rw[e0]
  refine ⟨_,rfl,?_⟩
  have go:∀j,j≤o.2.2.2.1.length→IsFew (fun e=>∃g,g<j∧qlb o gs g=true∧FewP n o m (gs++[g]) e) (qjC o.2.2.2.1.length) (qh7 o gs v j):=by
   intro j
   induction j with
   | zero=>intro _;exact .inl ⟨rfl,fun e ⟨g,h,_⟩=>by omega⟩
   | succ j ihj =>
    intro hj
    have ihj:=ihj (by omega)
    have hb:qh7 o gs v (j+1)=cond (qlb o gs j) (few2 (qh7 o gs v j) (v j)) (qh7 o gs v j):=rfl
    rw[hb]
    cases hc:qlb o gs j with
    | false =>
     refine ihj.congr (fun e=>⟨fun⟨g,a,b⟩=>⟨g,by omega,b⟩,fun⟨g,a,b,c⟩=>⟨g,?_,b,c⟩⟩) fun _ _=>rfl
     by_cases e:g=j
     ·subst e;rw[hc] at b;cases b
     ·omega
    | true =>
     refine (ihj.or (hv j).2).congr (fun e=>⟨fun h=>?_,fun⟨g,a,b,c⟩=>?_⟩) fun _ _=>rfl
     ·rcases h with ⟨g,a,b⟩ | h
      ·exact ⟨g,by omega,b⟩
      ·exact ⟨j,by omega,hc,h⟩
     ·by_cases e:g=j
      ·subst e;exact .inr c
      ·exact .inl ⟨g,by omega,b,c⟩
  refine (go o.2.2.2.1.length (Nat.le_refl _)).congr (fun e=>?_) fun _ _=>rfl
  unfold FewP
  rw[qtA]
  have hcg:∀g,g<o.2.2.2.1.length→(qlb o gs g=true↔(tO n o).lead g=true∧ldP (tO n o).clients gs g gs.length+cntN (tO n o).clients gs.length≤(tO n o).pts g):=fun g hg=>by
   rw[qrC n o hg,qtE n o hg,tO_C]
   unfold qlb
   rw[List.getElem?_eq_getElem hg,Bool.and_eq_true,decide_eq_true_eq]
  constructor
  ·rintro ⟨g,a,b,c,d⟩
   exact ⟨⟨g,a,(hcg g a).1 b,c⟩,d⟩
  ·rintro ⟨⟨g,a,b,c⟩,d⟩
   exact ⟨g,a,(hcg g a).2 b,c,d⟩
def qmo(n:Nat)(o:qp)(e:List Nat):Prop:=Good (tO n o) e∧qvc n o e
theorem qyv(n:Nat)(o:qp)(hk:Okay9 o)(hn:100≤n):∃v,qgj n (o,(([]:List Int),()))=some (v,())∧IsFew (qmo n o) (qjC o.2.2.2.1.length) v:=by
 obtain ⟨_,_,_,_,o5,_⟩:=hk.oth'
 obtain ⟨m,hm⟩:∃m,n=m+1:=⟨n-1,by omega⟩
 obtain ⟨v,h1,h2⟩:=qyU n o hk hn o.2.2.2.2.1.length [] m (by simp) (by omega)
 rw[← hm] at h1
 refine ⟨v,?_,h2.congr (fun e=>?_) fun _ _=>rfl⟩
 ·rw[qk7]
  exact h1
 ·unfold FewP qmo
  rw[← tO_C n o,qtB]
theorem qq8(n:Nat)(o:qp)(hs:qla o)(hn:100≤n):(chkE o≠0∧qe3 n (o,())=some (0,(chkE o,())))∨(chkE o=0∧∃v,IsFew (qmo n o) (qjC o.2.2.2.1.length) v∧qe3 n (o,())=if v<0 then some (0,(3,())) else some (v,(0,()))):=by
 rw[qlI]
 simp only[qo8 n o hs hn,Option.bind_some]
 by_cases hc:chkE o=0
 ·obtain ⟨v,h1,h2⟩:=qyv n o (qkB hc) hn
  refine .inr ⟨hc,v,h2,?_⟩
  rw[hc]
  simp only[show iNe (0:Int) 0=false from rfl,cond_false,h1,Option.bind_some]
  by_cases h:v<0
  ·rw[show iLt v 0=true from decide_eq_true h,if_pos h];rfl
  ·rw[show iLt v 0=false from decide_eq_false h,if_neg h];rfl
 ·refine .inl ⟨hc,?_⟩
  rw[show iNe (chkE o) 0=true by unfold iNe;simp[hc]]
  rfl
def qdr(l:List Int):Int:=(l.filter fun x=>decide (0≤x)).length
def qhU(l:List Int)(k:Nat):Nat:=((l.take k).filter fun x=>decide (0≤x)).length
theorem qpW{l:List Int}{k:Nat}(hk:k<l.length):qhU l (k+1)=qhU l k+(if 0≤l[k] then 1 else 0):=by
 unfold qhU
 rw[List.take_add_one,List.filter_append,List.length_append,List.getElem?_eq_getElem hk]
 by_cases h:0≤l[k]
 ·simp[h]
 ·simp[h]
theorem qsj(l:List Int)(k:Nat):qhU l k≤k:=by
 unfold qhU
 have:=List.length_filter_le (fun x=>decide (0≤x)) (l.take k)
 rw[List.length_take] at this
 omega
theorem qq9(l:List Int):(qhU l l.length:Int)=qdr l:=by
 unfold qhU qdr
 rw[List.take_length]
theorem quD(n:Nat)(l:List Int)(hl:l.length≤50)(hn:100≤n):qcs n (l,())=some (qdr l,()):=by
 rw[qmH]
 have:=forN (qe4 n) l.length (fun k=>(l,((qhU l k:Int),((k:Int),())))) (some (qdr l,())) (fun k hk rec=>by
  have hle:=qsj l k
  rw[qhS,qpW hk]
  simp only[iLtN hk,cond_true,qE l hk,Option.bind_some,qD (show k<9223372036854775807 by omega)]
  by_cases h:0≤l[k]
  ·rw[show iGe l[k] 0=true from decide_eq_true h,if_pos h]
   simp only[cond_true,qD (show qhU l k<9223372036854775807 by omega)]
  ·rw[show iGe l[k] 0=false from decide_eq_false h,if_neg h]
   rfl) (fun rec=>by
   rw[qhS,qq9]
   simp only[qcO (Nat.le_refl l.length),cond_false]) n (by omega)
 have e0:qj n (qe4 n) (l,((0:Int),((0:Int),())))=some (qdr l,()):=this
 rw[e0]
 rfl
theorem qwe(n:Nat)(l:List Int)(s:Int×Unit)(hl:l.length≤50)(hn:100≤n):qj n (qgO n) ((0:Int),(l,((l.length:Int),((0:Int),s))))=some (qdr l,s):=by
 have:=forN (qgO n) l.length (fun k=>((qhU l k:Int),(l,((l.length:Int),((k:Int),s))))) (some (qdr l,s)) (fun k hk rec=>by
  have hle:=qsj l k
  rw[qjK,qpW hk]
  simp only[iLtN hk,cond_true,qE l hk,Option.bind_some,qD (show k<9223372036854775807 by omega)]
  by_cases h:0≤l[k]
  ·rw[show iGe l[k] 0=true from decide_eq_true h,if_pos h]
   simp only[cond_true,qD (show qhU l k<9223372036854775807 by omega)]
  ·rw[show iGe l[k] 0=false from decide_eq_false h,if_neg h]
   rfl) (fun rec=>by
   rw[qjK,qq9]
   simp only[qcO (Nat.le_refl l.length),cond_false]) n (by omega)
 exact this
theorem qtG(l:List Int):0≤qdr l:=by unfold qdr;omega
theorem qwf(n:Nat)(hn:100≤n):∀(L:List (List Nat×List Int)) (a:Int) (P:List Nat×List Int→Prop),(∀e,e∈L→e.2.length≤50)→IsFew P (fun e=>qdr e.2) a →
  ∃v,rgF (qcH n) (L.map fun e=>(e.2,())) (a,())=some (Sum.inl (v,()))∧IsFew (fun e=>P e∨e∈L) (fun e=>qdr e.2) v
 | [],a,P,_,h=>⟨a,rfl,h.congr (fun e=>by simp) fun _ _=>rfl⟩
 | e::L,a,P,hl,h=>by
  have h1:IsFew (fun x=>x=e) (fun e:List Nat×List Int=>qdr e.2) (qdr e.2):=.inr ⟨qtG _,⟨e,rfl,rfl⟩,fun x hx=>by rw[hx];exact Int.le_refl _⟩
  obtain ⟨v,h2,h3⟩:=qwf n hn L (few2 a (qdr e.2)) (fun x=>P x∨x=e) (fun x hx=>hl x (List.mem_cons_of_mem _ hx)) (h.or h1)
  refine ⟨v,?_,h3.congr (fun x=>by rw[List.mem_cons,or_assoc]) fun _ _=>rfl⟩
  show qcH n (rgF (qcH n) (L.map fun e=>(e.2,()))) (a,()) (e.2,())=_
  rw[qok]
  simp only[qwe n e.2 (a,()) (hl e List.mem_cons_self) hn,Option.bind_some]
  have h0:=qtG e.2
  rw[← h2]
  unfold few2
  by_cases ha:a<0
  ·rw[show iLt a 0=true from decide_eq_true ha,if_pos ⟨h0,.inl ha⟩];rfl
  ·rw[show iLt a 0=false from decide_eq_false ha]
   by_cases hb:qdr e.2<a
   ·rw[show iLt (qdr e.2) a=true from decide_eq_true hb,if_pos ⟨h0,.inr hb⟩];rfl
   ·rw[show iLt (qdr e.2) a=false from decide_eq_false hb,if_neg (fun h=>h.2.elim ha hb)];rfl
theorem qmp{n:Nat}{o:qp}{e:List Nat}{rep:List Int}(h:RopedOk o (cnts (tO n o) e) rep):qdr rep=qjC o.2.2.2.1.length e:=by
 have hrep:rep=(List.range o.2.2.2.1.length).map fun g=>atI rep g:=by
  refine List.ext_getElem? fun i=>?_
  rw[List.getElem?_map]
  by_cases hi:i<o.2.2.2.1.length
  ·rw[List.getElem?_range hi]
   exact (qdX (by rw[h.len];exact hi)).1
  ·rw[List.getElem?_eq_none (by rw[h.len];omega),List.getElem?_eq_none (by simp;omega)]
   rfl
 have:qdr rep=qdr ((List.range o.2.2.2.1.length).map fun g=>atI rep g):=by rw[← hrep]
 rw[this]
 unfold qdr qjC qxS
 rw[List.filter_map,List.length_map]
 congr 2
 refine List.filter_congr fun g hg=>?_
 rw[List.mem_range] at hg
 show decide (0≤atI rep g)=decide (0<ldC e g e.length)
 refine decide_eq_decide.2 ?_
 have hc:=qcA n o e hg
 by_cases hp:0<ldC e g e.length
 ·obtain ⟨r,a,_⟩:=h.yes g hg (by rw[hc];exact hp)
  unfold atI
  rw[a]
  simp[hp]
 ·have hb:=(qiB e g e.length).1
  have a:=h.no g hg (by rw[hc];omega)
  unfold atI
  rw[a]
  simp[hp]
theorem quE(n:Nat)(o:qp)(hk:Okay9 o)(hn:2000≤n):TmOk n (qfL o):=by
 obtain ⟨_,_,o3,o4,o5,o6,_,_⟩:=hk.oth'
 exact qxR n hn (qfL o) o3 o5 o6 (fun z hz=>(o4 z hz).2) (fun f hf=>qnY o f hf)
theorem qwg(n:Nat)(o:qp)(hk:Okay9 o)(hn:2000≤n)(e:List Nat)(he:e.length=o.2.2.2.2.1.length):(∀rep,(tO n o).rop (cnts (tO n o) e)=some rep→RopedOk o (cnts (tO n o) e) rep)∧(qvc n o e→∃rep,(tO n o).rop (cnts (tO n o) e)=some rep):=by
 obtain ⟨_,_,_,_,o5,_⟩:=hk.oth'
 exact qyR n o (cnts (tO n o) e) hk (qn0 _ _) (qyr n o e (by omega)) hn
theorem qgz(n:Nat)(o:qp)(hk:Okay9 o)(hn:2000≤n)(e:List Nat×List Int)(h:e∈qcn (tO n o)):Good (tO n o) e.1∧RopedOk o (cnts (tO n o) e.1) e.2:=by
 obtain ⟨h1,h2⟩:=(qq5 _ _).1 h
 exact ⟨h1,(qwg n o hk hn e.1 h1.1).1 e.2 h2⟩
theorem qlJ(n:Nat)(o:qp)(hk:Okay9 o)(hn:2000≤n)(gs:List Nat)(h:qmo n o gs):∃e,e∈qcn (tO n o)∧e.1=gs:=by
 obtain ⟨rep,hr⟩:=(qwg n o hk hn gs h.1.1).2 h.2
 exact ⟨(gs,rep),(qq5 _ _).2 ⟨h.1,hr⟩,rfl⟩
theorem qxz(n:Nat)(o:qp)(hk:Okay9 o)(hn:2000≤n)(v:Int)(h:IsFew (fun e=>e∈qcn (tO n o)) (fun e:List Nat×List Int=>qdr e.2) v):IsFew (qmo n o) (qjC o.2.2.2.1.length) v:=by
 rcases h with ⟨h1,h2⟩ | ⟨h0,⟨e,he,hu⟩,hm⟩
 ·refine .inl ⟨h1,fun gs hg=>?_⟩
  obtain ⟨e,he,_⟩:=qlJ n o hk hn gs hg
  exact h2 e he
 ·obtain ⟨a,b⟩:=qgz n o hk hn e he
  refine .inr ⟨h0,⟨e.1,⟨a,e.2,b⟩,by rw[← qmp b];exact hu⟩,fun gs hg=>?_⟩
  obtain ⟨x,hx,rfl⟩:=qlJ n o hk hn gs hg
  rw[← qmp (qgz n o hk hn x hx).2]
  exact hm x hx
theorem qpx{α β:Type}{x:Option α}{a:α}{f:α→Option β}(h:x=some a):x.bind f=f a:=by rw[h];rfl
theorem qtH(n:Nat)(o:qp)(hs:qla o)(hc:chkE o=0)(hn:2000≤n):qdO n (o,())=some (Sum.inl (qfL o,(0,()))):=by
 rw[qnZ n o hs hn,if_pos hc]
 rfl
theorem qwh(n:Nat)(o:qp)(hs:qla o)(hn:2000≤n):qev n (o,())=qe3 n (o,()):=by
 rw[qkO]
 rcases qq8 n o hs (by omega) with ⟨hc,h⟩ | ⟨hc,v,hv,h⟩
 ·rw[qnZ n o hs hn,if_neg hc,h]
  simp only[Option.bind_some,Sum.elim_inr]
  rw[show iNe (chkE o) 0=true by unfold iNe;simp[hc]]
  rfl
 ·rw[qtH n o hs hc hn,h]
  have hk:=qkB hc
  have htg:qlv n (qfL o)=some ((qcn (tO n o)).map fun e=>(e.2,())):=by
   unfold qlv
   rw[qo0 (quE n o hk hn)]
   rfl
  obtain ⟨_,_,o3,_⟩:=hk.oth'
  obtain ⟨w,hw1,hw2⟩:=qwf n (by omega) (qcn (tO n o)) (-1) (fun _=>False) (fun e he=>by rw[(qgz n o hk hn e he).2.len];omega) (.inl ⟨rfl,fun _ h=>h⟩)
  have hw3:=qxz n o hk hn w (hw2.congr (fun e=>by simp) fun _ _=>rfl)
  have hwv:=hw3.uniq hv
  subst hwv
  simp only[Option.bind_some,Sum.elim_inl,show iNe (0:Int) 0=false from rfl,cond_false,qfA]
  refine (qpx htg).trans ?_
  have hw1':rgF (qcH n) (List.map (fun e:List Nat×List Int=>(e.2,())) (qcn (tO n o))) (Int.negSucc 0,())=some (Sum.inl (w,())):=hw1
  refine (qpx hw1').trans ?_
  show cond (iLt w 0) (some ((0:Int),((3:Int),()))) (some (w,((0:Int),())))=_
  by_cases h:w<0
  ·rw[show iLt w 0=true from decide_eq_true h,if_pos h];rfl
  ·rw[show iLt w 0=false from decide_eq_false h,if_neg h];rfl
theorem qt1(n:Nat)(a:Int)(l:List Int):qfH n ((a::l:List Int),())=Option.bind (qcD (Nat.ble (nAdd (0:Nat) (List.length (a::l))) 17592186044416)) fun _=>(some ((List.append [] (a::l)),())):=by kernel_rfl
theorem qwi(n:Nat):qfJ n ([],())=some ([],()):=by kernel_rfl
theorem qwj(n:Nat)(a:Int)(l:List Int):qfJ n (a::l,())=qfH n ((a::l:List Int),()):=by kernel_rfl
theorem qwk(n:Nat)(l:List Int)(hl:l.length≤1000):qfJ n (l,())=some (l,()):=by
 cases l with
 | nil=>exact qwi n
 | cons a l =>
  rw[qwj]
  refine (qt1 n a l).trans ?_
  rw[bleT (nAdd (0:Nat) (List.length (a::l))) 17592186044416 (Nat.le_trans (Nat.le_of_eq (Nat.zero_add _)) (Nat.le_trans hl (by decide)))]
  rfl
theorem qxA(n:Nat)(o:qp)(hs:qla o)(hn:2000≤n):(chkE o≠0∧qg0 n (o,())=some ([],([],(chkE o,()))))∨(chkE o=0∧qcn (tO n o)=[]∧qg0 n (o,())=some ([],([],(3,()))))∨(chkE o=0∧∃e,e∈qcn (tO n o)∧qg0 n (o,())=some (nI e.1,(e.2,(0,())))):=by
 rw[qql]
 by_cases hc:chkE o=0
 ·right
  rw[qtH n o hs hc hn]
  have hk:=qkB hc
  have htg:qo1 n (qfL o)=some ((qcn (tO n o)).map fun e=>(e.1.map fun g:Nat=>(g:Int),(e.2,()))):=by
   unfold qo1
   rw[qo0 (quE n o hk hn)]
   rfl
  obtain ⟨_,_,_,_,o5,_⟩:=hk.oth'
  simp only[Option.bind_some,Sum.elim_inl,show iNe (0:Int) 0=false from rfl,cond_false,qfA]
  cases hT:qcn (tO n o) with
  | nil =>
   rw[hT] at htg
   refine .inl ⟨hc,rfl,(qpx htg).trans ?_⟩
   exact (qpx (show rgF (qf7 n) [] (([]:List Int),(([]:List Int),((0:Int),())))=some (Sum.inl (([]:List Int),(([]:List Int),((0:Int),())))) from rfl)).trans rfl
  | cons e L =>
   have he:e∈qcn (tO n o):=by rw[hT];exact List.mem_cons_self
   refine .inr ⟨hc,e,List.mem_cons_self,?_⟩
   have hlen:(e.1.map fun g:Nat=>(g:Int)).length≤1000:=by
    rw[List.length_map,(qgz n o hk hn e he).1.1,tO_C];omega
   have hst:∀rec,qf7 n rec (([]:List Int),(([]:List Int),((0:Int),()))) (e.1.map (fun g:Nat=>(g:Int)),(e.2,()))=some (Sum.inr (nI e.1,(e.2,((0:Int),())))):=fun rec=>by
    rw[qo6]
    simp only[qwk n (e.1.map fun g:Nat=>(g:Int)) hlen,Option.bind_some]
    rfl
   rw[hT] at htg
   refine (qpx htg).trans ?_
   exact (qpx (hst (rgF (qf7 n) (L.map fun e=>(e.1.map fun g:Nat=>(g:Int),(e.2,())))))).trans rfl
 ·left
  rw[qnZ n o hs hn,if_neg hc]
  refine ⟨hc,?_⟩
  simp only[Option.bind_some,Sum.elim_inr]
  rw[show iNe (chkE o) 0=true by unfold iNe;simp[hc]]
  rfl
end Go.Proofs.Ytbdockhccdkdiaa
