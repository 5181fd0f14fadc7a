/- Texts Al10, Al11, Al12, Al13, Al14, Al15, Al16, Al17, Al18, Al19, Al20, Al21, Al22, Am1, Rds in one. -/
import Derived.Test.YtfnflenkeljkiaaGreatKb
import Derived.RangeFuncNested
import Derived.RangeFuncBound
import Derived.RangeFuncCalls
import Derived.Laws.OwnMore
import Derived.Deep.Slices
import Derived.ChangeSame
import Derived.SizedLaws
/- Abstract walking: calls that write what is told, values of yield, iterators. Nothing here speaks of the program. -/
set_option linter.constructorNameAsVariable false
set_option linter.unusedSimpArgs false
set_option linter.unusedVariables false
set_option linter.unusedSectionVars false
namespace Go.Proofs.YtfnflenkeljkiaaGreat
open Go Go.Proofs Go.RowKit
set_option maxHeartbeats 1000000
section
variable {P:Program} {w0:Bs} {S:Nat→Prop} {F:Fence} {H:List HE} {t:List AV} {Q:qcB}
def qf(H:List HE)(b:Nat):Prop:=∃e,e∈H∧e.owns b
def MCT(P:Program)(T:Nat→Prop)(f:FuncId)(args:List AV)(Hin:List HE)(R:AV→List HE→Prop):Prop :=
 Enters P f∧∀(w:World) (S N:Nat→Prop) (vs:Array Value),(∀b,(b<w.heap.size→S b)→T b)→SRel ⟨w,qf Hin,N⟩ S args Hin {tmps:=vs,defers:=[]} w →
  CallsIn Fence.wide 0 P f vs w fun e w'=>∃u r H',e = .returned u∧R r H'∧SRel ⟨w,qf Hin,N⟩ S [r] H' {tmps:=#[u],defers:=[]} w'
abbrev MC(P:Program)(f:FuncId)(args:List AV)(Hin:List HE)(R:AV→List HE→Prop):Prop:=MCT P (fun _=>True) f args Hin R
theorem MCT.mono{T:Nat→Prop}{f:FuncId}{args:List AV}{Hin:List HE}{R R':AV→List HE→Prop}(h:MCT P T f args Hin R)(hr:∀r H',R r H'→R' r H'):MCT P T f args Hin R' :=
 ⟨h.1,fun w S N vs hT hs=>(h.2 w S N vs hT hs).mono fun _ _ ⟨u,r,H',h1,h2,h3⟩=>⟨u,r,H',h1,hr _ _ h2,h3⟩⟩
def RetM(P:Program)(w0:Bs)(S:Nat→Prop)(fn:Func)(R:AV→List HE→Prop)(t:List AV)(H:List HE):Prop :=
 ∃r,R r H∧∀a w,SRel w0 S t H a w→∃u,(results fn a.tmps).run P w = .ok u w∧Enc w (Al w0 S H) u r
def qoi(P:Program)(w0:Bs)(S:Nat→Prop)(fn:Func)(R:AV→List HE→Prop):qcB
 | .normal,t,H=>∃H2:List HE,H2.Sublist H∧RetM P w0 S fn R t H2
 | .ret,t,H=>∃H2:List HE,H2.Sublist H∧RetM P w0 S fn R t H2
 | _,_,_=>False
theorem RetM.none{fn:Func}{R:AV→List HE→Prop}(h:fn.results = #[])(hR:R (.val (.tuple #[])) H):RetM P w0 S fn R t H:=⟨_,hR,fun a w _=>⟨_,results_none h a.tmps P w,.val _⟩⟩
theorem RetM.one{fn:Func}{R:AV→List HE→Prop}{i:Nat}{d:AV}(h:fn.results = #[.tmp i])(hd:AV.get t i=d)(hR:R d H):RetM P w0 S fn R t H :=
 ⟨_,hR,fun a w hr=>⟨_,results_tmp h a.tmps P w,by rw[← hd];exact hr.tm i⟩⟩
theorem qrb{fn:Func}{R:AV→List HE→Prop}(h:fn.results = #[])(hR:R (.val (.tuple #[])) H):qoi P w0 S fn R .normal t H:=⟨H,List.Sublist.refl _,RetM.none h hR⟩
theorem qwN{fn:Func}{R:AV→List HE→Prop}(h:fn.results = #[])(hR:R (.val (.tuple #[])) H):qoi P w0 S fn R .ret t H:=⟨H,List.Sublist.refl _,RetM.none h hR⟩
theorem ql3{fn:Func}{R:AV→List HE→Prop}{i:Nat}{d:AV}(h:fn.results = #[.tmp i])(hd:AV.get t i=d)(hR:R d H):qoi P w0 S fn R .ret t H:=⟨H,List.Sublist.refl _,RetM.one h hd hR⟩
theorem SRel.slots{args:List AV}{vs:Array Value}{w:World}(m:Nat)(h:SRel w0 S args H {tmps:=vs,defers:=[]} w):SRel w0 S (args++List.replicate m .undef) H {tmps:=vs++Array.replicate m undef,defers:=[]} w :=
 ⟨h.ext,h.df,h.mks,by have:=h.sz;simp only at this;simp[this],qt1 m (by have:=h.sz;exact this) fun i d hi=>by
  have:=h.tm i
  rw[AV.get_eq,hi] at this
  exact this,h.ap,h.hs,h.gh,h.nd⟩
theorem SRel.reslot{a:Act}{w:World}{t':List AV}{tmps:Array Value}(h:SRel w0 S t H a w)(hs:tmps.size=t'.length)(ht:∀i,Enc w (Al w0 S H) (tmps.getD i undef) (AV.get t' i)):SRel w0 S t' H {a with tmps:=tmps} w :=
 ⟨h.ext,h.df,h.mks,hs,ht,h.ap,h.hs,h.gh,h.nd⟩
theorem SRel.single{a:Act}{w:World}{u:Value}{r:AV}(h:SRel w0 S t H a w)(hu:Enc w (Al w0 S H) u r)(hd:a.defers=[]):SRel w0 S [r] H {tmps:=#[u],defers:=[]} w:=by
 have:=h.reslot (t':=[r]) (tmps:=#[u]) rfl fun i=>by
  match i with
  | 0=>exact hu
  | n+1=>exact .any _
 rw[hd] at this
 exact this
theorem MCT.of{T:Nat→Prop}{f:FuncId}{fn:Func}{c:Code}{args t:List AV}{Hin:List HE}{R:AV→List HE→Prop}(hf:P.funcs[f]?=some fn)(hname:(fn.name == "runtime.NumGoroutine")=false)(hb:fn.body=some c)(ht:args++List.replicate (fn.ntmps-args.length) .undef=t)
  (h:∀w0 S,(∀b,w0.M b↔qf Hin b)→(∀b,(b<w0.w.heap.size→S b)→T b)→Awp P w0 S Fence.wide c (qoi P w0 S fn R) t Hin):MCT P T f args Hin R:=by
 refine ⟨enters_of hf hname hb,fun w S N vs hT hr=>callsIn_of_wp_marks hf hb trivial ?_⟩
 have hsz:=hr.sz
 simp only at hsz
 refine wpIn_mono (h _ S (fun _=>Iff.rfl) hT _ w (by rw[← ht,hsz];exact hr.slots _)) ?_
 rintro e a' w' ⟨t',H',hr,hq⟩
 have key:(∃H2:List HE,H2.Sublist H'∧RetM P ⟨w,qf Hin,N⟩ S fn R t' H2)→LeavesInM Fence.wide 0 P fn a'.tmps (fun e w'=>∃u r H',e = .returned u∧R r H'∧SRel ⟨w,qf Hin,N⟩ S [r] H' {tmps:=#[u],defers:=[]} w') a'.defers .returning w':=fun⟨H2,hs2,r,hq1,hq2⟩ =>
  qj7 (fun a' w' hd hr=>by obtain ⟨u,h1,h2⟩:=hq2 a' w' hr;exact ⟨u,h1,u,r,H2,rfl,hq1,hr.single h2 hd⟩) a'.defers a' w' rfl (hr.sub hs2)
 cases e with
 | normal=>exact key hq
 | ret=>exact key hq
 | exit id=>exact hq.elim
 | goto l=>exact hq.elim
 | panic c=>exact hq.elim
 | outgrown=>exact hq.elim
def HE.isGhost:HE→Prop
 | .ghost _ _=>True
 | _=>False
theorem HE.proper_of{e:HE}(h:¬e.isGhost){b:Nat}(hb:e.owns b):e.proper:=by
 cases e with
 | ghost X J=>exact (h trivial).elim
 | nodef=>exact hb.elim
 | _=>trivial
theorem SRel.into{a:Act}{w:World}{Hin Hf:List HE}{args:List AV}{vs:Array Value}(h:SRel w0 S t (Hin++Hf) a w)(hn:vs.size=args.length)(ha:∀i d,args[i]?=some d→Enc w (Al w0 S (Hin++Hf)) (vs.getD i undef) d)
  (hg:(∀e,e∈Hin→¬e.isGhost)∨((∀e,e∈Hf→¬e.isGhost)∧HE.nodef∈Hin++Hf)):SRel ⟨w,qf Hin,fun k=>w0.N k∨qf Hf k⟩ (Al w0 S (Hin++Hf)) args Hin {tmps:=vs,defers:=[]} w:=by
 have hap:=List.pairwise_append.1 h.ap
 have hN:∀k,(w0.N k∨qf Hf k)→k<w.heap.size:=fun k hk=>by
  rcases hk with hk | ⟨e,he,hk⟩
  ·exact h.ext.n k hk
  ·exact (HE.ok_lt (h.hs e (List.mem_append_right _ he)) k hk).2
 have hown:∀e,e∈Hin→∀b,e.owns b→¬(w0.N b∨qf Hf b):=fun e he b hb hk=>by
  have hm:=List.mem_append_left Hf he
  rcases hk with hk | ⟨e',he',hk⟩
  ·exact (HE.ok_lt (h.hs e hm) b hb).1.2 hk
  ·exact hap.2.2 e he e' he' b hb hk
 have hA:∀b,b<w.heap.size→Al w0 S (Hin++Hf) b→Al ⟨w,qf Hin,fun k=>w0.N k∨qf Hf k⟩ (Al w0 S (Hin++Hf)) Hin b:=fun b hb hA =>
  ⟨fun _=>⟨hA,fun⟨e,he,h1⟩=>hA.2.2 e (List.mem_append_left _ he) h1⟩,fun h1=>by
   rcases h1 with h1 | ⟨e,he,h1⟩
   ·exact hA.2.1 h1
   ·exact hA.2.2 e (List.mem_append_right _ he) h1,fun e he h1=>hA.2.2 e (List.mem_append_left _ he) h1⟩
 refine ⟨⟨Kp.refl _ w,hN,h.ext.gl.gx (fun p hp ⟨e,he,hb⟩=>h.ext.gno hp (HE.ok_lt (h.hs e (List.mem_append_left _ he)) _ hb).1.1) fun p hp hk=>hk.elim (h.ext.g.1 p hp).2.2 fun⟨e,he,hb⟩=>h.ext.gno hp (HE.ok_lt (h.hs e (List.mem_append_right _ he)) _ hb).1.1⟩,Marks.nil w,(fun b hb=>by cases hb),hn,fun i=>?_,hap.1,fun e he=>?_,fun X J hm=>?_,fun _=>rfl⟩
 ·rw[AV.get_eq]
  cases hi:args[i]? with
  | none=>exact .any _
  | some d=>exact (ha i d hi).mono hA
 ·exact HE.ok_move (h.hs e (List.mem_append_left _ he)) (Nat.le_refl _) (fun b hS hb=>⟨rfl,hA b hb hS⟩) (fun _ _ _=>rfl) fun b hb _=>⟨.inl ⟨e,he,hb⟩,hown e he b hb⟩
 ·have hmm:=List.mem_append_left Hf hm
  rcases hg with hg | ⟨hg,hnd⟩
  ·exact (hg _ hm trivial).elim
  ·have hd:=h.nd hnd
   refine (h.hs _ hmm).2 _ _ X w w (h.gh X J hmm) (Kp.refl _ w) fun b hb=>?_
   rcases hb with (hb | ⟨e,he,hb⟩) | ⟨e,he,hp,hb⟩ | hb
   ·exact ⟨h.ext.n b hb,.inl (.inl hb)⟩
   ·have he':=List.mem_append_right Hin he
    exact ⟨(HE.ok_lt (h.hs e he') b hb).2,.inl (.inr (.inl ⟨e,he',HE.proper_of (hg e he) hb,hb⟩))⟩
   ·have he':=List.mem_append_left Hf he
    exact ⟨(HE.ok_lt (h.hs e he') b hb).2,.inl (.inr (.inl ⟨e,he',hp,hb⟩))⟩
   ·cases hb
theorem SRel.back{a:Act}{w w':World}{Hin Hf H':List HE}{u:Value}{r:AV}(h:SRel w0 S t (Hin++Hf) a w)(hg:(∀e,e∈Hin→¬e.isGhost)∨((∀e,e∈Hf→¬e.isGhost)∧HE.nodef∈Hin++Hf))
  (h':SRel ⟨w,qf Hin,fun k=>w0.N k∨qf Hf k⟩ (Al w0 S (Hin++Hf)) [r] H' {tmps:=#[u],defers:=[]} w')
  (hgo:(∀e,e∈Hin→¬e.isGhost)→∀e,e∈H'→¬e.isGhost) (hno:HE.nodef∈H'→HE.nodef∈Hin++Hf) (d:Option Tmp):SRel w0 S (AV.putO t d r) (H'++Hf) (a.put d u) w':=by
 have hk:Kp (qf Hin) w w':=h'.ext.kp
 have hap:=List.pairwise_append.1 h.ap
 have hfo:∀e,e∈Hf→∀b,e.owns b→¬qf Hin b:=fun e he b hb ⟨e',he',hb'⟩=>hap.2.2 e' he' e he b hb' hb
 have hold:∀b,b<w.heap.size→qf H' b→qf Hin b:=fun b hb ⟨e,he,ho⟩=>((HE.ok_lt (h'.hs e he) b ho).1.1).resolve_right (Nat.not_le.2 hb)
 have hN':∀b,qf H' b→¬(w0.N b∨qf Hf b):=fun b ⟨e,he,ho⟩=>(HE.ok_lt (h'.hs e he) b ho).1.2
 have hA:∀b,b<w.heap.size→Al w0 S (Hin++Hf) b→w'.heap[b]?=w.heap[b]?∧Al w0 S (H'++Hf) b:=fun b hb hA =>
  ⟨hk.block b hb fun⟨e,he,h1⟩=>hA.2.2 e (List.mem_append_left _ he) h1,hA.1,hA.2.1,fun e he h1=>by
   rcases List.mem_append.1 he with he | he
   ·obtain ⟨e',he',h2⟩:=hold b hb ⟨e,he,h1⟩
    exact hA.2.2 e' (List.mem_append_left _ he') h2
   ·exact hA.2.2 e (List.mem_append_right _ he) h1⟩
 have hA':∀b,Al ⟨w,qf Hin,fun k=>w0.N k∨qf Hf k⟩ (Al w0 S (Hin++Hf)) H' b→Al w0 S (H'++Hf) b:=fun b hb=>by
  refine ⟨fun hlt=>((hb.1 (Nat.lt_of_lt_of_le hlt h.ext.size)).1).1 hlt,fun hn=>hb.2.1 (.inl hn),fun e he h1=>?_⟩
  rcases List.mem_append.1 he with he | he
  ·exact hb.2.2 e he h1
  ·exact hb.2.1 (.inr ⟨e,he,h1⟩)
 have hmk:∀b,mark b∈a.defers→¬qf Hin b:=fun b hb ⟨e,he,h1⟩=>(h.mks b hb).2 e (List.mem_append_left _ he) h1
 have hs:SRel w0 S t (H'++Hf) a w':=by
  refine ⟨h.ext.next hk fun k ⟨e,he,hd⟩ hlt=>?_,h.df.keep fun b hb=>hk.block b (h.mark_lt hb) (hmk b hb),fun b hb=>⟨(h.mks b hb).1,fun e he h1=>?_⟩,h.sz,
   fun i=>(h.tm i).move hk.size fun b hS hb=>hA b hb hS,List.pairwise_append.2 ⟨h'.ap,hap.2.1,fun e he e' he' b h1 h2=>hN' b ⟨e,he,h1⟩ (.inr ⟨e',he',h2⟩)⟩,fun e he=>?_,fun X J hm=>?_,fun hm=>?_⟩
  ·exact ((HE.ok_lt (h.hs e (List.mem_append_left _ he)) k hd).1.1).resolve_right (Nat.not_le.2 hlt)
  ·rcases List.mem_append.1 he with he | he
   ·exact hmk b hb (hold b (h.mark_lt hb) ⟨e,he,h1⟩)
   ·exact (h.mks b hb).2 e (List.mem_append_right _ he) h1
  ·rcases List.mem_append.1 he with he | he
   ·refine HE.ok_move (h'.hs e he) (Nat.le_refl _) (fun b hS hb=>⟨rfl,hA' b hS⟩) (fun _ _ _=>rfl) fun b hb ho=>⟨?_,fun hn=>ho.2 (.inl hn)⟩
    rcases ho.1 with ⟨e',he',h1⟩ | h1
    ·exact (HE.ok_lt (h.hs e' (List.mem_append_left _ he')) b h1).1.1
    ·exact .inr (Nat.le_trans h.ext.size h1)
   ·exact HE.ok_move (h.hs e (List.mem_append_right _ he)) hk.size (fun b hS hb=>hA b hb hS) (fun b hb _=>hk.block b (HE.ok_lt (h.hs e (List.mem_append_right _ he)) b hb).2 (hfo e he b hb)) fun _ _ h=>h
  ·have hlt:∀b,(w0.N b∨Dn (H'++Hf) a b)→b<w'.heap.size:=fun b hb=>by
    rcases hb with hb | ⟨e,he,_,hb⟩ | hb
    ·exact Nat.lt_of_lt_of_le (h.ext.n b hb) hk.size
    ·rcases List.mem_append.1 he with he | he
     ·exact (HE.ok_lt (h'.hs e he) b hb).2
     ·exact Nat.lt_of_lt_of_le (HE.ok_lt (h.hs e (List.mem_append_right _ he)) b hb).2 hk.size
    ·exact Nat.lt_of_lt_of_le (h.mark_lt hb) hk.size
   rcases List.mem_append.1 hm with hm | hm
   ·have hgh:=h'.gh X J hm
    have hcl:=(h'.hs _ hm).2
    rcases hg with hg | ⟨hg,hnd⟩
    ·exact (hgo hg _ hm trivial).elim
    ·have hd:=h.nd hnd
     refine hcl _ _ X w' w' hgh (Kp.refl _ _) fun b hb=>⟨hlt b hb,.inl ?_⟩
     rcases hb with hb | ⟨e,he,hp,hb⟩ | hb
     ·exact .inl (.inl hb)
     ·rcases List.mem_append.1 he with he | he
      ·exact .inr (.inl ⟨e,he,hp,hb⟩)
      ·exact .inl (.inr ⟨e,he,hb⟩)
     ·rw[hd] at hb;cases hb
   ·have hm':=List.mem_append_right Hin hm
    refine (h.hs _ hm').2 _ _ X w w' (h.gh X J hm') (hk.mono fun x ⟨e,he,hx⟩ _=>.inr (.inl ⟨e,List.mem_append_left _ he,?_,hx⟩)) fun b hb=>⟨hlt b hb,?_⟩
    ·rcases hg with hg | ⟨hg,_⟩
     ·exact HE.proper_of (hg e he) hx
     ·exact (hg _ hm trivial).elim
    ·rcases hb with hb | ⟨e,he,hp,hb⟩ | hb
     ·exact .inl (.inl hb)
     ·rcases List.mem_append.1 he with he | he
      ·rcases Nat.lt_or_ge b w.heap.size with h1 | h1
       ·obtain ⟨e',he',h2⟩:=hold b h1 ⟨e,he,hb⟩
        refine .inl (.inr (.inl ⟨e',List.mem_append_left _ he',?_,h2⟩))
        rcases hg with hg | ⟨hg,_⟩
        ·exact HE.proper_of (hg e' he') h2
        ·exact (hg _ hm trivial).elim
       ·exact .inr h1
      ·exact .inl (.inr (.inl ⟨e,List.mem_append_right _ he,hp,hb⟩))
     ·exact .inl (.inr (.inr hb))
  ·rcases List.mem_append.1 hm with hm | hm
   ·exact h.nd (hno hm)
   ·exact h.nd (List.mem_append_right _ hm)
 exact hs.put d ((h'.tm 0).mono fun b _ hb=>hA' b hb)
theorem AL.callM{ops:Array Oper}{o:Oper}{l:List Oper}{f d:Nat}{x:Operand}{args:List Operand}{tys:Array TypeId}(Hin Hf:List HE){R:AV→List HE→Prop}{T:Nat→Prop}(hF:Wf F)(hH:H=Hin++Hf)(hgd:o.guard=none)(ho:o.op = .call ⟨.value x,args.toArray,tys⟩)(hd:o.dst=some d)
  (df dc:List AV) (hx:evO t x = .fn f df dc∨(df=[]∧∃caps:List Value,dc=caps.map AV.val∧evO t x = .val (.func (.func f) #[] caps.toArray))) (ds:List AV) (hds:df++args.map (evO t)++dc=ds) (hc:MCT P T f ds Hin R) (hT:∀b,Al w0 S H b→T b) (hT':∀b,w0.w.heap.size≤b→T b)
  (hg:(∀e,e∈Hin→¬e.isGhost)∨((∀e,e∈Hf→¬e.isGhost)∧HE.nodef∈Hin++Hf))
  (hgo:∀r H',R r H'→((∀e,e∈Hin→¬e.isGhost)→∀e,e∈H'→¬e.isGhost)∧(HE.nodef∈H'→HE.nodef∈Hin++Hf))
  (h:∀r H',R r H'→AL P w0 S F ops Q l (AV.put t d r) (H'++Hf)):AL P w0 S F ops Q (o::l) t H:=by
 subst hH hds
 intro a w hr
 refine wpListIn_plain hgd fun K hK=>?_
 have hX:=hr.ev x
 have hargs:∀y,y∈args→Enc w (Al w0 S (Hin++Hf)) (a.eval y) (evO t y):=fun y _=>hr.ev y
 obtain ⟨first,caps,e1,e2,e3,e4,e5⟩:∃first caps:Array Value,a.eval x = .func (.func f) first caps∧first.size=df.length∧caps.size=dc.length∧(∀i d,df[i]?=some d→Enc w (Al w0 S (Hin++Hf)) (first.getD i undef) d)∧(∀i d,dc[i]?=some d→Enc w (Al w0 S (Hin++Hf)) (caps.getD i undef) d):=by
  rcases hx with hx | ⟨rfl,cs,rfl,hx⟩
  ·rw[hx] at hX
   generalize a.eval x=X at *
   cases hX with
   | fn _ p q _ _ e f g h=>exact ⟨p,q,rfl,e,f,g,h⟩
  ·rw[hx] at hX
   refine ⟨#[],cs.toArray,hX.val_eq,rfl,by simp,fun i d h=>by simp at h,fun i d h=>?_⟩
   have:=qkG (w:=w) (S:=Al w0 S (Hin++Hf)) cs i d h
   rwa [List.getD_eq_getElem?_getD,← List.getElem?_toArray,← Array.getD_eq_getD_getElem?] at this
 have hen:=hc.1
 have hin:=hr.into (args:=df++args.map (evO t)++dc) (vs:=first++args.toArray.map a.eval++caps) (by simp[e2,e3]) (qeW (by simp[e2]) (qeW e2 e4 (qkF hargs)) e5) hg
 have hcc:=hc.2 w _ _ _ (fun b hb=>(Nat.lt_or_ge b w.heap.size).elim (fun h=>hT b (hb h)) fun h=>hT' b (Nat.le_trans hr.ext.size h)) hin
 refine ⟨fun f _=>hF.fn f,?_⟩
 rw[Oper.semAt_eq F.round a.eval o (fun c h=>by rw[ho] at h;cases h)]
 unfold execOp
 rw[ho]
 have hrun:(do let d ← resolve a.eval ⟨.value x,args.toArray,tys⟩ o.type;invoke d.target d.args:Sem Next).run P w = .ok (.enter f (first++args.toArray.map a.eval++caps)) w:=by
  simp only[resolve,e1,Deferred.ofValue,Sem.run_bind,Sem.run_pure,Result.andThen_ok,invoke]
  exact hen _ w
 simp only[hrun,Oper.uponIn_enter]
 have hcF:CallsIn F 0 P f (first++args.toArray.map a.eval++caps) w fun e w'=>∃u r H',e = .returned u∧R r H'∧SRel ⟨w,qf Hin,fun k=>w0.N k∨qf Hf k⟩ (Al w0 S (Hin++Hf)) [r] H' {tmps:=#[u],defers:=[]} w':=by
  rcases hF with rfl | ⟨l,rfl⟩
  ·exact hcc
  ·exact CallsIn.inRound l hcc
 refine ⟨fun h=>(by rw[hF.depth] at h;cases h),hcF.mono ?_⟩
 rintro e w' ⟨u,r,H',rfl,hR,hr'⟩
 have hb:=hr.back hg hr' (hgo r H' hR).1 (hgo r H' hR).2 o.dst
 refine hK _ w' (h r H' hR _ _ ?_)
 rw[hd] at hb ⊢
 exact hb
end
section
variable {P:Program} {w0:Bs} {S:Nat→Prop} {F:Fence} {H:List HE} {t:List AV} {Q:qcB}
abbrev GJ:=(Nat→Prop)→(Nat→Prop)→World→Prop
def ql8(P:Program)(T:Nat→Prop)(lp:Nat)(args:List AV)(J J1 Jx:GJ):Prop :=
 ∀(w:World) (D X:Nat→Prop) (vs:Array Value),vs.size=args.length→J D X w→(∀b,X b→b<w.heap.size)→(∀b,D b→b<w.heap.size∧¬X b) →
  (∀i d,args[i]?=some d→Enc w (fun b=>¬X b∧¬D b∧T b) (vs.getD i undef) d) →
  YieldAt Fence.wide 0 P lp vs w fun e w'=>∃X',Kp X w w'∧(∀b,X' b→b<w'.heap.size∧(X b∨w.heap.size≤b))∧((e = .returned (.bool true)∧J1 D X' w')∨(e = .returned (.bool false)∧Jx D X' w'))
theorem SRel.yielded{a:Act}{w w':World}{k:Nat}{X X':Nat→Prop}{J J1:GJ}(hr:SRel w0 S t H a w)(hH:H[k]?=some (.ghost X J))(ho:∀i e,H[i]?=some e→e.isGhost→i=k)(hd:a.defers=[])(hk:Kp X w w')(hX':∀b,X' b→b<w'.heap.size∧(X b∨w.heap.size≤b))
  (hc:qfW J1) (hj:J1 (fun b=>w0.N b∨Dn H a b) X' w'):SRel w0 S t (H.set k (.ghost X' J1)) a w':=by
 have hm:=List.mem_of_getElem? hH
 have hkl:k<H.length:=(List.getElem?_eq_some_iff.1 hH).1
 have hHk:H[k] = .ghost X J:=by rw[List.getElem?_eq_getElem hkl] at hH;injection hH
 have hmem:∀x,x∈H.set k (.ghost X' J1)→(∃i,∃hi:i<H.length,i≠k∧H[i]=x)∨x = .ghost X' J1:=fun x hx=>by
  obtain ⟨i,hi,rfl⟩:=List.mem_iff_getElem.1 hx
  rw[List.getElem_set]
  split
  ·exact .inr rfl
  ·rename_i hne
   exact .inl ⟨i,by simpa using hi,Ne.symm hne,rfl⟩
 have hng:∀i (hi:i<H.length),i≠k→¬(H[i]).isGhost:=fun i hi hne hg=>hne (ho i _ (List.getElem?_eq_getElem hi) hg)
 have hapart:∀i (hi:i<H.length),i≠k→∀b,(H[i]).owns b→¬X b:=fun i hi hne b h1 h2=>by
  rcases Nat.lt_or_ge i k with h3 | h3
  ·have hp:=List.pairwise_iff_getElem.1 hr.ap i k hi hkl h3
   rw[hHk] at hp
   exact hp b h1 h2
  ·have hp:=List.pairwise_iff_getElem.1 hr.ap k i hkl hi (by omega)
   rw[hHk] at hp
   exact hp b h2 h1
 have hap':∀i (hi:i<H.length),i≠k→∀b,(H[i]).owns b→¬X' b:=fun i hi hne b h1 h2=>by
  rcases (hX' b h2).2 with h3 | h3
  ·exact hapart i hi hne b h1 h3
  ·have:=(HE.ok_lt (hr.hs _ (List.getElem_mem hi)) b h1).2;omega
 have hXo:=(hr.hs _ hm).1
 have hA:∀c,Al w0 S H c→c<w.heap.size→w'.heap[c]?=w.heap[c]?∧Al w0 S (H.set k (.ghost X' J1)) c:=fun c h hlt=>⟨hk.block c hlt (h.2.2 _ hm),h.1,h.2.1,fun x hx hb=>by
  rcases hmem x hx with ⟨i,hi,hne,rfl⟩ | h1
  ·exact h.2.2 _ (List.getElem_mem hi) hb
  ·subst h1
   rcases (hX' c hb).2 with h2 | h2
   ·exact h.2.2 _ hm h2
   ·omega⟩
 have hown:∀b,X' b→Go.Proofs.YtfnflenkeljkiaaGreat.own w0 b:=fun b hb=>by
  rcases (hX' b hb).2 with h | h
  ·exact (hXo b h).1
  ·exact ⟨.inr (Nat.le_trans hr.ext.size h),fun hn=>by have:=hr.ext.n b hn;omega⟩
 have hE:Ex w0 w':=hr.ext.next hk fun b hb hlt=>((hXo b hb).1.1).resolve_right (Nat.not_le.2 hlt)
 refine ⟨hE,by rw[hd];exact Marks.nil w',(fun b hb=>by rw[hd] at hb;cases hb),hr.sz,fun i=>(hr.tm i).move hk.size fun c hS hb=>hA c hS hb,?_,fun e he=>?_,fun X2 J2 hm2=>?_,fun _=>hd⟩
 ·rw[List.pairwise_iff_getElem]
  intro i j hi hj hij
  have hi':i<H.length:=by simpa using hi
  have hj':j<H.length:=by simpa using hj
  rw[List.getElem_set,List.getElem_set]
  by_cases h1:k=i
  ·rw[if_pos h1,if_neg (by omega)]
   exact fun b h2 h3=>hap' j hj' (by omega) b h3 h2
  ·rw[if_neg h1]
   by_cases h2:k=j
   ·rw[if_pos h2]
    exact hap' i hi' (by omega)
   ·rw[if_neg h2]
    exact List.pairwise_iff_getElem.1 hr.ap i j hi' hj' hij
 ·rcases hmem e he with ⟨i,hi,hne,rfl⟩ | h1
  ·exact HE.ok_move (hr.hs _ (List.getElem_mem hi)) hk.size (fun c hS hb=>hA c hS hb) (fun b hb _=>hk.block b (HE.ok_lt (hr.hs _ (List.getElem_mem hi)) b hb).2 (hapart i hi hne b hb)) fun _ _ h=>h
  ·subst h1;exact ⟨fun b hb=>⟨hown b hb,(hX' b hb).1⟩,hc⟩
 ·rcases hmem _ hm2 with ⟨i,hi,hne,h1⟩ | h1
  ·exact (hng i hi hne (by rw[h1];trivial)).elim
  ·injection h1 with h1 h2
   subst h1 h2
   refine hc _ _ _ w' w' hj (Kp.refl _ _) fun b hb=>?_
   rcases hb with hb | ⟨e,he,hp,hb⟩ | hb
   ·exact ⟨hE.n b hb,.inl (.inl hb)⟩
   ·rcases hmem e he with ⟨i,hi,hne,rfl⟩ | h1
    ·exact ⟨Nat.lt_of_lt_of_le (HE.ok_lt (hr.hs _ (List.getElem_mem hi)) b hb).2 hk.size,.inl (.inr (.inl ⟨_,List.getElem_mem hi,hp,hb⟩))⟩
    ·subst h1;exact hp.elim
   ·rw[hd] at hb;cases hb
theorem AL.yield{ops:Array Oper}{o:Oper}{l:List Oper}{lp d:Nat}{x:Operand}{args:List Operand}{tys:Array TypeId}{X T:Nat→Prop}{J J1 Jx:GJ}(k:Nat)(hgd:o.guard=none)(ho:o.op = .call ⟨.value x,args.toArray,tys⟩)(hd:o.dst=some d)(hx:evO t x = .val (.func (.yield lp) #[] #[]))
  (ds:List AV) (hds:args.map (evO t)=ds) (hH:H[k]?=some (.ghost X J)) (hgo:∀i e,H[i]?=some e→e.isGhost→i=k) (hnd:HE.nodef∈H) (hT:∀b,Al w0 S H b→T b) (hy:ql8 P T lp ds J J1 Jx) (hc1:qfW J1) (hcx:qfW Jx)
  (h1:∀X',AL P w0 S Fence.wide ops Q l (AV.put t d (.val (.bool true))) (H.set k (.ghost X' J1))) (h2:∀X',AL P w0 S Fence.wide ops Q l (AV.put t d (.val (.bool false))) (H.set k (.ghost X' Jx))):AL P w0 S Fence.wide ops Q (o::l) t H:=by
 subst hds
 intro a w hr
 have hm:=List.mem_of_getElem? hH
 have hdf:=hr.nd hnd
 have hgh:=hr.gh X J hm
 have hXo:=(hr.hs _ hm).1
 have hDX:∀b,(w0.N b∨Dn H a b)→b<w.heap.size∧¬X b:=fun b hb=>by
  rcases hb with hb | hb
  ·exact ⟨hr.ext.n b hb,fun h=>(hXo b h).1.2 hb⟩
  ·refine ⟨hr.dn_lt hb,fun hx=>?_⟩
   rcases hb with ⟨e,he,hp,hb⟩ | hb
   ·obtain ⟨i,hi,rfl⟩:=List.mem_iff_getElem.1 he
    have hkl:k<H.length:=(List.getElem?_eq_some_iff.1 hH).1
    have hHk:H[k] = .ghost X J:=by rw[List.getElem?_eq_getElem hkl] at hH;injection hH
    rcases Nat.lt_trichotomy i k with h3 | h3 | h3
    ·have hp':=List.pairwise_iff_getElem.1 hr.ap i k hi hkl h3
     rw[hHk] at hp'
     exact hp' b hb hx
    ·subst h3;rw[hHk] at hp;exact hp.elim
    ·have hp':=List.pairwise_iff_getElem.1 hr.ap k i hkl hi h3
     rw[hHk] at hp'
     exact hp' b hx hb
   ·rw[hdf] at hb;cases hb
 have hnD:∀b,Al w0 S H b→¬(w0.N b∨Dn H a b):=fun b hA hD=>by
  rcases hD with hD | ⟨e,he,_,hD⟩ | hD
  ·exact hA.2.1 hD
  ·exact hA.2.2 e he hD
  ·rw[hdf] at hD;cases hD
 have hYA:=hy w _ X (args.toArray.map a.eval) (by simp) hgh (fun b hb=>(hXo b hb).2) hDX (fun i d hi=>(qkF (fun x _=>hr.ev x) i d hi).mono fun b hb hA=>⟨fun hx=>hA.2.2 _ hm hx,hnD b hA,hT b hA⟩)
 obtain ⟨fn,tmps,assign,body,hyr,hR⟩:=hYA
 refine wpListIn_plain hgd fun K hK=>⟨fun _ _=>trivial,?_⟩
 rw[Oper.semAt_eq _ a.eval o (fun c h=>by rw[ho] at h;cases h)]
 unfold execOp
 rw[ho]
 have hev:=hr.ev_val hx
 have hrun:(do let d ← resolve a.eval ⟨.value x,args.toArray,tys⟩ o.type;invoke d.target d.args:Sem Next).run P w = .ok (.round lp fn tmps assign body) w:=by
  simp only[resolve,hev,Deferred.ofValue,Sem.run_bind,Sem.run_pure,Result.andThen_ok,invoke]
  simpa using hyr
 simp only[hrun,Oper.uponIn_round]
 refine ⟨fun h=>(by cases h),hR.mono ?_⟩
 rintro e w' ⟨X',hk,hX',(⟨rfl,hj⟩ | ⟨rfl,hj⟩)⟩
 ·refine hK _ w' (h1 X' _ _ ?_)
  have:=(hr.yielded hH hgo hdf hk hX' hc1 hj).put (some d) (u:=.bool true) (.val _)
  rw[hd];exact this
 ·refine hK _ w' (h2 X' _ _ ?_)
  have:=(hr.yielded hH hgo hdf hk hX' hcx hj).put (some d) (u:=.bool false) (.val _)
  rw[hd];exact this
end
section
variable {P:Program} {w0:Bs} {S:Nat→Prop} {F:Fence} {H:List HE} {t:List AV} {Q:qcB}
theorem SRel.frame{W:World}{M N N' D:Nat→Prop}{a:Act}{w1 w2:World}(h:SRel ⟨W,M,N⟩ S t H a w1)(hk:Kp D w1 w2)(hDN:∀b,D b→b<w1.heap.size→N b)(hDo:∀b,D b→W.heap.size≤b)(hN':∀b,N' b→b<w2.heap.size∧(N b∨w1.heap.size≤b)):SRel ⟨W,M,N'⟩ S t H a w2:=by
 have hA:∀b,Al ⟨W,M,N⟩ S H b→b<w1.heap.size→w2.heap[b]?=w1.heap[b]?∧Al ⟨W,M,N'⟩ S H b:=fun b hA hb=>⟨hk.block b hb fun hd=>hA.2.1 (hDN b hd hb),hA.1,fun hn=>(hN' b hn).2.elim hA.2.1 fun h=>by omega,hA.2.2⟩
 have ho:∀b,b<w1.heap.size→Go.Proofs.YtfnflenkeljkiaaGreat.own ⟨W,M,N⟩ b→Go.Proofs.YtfnflenkeljkiaaGreat.own ⟨W,M,N'⟩ b:=fun b hb ho=>⟨ho.1,fun hn=>(hN' b hn).2.elim ho.2 fun h=>by omega⟩
 have hun:∀b,b<w1.heap.size→Go.Proofs.YtfnflenkeljkiaaGreat.own ⟨W,M,N⟩ b→w2.heap[b]?=w1.heap[b]?:=fun b hb ho=>hk.block b hb fun hd=>ho.2 (hDN b hd hb)
 refine ⟨⟨Kp.trans h.ext.kp hk fun b hd hb=>absurd hb (Nat.not_lt.2 (hDo b hd)),fun b hn=>(hN' b hn).1,(fun p hp=>⟨(h.ext.g.1 p hp).1,(h.ext.g.1 p hp).2.1,fun hn=>(hN' _ hn).2.elim (h.ext.g.1 p hp).2.2 fun q=>Nat.lt_irrefl _ (Nat.lt_of_lt_of_le (h.ext.gl.lt hp) q)⟩),h.ext.gl.keep hk fun p hp hd=>h.ext.gno hp (.inr (hDo _ hd))⟩,h.df.keep fun b hb=>hun b (h.mark_lt hb) (h.mks b hb).1,fun b hb=>⟨ho b (h.mark_lt hb) (h.mks b hb).1,(h.mks b hb).2⟩,h.sz,fun i=>(h.tm i).move hk.size fun b hS hb=>hA b hS hb,h.ap,fun e he=>?_,fun X J hm=>?_,h.nd⟩
 ·exact HE.ok_move (h.hs e he) hk.size (fun b hS hb=>hA b hS hb) (fun b hb _=>hun b (HE.ok_lt (h.hs e he) b hb).2 (HE.ok_lt (h.hs e he) b hb).1) fun b hb h1=>ho b (HE.ok_lt (h.hs e he) b hb).2 h1
 ·refine (h.hs _ hm).2 _ _ X w1 w2 (h.gh X J hm) (hk.mono fun b hd hb=>.inl (hDN b hd hb)) fun b hb=>?_
  rcases hb with hb | hb
  ·exact ⟨(hN' b hb).1,(hN' b hb).2.imp .inl id⟩
  ·exact ⟨Nat.lt_of_lt_of_le (h.dn_lt hb) hk.size,.inl (.inr hb)⟩
theorem SRel.poke{a:Act}{w:World}{lp:Nat}{o:Obj}(o':Obj)(h:SRel w0 S t H a w)(hd:a.defers=[])(hg:∀e,e∈H→e.proper)(hl:w.heap[lp]?=some o)(hc:o.isCells=false)(hN:w0.N lp) :
  SRel ⟨w.putObj lp o',qf H,w0.N⟩ (Al w0 S H) t H a (w.putObj lp o'):=by
 have hA:∀b,b<w.heap.size→Al w0 S H b→Al ⟨w.putObj lp o',qf H,w0.N⟩ (Al w0 S H) H b:=fun b hb hA=>⟨fun _=>⟨hA,fun⟨e,he,h1⟩=>hA.2.2 e he h1⟩,hA.2.1,hA.2.2⟩
 refine ⟨⟨Kp.refl _ _,fun b hb=>by simpa using h.ext.n b hb,Gl.gx (fun p hp=>qhS hl hc (h.ext.gl p hp)) (fun p hp ⟨e,he,hb⟩=>h.ext.gno hp (HE.ok_lt (h.hs e he) _ hb).1.1) fun p hp=>(h.ext.g.1 p hp).2.2⟩,by rw[hd];exact Marks.nil _,(fun b hb=>by rw[hd] at hb;cases hb),h.sz,fun i=>(h.tm i).moveC (by simp) fun b hS hb=>⟨fun _ _ hu=>qhS hl hc hu,hA b hb hS⟩,h.ap,fun e he=>?_,fun X J hm=>(hg _ hm).elim,fun _=>hd⟩
 exact HE.ok_moveC (h.hs e he) (by simp) (fun b hS hb=>⟨fun _ _ hu=>qhS hl hc hu,hA b hb hS⟩) (fun b hb _=>World.putObj_heap_other fun e'=>(HE.ok_lt (h.hs e he) b hb).1.2 (by rw[e'];exact hN)) fun b hb h1=>⟨.inl ⟨e,he,hb⟩,h1.2⟩
def qnC(w0:Bs)(S:Nat→Prop)(t:List AV)(a:Act)(D1 lp n0:Nat)(I:List HE→Obj→Prop):GJ:=fun D X w =>
 ∃H' o,SRel ⟨w0.w,w0.M,fun k=>w0.N k∨D k∨k=D1∨k=lp⟩ S t H' a w∧I H' o∧(∀e,e∈H'→e.proper)∧(∀b,qf H' b→X b)∧(∀b,(w0.N b∨b=D1∨b=lp)→X b)∧(∀b,D b→n0≤b∧¬X b)∧(∀b,X b→b<w.heap.size)∧n0≤w.heap.size ∧
  w.heap[lp]?=some o∧w.heap[D1]?=some (Obj.deferred (some []))
theorem qo0{a:Act}{D1 lp n0:Nat}{I:List HE→Obj→Prop}(hn0:w0.w.heap.size≤n0):qfW (qnC w0 S t a D1 lp n0 I):=by
 rintro D D' X w1 w2 ⟨H',o,h1,h2,h3,h4,h5,h6,h7,h10,h8,h9⟩ hk hD'
 have hl:=fun b (hb:X b)=>hk.block b (h7 b hb) fun hd=>(h6 b hd).2 hb
 refine ⟨H',o,h1.frame hk (fun b hd _=>.inr (.inl hd)) (fun b hd=>Nat.le_trans hn0 (h6 b hd).1) (fun b hb=>?_),h2,h3,h4,h5,fun b hb=>?_,fun b hb=>Nat.lt_of_lt_of_le (h7 b hb) hk.size,Nat.le_trans h10 hk.size,(hl lp (h5 lp (.inr (.inr rfl)))).trans h8,(hl D1 (h5 D1 (.inr (.inl rfl)))).trans h9⟩
 ·rcases hb with hb | hb | hb
  ·exact ⟨Nat.lt_of_lt_of_le (h7 b (h5 b (.inl hb))) hk.size,.inl (.inl hb)⟩
  ·exact ⟨(hD' b hb).1,(hD' b hb).2.imp (fun h=>.inr (.inl h)) id⟩
  ·exact ⟨Nat.lt_of_lt_of_le (h7 b (h5 b (.inr hb))) hk.size,.inl (.inr (.inr hb))⟩
 ·rcases (hD' b hb).2 with h | h
  ·exact h6 b h
  ·exact ⟨Nat.le_trans h10 h,fun hx=>by have:=h7 b hx;omega⟩
def qiO:List Tmp→List AV→List AV→List AV
 | p::ps,v::vs,t=>qiO ps vs (AV.put t p v)
 | _,_,t=>t
theorem qt4{w:World}{A:Nat→Prop}:∀(ps:List Tmp) (vs:List Value) (ds:List AV) (t:List AV) (tmps:Array Value),vs.length=ds.length→(∀i d,ds[i]?=some d→Enc w A (vs.getD i undef) d)→tmps.size=t.length→(∀i,Enc w A (tmps.getD i undef) (AV.get t i)) →
  ((ps.zip vs).foldl (fun t (p,v)=>t.setIfInBounds p v) tmps).size=(qiO ps ds t).length∧∀i,Enc w A (((ps.zip vs).foldl (fun t (p,v)=>t.setIfInBounds p v) tmps).getD i undef) (AV.get (qiO ps ds t) i)
 | [],vs,ds,t,tmps,_,_,hs,ht=>by cases ds<;>exact ⟨hs,ht⟩
 | p::ps,[],[],t,tmps,_,_,hs,ht=>⟨hs,ht⟩
 | p::ps,[],d::ds,t,tmps,hn,_,hs,ht=>by cases hn
 | p::ps,v::vs,[],t,tmps,hn,_,hs,ht=>by cases hn
 | p::ps,v::vs,d::ds,t,tmps,hn,hd,hs,ht=>by
  rw[List.zip_cons_cons,List.foldl_cons,qiO]
  refine qt4 ps vs ds (AV.put t p d) (tmps.setIfInBounds p v) (by simpa using hn) (fun i d' hi=>hd (i+1) d' hi) (by simp[AV.put_length,hs]) fun i=>?_
  by_cases hid:p=i
  ·subst hid
   rcases Nat.lt_or_ge p t.length with hl | hl
   ·have hlt:p<tmps.size:=by rw[hs];exact hl
    rw[AV.get_eq,AV.put_eq,List.getElem?_set_self hl,Array.getD_eq_getD_getElem?,Array.getElem?_setIfInBounds_self_of_lt hlt]
    exact hd 0 d rfl
   ·rw[AV.get_eq,AV.put_eq,List.getElem?_eq_none (by rw[List.length_set];exact hl)]
    exact .any _
  ·rw[AV.get_put_ne t d hid,Array.getD_eq_getD_getElem?,Array.getElem?_setIfInBounds_ne hid,← Array.getD_eq_getD_getElem?]
   exact ht i
def qkZ(P:Program)(one:Bool)(f:FuncId)(df dc:List AV)(L:List (List AV)):Prop :=
 Enters P f∧∀(lp:Nat) (T:Nat→Prop) (J:Nat→GJ) (Jx:GJ) (X:Nat→Prop),(∀i,qfW (J i))→qfW Jx→(one=true→∀i D X w,¬J (i+1) D X w)→(∀i (hi:i<L.length),ql8 P T lp L[i] (J i) (J (i+1)) Jx) →
  MCT P T f (df++[.val (.func (.yield lp) #[] #[])]++dc) [.nodef,.ghost X (J 0)] fun _ H'=>∃X',HE.ghost X' (J L.length)∈H'∨HE.ghost X' Jx∈H'
abbrev qAZ(P:Program)(f:FuncId)(df dc:List AV)(L:List (List AV)):Prop:=qkZ P false f df dc L
def qpu(I1:List HE→Prop)(Ix:Code→List HE→Prop):qcB
 | .normal,_,H=>I1 H∧∀e,e∈H→e.proper
 | .ret,_,H=>Ix .ret H∧∀e,e∈H→e.proper
 | .exit id,_,H=>Ix (.exit id) H∧∀e,e∈H→e.proper
 | _,_,_=>False
theorem SRel.round{bJ:Bs}{a:Act}{w2:World}(h:SRel bJ S t H a w2){N1:Nat→Prop}(hN1:∀k,N1 k↔bJ.N k){t1:List AV}{H1:List HE}{a1:Act}{W:World}(h1:SRel ⟨w2,qf H,N1⟩ (Al bJ S H) t1 H1 a1 W)
  {lp:Nat} {o1:Obj} (hN:bJ.N lp) (hlo:bJ.w.heap.size≤lp) {t3:List AV} {H3:List HE} {a3:Act} {W4:World} (h3:SRel ⟨W.putObj lp o1,qf H1,N1⟩ (Al ⟨w2,qf H,N1⟩ (Al bJ S H) H1) t3 H3 a3 W4)
  (hp3:∀e,e∈H3→e.proper) {o4:Obj} (hl4:W4.heap[lp]?=some o4) (hc4:o4.isCells=false) (o5:Obj) :
  SRel bJ S t H3 a (W4.putObj lp o5)∧Kp (fun b=>qf H b∨b=lp) w2 (W4.putObj lp o5)∧∀b,qf H3 b→qf H b∨w2.heap.size≤b:=by
 have k1:Kp (qf H) w2 W:=h1.ext.kp
 have k2:Kp (fun k=>some lp=some k) W (W.putObj lp o1):=Kp.grown (grownBy_putObj' W lp o1)
 have k3:Kp (qf H1) (W.putObj lp o1) W4:=h3.ext.kp
 have k4:Kp (fun k=>some lp=some k) W4 (W4.putObj lp o5):=Kp.grown (grownBy_putObj' W4 lp o5)
 have o1':∀b,qf H1 b→b<w2.heap.size→qf H b:=fun b ⟨e,he,hb⟩ hlt=>((HE.ok_lt (h1.hs e he) b hb).1.1).resolve_right (Nat.not_le.2 hlt)
 have kA:Kp (fun b=>qf H b∨b=lp) w2 (W.putObj lp o1):=Kp.trans (k1.mono (M':=fun b=>qf H b∨b=lp) fun x hx _=>.inl hx) k2 fun x hx _=>.inr (by injection hx with hx;exact hx.symm)
 have kB:Kp (fun b=>qf H b∨b=lp) w2 W4:=Kp.trans kA k3 fun x hx hlt=>.inl (o1' x hx hlt)
 have kC:Kp (fun b=>qf H b∨b=lp) w2 (W4.putObj lp o5):=Kp.trans kB k4 fun x hx _=>.inr (by injection hx with hx;exact hx.symm)
 have own3:∀b,qf H3 b→(qf H b∨w2.heap.size≤b)∧¬bJ.N b:=fun b ⟨e,he,hb⟩=>by
  have h5:=(HE.ok_lt (h3.hs e he) b hb).1
  refine ⟨?_,fun hn=>h5.2 ((hN1 b).2 hn)⟩
  rcases h5.1 with h6 | h6
  ·rcases Nat.lt_or_ge b w2.heap.size with h7 | h7
   ·exact .inl (o1' b h6 h7)
   ·exact .inr h7
  ·exact .inr (Nat.le_trans kA.size h6)
 have hun:∀b,b<w2.heap.size→¬qf H b→¬bJ.N b→(W4.putObj lp o5).heap[b]?=w2.heap[b]?:=fun b hb h5 h6=>kC.block b hb fun h7=>h7.elim h5 fun h8=>h6 (by rw[h8];exact hN)
 refine ⟨⟨h.ext.next kC fun k hk hlt=>?_,h.df.keep fun b hb=>hun b (h.mark_lt hb) (fun⟨e,he,h5⟩=>(h.mks b hb).2 e he h5) (h.mks b hb).1.2,fun b hb=>⟨(h.mks b hb).1,fun e he h5=>?_⟩,h.sz,
  fun i=>(h.tm i).move kC.size fun b hA hb=>⟨hun b hb (fun⟨e,he,h5⟩=>hA.2.2 e he h5) hA.2.1,hA.1,hA.2.1,fun e he h5=>?_⟩,h3.ap,fun e he=>?_,fun X J hm=>(hp3 _ hm).elim,fun hm=>(hp3 _ hm).elim⟩,kC,fun b hb=>(own3 b hb).1⟩
 ·rcases hk with ⟨e,he,h5⟩ | h5
  ·exact ((HE.ok_lt (h.hs e he) k h5).1.1).resolve_right (Nat.not_le.2 hlt)
  ·omega
 ·rcases (own3 b ⟨e,he,h5⟩).1 with ⟨e',he',h6⟩ | h6
  ·exact (h.mks b hb).2 e' he' h6
  ·have:=h.mark_lt hb;omega
 ·rcases (own3 b ⟨e,he,h5⟩).1 with ⟨e',he',h6⟩ | h6
  ·exact hA.2.2 e' he' h6
  ·omega
 ·refine HE.ok_moveC (h3.hs e he) k4.size (fun b hA hb=>⟨fun _ _ hu=>qhS hl4 hc4 hu,fun hlt=>?_,fun hn=>hA.2.1 ((hN1 b).2 hn),hA.2.2⟩) (fun b hb _=>World.putObj_heap_other fun e'=>(own3 b ⟨e,he,hb⟩).2 (by rw[e'];exact hN)) fun b hb _=>⟨?_,(own3 b ⟨e,he,hb⟩).2⟩
  ·have h5:b<w2.heap.size:=Nat.lt_of_lt_of_le hlt h.ext.size
   have h6:b<(W.putObj lp o1).heap.size:=Nat.lt_of_lt_of_le h5 kA.size
   exact (((hA.1 h6).1.1 h5).1).1 hlt
  ·rcases (own3 b ⟨e,he,hb⟩).1 with ⟨e',he',h6⟩ | h6
   ·exact (HE.ok_lt (h.hs e' he') b h6).1.1
   ·exact .inr (Nat.le_trans h.ext.size h6)
theorem SRel.addNodef{a:Act}{w:World}(h:SRel w0 S t H a w)(hd:a.defers=[]):SRel w0 S t (H++[.nodef]) a w:=by
 have hmem:∀e,e∈H++[HE.nodef]→e∈H∨e = .nodef:=fun e he=>by simpa using he
 have hA:∀b,Al w0 S H b→Al w0 S (H++[.nodef]) b:=fun b hb=>⟨hb.1,hb.2.1,fun e he h1=>by
  rcases hmem e he with h2 | rfl
  ·exact hb.2.2 e h2 h1
  ·exact h1.elim⟩
 refine ⟨h.ext,h.df,fun b hb=>(by rw[hd] at hb;cases hb),h.sz,fun i=>(h.tm i).mono fun b _=>hA b,List.pairwise_append.2 ⟨h.ap,List.pairwise_singleton _ _,fun e he e' he' b h1 h2=>?_⟩,fun e he=>?_,fun X J hm=>?_,fun _=>hd⟩
 ·rw[List.mem_singleton.1 he'] at h2;exact h2.elim
 ·rcases hmem e he with h2 | rfl
  ·exact HE.ok_mono (h.hs e h2) fun b _=>hA b
  ·trivial
 ·rcases hmem _ hm with h2 | h2
  ·refine (h.hs _ h2).2 _ _ X w w (h.gh X J h2) (Kp.refl _ w) fun b hb=>?_
   rcases hb with hb | ⟨e,he,hp,hb⟩ | hb
   ·exact ⟨h.ext.n b hb,.inl (.inl hb)⟩
   ·rcases hmem e he with h3 | rfl
    ·exact ⟨(HE.ok_lt (h.hs e h3) b hb).2,.inl (.inr (.inl ⟨e,h3,hp,hb⟩))⟩
    ·exact hb.elim
   ·exact ⟨h.mark_lt hb,.inl (.inr (.inr hb))⟩
  ·cases h2
theorem SRel.addMark{a:Act}{w:World}{D1:Nat}(h:SRel w0 S t H a w)(hp:∀e,e∈H→e.proper)(hm:w.heap[D1]?=some (Obj.deferred (some [])))(ho:Go.Proofs.YtfnflenkeljkiaaGreat.own w0 D1)(hn:¬qf H D1)(hd:¬mark D1∈a.defers):SRel w0 S t H {a with defers:=mark D1::a.defers} w:=by
 refine ⟨h.ext,?_,fun b hb=>?_,h.sz,h.tm,h.ap,h.hs,fun X J hm=>(hp _ hm).elim,fun hm=>(hp _ hm).elim⟩
 ·obtain ⟨bs,h1,h2,h3⟩:=h.df
  refine ⟨D1::bs,by rw[h1];rfl,List.nodup_cons.2 ⟨fun hb=>hd (by rw[h1];exact List.mem_map_of_mem hb),h2⟩,fun b hb=>?_⟩
  rcases List.mem_cons.1 hb with rfl | hb
  ·exact hm
  ·exact h3 b hb
 ·rcases List.mem_cons.1 hb with hb | hb
  ·injection hb with hb
   injection hb with hb
   subst hb
   exact ⟨ho,fun e he h1=>hn ⟨e,he,h1⟩⟩
  ·exact h.mks b hb
theorem Awp.rangeD{one:Bool}{g:Operand}{ps:List Tmp}{assign body:Code}{f:FuncId}{df dc:List AV}{L:List (List AV)}(hg:evO t g = .fn f df dc)(hit:qkZ P one f df dc L)(hps:∀x,x∈L→x.length=ps.length)
  (I:Nat→List HE→Prop) (Ix:Code→List HE→Prop) (hone:one=true→∀i H,¬I (i+1) H) (h0:I 0 H) (hp0:∀e,e∈H→e.proper)
  (hround:∀i (hi:i<L.length) (lp:Nat) (w1:Bs) (S1:Nat→Prop) (H':List HE),I i H'→(∀e,e∈H'→e.proper)→(∀b,w1.M b→qf H' b)→∀(a1:Act) (w:World),a1.defers=[]→SRel w1 S1 (qiO ps L[i] t) H' a1 w→assign.wpIn (Fence.wide.inRound lp) 0 P (fun e a' W=>e = .normal∧a'.defers=[]∧∃t1 H1,SRel w1 S1 t1 H1 a' W∧(∀e,e∈H1→e.proper) ∧
   ∀w2 S2,(∀b,w2.M b→qf H1 b)→Awp P w2 S2 (Fence.wide.inRound lp) body (qpu (I (i+1)) Ix) t1 H1) a1 w)
  (hdone:∀H',I L.length H'→(∀e,e∈H'→e.proper)→Q .normal t H') (hstop:∀c H',Ix c H'→(∀e,e∈H'→e.proper)→Awp P w0 S Fence.wide c Q t H'):Awp P w0 S Fence.wide (.rangeFunc g ps.toArray assign body) Q t H:=by
 intro a w hr
 have hgv:=hr.ev g
 rw[hg] at hgv
 obtain ⟨first,caps,e1,e2,e3,e4,e5⟩:∃first caps:Array Value,a.eval g = .func (.func f) first caps∧first.size=df.length∧caps.size=dc.length∧(∀i d,df[i]?=some d→Enc w (Al w0 S H) (first.getD i undef) d)∧(∀i d,dc[i]?=some d→Enc w (Al w0 S H) (caps.getD i undef) d):=by
  generalize a.eval g=X at *
  cases hgv with
  | fn _ p q _ _ e f g h=>exact ⟨p,q,rfl,e,f,g,h⟩
 refine wpIn_rangeFunc ?_
 intro fn hfn
 obtain ⟨rc,hrc⟩:∃rc:LoopState→Option Code→Loop,rc=fun st pe=>{state:=st,pending:=pe,fn,tmps:=a.tmps,params:=ps.toArray,assign,body,defers:=w.heap.size}:=⟨_,rfl⟩
 obtain ⟨D1,hD⟩:∃D1,D1=w.heap.size:=⟨_,rfl⟩
 obtain ⟨W1,hW1⟩:∃W1,W1=(w.alloc (.deferred (some []))).alloc (.loop (rc .ready none)):=⟨_,rfl⟩
 have x1:Ext w W1:=by rw[hW1];exact ((Ext.refl w).alloc _).alloc _
 have hs1:W1.heap.size=D1+2:=by rw[hW1,hD];simp
 have hK1:W1.heap[D1]?=some (.deferred (some [])):=by
  rw[hW1,hD];exact qx4 ((Ext.refl (w.alloc _)).alloc _) (World.alloc_heap_new w _)
 have hL1:W1.heap[D1+1]?=some (.loop (rc .ready none)):=by
  rw[hW1,hD];have:=World.alloc_heap_new (w.alloc (.deferred (some []))) (.loop (rc .ready none));rwa [World.size_alloc] at this
 obtain ⟨JI,hJI⟩:∃JI:Nat→GJ,JI=fun i=>qnC w0 S t a D1 (D1+1) W1.heap.size fun H' o=>I i H'∧o = .loop (rc .ready none):=⟨_,rfl⟩
 obtain ⟨JX,hJX⟩:∃JX:GJ,JX=qnC w0 S t a D1 (D1+1) W1.heap.size fun H' o=>∃c,Ix c H'∧o = .loop (rc .done (some c)):=⟨_,rfl⟩
 have hw0:w0.w.heap.size≤D1:=by rw[hD];exact hr.ext.size
 have hcI:∀i,qfW (JI i):=fun i=>by rw[hJI];exact qo0 (by omega)
 have hcX:qfW JX:=by rw[hJX];exact qo0 (by omega)
 obtain ⟨X,hX⟩:∃X:Nat→Prop,X=fun b=>qf H b∨w0.N b∨b=D1∨b=D1+1:=⟨_,rfl⟩
 have hXlt:∀b,X b→b<W1.heap.size:=fun b hb=>by
  rw[hX] at hb
  rcases hb with ⟨e,he,hb⟩ | hb | hb | hb
  ·have:=(HE.ok_lt (hr.hs e he) b hb).2;omega
  ·have:=hr.ext.n b hb;omega
  ·omega
  ·omega
 have hN0:∀b,w0.N b→b<w.heap.size:=hr.ext.n
 have hyield:∀i (hi:i<L.length),ql8 P (fun b=>b<W1.heap.size→Al w0 S H b) (D1+1) L[i] (JI i) (JI (i+1)) JX:=by
  rintro i hi w2 D X2 vs2 hn hJ hXl hDl henc
  rw[hJI] at hJ
  obtain ⟨H',o,h1,⟨hI,rfl⟩,hpr,hoX,hNX,hDX,hXs,hn0,hl,hd1⟩:=hJ
  have hpl:=hps _ (List.getElem_mem hi)
  have hy:=run_yield (P:=P) (args:=vs2) hl (by rw[hrc,hn,hpl];simp)
  rw[hrc] at hy
  refine ⟨fn,_,assign,body,hy,roundIn_of_wpIn hfn ?_⟩
  obtain ⟨tm2,htm2⟩:∃tm2,tm2=(ps.toArray.zip vs2).foldl (fun(tmps:Array Value) (x:Tmp×Value)=>tmps.setIfInBounds x.1 x.2) a.tmps:=⟨_,rfl⟩
  have htm3:tm2=(ps.zip vs2.toList).foldl (fun(tmps:Array Value) (x:Tmp×Value)=>tmps.setIfInBounds x.1 x.2) a.tmps:=by rw[htm2,← Array.foldl_toList,Array.toList_zip]
  have hset:=qt4 (w:=w2) (A:=Al ⟨w0.w,w0.M,fun k=>w0.N k∨D k∨k=D1∨k=D1+1⟩ S H') ps vs2.toList L[i] t a.tmps (by simpa using hn) (fun j d hd=>by
   have:=henc j d hd
   rw[List.getD_eq_getElem?_getD,Array.getElem?_toList,← Array.getD_eq_getD_getElem?]
   refine this.mono fun b hb hA=>⟨fun hlt=>(hA.2.2 (by have hlt':b<w0.w.heap.size:=hlt;omega)).1 hlt,fun hk=>?_,fun e he h5=>hA.1 (hoX b ⟨e,he,h5⟩)⟩
   rcases hk with hk | hk | hk
   ·exact hA.1 (hNX b (.inl hk))
   ·exact hA.2.1 hk
   ·exact hA.1 (hNX b (.inr hk))) h1.sz h1.tm
  have hin:=(show SRel _ S t (H'++[]) a w2 by rw[List.append_nil];exact h1).into (Hin:=H') (Hf:=[]) (args:=qiO ps L[i] t) (vs:=tm2) (by rw[htm3];exact hset.1) (fun j d hd=>by
   have:=hset.2 j
   rw[AV.get_eq,hd] at this
   rw[htm3,List.append_nil];exact this) (.inl fun e he hg=>by have:=hpr e he;cases e<;>first | exact this | exact hg)
  rw[List.append_nil] at hin
  rw[htm2] at hin
  have hA:=hround i hi (D1+1) _ _ H' hI hpr (fun b hb=>hb) _ w2 rfl hin
  refine wpIn_mono hA ?_
  rintro e a' W ⟨rfl,hdf,t1,H1,hs2,hp1,hb⟩
  have hNlp:(fun k=>(w0.N k∨D k∨k=D1∨k=D1+1)∨qf [] k) (D1+1):=.inl (.inr (.inr (.inr rfl)))
  have hltlp:D1+1<w2.heap.size:=(Array.getElem?_eq_some_iff.1 hl).1
  have hlW:W.heap[D1+1]?=some (.loop (rc .ready none)):=(hs2.ext.kp.block _ hltlp fun⟨e,he,h5⟩=>(HE.ok_lt (h1.hs e he) _ h5).1.2 (.inr (.inr (.inr rfl)))).trans hl
  refine ⟨_,run_beginRound hlW (by rw[hrc]),?_⟩
  have hs3:=hs2.poke (.loop {rc .ready none with state:=.busy}) hdf hp1 hlW rfl hNlp
  refine wpIn_mono (hb _ _ (fun b hb=>hb) _ _ hs3) ?_
  have hltW:D1+1<W.heap.size:=(Array.getElem?_eq_some_iff.1 hlW).1
  have fin:∀(t3:List AV) (H3:List HE) (a3:Act) (W4:World) (jump:Option Code),SRel ⟨W.putObj (D1+1) (.loop {rc .ready none with state:=.busy}),qf H1,fun k=>(w0.N k∨D k∨k=D1∨k=D1+1)∨qf [] k⟩ (Al ⟨w2,qf H',fun k=>(w0.N k∨D k∨k=D1∨k=D1+1)∨qf [] k⟩ (Al ⟨w0.w,w0.M,fun k=>w0.N k∨D k∨k=D1∨k=D1+1⟩ S H') H1) t3 H3 a3 W4→(∀e,e∈H3→e.proper) →
    ∃o5,(Instr.endRound (D1+1) jump).run P W4 = .ok (.bool jump.isNone) (W4.putObj (D1+1) o5)∧o5 = .loop (rc (if jump.isNone then .ready else .done) jump) ∧
     Kp X2 w2 (W4.putObj (D1+1) o5)∧(∀b,(X2 b∨qf H3 b)→b<(W4.putObj (D1+1) o5).heap.size∧(X2 b∨w2.heap.size≤b)) ∧
     ∀I':List HE→Obj→Prop,I' H3 o5→qnC w0 S t a D1 (D1+1) W1.heap.size I' D (fun b=>X2 b∨qf H3 b) (W4.putObj (D1+1) o5):=fun t3 H3 a3 W4 jump hs4 hp3=>by
   have hl3:(W.putObj (D1+1) (.loop {rc .ready none with state:=.busy})).heap[D1+1]?=some (.loop {rc .ready none with state:=.busy}):=World.putObj_heap_same hltW
   have hl4:W4.heap[D1+1]?=some (.loop {rc .ready none with state:=.busy}):=(hs4.ext.kp.block _ (Array.getElem?_eq_some_iff.1 hl3).1 fun⟨e,he,h5⟩=>(HE.ok_lt (hs2.hs e he) _ h5).1.2 hNlp).trans hl3
   have hre:=run_endRound (P:=P) jump hl4
   obtain ⟨hs5,hk5,ho5⟩:=h1.round (N1:=fun k=>(w0.N k∨D k∨k=D1∨k=D1+1)∨qf [] k) (fun k=>⟨fun h=>h.elim id (fun⟨e,he,_⟩=>by cases he),.inl⟩) hs2 (.inr (.inr (.inr rfl))) (by show w0.w.heap.size≤D1+1;omega) hs4 hp3 hl4 rfl (.loop (rc (if jump.isNone then .ready else .done) jump))
   have hd4:∀b,qf H3 b→¬(w0.N b∨D b∨b=D1∨b=D1+1):=fun b ⟨e,he,h5⟩=>(HE.ok_lt (hs5.hs e he) b h5).1.2
   refine ⟨_,by rw[hrc] at hre ⊢;exact hre,rfl,hk5.mono fun b hb _=>hb.elim (hoX b) fun h=>hNX b (.inr (.inr h)),fun b hb=>⟨?_,hb.elim .inl fun h=>(ho5 b h).imp (hoX b) id⟩,fun I' hI'=>⟨H3,_,hs5,hI',hp3,fun b hb=>.inr hb,fun b hb=>.inl (hNX b hb),fun b hb=>⟨(hDX b hb).1,fun h=>h.elim (hDX b hb).2 fun h=>hd4 b h (.inr (.inl hb))⟩,fun b hb=>?_,Nat.le_trans hn0 hk5.size,World.putObj_heap_same (Array.getElem?_eq_some_iff.1 hl4).1,?_⟩⟩
   ·exact hb.elim (fun h=>Nat.lt_of_lt_of_le (hXl b h) hk5.size) fun⟨e,he,h5⟩=>(HE.ok_lt (hs5.hs e he) b h5).2
   ·exact hb.elim (fun h=>Nat.lt_of_lt_of_le (hXl b h) hk5.size) fun⟨e,he,h5⟩=>(HE.ok_lt (hs5.hs e he) b h5).2
   ·exact (hk5.block D1 (Array.getElem?_eq_some_iff.1 hd1).1 fun h=>h.elim (fun⟨e,he,h5⟩=>(HE.ok_lt (h1.hs e he) _ h5).1.2 (.inr (.inr (.inl rfl)))) (by omega)).trans hd1
  rintro e a3 W4 ⟨t3,H3,hs4,hq⟩
  cases e<;>try exact hq.elim
  case normal =>
   obtain ⟨o5,h5,h6,h7,h8,h9⟩:=fin t3 H3 a3 W4 none hs4 hq.2
   exact ⟨_,_,h5,_,h7,h8,.inl ⟨rfl,by rw[hJI];exact h9 _ ⟨hq.1,h6⟩⟩⟩
  case ret =>
   obtain ⟨o5,h5,h6,h7,h8,h9⟩:=fin t3 H3 a3 W4 (some .ret) hs4 hq.2
   exact ⟨_,_,h5,_,h7,h8,.inr ⟨rfl,by rw[hJX];exact h9 _ ⟨_,hq.1,h6⟩⟩⟩
  case exit id =>
   obtain ⟨o5,h5,h6,h7,h8,h9⟩:=fin t3 H3 a3 W4 (some (.exit id)) hs4 hq.2
   exact ⟨_,_,h5,_,h7,h8,.inr ⟨rfl,by rw[hJX];exact h9 _ ⟨_,hq.1,h6⟩⟩⟩
 have hHin:∀b,qf [.nodef,.ghost X (JI 0)] b↔X b:=fun b=>by
  constructor
  ·rintro ⟨e,he,hb⟩
   simp only[List.mem_cons,List.not_mem_nil,or_false] at he
   rcases he with rfl | rfl
   ·exact hb.elim
   ·exact hb
  ·intro hb
   exact ⟨.ghost X (JI 0),by simp,hb⟩
 have hgX:∀p,p∈gTab→¬X p.1:=fun p hp h=>by
  have hlt:=hr.ext.gl.lt hp
  rw[hX] at h
  rcases h with ⟨e,he,h5⟩ | h5 | h5 | h5
  ·exact hr.ext.gno hp (HE.ok_lt (hr.hs e he) _ h5).1.1
  ·exact (hr.ext.g.1 p hp).2.2 h5
  ·omega
  ·omega
 have hA1:∀b,b<w.heap.size→Al w0 S H b→Al ⟨W1,qf [.nodef,.ghost X (JI 0)],fun _=>False⟩ (Al w0 S H) [.nodef,.ghost X (JI 0)] b:=fun b hb hA=>by
  have hx:¬qf [.nodef,.ghost X (JI 0)] b:=fun h=>by
   have:=(hHin b).1 h
   rw[hX] at this
   rcases this with ⟨e,he,h5⟩ | h5 | h5 | h5
   ·exact hA.2.2 e he h5
   ·exact hA.2.1 h5
   ·omega
   ·omega
  exact ⟨fun _=>⟨hA,hx⟩,id,fun e he h5=>hx ⟨e,he,h5⟩⟩
 have hin:SRel ⟨W1,qf [.nodef,.ghost X (JI 0)],fun _=>False⟩ (Al w0 S H) (df++[.val (.func (.yield (D1+1)) #[] #[])]++dc) [.nodef,.ghost X (JI 0)] {tmps:=first ++ #[.func (.yield (D1+1)) #[] #[]]++caps,defers:=[]} W1:=by
  refine ⟨⟨Kp.refl _ _,fun _ h=>h.elim,(hr.ext.gl.ext x1).gx (fun p hp hb=>hgX p hp ((hHin _).1 hb)) fun _ _ h=>h⟩,Marks.nil _,(fun b hb=>by cases hb),by simp[e2,e3];omega,fun j=>?_,.cons (fun e he b hb=>hb.elim) (List.pairwise_singleton _ _),fun e he=>?_,fun X2 J2 hm=>?_,fun _=>rfl⟩
  ·have e4':∀i d,df[i]?=some d→Enc W1 (Al ⟨W1,qf [.nodef,.ghost X (JI 0)],fun _=>False⟩ (Al w0 S H) [.nodef,.ghost X (JI 0)]) (first.getD i undef) d:=fun i d hd=>((e4 i d hd).mono hA1).ext x1
   have e5':∀i d,dc[i]?=some d→Enc W1 (Al ⟨W1,qf [.nodef,.ghost X (JI 0)],fun _=>False⟩ (Al w0 S H) [.nodef,.ghost X (JI 0)]) (caps.getD i undef) d:=fun i d hd=>((e5 i d hd).mono hA1).ext x1
   have hy:∀i d,[AV.val (.func (.yield (D1+1)) #[] #[])][i]?=some d→Enc W1 (Al ⟨W1,qf [.nodef,.ghost X (JI 0)],fun _=>False⟩ (Al w0 S H) [.nodef,.ghost X (JI 0)]) (#[Value.func (.yield (D1+1)) #[] #[]].getD i undef) d:=fun i d hd=>by
    match i,hd with
    | 0,hd=>injection hd with hd;subst hd;exact .val _
    | i+1,hd=>simp at hd
   rw[AV.get_eq]
   cases hi:(df++[AV.val (.func (.yield (D1+1)) #[] #[])]++dc)[j]? with
   | none=>exact .any _
   | some d=>exact qeW (by simp[e2]) (qeW e2 e4' hy) e5' j d hi
  ·simp only[List.mem_cons,List.not_mem_nil,or_false] at he
   rcases he with rfl | rfl
   ·trivial
   ·exact ⟨fun b hb=>⟨⟨.inl ((hHin b).2 hb),id⟩,hXlt b hb⟩,hcI 0⟩
  ·simp only[List.mem_cons,List.not_mem_nil,or_false] at hm
   rcases hm with hm | hm
   ·cases hm
   ·injection hm with h5 h6
    subst h5 h6
    have hfr:SRel ⟨w0.w,w0.M,fun k=>w0.N k∨((fun _=>False) k∨Dn [.nodef,.ghost X2 (JI 0)] {tmps:=first ++ #[.func (.yield (D1+1)) #[] #[]]++caps,defers:=[]} k)∨k=D1∨k=D1+1⟩ S t H a W1:=by
     refine SRel.frame (N:=w0.N) (D:=fun _=>False) hr (Kp.ext x1) (fun _ h=>h.elim) (fun _ h=>h.elim) fun b hb=>?_
     rcases hb with hb | (hb | ⟨e,he,hp,hb⟩ | hb) | hb
     ·exact ⟨by have:=hN0 b hb;omega,.inl hb⟩
     ·exact hb.elim
     ·simp only[List.mem_cons,List.not_mem_nil,or_false] at he
      rcases he with rfl | rfl
      ·exact hb.elim
      ·exact hp.elim
     ·cases hb
     ·exact ⟨by omega,.inr (by omega)⟩
    have hJ0:JI 0=qnC w0 S t a D1 (D1+1) W1.heap.size fun H' o=>I 0 H'∧o = .loop (rc .ready none):=by rw[hJI]
    have key:∀D:Nat→Prop,SRel ⟨w0.w,w0.M,fun k=>w0.N k∨D k∨k=D1∨k=D1+1⟩ S t H a W1→(∀b,¬D b)→JI 0 D X2 W1:=fun D hfr hD0=>by
     rw[hJ0]
     exact ⟨H,_,hfr,⟨h0,rfl⟩,hp0,fun b hb=>by rw[hX];exact .inl hb,fun b hb=>by rw[hX];exact .inr hb,fun b hb=>(hD0 b hb).elim,hXlt,Nat.le_refl _,hL1,hK1⟩
    refine key _ hfr fun b hb=>?_
    rcases hb with hb | ⟨e,he,hp,hb⟩ | hb
    ·exact hb.elim
    ·simp only[List.mem_cons,List.not_mem_nil,or_false] at he
     rcases he with rfl | rfl
     ·exact hb.elim
     ·exact hp.elim
    ·cases hb
 have hcall:=(hit.2 (D1+1) _ JI JX X hcI hcX (fun h1 i D X w=>by rw[hJI];rintro ⟨H',o,_,⟨hI,_⟩,_⟩;exact hone h1 i H' hI) hyield).2 W1 (Al w0 S H) (fun _=>False) _ (fun b h=>h) hin
 have hen:=hit.1
 have fin:∀(D X':Nat→Prop) (W2:World) (I':List HE→Obj→Prop),qnC w0 S t a D1 (D1+1) W1.heap.size I' D X' W2→∃H' o,I' H' o∧(∀e,e∈H'→e.proper)∧W2.heap[D1+1]?=some o∧∀o',o.isCells=false→SRel w0 S t H' {a with defers:=mark D1::a.defers} (W2.putObj (D1+1) o'):=by
  rintro D X' W2 I' ⟨H',o,h1,h2,h3,h4,h5,h6,h7,h10,h8,h9⟩
  refine ⟨H',o,h2,h3,h8,fun o' hc=>?_⟩
  have hf:=SRel.frame (N':=w0.N) (D:=fun k=>some (D1+1)=some k) h1 (Kp.grown (grownBy_putObj' W2 (D1+1) o')) (fun b hb _=>by injection hb with hb;exact .inr (.inr (.inr hb.symm))) (fun b hb=>by injection hb with hb;show w0.w.heap.size≤b;omega) fun b hb=>⟨by have:=h7 b (h5 b (.inl hb));simpa using this,.inl (.inl hb)⟩
  refine SRel.addMark hf h3 ((World.putObj_heap_other (by omega)).trans h9) ⟨.inr hw0,fun h=>by have:=hN0 _ h;omega⟩ (fun⟨e,he,h11⟩=>(HE.ok_lt (h1.hs e he) D1 h11).1.2 (.inr (.inr (.inl rfl)))) fun h=>by have:=hr.mark_lt h;omega
 refine ⟨D1+1,[{target:=.collected D1,args:=#[]}],W1,{target:=.fn (.func f) caps,args:=first ++ #[.func (.yield (D1+1)) #[] #[]]},W1,f,
  first ++ #[.func (.yield (D1+1)) #[] #[]]++caps,W1,?_,?_,fun _ _=>trivial,?_,(fun h=>by cases h),?_⟩
 ·rw[hW1,hD,hrc];exact run_enterLoop_outer _ _ _ _ _
 ·simp only[resolve,e1]
  simp[go_sem]
 ·simp only[invoke]
  exact hen _ W1
 ·refine CallsIn.mono hcall ?_
  rintro e W2 ⟨u,r,H2,rfl,⟨X',hx | hx⟩,hs2⟩
  ·have hj:=hs2.gh _ _ hx
   rw[hJI] at hj
   obtain ⟨H',o,⟨hI,rfl⟩,hp,hl,hs⟩:=fin _ _ _ _ hj
   have hre:=run_endLoop (P:=P) hl (by rw[hrc];simp)
   rw[hrc] at hre
   exact ⟨none,_,hre,t,H',hs _ rfl,hdone H' hI hp⟩
  ·have hj:=hs2.gh _ _ hx
   rw[hJX] at hj
   obtain ⟨H',o,⟨c,hI,rfl⟩,hp,hl,hs⟩:=fin _ _ _ _ hj
   have hre:=run_endLoop (P:=P) hl (by rw[hrc];simp)
   rw[hrc] at hre
   exact ⟨some c,_,hre,hstop c H' hI hp _ _ (hs _ rfl)⟩
theorem Awp.rangeM{one:Bool}{g:Operand}{ps:List Tmp}{assign body:Code}{f:FuncId}{df dc:List AV}{L:List (List AV)}(hg:evO t g = .fn f df dc)(hit:qkZ P one f df dc L)(hps:∀x,x∈L→x.length=ps.length)
  (I:Nat→List HE→Prop) (Ix:Code→List HE→Prop) (hone:one=true→∀i H,¬I (i+1) H) (h0:I 0 H) (hp0:∀e,e∈H→e.proper)
  (hround:∀i (hi:i<L.length) (lp:Nat) (w1:Bs) (S1:Nat→Prop) (H':List HE),I i H'→Awp P w1 S1 (Fence.wide.inRound lp) assign (Exit.thenA (fun t1 H1=>H1.getLast?=some .nodef∧(∀e,e∈H1.dropLast→e.proper) ∧
   ∀w2 S2,Awp P w2 S2 (Fence.wide.inRound lp) body (qpu (I (i+1)) Ix) t1 H1.dropLast) (fun _ _ _=>False)) (qiO ps L[i] t) (H'++[.nodef]))
  (hdone:∀H',I L.length H'→(∀e,e∈H'→e.proper)→Q .normal t H') (hstop:∀c H',Ix c H'→(∀e,e∈H'→e.proper)→Awp P w0 S Fence.wide c Q t H'):Awp P w0 S Fence.wide (.rangeFunc g ps.toArray assign body) Q t H :=
 Awp.rangeD hg hit hps I Ix hone h0 hp0 (fun i hi lp w1 S1 H' hI hp _ a1 w hd hs=>by
  refine wpIn_mono (hround i hi lp w1 S1 H' hI _ w (hs.addNodef hd)) ?_
  rintro e a' W ⟨t1,H1,hs1,hq⟩
  cases e<;>try exact hq.elim
  obtain ⟨hlast,hp1,hb⟩:=hq
  exact ⟨rfl,hs1.nd (List.mem_of_getLast? hlast),t1,H1.dropLast,hs1.sub (List.dropLast_sublist H1),hp1,fun w2 S2 _=>hb w2 S2⟩) hdone hstop
theorem Awp.range{g:Operand}{ps:List Tmp}{assign body:Code}{f:FuncId}{df dc:List AV}{L:List (List AV)}(hg:evO t g = .fn f df dc)(hit:qAZ P f df dc L)(hps:∀x,x∈L→x.length=ps.length)
  (I:Nat→List HE→Prop) (Ix:Code→List HE→Prop) (h0:I 0 H) (hp0:∀e,e∈H→e.proper)
  (hround:∀i (hi:i<L.length) (lp:Nat) (w1:Bs) (S1:Nat→Prop) (H':List HE),I i H'→Awp P w1 S1 (Fence.wide.inRound lp) assign (Exit.thenA (fun t1 H1=>H1.getLast?=some .nodef∧(∀e,e∈H1.dropLast→e.proper) ∧
   ∀w2 S2,Awp P w2 S2 (Fence.wide.inRound lp) body (qpu (I (i+1)) Ix) t1 H1.dropLast) (fun _ _ _=>False)) (qiO ps L[i] t) (H'++[.nodef]))
  (hdone:∀H',I L.length H'→(∀e,e∈H'→e.proper)→Q .normal t H') (hstop:∀c H',Ix c H'→(∀e,e∈H'→e.proper)→Awp P w0 S Fence.wide c Q t H'):Awp P w0 S Fence.wide (.rangeFunc g ps.toArray assign body) Q t H :=
 Awp.rangeM hg hit hps I Ix (fun h=>by cases h) h0 hp0 hround hdone hstop
end
section
variable {P:Program} {w0:Bs} {S:Nat→Prop} {F:Fence} {H:List HE} {t:List AV} {Q:qcB}
def EF(P:Program)(w0:Bs)(S:Nat→Prop)(o:Oper)(t:List AV)(H:List HE)(KK:AV→List HE→Prop):Prop :=
 ∀(a:Act) (w:World) (t':List AV),(∀x,x∈opl o.op→evO t' x=evO t x)→SRel w0 S t' H a w→∃n w',(execOp a.eval o).run P w = .ok n w' ∧
  (match n with | .value u=>∃v H',SRel w0 S (AV.putO t' o.dst v) H' (a.put o.dst u) w'∧KK v H' | .skip=>∃H',SRel w0 S (AV.putO t' o.dst .undef) H' (a.put o.dst undef) w'∧KK .undef H' | _=>False)
theorem EF.mono{o:Oper}{KK KK':AV→List HE→Prop}(h:EF P w0 S o t H KK)(hk:∀v H',KK v H'→KK' v H'):EF P w0 S o t H KK':=by
 intro a w t' ht hr
 obtain ⟨n,w',h1,h2⟩:=h a w t' ht hr
 refine ⟨n,w',h1,?_⟩
 cases n<;>simp only at h2 ⊢
 ·obtain ⟨v,H',h3,h4⟩:=h2;exact ⟨v,H',h3,hk _ _ h4⟩
 ·obtain ⟨H',h3,h4⟩:=h2;exact ⟨H',h3,hk _ _ h4⟩
theorem AL.ef(hF:Wf F){ops:Array Oper}{o:Oper}{l:List Oper}(hg:o.guard=none)(h:EF P w0 S o t H fun v H'=>AL P w0 S F ops Q l (AV.putO t o.dst v) H'):AL P w0 S F ops Q (o::l) t H :=
 AL.mstep hF hg fun a w hr=>by
  obtain ⟨n,w',h1,h2⟩:=h a w t (fun _ _=>rfl) hr
  refine ⟨n,w',h1,?_⟩
  cases n<;>simp only at h2 ⊢<;>exact h2
theorem SRel.evq{a:Act}{w:World}{t':List AV}{op:Op}(hr:SRel w0 S t' H a w)(ht:∀x,x∈opl op→evO t' x=evO t x){x:Operand}(hx:x∈opl op){v:AV}(hv:evO t x=v):Enc w (Al w0 S H) (a.eval x) v:=by
 have:=hr.ev x
 rwa [ht x hx,hv] at this
theorem EF.alloc{o:Oper}{KK:AV→List HE→Prop}{ty sz:Nat}{ag:Bool}{z:Value}{zs:List AV}[i:TyAt P ty sz ag z](ho:o.op = .alloc ty)(hz:z.cells.toList.map AV.val=zs)(h:∀b,KK (.val (.pointer (some ⟨b,0,none⟩))) (.blk b ty zs::H)):EF P w0 S o t H KK:=by
 intro a w t' ht hr
 subst hz
 refine ⟨.value (.pointer (some ⟨w.heap.size,0,none⟩)),w.alloc (.cells z.cells.toList.toArray ty),?_,.val (.pointer (some ⟨w.heap.size,0,none⟩)),.blk w.heap.size ty (z.cells.toList.map AV.val)::H,?_,h _⟩
 ·unfold execOp
  rw[ho]
  have:=i.zero w
  simp only[Instr.alloc,Sem.run_bind,this,Result.andThen_ok]
  rfl
 ·exact (hr.new z.cells.toList _ ty (by simp) (qkG _)).put o.dst (.val _)
theorem EF.box{o:Oper}{KK:AV→List HE→Prop}{ty:Nat}{x:Operand}{v:AV}{cs:List AV}(ho:o.op = .box ty x)(hx:evO t x=v)(hc:qb3 v=some cs)(h:∀b,KK (.val (.pointer (some ⟨b,0,none⟩))) (.blk b ty cs::H)):EF P w0 S o t H KK:=by
 intro a w t' ht hr
 rw[ho] at ht
 have he:=hr.evq ht (x:=x) (by simp[opl]) hx
 obtain ⟨h1,h2⟩:=qjD he hc
 refine ⟨.value (.pointer (some ⟨w.heap.size,0,none⟩)),w.alloc (.cells (a.eval x).cells.toList.toArray ty),?_,.val (.pointer (some ⟨w.heap.size,0,none⟩)),.blk w.heap.size ty cs::H,?_,h _⟩
 ·unfold execOp
  rw[ho]
  simp only[Instr.box,newVar,newRow,Sem.run_bind,Sem.run_pure,Result.andThen_ok]
  rfl
 ·refine (hr.new (a.eval x).cells.toList cs ty (by simpa using h1) fun i c hi=>?_).put o.dst (.val _)
  have:=h2 i c hi
  rw[Array.getD_eq_getD_getElem?] at this
  rw[List.getD_eq_getElem?_getD,Array.getElem?_toList]
  exact this
theorem EF.store{o:Oper}{KK:AV→List HE→Prop}{ty sz:Nat}{ag:Bool}{z:Value}{x y:Operand}{b off:Nat}{v:AV}(k tt:Nat)(cs ds cs':List AV)[i:TyAt P ty sz ag z](ho:o.op = .store ty x y)(hx:evO t x = .val (.pointer (some ⟨b,off,none⟩)))(hy:evO t y=v)
  (hH:H[k]?=some (.blk b tt cs)) (hc:qb3 v=some ds) (hs:ds.length=sz) (h1:ds.all AV.one=true) (hl:off+ds.length≤cs.length) (hcs:qk cs off ds=cs') (h:KK .undef (H.set k (.blk b tt cs'))):EF P w0 S o t H KK:=by
 intro a w t' ht hr
 rw[ho] at ht
 have he:=hr.evq ht (x:=y) (by simp[opl]) hy
 have hex:=(hr.evq ht (x:=x) (by simp[opl]) hx).val_eq
 obtain ⟨h2,h3⟩:=qjD he hc
 obtain ⟨h4,vs,h5,h6,h7⟩:=hr.hs _ (List.mem_of_getElem? hH)
 have hone:∀u,u∈(a.eval y).cells.toList→u.oneCell'=true:=fun u hu=>by
  obtain ⟨j,hj,rfl⟩:=List.mem_iff_getElem.1 hu
  have hj':j<ds.length:=by simp at hj;omega
  have:=(h3 j _ (List.getElem?_eq_getElem hj')).one (List.all_eq_true.1 h1 _ (List.getElem_mem hj'))
  rwa [Array.getD_eq_getD_getElem?,Array.getElem?_eq_getElem (by simpa using hj)] at this
 obtain ⟨w',h8,h9,h10⟩:=qd4 (P:=P) b tt off (a.eval y).cells.toList 0 w vs h5 (by simp;omega) hone
 refine ⟨.skip,w',?_,H.set k (.blk b tt cs'),?_,h⟩
 ·unfold execOp
  rw[ho]
  have hsz:=i.size w
  have hq:(a.eval y).cells.size=sz:=by omega
  simp only[Instr.storeAt,hex,Instr.sureAddr,storeVar,Sem.run_bind,Sem.run_pure,Result.andThen_ok,hsz,hq,ne_eq,not_true_eq_false,if_false,h8]
 ·refine (hr.stored k b tt cs cs' (qk vs off (a.eval y).cells.toList) hH (by simpa using h9) h10 ?_ ?_).put o.dst (.val _)
  ·rw[← hcs,qA (by simp;omega),qA hl,h6]
  ·rw[← hcs]
   refine qhT h6 (by simpa using h2) hl h7 fun j d hj=>?_
   have:=h3 j d hj
   rw[Array.getD_eq_getD_getElem?] at this
   rw[List.getD_eq_getElem?_getD,Array.getElem?_toList]
   exact this
theorem EF.make{o:Oper}{KK:AV→List HE→Prop}{ty e sz bytes:Nat}{ag:Bool}{z:Value}{x y:Operand}{kl kc:IntKind}{n m:Int}(k:Nat)[i:SliceTy P ty e sz ag bytes z](ho:o.op = .makeSlice ty x y)(hx:evO t x = .val (.int kl n))(hy:evO t y = .val (.int kc m))(hn:n=(k:Int))(hm:m=(k:Int))(hk:k*sz≤1000000)(hb:k*bytes≤281474976710656)(h63:k≤maxLen)
  (h:∀b,KK (.val (.slice (some ⟨b,0,none⟩) k k)) (.blk b e ((List.range (k*sz)).map fun j=>AV.val (z.cells.getD (j % sz) undef))::H)):EF P w0 S o t H KK:=by
 intro a w t' ht hr
 rw[ho] at ht
 have hex:=(hr.evq ht (x:=x) (by simp[opl]) hx).val_eq
 have hey:=(hr.evq ht (x:=y) (by simp[opl]) hy).val_eq
 subst hn hm
 obtain ⟨it,hi,hz0,hz1,hz2⟩:∃it,P.info? e=some it∧it.zero=some z∧it.size=sz∧it.bytes=bytes:=by
  have h0:=i.he
  cases hi:P.info? e with
  | none=>rw[hi] at h0;cases h0
  | some it =>
   rw[hi] at h0
   simp only[Option.map_some,Option.some.injEq,Prod.mk.injEq] at h0
   exact ⟨it,rfl,h0.2.1,h0.1,h0.2.2⟩
 have hmax:k≤9223372036854775807:=by simpa[maxLen] using h63
 have hbi:((bytes:Nat):Int)*(k:Int)≤281474976710656:=by
  have:((k*bytes:Nat):Int)≤281474976710656:=by omega
  rw[Int.natCast_mul,Int.mul_comm] at this
  exact this
 have hrun:=Go.run_makeSlice (P:=P) w ty e it z i.h hi hz0 kl kc k k (by omega) (by omega) (by rw[hz1];simp;omega) (by rw[hz2];exact hbi) (by omega)
 simp only[Int.toNat_natCast,hz1] at hrun
 obtain ⟨cells,hc⟩:∃cells:List Value,cells=(List.range (k*sz)).map fun j=>z.cells.getD (j % sz) undef:=⟨_,rfl⟩
 have hcells:madeCells z.cells (k*sz)=cells.toArray:=by
  rw[hc]
  apply Array.ext'
  have hs:=i.s
  have hp:=i.p
  unfold madeCells
  simp only[Array.toList_map,Array.toList_range]
  refine List.map_congr_left fun j hj=>?_
  have:j % sz<z.cells.size:=by rw[hs];exact Nat.mod_lt _ hp
  rw[hs,Array.getD_eq_getD_getElem?,Array.getElem?_eq_getElem this]
  simp[getElem!_def,Array.getElem?_eq_getElem this]
 refine ⟨.value (.slice (some ⟨w.heap.size,0,none⟩) k k),w.alloc (.cells cells.toArray e),?_,.val (.slice (some ⟨w.heap.size,0,none⟩) k k),.blk w.heap.size e (cells.map AV.val)::H,?_,?_⟩
 ·unfold execOp
  rw[ho,← hcells]
  simp only[hex,hey,Sem.run_bind,hrun,Result.andThen_ok]
  rfl
 ·exact (hr.new cells _ e (by simp) (qkG _)).put o.dst (.val _)
 ·have:=h w.heap.size
  rw[hc,List.map_map]
  exact this
def isEF:Op→Bool
 | .alloc _ | .box _ _ | .makeSlice _ _ _ | .store _ _ _=>true
 | .call ⟨.builtin .append,_,_⟩ | .call ⟨.builtin .copy,_,_⟩=>true
 | _=>false
def opB(P:Program)(w0:Bs)(S:Nat→Prop)(ops:Array Oper)(i:Nat)(K:List AV→List HE→Prop)(t:List AV)(H:List HE):Prop :=
 match ops[i]? with
 | none=>K t H
 | some o=>(∃v,((qZ ops o t=some true∧AY P w0 S H o t v)∨(qZ ops o t=some false∧v = .undef))∧K (AV.putO t o.dst v) H) ∨
   (o.guard=none∧isEF o.op=true∧EF P w0 S o t H fun v H'=>K (AV.putO t o.dst v) H')
theorem qx9{ops:Array Oper}{i:Nat}{K K':List AV→List HE→Prop}(h:∀t H,K t H→K' t H)(hh:opB P w0 S ops i K t H):opB P w0 S ops i K' t H:=by
 unfold opB at *
 split
 ·rename_i ho;simp only[ho] at hh;exact h _ _ hh
 ·rename_i o ho
  simp only[ho] at hh
  rcases hh with ⟨v,h1,h2⟩ | ⟨h1,h0,h2⟩
  ·exact .inl ⟨v,h1,h _ _ h2⟩
  ·exact .inr ⟨h1,h0,h2.mono fun v H' h4=>h _ _ h4⟩
def anyB(P:Program)(w0:Bs)(S:Nat→Prop)(md:Region.Mode)(ops:Array Oper)(K:List AV→List HE→Prop):Nat→Array Bool→List AV→List HE→Prop
 | 0,listed,t,H=>Region.ready md ops listed=[]∧K t H
 | fuel+1,listed,t,H=>(Region.ready md ops listed=[]→K t H)∧∀i,i∈Region.ready md ops listed→opB P w0 S ops i (anyB P w0 S md ops K fuel (listed.setIfInBounds i true)) t H
def AYx(P:Program)(w0:Bs)(S:Nat→Prop)(Good:List HE→Prop)(ops:Array Oper)(o:Oper)(t:List AV)(v:AV):Prop :=
 (qZ ops o t=some true∧∀H,Good H→AY P w0 S H o t v)∨(qZ ops o t=some false∧v = .undef)
theorem AYx.putO{Good:List HE→Prop}{ops:Array Oper}{o:Oper}{x:Option Tmp}{u v:AV}(h:∀d,x=some d→d∉o.looksAt ops):AYx P w0 S Good ops o (AV.putO t x u) v↔AYx P w0 S Good ops o t v:=by
 unfold AYx
 rw[qj6 h]
 constructor
 ·rintro (⟨h1,h2⟩ | h1)
  ·exact .inl ⟨h1,fun H hH=>(AY.putO h).1 (h2 H hH)⟩
  ·exact .inr h1
 ·rintro (⟨h1,h2⟩ | h1)
  ·exact .inl ⟨h1,fun H hH=>(AY.putO h).2 (h2 H hH)⟩
  ·exact .inr h1
theorem qzM{ops:Array Oper}{o:Oper}{x:Option Tmp}{u:AV}(h:∀d,x=some d→d∉o.looksAt ops):∀y,y∈opl o.op→evO (AV.putO t x u) y=evO t y:=fun y hy=>qtY fun d hd e=>h d hd (by
 subst e
 exact List.mem_append_left _ (List.mem_filterMap.2 ⟨.tmp d,by simpa using qqg hy,rfl⟩))
theorem qzN{Good:List HE→Prop}{ops:Array Oper}{j:Nat}{oi oj:Oper}{v:AV}(hj:ops[j]?=some oj)(hap:oi.apart ops oj=true)(hef:isEF oj.op=true→∀H,Good H){K:List AV→List HE→Prop}(hy:AYx P w0 S Good ops oi t v)(hs:Good H)
  (h:opB P w0 S ops j K (AV.putO t oi.dst v) H):opB P w0 S ops j (fun t' H'=>AYx P w0 S Good ops oi t' v∧Good H'∧K (AV.putO t' oi.dst v) H') t H:=by
 obtain ⟨h1,h2,h3⟩:=Oper.apart_spec hap
 unfold opB at *
 simp only[hj] at *
 rcases h with ⟨u,hu,hk⟩ | ⟨hg,h0,h⟩
 ·refine .inl ⟨u,?_,(AYx.putO h3).2 hy,hs,by rw[qmQ t u v fun d hd e=>h2 d e hd];exact hk⟩
  rcases hu with ⟨hu1,hu2⟩ | ⟨hu1,hu2⟩
  ·exact .inl ⟨by rw[qj6 h1] at hu1;exact hu1,(AY.putO h1).1 hu2⟩
  ·exact .inr ⟨by rw[qj6 h1] at hu1;exact hu1,hu2⟩
 ·refine .inr ⟨hg,h0,?_⟩
  intro a w t' ht hr
  obtain ⟨n,w',h4,h5⟩:=h a w t' (fun x hx=>by rw[ht x hx,qzM h1 x hx]) hr
  refine ⟨n,w',h4,?_⟩
  cases n<;>simp only at h5 ⊢
  ·obtain ⟨u,H',h6,h8⟩:=h5
   exact ⟨u,H',h6,(AYx.putO h3).2 hy,hef h0 H',by rw[qmQ t u v fun d hd e=>h2 d e hd];exact h8⟩
  ·obtain ⟨H',h6,h8⟩:=h5
   exact ⟨H',h6,(AYx.putO h3).2 hy,hef h0 H',by rw[qmQ t _ v fun d hd e=>h2 d e hd];exact h8⟩
theorem qqU{Good:List HE→Prop}{md:Region.Mode}{ops:Array Oper}{K:List AV→List HE→Prop}{i:Nat}{oi:Oper}{v:AV}(hi:ops[i]?=some oi) :
  ∀(fuel:Nat) (listed:Array Bool) (t:List AV) (H:List HE),Good H →
   (∀j oj,ops[j]?=some oj→j≠i→listed.getD j true=false→(∀e∈oj.after,Region.binds md e=true→e.on≠i)→oi.apart ops oj=true∧(isEF oj.op=true→∀H,Good H)) →
   i∈Region.ready md ops listed→AYx P w0 S Good ops oi t v →
   anyB P w0 S md ops K fuel (listed.setIfInBounds i true) (AV.putO t oi.dst v) H→anyB P w0 S md ops K (fuel+1) listed t H:=by
 intro fuel
 have here:∀(t:List AV) (H:List HE) (KK:List AV→List HE→Prop),Good H→AYx P w0 S Good ops oi t v→KK (AV.putO t oi.dst v) H→opB P w0 S ops i KK t H:=fun t H KK hs hy hk=>by
  unfold opB
  simp only[hi]
  exact .inl ⟨v,hy.imp (fun h=>⟨h.1,h.2 H hs⟩) id,hk⟩
 induction fuel with
 | zero =>
  intro listed t H hs _ hr hy h
  refine ⟨fun h=>(by rw[h] at hr;cases hr),fun j hj=>?_⟩
  by_cases hji:j=i
  ·subst hji;exact here t H _ hs hy h
  ·have:=ready_mono hj hji
   rw[h.1] at this
   cases this
 | succ fuel ih =>
  intro listed t H hs hfree hr hy h
  refine ⟨fun h=>(by rw[h] at hr;cases hr),fun j hj=>?_⟩
  by_cases hji:j=i
  ·subst hji;exact here t H _ hs hy h
  ·have h1:=h.2 j (ready_mono hj hji)
   obtain ⟨hjun,oj,hoj,hall⟩:=mem_ready.1 hj
   have hnot:∀e∈oj.after,Region.binds md e=true→e.on≠i:=fun e he hb heq=>by
    have h1:=hall e he hb
    have h0:=(mem_ready.1 hr).1
    rw[heq] at h1
    rcases Nat.lt_or_ge i listed.size with h' | h'
    ·simp[h'] at h0 h1;rw[h0] at h1;cases h1
    ·simp[Array.getElem?_eq_none h'] at h1
   have hf:=hfree j oj hoj hji hjun hnot
   have h2:=qzN hoj hf.1 hf.2 hy hs h1
   have hfree':∀k ok,ops[k]?=some ok→k≠i→(listed.setIfInBounds j true).getD k true=false →
     (∀e∈ok.after,Region.binds md e=true→e.on≠i)→oi.apart ops ok=true∧(isEF ok.op=true→∀H,Good H):=fun k ok hk hki hun hno=>by
    refine hfree k ok hk hki ?_ hno
    by_cases hjk:j=k
    ·subst hjk;exact hjun
    ·rw[getD_set_ne true hjk] at hun;exact hun
   refine qx9 (fun t' H' h3=>ih (listed.setIfInBounds j true) t' H' h3.2.1 hfree' (ready_mono hr (Ne.symm hji)) h3.1 ?_) h2
   rw[Array.setIfInBounds_comm _ _ hji]
   exact h3.2.2
theorem qiP(hF:Wf F){md:Region.Mode}{ops:Array Oper}{K:List AV→List HE→Prop}{Q':Exit→Act→World→Prop}(hQ:∀t H a w,SRel w0 S t H a w→K t H→Q' .normal a w):∀(fuel:Nat) (listed:Array Bool) (t:List AV) (H:List HE) (a:Act) (w:World),SRel w0 S t H a w →
  anyB P w0 S md ops K fuel listed t H→wpAnyIn F 0 P md ops Q' fuel listed a w
 | 0,_,_,_,_,_,hr,h=>⟨h.1,hQ _ _ _ _ hr h.2⟩
 | fuel+1,_,t,H,a,w,hr,h=>⟨fun h0=>hQ _ _ _ _ hr (h.1 h0),fun i hi=>by
   have h1:=h.2 i hi
   unfold opB at h1
   unfold wpOpIn
   cases ho:ops[i]? with
   | none=>simp only[ho] at h1;exact qiP hF hQ fuel _ t H a w hr h1
   | some o =>
    simp only[ho] at h1
    simp only
    rcases h1 with ⟨v,hv,hk⟩ | ⟨hg,_,hE⟩
    ·rcases hv with ⟨hw,hv⟩ | ⟨hw,rfl⟩
     ·rw[if_pos (qel (a:=a) hw (fun d _ v hv=>hr.looks d v hv))]
      exact hv a w hr.ext hr.hs (fun x _=>hr.ev x) F hF _ _ fun u w' he hu=>qiP hF hQ fuel _ _ _ _ _ ((hr.mono he).put o.dst hu) hk
     ·rw[if_neg (by rw[qel (a:=a) hw (fun d _ v hv=>hr.looks d v hv)];simp)]
      exact ⟨fun f _=>hF.fn f,qiP hF hQ fuel _ _ _ _ _ (hr.put o.dst (.val _)) hk⟩
    ·rw[if_pos (qel (a:=a) (t:=t) (by simp[qZ,hg]) (fun d _ v hv=>hr.looks d v hv))]
     obtain ⟨n,w',h2,h3⟩:=hE a w t (fun _ _=>rfl) hr
     refine ⟨fun f _=>hF.fn f,?_⟩
     rw[Oper.semAt_eq F.round a.eval o (qof h2 (by cases n<;>first | trivial | exact h3)),h2]
     cases n<;>simp only at h3
     case value u =>
      obtain ⟨v,H',h4,h5⟩:=h3
      exact qiP hF hQ fuel _ _ _ _ _ h4 h5
     case skip =>
      obtain ⟨H',h4,h5⟩:=h3
      exact qiP hF hQ fuel _ _ _ _ _ h4 h5⟩
def Region.firstB(md:Region.Mode)(ops:Array Oper)(listed:Array Bool)(i:Nat):Bool:=(Region.ready md ops listed).contains i&&Region.free md ops listed i
def Region.calmB(md:Region.Mode)(ops:Array Oper)(listed:Array Bool)(i:Nat):Bool :=
 (List.range ops.size).all fun j=>j==i||listed.getD j true||match ops[j]? with
  | some oj=>oj.after.any (fun e=>Region.binds md e&&e.on==i) || !isEF oj.op
  | none=>true
theorem Region.calm_spec{md:Region.Mode}{ops:Array Oper}{i:Nat}{listed:Array Bool}(h:Go.Proofs.YtfnflenkeljkiaaGreat.Region.calmB md ops listed i=true)(j:Nat)(oj:Oper)
  (hj:ops[j]?=some oj) (hne:j≠i) (hun:listed.getD j true=false) (hno:∀e∈oj.after,Region.binds md e=true→e.on≠i):isEF oj.op=false:=by
 simp only[Go.Proofs.YtfnflenkeljkiaaGreat.Region.calmB,List.all_eq_true,List.mem_range] at h
 have h1:=h j (Array.getElem?_eq_some_iff.1 hj).1
 simp only[hj,Bool.or_eq_true,beq_iff_eq,hne,false_or,hun,Bool.false_eq_true] at h1
 rcases h1 with h1 | h1
 ·obtain ⟨e,he,hb⟩:=Array.any_eq_true'.1 h1
  simp only[Bool.and_eq_true,beq_iff_eq] at hb
  exact absurd hb.2 (hno e he hb.1)
 ·simpa using h1
theorem qey{md:Region.Mode}{ops:Array Oper}{K:List AV→List HE→Prop}{oi:Oper}{v:AV}{d fuel:Nat}{listed:Array Bool}{t':List AV}(i:Nat)(hi:ops[i]?=some oi)(hb:Go.Proofs.YtfnflenkeljkiaaGreat.Region.firstB md ops listed i=true)(hg:oi.guard=none)(hd:oi.dst=some d)
  (hy:∀H,AY P w0 S H oi t v) (ht:AV.put t d v=t') (h:anyB P w0 S md ops K fuel (listed.setIfInBounds i true) t' H):anyB P w0 S md ops K (fuel+1) listed t H:=by
 unfold Go.Proofs.YtfnflenkeljkiaaGreat.Region.firstB at hb
 rw[Bool.and_eq_true] at hb
 refine qqU (Good:=fun _=>True) hi fuel listed t H trivial (fun j oj h1 h2 h3 h4=>⟨Region.free_spec hi hb.2 j oj h1 h2 h3 h4,fun _ _=>trivial⟩) (by simpa using hb.1) (.inl ⟨by simp[qZ,hg],fun H _=>hy H⟩) ?_
 rw[hd]
 simp only[AV.putO]
 rw[ht];exact h
theorem qT{md:Region.Mode}{ops:Array Oper}{K:List AV→List HE→Prop}{oi:Oper}{v:AV}{d fuel:Nat}{listed:Array Bool}{t':List AV}(i:Nat)(hi:ops[i]?=some oi)(hb:(Go.Proofs.YtfnflenkeljkiaaGreat.Region.firstB md ops listed i&&Go.Proofs.YtfnflenkeljkiaaGreat.Region.calmB md ops listed i)=true)(hg:oi.guard=none)(hd:oi.dst=some d)
  (hy:AY P w0 S H oi t v) (ht:AV.put t d v=t') (h:anyB P w0 S md ops K fuel (listed.setIfInBounds i true) t' H):anyB P w0 S md ops K (fuel+1) listed t H:=by
 unfold Go.Proofs.YtfnflenkeljkiaaGreat.Region.firstB at hb
 rw[Bool.and_eq_true,Bool.and_eq_true] at hb
 refine qqU (Good:=fun H'=>H'=H) hi fuel listed t H rfl (fun j oj h1 h2 h3 h4=>⟨Region.free_spec hi hb.1.2 j oj h1 h2 h3 h4,fun h5=>by rw[Go.Proofs.YtfnflenkeljkiaaGreat.Region.calm_spec hb.2 j oj h1 h2 h3 h4] at h5;cases h5⟩) (by simpa using hb.1.1) (.inl ⟨by simp[qZ,hg],fun H' h=>by rw[h];exact hy⟩) ?_
 rw[hd]
 simp only[AV.putO]
 rw[ht];exact h
def allB(p:Nat→Prop):List Nat→Prop
 | []=>True
 | i::l=>p i∧allB p l
theorem qt5{p:Nat→Prop}:∀{l:List Nat},allB p l→∀i,i∈l→p i
 | _::_,h,i,hi=>by
  rcases List.mem_cons.1 hi with rfl | hi
  ·exact h.1
  ·exact qt5 h.2 i hi
theorem qb{md:Region.Mode}{ops:Array Oper}{K:List AV→List HE→Prop}{fuel:Nat}{listed:Array Bool}(l:List Nat)(hr:(Region.ready md ops listed==l && !l.isEmpty)=true)(h:allB (fun i=>opB P w0 S ops i (anyB P w0 S md ops K fuel (listed.setIfInBounds i true)) t H) l):anyB P w0 S md ops K (fuel+1) listed t H:=by
 rw[Bool.and_eq_true] at hr
 have h1:Region.ready md ops listed=l:=by simpa using hr.1
 refine ⟨fun h0=>?_,fun i hi=>qt5 h i (h1 ▸ hi)⟩
 rw[← h1,h0] at hr
 simp at hr
theorem q9{md:Region.Mode}{ops:Array Oper}{K:List AV→List HE→Prop}{listed:Array Bool}(hr:(Region.ready md ops listed).isEmpty=true)(h:K t H):anyB P w0 S md ops K 0 listed t H:=⟨by simpa using hr,h⟩
theorem ql{ops:Array Oper}{o:Oper}{i:Nat}{K:List AV→List HE→Prop}(hi:ops[i]?=some o)(hg:o.guard=none)(he:isEF o.op=true)(h:EF P w0 S o t H fun v H'=>K (AV.putO t o.dst v) H'):opB P w0 S ops i K t H:=by
 unfold opB
 simp only[hi]
 exact .inr ⟨hg,he,h⟩
theorem qd{md:Region.Mode}{ops:Array Oper}{K:List AV→List HE→Prop}{fuel:Nat}{listed:Array Bool}{t':List AV}{H':List HE}(ht:t=t')(hH:H=H')(h:anyB P w0 S md ops K fuel listed t' H'):anyB P w0 S md ops K fuel listed t H:=by rw[ht,hH];exact h
theorem Awp.drawC(hF:Wf F){id:Nat}{l:List Oper}{t':List AV}{n:Nat}(C:List AV→List HE→Prop)(ht:t=t')(hn:l.length=n)(hm:P.follows .mixedOrders=true)(h:anyB P w0 S .any l.toArray C n (Array.replicate n false) t' H)(hq:∀t H,C t H→Q .normal t H):Awp P w0 S F (.region id l.toArray true) Q t H:=by
 subst ht hn
 intro a w hr
 refine wpIn_region_any hm (qiP hF (K:=C) (fun t H a w hr h=>⟨t,H,hr,hq t H h⟩) _ _ t H a _ (hr.mono (Ext.refl w).drew) ?_)
 simpa using h
theorem SRel.perm{a:Act}{w:World}{H':List HE}(h:SRel w0 S t H a w)(hp:H.Perm H'):SRel w0 S t H' a w:=by
 have hmem:∀e,e∈H'→e∈H:=fun e he=>hp.mem_iff.2 he
 have hA:∀b,Al w0 S H b→Al w0 S H' b:=fun b hb=>⟨hb.1,hb.2.1,fun e he=>hb.2.2 e (hmem e he)⟩
 refine h.next (D:=fun _=>False) a.tmps (Kp.refl _ w) (fun _ h=>h.elim) h.sz (fun i=>(h.tm i).mono fun b _=>hA b) (h.ap.perm hp fun {x y} hxy b h1 h2=>hxy b h2 h1) (fun e he=>HE.ok_mono (h.hs e (hmem e he)) fun b _=>hA b) (fun e he b hb=>.inl ⟨e,hmem e he,hb⟩) (fun e he hq b hb=>.inl ⟨e,hmem e he,hq,hb⟩) fun e he _=>hmem e he
theorem Awp.perm{c:Code}{H':List HE}(hp:H.Perm H')(h:Awp P w0 S F c Q t H'):Awp P w0 S F c Q t H:=fun a w hr=>h a w (hr.perm hp)
theorem AL.perm{ops:Array Oper}{l:List Oper}{H':List HE}(hp:H.Perm H')(h:AL P w0 S F ops Q l t H'):AL P w0 S F ops Q l t H:=fun a w hr=>h a w (hr.perm hp)
def Fits:List AV→List AV→Prop
 | [],[]=>True
 | a::l,b::m=>(b = .any∨a=b)∧Fits l m
 | _,_=>False
theorem Fits.len:∀{l m:List AV},Fits l m→l.length=m.length
 | [],[],_=>rfl
 | _::_,_::_,h=>by simp[Fits.len h.2]
 | [],_::_,h=>h.elim
 | _::_,[],h=>h.elim
theorem Fits.get:∀{l m:List AV},Fits l m→∀i,AV.get m i = .any∨AV.get l i=AV.get m i
 | [],[],_,_=>.inl rfl
 | _::_,_::_,h,0=>h.1
 | _::_,_::_,h,i+1=>Fits.get h.2 i
 | [],_::_,h,_=>h.elim
 | _::_,[],h,_=>h.elim
end
section
variable {P:Program} {w0:Bs} {S:Nat→Prop} {F:Fence} {H:List HE} {t:List AV} {Q:qcB}
theorem Awp.drawB(hF:Wf F){id:Nat}{l:List Oper}{t':List AV}{n:Nat}(ht:t=t')(hn:l.length=n)(hm:P.follows .mixedOrders=true)(h:∀K:List AV→List HE→Prop,(∀t H,Q .normal t H→K t H)→anyB P w0 S .any l.toArray K n (Array.replicate n false) t' H):Awp P w0 S F (.region id l.toArray true) Q t H :=
 Awp.drawC hF (fun t H=>Q .normal t H) ht hn hm (h _ fun _ _ h=>h) fun _ _ h=>h
theorem qnj{α:Type}{l us:List α}{o m:Nat}(h:o+us.length≤m)(hm:m≤l.length):(qk l o us).take m=qk (l.take m) o us:=by
 apply List.ext_getElem?
 intro i
 rw[List.getElem?_take,qe1 (by omega),qe1 (by simp;omega),List.getElem?_take]
 by_cases hi:i<m
 ·rw[if_pos hi,if_pos hi]
 ·rw[if_neg hi,if_neg (by omega),if_neg hi]
theorem EF.ostore{o:Oper}{KK:AV→List HE→Prop}{ty sz':Nat}{ag:Bool}{z:Value}{x y:Operand}{b off:Nat}{v:AV}(k:Nat)(n c e sz:Nat)(cs ds cs':List AV)[i:TyAt P ty sz' ag z](ho:o.op = .store ty x y)(hx:evO t x = .val (.pointer (some ⟨b,off,none⟩)))(hy:evO t y=v)
  (hH:H[k]?=some (.own (.slice (some ⟨b,0,none⟩) n c) e sz n cs)) (hc:qb3 v=some ds) (hs:ds.length=sz') (h1:ds.all AV.one=true) (hl:off+ds.length≤cs.length) (hcs:qk cs off ds=cs') (h:KK .undef (H.set k (.own (.slice (some ⟨b,0,none⟩) n c) e sz n cs'))):EF P w0 S o t H KK:=by
 intro a w t' ht hr
 rw[ho] at ht
 have he:=hr.evq ht (x:=y) (by simp[opl]) hy
 have hex:=(hr.evq ht (x:=x) (by simp[opl]) hx).val_eq
 obtain ⟨h2,h3⟩:=qjD he hc
 obtain ⟨h4,xs,⟨h5,h5'⟩,h6,h7⟩:=hr.hs _ (List.mem_of_getElem? hH)
 have hone:∀u,u∈(a.eval y).cells.toList→u.oneCell'=true:=fun u hu=>by
  obtain ⟨j,hj,rfl⟩:=List.mem_iff_getElem.1 hu
  have hj':j<ds.length:=by simp at hj;omega
  have:=(h3 j _ (List.getElem?_eq_getElem hj')).one (List.all_eq_true.1 h1 _ (List.getElem_mem hj'))
  rwa [Array.getD_eq_getD_getElem?,Array.getElem?_eq_getElem (by simpa using hj)] at this
 rcases h5' with ⟨h51,_⟩ | ⟨g,cap,cur,h51,h52,h53,h54,h55,h56,h57⟩
 ·injection h51 with h51;cases h51
 injection h51 with h51 _ h58
 injection h51 with h51
 injection h51 with h51
 subst h51 h58
 have hcl:cs.length≤cur.toList.length:=by rw[← h6,← h57];simp;omega
 have hB:Blk w b e cur.toList:=by unfold Blk;simpa using h53
 obtain ⟨w',h8,h9,h10⟩:=qd4 (P:=P) b e off (a.eval y).cells.toList 0 w cur.toList hB (by simp at h2 hl hcl ⊢;omega) hone
 have hus:(a.eval y).cells.toList.length=ds.length:=by simpa using h2
 have hxs:qk xs off (a.eval y).cells.toList=(qk cur.toList off (a.eval y).cells.toList).take (n*sz):=by
  rw[qnj (by omega) (by have:=congrArg List.length h57;simp at this ⊢;omega),h57]
 refine ⟨.skip,w',?_,H.set k (.own (.slice (some ⟨b,0,none⟩) n c) e sz n cs'),?_,h⟩
 ·unfold execOp
  rw[ho]
  have hsz:=i.size w
  have hq:(a.eval y).cells.size=sz':=by omega
  simp only[Instr.storeAt,hex,Instr.sureAddr,storeVar,Sem.run_bind,Sem.run_pure,Result.andThen_ok,hsz,hq,ne_eq,not_true_eq_false,if_false,h8]
 ·refine (hr.owned k _ (.slice (some ⟨b,0,none⟩) n c) e sz n cs' (qk xs off (a.eval y).cells.toList) hH trivial ?_ ((Kp.grown h10).mono fun x hx _=>hx) (fun b' hb=>.inl hb) ?_ ?_).put o.dst (.val _)
  ·refine ⟨by rw[qA (by omega)];exact h5,.inr ⟨b,c,(qk cur.toList off (a.eval y).cells.toList).toArray,rfl,Nat.zero_le _,?_,h54,h55,?_,by rw[hxs]⟩⟩
   ·have h9':w'.heap[b]?=_:=h9
    rw[h9',Nat.add_zero]
   ·have:=qA (l:=cur.toList) (us:=(a.eval y).cells.toList) (o:=off) (by omega)
    simp only[List.size_toArray,this,Array.length_toList,h56]
  ·rw[← hcs,qA (by omega),qA hl,h6]
  ·rw[← hcs]
   refine qhT h6 (by simpa using h2) hl h7 fun j d hj=>?_
   have:=h3 j d hj
   rw[Array.getD_eq_getD_getElem?] at this
   rw[List.getD_eq_getElem?_getD,Array.getElem?_toList]
   exact this
theorem qAv(k:Nat)(v:Value):(List.range (k*1)).map (fun j=>AV.val (v.cells.getD (j % 1) undef))=List.replicate k (.val (v.cells.getD 0 undef)):=by
 rw[Nat.mul_one]
 apply List.ext_getElem?
 intro i
 rw[List.getElem?_map,List.getElem?_replicate]
 by_cases h:i<k
 ·rw[List.getElem?_range h,if_pos h,Option.map_some,Nat.mod_one]
 ·rw[List.getElem?_eq_none (by simp;omega),if_neg h];rfl
end
section
variable {P:Program} {w0:Bs} {S:Nat→Prop} {F:Fence} {H:List HE} {t:List AV} {Q:qcB}
theorem AL.norm{ops:Array Oper}{l:List Oper}{t':List AV}{H':List HE}(ht:t=t')(hH:H=H')(h:AL P w0 S F ops Q l t' H'):AL P w0 S F ops Q l t H:=by rw[ht,hH];exact h
theorem qya{α:Type}(f:α→List Value){sz:Nat}(hf:∀x,(f x).length=sz)(l:List α):∀(i:Nat) (row:List AV),(l.map fun x=>(f x).map AV.val)[i]?=some row→row.length=sz:=fun i row h=>by
 rw[List.getElem?_map] at h
 cases hx:l[i]? with
 | none=>rw[hx] at h;cases h
 | some x=>rw[hx] at h;injection h with h;rw[← h];simp[hf]
theorem AY.slice1{o:Oper}{ty e sz bytes:Nat}{ag:Bool}{z:Value}{x:Operand}{d:AV}{row:List AV}[i:SliceTy P ty e sz ag bytes z](ho:o.op = .buildSlice ty 1 #[(0,x)])(hx:evO t x=d)(hc:qb3 d=some row)(hl:row.length=sz)(hs:sz≤1000):AY P w0 S H o t (.sl sz [row]):=by
 have h:=Step1.sound (P:=P) (w0:=w0) (S:=S) (H:=H) (o:=o) (t:=t) (avs:=[d]) (v:=.sl sz [row])
 rw[ho] at h
 refine h (Step1.buildSlice ty e sz bytes 1 ag z [(0,x)] [d] (qk (List.replicate (1*sz) .any) 0 row) [row] rfl (by omega) ?_ ?_) (by simp[opl,hx])
 ·simp only[qdn,zip3,qeB,hc,Nat.zero_mul]
  rw[if_pos ⟨hl,by simp⟩]
 ·simp only[qhK,qk,List.take_zero,List.nil_append,Nat.zero_add]
  rw[List.take_append_of_le_length (by omega),List.take_of_length_le (by omega)]
theorem AY.mv{o:Oper}{x:Operand}{v:AV}(ho:o.op = .move x)(hx:evO t x=v):AY P w0 S H o t v:=AY.of fun a w hE hH hX=>by
 rw[ho] at hX
 have:=hX x (by simp[opl])
 rw[hx] at this
 exact ⟨_,w,by unfold execOp;rw[ho];rfl,Ext.refl w,this⟩
theorem AY.asg{o:Oper}{x:Operand}{v:AV}(ho:o.op = .assign x)(hx:evO t x=v):AY P w0 S H o t v:=AY.of fun a w hE hH hX=>by
 rw[ho] at hX
 have:=hX x (by simp[opl])
 rw[hx] at this
 exact ⟨_,w,by unfold execOp;rw[ho];rfl,Ext.refl w,this⟩
theorem Step0.snd{o:Oper}{op:Op}{avs:List AV}{v:AV}(ho:o.op=op)(ha:(opl op).map (evO t)=avs)(h:Step0 P H op avs v):AY P w0 S H o t v:=by
 subst ho
 exact Step0.sound h ha.symm
theorem Step1.snd{o:Oper}{op:Op}{avs:List AV}{v:AV}(ho:o.op=op)(ha:(opl op).map (evO t)=avs)(h:Step1 P op avs v):AY P w0 S H o t v:=by
 subst ho
 exact Step1.sound h ha.symm
theorem AV.putO_none{l:List AV}{d:Option Tmp}{v:AV}(h:d=none):AV.putO l d v=l:=by rw[h];rfl
theorem AL.id_{ops:Array Oper}{l:List Oper}(h:AL P w0 S F ops Q l t H):AL P w0 S F ops Q l t H:=h
theorem Awp.id_{c:Code}(h:Awp P w0 S F c Q t H):Awp P w0 S F c Q t H:=h
theorem AY.bx{o:Oper}{e:TypeId}{x:Operand}{d:AV}{cs:List AV}(ho:o.op = .box e x)(hx:evO t x=d)(hc:qb3 d=some cs):AY P w0 S H o t (.rp cs) :=
 Step0.snd ho (by simp[opl,hx]) (Step0.box e x d cs hc)
theorem AY.mkFn{o:Oper}{f:FuncId}{caps:List Operand}{ds:List AV}(ho:o.op = .makeFunc (.func f) #[] caps.toArray)(hd:caps.map (evO t)=ds):AY P w0 S H o t (.fn f [] ds) :=
 Step0.snd ho (by simp[opl,hd]) (Step0.makeFunc0 f caps ds)
theorem AY.mkFn1{o:Oper}{f:FuncId}{y:Operand}{d:AV}{caps:List Operand}{ds:List AV}(ho:o.op = .makeFunc (.func f) #[y] caps.toArray)(hy:evO t y=d)(hd:caps.map (evO t)=ds):AY P w0 S H o t (.fn f [d] ds) :=
 Step0.snd ho (by simp[opl,hd,hy]) (Step0.makeFunc1 f y caps d ds)
theorem AY.old1{o:Oper}{ty:TypeId}{x:Operand}{b off n c e sz:Nat}{cs:List AV}{d:AV}{z:Value}[i:TyAt P ty 1 false z](ho:o.op = .load ty x)(hx:evO t x = .val (.pointer (some ⟨b,off,none⟩)))(hH:HE.own (.slice (some ⟨b,0,none⟩) n c) e sz n cs∈H)(hd:cs[off]?=some d):AY P w0 S H o t d :=
 Step0.snd ho (by simp[opl,hx]) (Step0.oload1 ty x b off n c e sz cs d d z hH hd rfl)
theorem AY.oldN{o:Oper}{ty:TypeId}{x:Operand}{b off m n c e sz:Nat}{cs ds:List AV}{z:Value}[i:TyAt P ty m true z](ho:o.op = .load ty x)(hx:evO t x = .val (.pointer (some ⟨b,off,none⟩)))(hH:HE.own (.slice (some ⟨b,0,none⟩) n c) e sz n cs∈H)(hl:off+m≤cs.length)(hd:(cs.drop off).take m=ds):AY P w0 S H o t (.agg ds) :=
 Step0.snd ho (by simp[opl,hx]) (Step0.oloadN ty x b off m n c e sz cs ds z hH hl hd)
end
section
variable {P:Program} {w0:Bs} {S:Nat→Prop} {F:Fence} {H:List HE} {t:List AV} {Q:qcB}
theorem AL.unguard{ops:Array Oper}{o:Oper}{l:List Oper}(hb:qZ ops o t=some true)(h:AL P w0 S F ops Q ({o with guard:=none}::l) t H):AL P w0 S F ops Q (o::l) t H:=by
 intro a w hr
 have hw:=qel (a:=a) hb (fun d _ v hv=>hr.looks d v hv)
 have hh:=h a w hr
 simp only[wpListIn] at hh ⊢
 rw[hw,if_pos rfl]
 exact hh
inductive Vw (H:List HE):AV→AV→Prop
 | same (d:AV):Vw H d d
 | row (b off n c sz tt:Nat) (cs:List AV) (rows:List (List AV)) (hm:HE.blk b tt cs∈H) (hn:rows.length=n) (hc:n≤c) (hc':c≤maxLen) (hsz:∀(i:Nat) (row:List AV),rows[i]?=some row→row.length=sz) (hr:∀(i:Nat) (d:AV),rows.flatten[i]?=some d→cs[off+i]?=some d) :
   Vw H (.val (.slice (some ⟨b,off,none⟩) n c)) (.sl sz rows)
 | own (v:Value) (e sz n:Nat) (cells:List AV) (rows:List (List AV)) (hm:HE.own v e sz n cells∈H) (hr:rows.flatten=cells) (hsz:∀(i:Nat) (row:List AV),rows[i]?=some row→row.length=sz) (hn:rows.length=n):Vw H (.val v) (.sl sz rows)
 | ptr (b off tt:Nat) (cs ds:List AV) (hm:HE.blk b tt cs∈H) (hl:ds.length+off≤cs.length) (h:∀(j:Nat) (d0 d:AV),cs[off+j]?=some d0→ds[j]?=some d→Vw H d0 d):Vw H (.val (.pointer (some ⟨b,off,none⟩))) (.rp ds)
 | rpp (ds ds':List AV) (h1:ds.length=ds'.length) (h2:∀(j:Nat) (d0 d:AV),ds[j]?=some d0→ds'[j]?=some d→Vw H d0 d):Vw H (.rp ds) (.rp ds')
 | fn (f:FuncId) (df dc df' dc':List AV) (h1:df.length=df'.length) (h2:dc.length=dc'.length) (h3:∀(j:Nat) (d0 d:AV),df[j]?=some d0→df'[j]?=some d→Vw H d0 d) (h4:∀(j:Nat) (d0 d:AV),dc[j]?=some d0→dc'[j]?=some d→Vw H d0 d):Vw H (.fn f df dc) (.fn f df' dc')
 | agg (ds ds':List AV) (h1:ds.length=ds'.length) (h2:∀(j:Nat) (d0 d:AV),ds[j]?=some d0→ds'[j]?=some d→Vw H d0 d):Vw H (.agg ds) (.agg ds')
theorem qkH{α:Type}{ds ds':List α}(hn:ds.length=ds'.length){i:Nat}{d:α}(h:ds'[i]?=some d):∃d0,ds[i]?=some d0:=by
 have:=(List.getElem?_eq_some_iff.1 h).1
 exact ⟨ds[i]'(by omega),List.getElem?_eq_getElem (by omega)⟩
theorem Vw.enc{w:World}{A:Nat→Prop}{Hr:List HE}{d d':AV}(h:Vw Hr d d')(hok:∀e,e∈Hr→e.ok w w0 A):∀u,Enc w A u d→Enc w (fun b=>A b∨qf Hr b) u d':=by
 induction h with
 | same d=>exact fun u hu=>hu.mono fun _ _ h=>.inl h
 | row b off n c sz tt cs rows hm hn hc hc' hsz hr =>
  intro u hu
  rw[hu.val_eq]
  have hb:=hok _ hm
  have hlt:b<w.heap.size:=(HE.ok_lt hb b rfl).2
  have hfl:=qhR hsz
  have hcell:∀i,i<n*sz→∃u,w.cell? ⟨b,off+i,none⟩=some u∧∀d,rows.flatten[i]?=some d→Enc w A u d:=fun i hi=>by
   have hi':i<rows.flatten.length:=by rw[hfl,hn];exact hi
   obtain ⟨u,h1,h2⟩:=qpq hb (hr i _ (List.getElem?_eq_getElem hi'))
   exact ⟨u,h1,fun d hd=>by rw[List.getElem?_eq_getElem hi'] at hd;injection hd with hd;rw[← hd];exact h2⟩
  refine .sl b off n c sz rows (fun i=>if hi:i<n*sz then (hcell i hi).choose else undef) hn hc hc' (.inr ⟨_,hm,rfl⟩) hlt hsz (fun j hj=>?_) fun i j row d hi hj=>?_
  ·simp only[hj,dif_pos];exact (hcell j hj).choose_spec.1
  ·have hd:=qfD hsz i j row d hi hj
   have hlt':=(List.getElem?_eq_some_iff.1 hd).1
   rw[hfl,hn] at hlt'
   simp only[hlt',dif_pos]
   exact ((hcell _ hlt').choose_spec.2 d hd).mono fun _ _ h=>.inl h
 | own v e sz n cells rows hm hr hsz hn =>
  intro u hu
  rw[hu.val_eq]
  exact qsw (hok _ hm) (fun b hb=>.inr ⟨_,hm,hb⟩) (fun _ _ h=>.inl h) hr hsz hn
 | ptr b off tt cs ds hm hl h ih =>
  intro u hu
  rw[hu.val_eq]
  have hb:=hok _ hm
  have hlt:b<w.heap.size:=(HE.ok_lt hb b rfl).2
  have hcell:∀j,j<ds.length→∃u,w.cell? ⟨b,off+j,none⟩=some u∧∀d,ds[j]?=some d→Enc w (fun b=>A b∨qf Hr b) u d:=fun j hj=>by
   have hj':off+j<cs.length:=by omega
   obtain ⟨u,h1,h2⟩:=qpq hb (List.getElem?_eq_getElem hj')
   exact ⟨u,h1,fun d hd=>ih j _ d (List.getElem?_eq_getElem hj') hd u h2⟩
  refine .rp b off ds (fun i=>if hi:i<ds.length then (hcell i hi).choose else undef) (.inr ⟨_,hm,rfl⟩) hlt (fun j hj=>?_) fun j d hd=>?_
  ·simp only[hj,dif_pos];exact (hcell j hj).choose_spec.1
  ·have hlt':=(List.getElem?_eq_some_iff.1 hd).1
   simp only[hlt',dif_pos]
   exact (hcell _ hlt').choose_spec.2 d hd
 | rpp ds ds' h1 h2 ih =>
  intro u hu
  cases hu with
  | rp b off _ cv hS hb hc h =>
   refine .rp b off ds' cv (.inl hS) hb (fun j hj=>hc j (by omega)) fun j d hd=>?_
   obtain ⟨d0,h0⟩:=qkH h1 hd
   exact ih j d0 d h0 hd _ (h j d0 h0)
 | fn f df dc df' dc' h1 h2 h3 h4 ih3 ih4 =>
  intro u hu
  cases hu with
  | fn _ p q _ _ e g h h' =>
   refine .fn f p q df' dc' (by omega) (by omega) (fun i d hd=>?_) fun i d hd=>?_
   ·obtain ⟨d0,h0⟩:=qkH h1 hd
    exact ih3 i d0 d h0 hd _ (h i d0 h0)
   ·obtain ⟨d0,h0⟩:=qkH h2 hd
    exact ih4 i d0 d h0 hd _ (h' i d0 h0)
 | agg ds ds' h1 h2 ih =>
  intro u hu
  cases hu with
  | agg vs _ e h =>
   refine .agg vs ds' (by omega) fun i d hd=>?_
   obtain ⟨d0,h0⟩:=qkH h1 hd
   exact ih i d0 d h0 hd _ (h i d0 h0)
def Vws(H:List HE)(ds ds':List AV):Prop:=ds.length=ds'.length∧∀(j:Nat) (d0 d:AV),ds[j]?=some d0→ds'[j]?=some d→Vw H d0 d
theorem Vws.nil:Vws H [] []:=⟨rfl,fun j _ _ h=>by simp at h⟩
theorem Vws.cons{d d':AV}{ds ds':List AV}(h:Vw H d d')(h':Vws H ds ds'):Vws H (d::ds) (d'::ds'):=⟨congrArg (· + 1) h'.1,fun j a b h1 h2=>by
 cases j with
 | zero=>injection h1 with h1;injection h2 with h2;subst h1 h2;exact h
 | succ j=>exact h'.2 j a b h1 h2⟩
theorem Vw.fn'{f:FuncId}{df dc df' dc':List AV}(h:Vws H df df')(h':Vws H dc dc'):Vw H (.fn f df dc) (.fn f df' dc'):=.fn f df dc df' dc' h.1 h'.1 h.2 h'.2
theorem Vw.box{b tt:Nat}{d d':AV}(hm:HE.blk b tt [d]∈H)(h:Vw H d d'):Vw H (.val (.pointer (some ⟨b,0,none⟩))) (.rp [d']):=.ptr b 0 tt [d] [d'] hm (by simp) fun j d0 d1 h1 h2=>by
 match j,h1,h2 with
 | 0,h1,h2=>injection h1 with h1;injection h2 with h2;subst h1 h2;exact h
 | n+1,h1,h2=>simp at h2
inductive Flat:AV→Prop
 | any:Flat .any
 | val (v:Value):Flat (.val v)
 | tup (l:List AV) (h:∀d,d∈l→Flat d):Flat (.tup l)
 | agg (l:List AV) (h:∀d,d∈l→Flat d):Flat (.agg l)
theorem Flat.enc{w:World}{A B:Nat→Prop}{d:AV}(h:Flat d):∀u,Enc w A u d→Enc w B u d:=by
 induction h with
 | any=>exact fun u _=>.any u
 | val v=>intro u hu;rw[hu.val_eq];exact .val v
 | tup l h ih =>
  intro u hu
  cases hu with
  | tup vs _ e g=>exact .tup vs l e fun i d hd=>ih d (List.mem_of_getElem? hd) _ (g i d hd)
 | agg l h ih =>
  intro u hu
  cases hu with
  | agg vs _ e g=>exact .agg vs l e fun i d hd=>ih d (List.mem_of_getElem? hd) _ (g i d hd)
theorem AY.callV{o:Oper}{f:FuncId}{x:Operand}{args:List Operand}{tys:Array TypeId}{r:AV}(ho:o.op = .call ⟨.value x,args.toArray,tys⟩)(df dc:List AV)(hx:evO t x = .fn f df dc∨(df=[]∧∃caps:List Value,dc=caps.map AV.val∧evO t x = .val (.func (.func f) #[] caps.toArray)))
  (ds ds':List AV) (hd:df++args.map (evO t)++dc=ds) (hv:Vws H ds ds') (h:PC P f ds' r) (hr:Flat r):AY P w0 S H o t r:=by
 subst hd
 intro a w hE hH hX F hF K Q hK
 rw[ho] at hX
 have hx':=hX x (by simp[Op.operands,Call.operands])
 have hargs:∀y,y∈args→Enc w (Al w0 S H) (a.eval y) (evO t y):=fun y hy=>hX y (by simp[Op.operands,Call.operands,hy])
 obtain ⟨first,caps,e1,e2,e3,e4,e5⟩:∃first caps:Array Value,a.eval x = .func (.func f) first caps∧first.size=df.length∧caps.size=dc.length∧(∀i d,df[i]?=some d→Enc w (Al w0 S H) (first.getD i undef) d)∧(∀i d,dc[i]?=some d→Enc w (Al w0 S H) (caps.getD i undef) d):=by
  rcases hx with hx | ⟨rfl,cs,rfl,hx⟩
  ·rw[hx] at hx'
   generalize a.eval x=X at *
   cases hx' with
   | fn _ p q _ _ e f g h=>exact ⟨p,q,rfl,e,f,g,h⟩
  ·rw[hx] at hx'
   refine ⟨#[],cs.toArray,hx'.val_eq,rfl,by simp,fun i d h=>by simp at h,fun i d h=>?_⟩
   have:=qkG (w:=w) (S:=Al w0 S H) cs i d h
   rwa [List.getD_eq_getElem?_getD,← List.getElem?_toArray,← Array.getD_eq_getD_getElem?] at this
 have hen:=h.1
 have henc:∀i d,(df++args.map (evO t)++dc)[i]?=some d→Enc w (Al w0 S H) ((first++args.toArray.map a.eval++caps).getD i undef) d:=qeW (by simp[e2]) (qeW e2 e4 (qkF hargs)) e5
 have hsz:(first++args.toArray.map a.eval++caps).size=(df++args.map (evO t)++dc).length:=by simp[e2,e3]
 have hc:=h.2 w (fun b=>Al w0 S H b∨qf H b) (first++args.toArray.map a.eval++caps) hE.gl (by rw[hsz];exact hv.1) fun i d hi=>by
  obtain ⟨d0,h0⟩:=qkH hv.1 hi
  exact (hv.2 i d0 d h0 hi).enc hH _ (henc i d0 h0)
 refine ⟨fun f _=>hF.fn f,?_⟩
 rw[Oper.semAt_eq F.round a.eval o (fun c h=>by rw[ho] at h;cases h)]
 unfold execOp
 rw[ho]
 have hrun:(do let d ← resolve a.eval ⟨.value x,args.toArray,tys⟩ o.type;invoke d.target d.args:Sem Next).run P w = .ok (.enter f (first++args.toArray.map a.eval++caps)) w:=by
  simp only[resolve,e1,Deferred.ofValue,Sem.run_bind,Sem.run_pure,Result.andThen_ok,invoke]
  exact hen _ w
 simp only[hrun,Oper.uponIn_enter]
 refine ⟨fun h=>(by rw[hF.depth] at h;cases h),(hF.calls hc).mono ?_⟩
 rintro e w' ⟨hw,u,rfl,hu⟩
 exact hK u w' hw (hr.enc _ hu)
theorem SRel.ownCases{a:Act}{w:World}(hr:SRel w0 S t H a w){k:Nat}{v:Value}{e sz n:Nat}{cells:List AV}(hH:H[k]?=some (.own v e sz n cells)):(v = .slice none 0 0∧n=0∧cells=[])∨∃g c,v = .slice (some ⟨g,0,none⟩) n c:=by
 obtain ⟨_,xs,h1,h2,h3⟩:=hr.hs _ (List.mem_of_getElem? hH)
 have hl:=h1.1
 rcases h1.2 with ⟨h4,h5⟩ | ⟨g,cap,cur,h4,_⟩
 ·subst h5
  rw[Nat.zero_mul] at hl
  exact .inl ⟨h4,rfl,List.eq_nil_of_length_eq_zero (by omega)⟩
 ·exact .inr ⟨g,cap,h4⟩
theorem AL.ownCases{ops:Array Oper}{l:List Oper}(k:Nat){v:Value}{e sz n:Nat}{cells:List AV}(hH:H[k]?=some (.own v e sz n cells))(h1:v = .slice none 0 0→n=0→cells=[]→AL P w0 S F ops Q l t H)(h2:∀g c,v = .slice (some ⟨g,0,none⟩) n c→AL P w0 S F ops Q l t H):AL P w0 S F ops Q l t H:=fun a w hr=>by
 rcases hr.ownCases hH with ⟨h4,h5,h6⟩ | ⟨g,c,h4⟩
 ·exact h1 h4 h5 h6 a w hr
 ·exact h2 g c h4 a w hr
theorem AY.old1k(k:Nat){o:Oper}{ty:TypeId}{x:Operand}{b off n c e sz:Nat}{cs:List AV}{d:AV}{z:Value}[i:TyAt P ty 1 false z](ho:o.op = .load ty x)(hx:evO t x = .val (.pointer (some ⟨b,off,none⟩)))(hH:H[k]?=some (.own (.slice (some ⟨b,0,none⟩) n c) e sz n cs))(hd:cs[off]?=some d):AY P w0 S H o t d:=AY.old1 ho hx (List.mem_of_getElem? hH) hd
theorem AY.oldNk(k:Nat){o:Oper}{ty:TypeId}{x:Operand}{b off m n c e sz:Nat}{cs ds:List AV}{z:Value}[i:TyAt P ty m true z](ho:o.op = .load ty x)(hx:evO t x = .val (.pointer (some ⟨b,off,none⟩)))(hH:H[k]?=some (.own (.slice (some ⟨b,0,none⟩) n c) e sz n cs))(hl:off+m≤cs.length)(hd:(cs.drop off).take m=ds):AY P w0 S H o t (.agg ds):=AY.oldN ho hx (List.mem_of_getElem? hH) hl hd
end
section
variable {P:Program} {w0:Bs} {S:Nat→Prop} {F:Fence} {H:List HE} {t:List AV} {Q:qcB}
theorem qzO{ops:Array Oper}{o:Oper}{l:List Oper}{lp d:Nat}{x:Operand}{args:List Operand}{tys:Array TypeId}{X T:Nat→Prop}{J J1 Jx:GJ}{a:Act}{w:World}(hr:SRel w0 S t H a w)(k:Nat)(hgd:o.guard=none)(ho:o.op = .call ⟨.value x,args.toArray,tys⟩)(hd:o.dst=some d)(hx:evO t x = .val (.func (.yield lp) #[] #[]))
  (ds:List AV) (hn:args.length=ds.length) (hH:H[k]?=some (.ghost X J)) (hgo:∀i e,H[i]?=some e→e.isGhost→i=k) (hnd:HE.nodef∈H) (henc:∀i d,ds[i]?=some d→Enc w (fun b=>¬X b∧¬(w0.N b∨Dn H a b)∧T b) ((args.toArray.map a.eval).getD i undef) d) (hy:ql8 P T lp ds J J1 Jx) (hc1:qfW J1) (hcx:qfW Jx)
  (h1:∀X',AL P w0 S Fence.wide ops Q l (AV.put t d (.val (.bool true))) (H.set k (.ghost X' J1))) (h2:∀X',AL P w0 S Fence.wide ops Q l (AV.put t d (.val (.bool false))) (H.set k (.ghost X' Jx))) :
  wpListIn Fence.wide 0 P ops (fun e a' w'=>∃t' H',SRel w0 S t' H' a' w'∧Q e t' H') (o::l) a w:=by
 have hm:=List.mem_of_getElem? hH
 have hdf:=hr.nd hnd
 have hgh:=hr.gh X J hm
 have hXo:=(hr.hs _ hm).1
 have hDX:∀b,(w0.N b∨Dn H a b)→b<w.heap.size∧¬X b:=fun b hb=>by
  rcases hb with hb | hb
  ·exact ⟨hr.ext.n b hb,fun h=>(hXo b h).1.2 hb⟩
  ·refine ⟨hr.dn_lt hb,fun hx=>?_⟩
   rcases hb with ⟨e,he,hp,hb⟩ | hb
   ·obtain ⟨i,hi,rfl⟩:=List.mem_iff_getElem.1 he
    have hkl:k<H.length:=(List.getElem?_eq_some_iff.1 hH).1
    have hHk:H[k] = .ghost X J:=by rw[List.getElem?_eq_getElem hkl] at hH;injection hH
    rcases Nat.lt_trichotomy i k with h3 | h3 | h3
    ·have hp':=List.pairwise_iff_getElem.1 hr.ap i k hi hkl h3
     rw[hHk] at hp'
     exact hp' b hb hx
    ·subst h3;rw[hHk] at hp;exact hp.elim
    ·have hp':=List.pairwise_iff_getElem.1 hr.ap k i hkl hi h3
     rw[hHk] at hp'
     exact hp' b hx hb
   ·rw[hdf] at hb;cases hb
 have hYA:=hy w _ X (args.toArray.map a.eval) (by simp[hn]) hgh (fun b hb=>(hXo b hb).2) hDX henc
 obtain ⟨fn,tmps,assign,body,hyr,hR⟩:=hYA
 refine wpListIn_plain hgd fun K hK=>⟨fun _ _=>trivial,?_⟩
 rw[Oper.semAt_eq _ a.eval o (fun c h=>by rw[ho] at h;cases h)]
 unfold execOp
 rw[ho]
 have hev:=hr.ev_val hx
 have hrun:(do let d ← resolve a.eval ⟨.value x,args.toArray,tys⟩ o.type;invoke d.target d.args:Sem Next).run P w = .ok (.round lp fn tmps assign body) w:=by
  simp only[resolve,hev,Deferred.ofValue,Sem.run_bind,Sem.run_pure,Result.andThen_ok,invoke]
  simpa using hyr
 simp only[hrun,Oper.uponIn_round]
 refine ⟨fun h=>(by cases h),hR.mono ?_⟩
 rintro e w' ⟨X',hk,hX',(⟨rfl,hj⟩ | ⟨rfl,hj⟩)⟩
 ·refine hK _ w' (h1 X' _ _ ?_)
  have:=(hr.yielded hH hgo hdf hk hX' hc1 hj).put (some d) (u:=.bool true) (.val _)
  rw[hd];exact this
 ·refine hK _ w' (h2 X' _ _ ?_)
  have:=(hr.yielded hH hgo hdf hk hX' hcx hj).put (some d) (u:=.bool false) (.val _)
  rw[hd];exact this
theorem AL.yieldL{ops:Array Oper}{o:Oper}{l:List Oper}{lp d:Nat}{x:Operand}{args:List Operand}{tys:Array TypeId}{X T:Nat→Prop}{J J1 Jx:GJ}{v:Value}{e sz n:Nat}{cells:List AV}(k:Nat)(hgd:o.guard=none)(ho:o.op = .call ⟨.value x,args.toArray,tys⟩)(hd:o.dst=some d)(hx:evO t x = .val (.func (.yield lp) #[] #[]))
  (ds ds':List AV) (hds:args.map (evO t)=ds) (hv:Vws [.own v e sz n cells] ds ds') (hH:H[k]?=some (.ghost X J)) (hgo:∀i e,H[i]?=some e→e.isGhost→i=k) (hnd:HE.nodef∈H) (hT:∀b,Al w0 S H b→T b) (hTv:∀b,v.ownBlock=some b→T b) (hy:ql8 P T lp ds' J J1 Jx) (hc1:qfW J1) (hcx:qfW Jx)
  (h1:∀X',AL P w0 S Fence.wide ops Q l (AV.put t d (.val (.bool true))) (H.set k (.ghost X' J1))) (h2:∀X',AL P w0 S Fence.wide ops Q l (AV.put t d (.val (.bool false))) (H.set k (.ghost X' Jx))):AL P w0 S Fence.wide ops Q (o::l) t (.own v e sz n cells::H):=by
 subst hds
 intro a w hr0
 have hr:=hr0.drop
 have hm:=List.mem_of_getElem? hH
 have hdf:=hr.nd hnd
 have hp:=List.pairwise_cons.1 hr0.ap
 refine qzO hr k hgd ho hd hx ds' (by have:=hv.1;simpa using this) hH hgo hnd (fun i d' hi=>?_) hy hc1 hcx h1 h2
 obtain ⟨d0,h0⟩:=qkH hv.1 hi
 have henc:=qkF (fun x _=>hr0.ev x) i d0 h0
 refine ((hv.2 i d0 d' h0 hi).enc (fun e he=>hr0.hs e (by rw[List.mem_singleton.1 he];exact .head _)) _ henc).mono fun b hb hA=>?_
 rcases hA with hA | ⟨e',he',hA⟩
 ·have hA':Al w0 S H b:=⟨hA.1,hA.2.1,fun x hx=>hA.2.2 x (List.mem_cons_of_mem _ hx)⟩
  refine ⟨fun hx=>hA'.2.2 _ hm hx,fun hD=>?_,hT b hA'⟩
  rcases hD with hD | ⟨e,he,_,hD⟩ | hD
  ·exact hA.2.1 hD
  ·exact hA'.2.2 e he hD
  ·rw[hdf] at hD;cases hD
 ·rw[List.mem_singleton.1 he'] at hA
  refine ⟨fun hx=>hp.1 _ hm b hA hx,fun hD=>?_,hTv b hA⟩
  rcases hD with hD | ⟨e,he,_,hD⟩ | hD
  ·exact (HE.ok_lt (hr0.hs _ (.head _)) b hA).1.2 hD
  ·exact hp.1 e he b hA hD
  ·rw[hdf] at hD;cases hD
theorem AL.unguardS{ops:Array Oper}{o:Oper}{l:List Oper}(_hs:o.guard.isSome=true)(hb:qZ ops o t=some true)(h:AL P w0 S F ops Q ({o with guard:=none}::l) t H):AL P w0 S F ops Q (o::l) t H:=AL.unguard hb h
theorem AL.forget{ops:Array Oper}{l:List Oper}(d:Nat)(h:AL P w0 S F ops Q l (AV.put t d .any) H):AL P w0 S F ops Q l t H:=AL.conv (fun _ _ hr=>hr.put_id d (.any _)) h
theorem AL.dead{ops:Array Oper}{l:List Oper}{X:Nat→Prop}{J:GJ}(hm:HE.ghost X J∈H)(hJ:∀D X w,¬J D X w):AL P w0 S F ops Q l t H:=fun _ _ hr=>(hJ _ _ _ (hr.gh _ _ hm)).elim
theorem AL.shrink{ops:Array Oper}{l:List Oper}(k:Nat){A:Option Addr}{n c e sz:Nat}{cells:List AV}(m:Nat)(hH:H[k]?=some (.own (.slice A n c) e sz n cells))(hm:m≤n)(hA:m=0→A≠none)(h:AL P w0 S F ops Q l t (H.set k (.own (.slice A m c) e sz m (cells.take (m*sz))))):AL P w0 S F ops Q l t H:=AL.conv (fun _ _ hr=>hr.shrink k hH hm hA) h
theorem AL.know{ops:Array Oper}{l:List Oper}{p:Prop}(hp:∀a w,SRel w0 S t H a w→p)(h:p→AL P w0 S F ops Q l t H):AL P w0 S F ops Q l t H:=fun a w hr=>h (hp a w hr) a w hr
end
section
variable {P:Program} {w0:Bs} {S:Nat→Prop} {F:Fence} {H:List HE} {t:List AV} {Q:qcB}
def rsem(tmps:Array Value):ResultVar→Sem Value
 | .tmp t=>pure (tmps.getD t undef)
 | .cell a t=>do loadVar t (← asAddr (tmps.getD a undef))
inductive RS (P:Program) (t:List AV) (H:List HE):ResultVar→AV→Prop
 | tmp (i:Nat) (d:AV) (h:AV.get t i=d):RS P t H (.tmp i) d
 | cell1 (i ty b off k tt:Nat) (cs:List AV) (d:AV) (z:Value) [ht:TyAt P ty 1 false z] (h:AV.get t i = .val (.pointer (some ⟨b,off,none⟩))) (hH:H[k]?=some (.blk b tt cs)) (hd:cs[off]?=some d):RS P t H (.cell i ty) d
 | cellN (i ty b:Nat) {n k tt:Nat} {cs:List AV} {z:Value} [ht:TyAt P ty n true z] (h:AV.get t i = .val (.pointer (some ⟨b,0,none⟩))) (hH:H[k]?=some (.blk b tt cs)) (hn:cs.length=n):RS P t H (.cell i ty) (.agg cs)
theorem RS.run{s:ResultVar}{d:AV}(h:RS P t H s d){a:Act}{w:World}(hr:SRel w0 S t H a w):∃u,(rsem a.tmps s).run P w = .ok u w∧Enc w (Al w0 S H) u d:=by
 cases h with
 | tmp i _ h=>exact ⟨_,rfl,by rw[← h];exact hr.tm i⟩
 | cell1 i ty b off k tt cs _ z h hH hd =>
  obtain ⟨u,h1,h2⟩:=qpq (hr.hs _ (List.mem_of_getElem? hH)) hd
  refine ⟨u,?_,h2⟩
  have:=qmR (P:=P) ‹_› w b off u h1
  unfold rsem
  simp only[hr.looks i _ h]
  simpa[Instr.loadAt,Instr.sureAddr,asAddr] using this
 | @cellN i ty b n k tt cs z ht h hH hn =>
  have hb:=hr.hs _ (List.mem_of_getElem? hH)
  obtain ⟨_,vs,h1,h2,h3⟩:=hb
  have hc:∀j,j<n→w.cell? ⟨b,0+j,none⟩=some (vs.getD j undef):=fun j hj=>by
   rw[Nat.zero_add,h1.cell,List.getElem?_eq_getElem (by omega),List.getD_eq_getElem?_getD,List.getElem?_eq_getElem (by omega)];rfl
  have:=qmS (P:=P) ‹_› w b 0 _ hc
  refine ⟨_,?_,qmT (f:=fun j=>vs.getD j undef) hn.symm fun j d hd=>h3 j d hd⟩
  unfold rsem
  simp only[hr.looks i _ h]
  simpa[Instr.loadAt,Instr.sureAddr,asAddr] using this
theorem at2{α β γ:Type}{x:Result α}{f:α→World→Result β}{g:β→World→Result γ}{u:β}{w:World}(h:x.andThen f = .ok u w):(x.andThen fun a w'=>(f a w').andThen g)=g u w:=by
 cases x with
 | ok a w0=>simp only[Result.andThen] at h ⊢;rw[h]
 | halt e w0=>cases h
theorem qoj{fn:Func}{s:ResultVar}{tmps:Array Value}{w:World}{u:Value}(h:fn.results = #[s])(h1:(rsem tmps s).run P w = .ok u w):(results fn tmps).run P w = .ok u w:=by
 cases s<;>simp[results,h,rsem] at h1 ⊢<;>simp[h1]
theorem qt6{fn:Func}{s1 s2:ResultVar}{tmps:Array Value}{w:World}{u1 u2:Value}(h:fn.results = #[s1,s2])(h1:(rsem tmps s1).run P w = .ok u1 w)(h2:(rsem tmps s2).run P w = .ok u2 w):(results fn tmps).run P w = .ok (.tuple #[u1,u2]) w:=by
 cases s1<;>cases s2<;>simp[rsem] at h1 h2<;>simp[results,h,h1,h2]<;>(try rw[at2 h1])<;>(try rw[at2 h2])
theorem qrc{fn:Func}{s1 s2 s3:ResultVar}{tmps:Array Value}{w:World}{u1 u2 u3:Value}(h:fn.results = #[s1,s2,s3])(h1:(rsem tmps s1).run P w = .ok u1 w)(h2:(rsem tmps s2).run P w = .ok u2 w)(h3:(rsem tmps s3).run P w = .ok u3 w):(results fn tmps).run P w = .ok (.tuple #[u1,u2,u3]) w:=by
 cases s1<;>cases s2<;>cases s3<;>simp[rsem] at h1 h2 h3<;>simp[results,h,h1,h2,h3]<;>(try rw[at2 h1])<;>(try rw[at2 h2])<;>(try rw[at2 h3])
theorem qA0{fn:Func}{s:ResultVar}{r d:AV}(h:fn.results = #[s])(hs:RS P t H s d)(ho:Out P w0 S H d r):RetA P w0 S fn r t H:=fun h0 a w hr=>by
 obtain ⟨u,h1,h2⟩:=hs.run hr
 exact ⟨u,qoj h h1,ho h0 w u hr.ext hr.hs h2⟩
theorem qBf{fn:Func}{s1 s2 s3:ResultVar}{r1 r2 r3 d1 d2 d3:AV}(h:fn.results = #[s1,s2,s3])(hs1:RS P t H s1 d1)(hs2:RS P t H s2 d2)(hs3:RS P t H s3 d3)(ho1:Out P w0 S H d1 r1)(ho2:Out P w0 S H d2 r2)(ho3:Out P w0 S H d3 r3):RetA P w0 S fn (.tup [r1,r2,r3]) t H:=fun h0 a w hr=>by
 obtain ⟨u1,h1,h2⟩:=hs1.run hr
 obtain ⟨u2,h3,h4⟩:=hs2.run hr
 obtain ⟨u3,h5,h6⟩:=hs3.run hr
 exact ⟨_,qrc h h1 h3 h5,.tup _ _ rfl fun k d hk=>by
  match k,hk with
  | 0,hk=>injection hk with hk;subst hk;exact ho1 h0 w _ hr.ext hr.hs h2
  | 1,hk=>injection hk with hk;subst hk;exact ho2 h0 w _ hr.ext hr.hs h4
  | 2,hk=>injection hk with hk;subst hk;exact ho3 h0 w _ hr.ext hr.hs h6
  | n+3,hk=>simp at hk⟩
theorem AY.build{o:Oper}{ty n:Nat}{zs:Array Value}{ps:List (Nat×Nat)}{parts:List (Nat×Operand)}{ds cells:List AV}[i:TyAt P ty n true (.agg zs)][s:StructTy P ty](ho:o.op = .build ty parts.toArray)(hd:(parts.map (·.2)).map (evO t)=ds)(hp:Places P ty (parts.map (·.1)) ps)(hf:qeB (zip3 ps ds) (zs.toList.map AV.val)=some cells):AY P w0 S H o t (.agg cells) :=
 Step1.snd ho (by simp[opl,← hd]) (Step1.build ty n zs ps parts ds cells hp hf)
theorem AY.buildS{o:Oper}{ty e sz bytes n:Nat}{ag:Bool}{z:Value}{parts:List (Nat×Operand)}{ds cells:List AV}{rows:List (List AV)}[i:SliceTy P ty e sz ag bytes z](ho:o.op = .buildSlice ty n parts.toArray)(hd:(parts.map (·.2)).map (evO t)=ds)(hpp:parts.map (·.1)=List.range n)(hn:n*sz≤1000)
  (hf:qeB (zip3 (qdn sz n 0) ds) (List.replicate (n*sz) .any)=some cells) (hr:qhK sz n cells=rows):AY P w0 S H o t (.sl sz rows) :=
 Step1.snd ho (by simp[opl,← hd]) (Step1.buildSlice ty e sz bytes n ag z parts ds cells rows hpp hn hf hr)
def Outs(P:Program)(w0:Bs)(S:Nat→Prop)(H:List HE)(ds rs:List AV):Prop:=ds.length=rs.length∧∀(i:Nat) (d r:AV),ds[i]?=some d→rs[i]?=some r→Out P w0 S H d r
theorem Outs.nil:Outs P w0 S H [] []:=⟨rfl,fun i _ _ h=>by simp at h⟩
theorem Outs.cons{d r:AV}{ds rs:List AV}(h:Out P w0 S H d r)(h':Outs P w0 S H ds rs):Outs P w0 S H (d::ds) (r::rs):=⟨congrArg (· + 1) h'.1,fun i a b h1 h2=>by
 cases i with
 | zero=>injection h1 with h1;injection h2 with h2;subst h1 h2;exact h
 | succ i=>exact h'.2 i a b h1 h2⟩
theorem Out.aggs{ds rs:List AV}(h:Outs P w0 S H ds rs):Out P w0 S H (.agg ds) (.agg rs):=Out.agg h.1 h.2
def OutRs(P:Program)(w0:Bs)(S:Nat→Prop)(H:List HE)(ds rs:List (List AV)):Prop:=ds.length=rs.length∧∀(i:Nat) (d r:List AV),ds[i]?=some d→rs[i]?=some r→Outs P w0 S H d r
theorem OutRs.nil:OutRs P w0 S H [] []:=⟨rfl,fun i _ _ h=>by simp at h⟩
theorem AV.putO_some{l l':List AV}{d:Option Tmp}{k:Tmp}{v:AV}(h:d=some k)(hp:AV.put l k v=l'):AV.putO l d v=l':=by rw[h];exact hp
theorem SRel.freezeBox{a:Act}{w:World}{b tt:Nat}{cs:List AV}(h:SRel w0 S t (.blk b tt cs::H) a w)(hM:¬w0.M b)(d:Nat)(hd:AV.get t d = .val (.pointer (some ⟨b,0,none⟩))):SRel w0 S (AV.put t d (.rp cs)) H a w:=by
 refine h.drop.put_id d ?_
 have hh:=h.hs _ (.head _)
 rw[h.looks d _ hd]
 have hlt:=HE.ok_lt hh b rfl
 obtain ⟨_,vs,h1,h2,h3⟩:=hh
 refine .rp b 0 cs (fun j=>vs.getD j undef) ⟨fun hlt'=>absurd hlt' (Nat.not_lt.2 (hlt.1.1.resolve_left hM)),hlt.1.2,fun e he hb=>(List.pairwise_cons.1 h.ap).1 e he b rfl hb⟩ hlt.2 (fun j hj=>?_) fun j d hd=>?_
 ·rw[Nat.zero_add,h1.cell,List.getElem?_eq_getElem (by omega),List.getD_eq_getElem?_getD,List.getElem?_eq_getElem (by omega)];rfl
 ·exact (h3 j d hd).mono fun b _ hb=>⟨hb.1,hb.2.1,fun e he=>hb.2.2 e (List.mem_cons_of_mem _ he)⟩
theorem Awp.freezeBox{cd:Code}{b tt:Nat}{cs:List AV}(hM:¬w0.M b)(d:Nat)(hd:AV.get t d = .val (.pointer (some ⟨b,0,none⟩)))(h:Awp P w0 S F cd Q (AV.put t d (.rp cs)) H):Awp P w0 S F cd Q t (.blk b tt cs::H):=fun a w hr=>h a w (hr.freezeBox hM d hd)
end
section
variable {P:Program} {w0:Bs} {S:Nat→Prop} {H:List HE} {t:List AV}
end
section
variable {P:Program} {w0:Bs} {S:Nat→Prop} {H:List HE} {t:List AV}
theorem EF.buildO{o:Oper}{KK:AV→List HE→Prop}{ty e sz bytes n:Nat}{ag:Bool}{z:Value}{parts:List (Nat×Operand)}{ds cells:List AV}[i:SliceTy P ty e sz ag bytes z](ho:o.op = .buildSlice ty n parts.toArray)(hd:(parts.map (·.2)).map (evO t)=ds)(hpp':parts.map (·.1)=List.range n)(hn:n*sz≤1000)
  (hf:qeB (zip3 (qdn sz n 0) ds) (List.replicate (n*sz) .any)=some cells)
  (h:∀b,KK (.val (.slice (some ⟨b,0,none⟩) n n)) (.own (.slice (some ⟨b,0,none⟩) n n) e sz n cells::H)):EF P w0 S o t H KK:=by
 intro a w t' ht hr
 obtain ⟨xs,hxs⟩:∃xs,xs=parts.map (·.2):=⟨_,rfl⟩
 have hpp:parts=(List.range n).zip xs:=by rw[← hpp',hxs];exact qkY parts
 have hxl:xs.length=n:=by have:=congrArg List.length hpp';rw[hxs];simpa using this
 clear hxs hpp'
 subst hpp
 have hmap:((List.range n).zip xs).map (·.2)=xs:=List.map_snd_zip (by simp;omega)
 rw[hmap] at hd
 subst hd
 have hX:∀x,x∈xs→Enc w (Al w0 S H) (a.eval x) (evO t x):=fun x hx=>hr.evq ht (by rw[ho];simp[opl,hmap];exact hx) rfl
 have hu:=i.h
 have hsz:=i.ty.size w
 have hzr:=i.ty.zero w
 obtain ⟨hz1,hz2⟩:=qqh (qdn sz n 0) (xs.map (evO t)) (by rw[qoh];simp;omega)
 have hparts:(((List.range n).zip xs).toArray.map fun(p:Nat×Operand)=>(p.1,a.eval p.2)).toList=(List.range n).zip (xs.map a.eval):=by
  simp only[List.map_toArray,List.zip_map_right];rfl
 have key:∀zero:Array Value,∃cells',Instr.fill (fun i=>some (i*sz,sz)) ((Array.range (n*sz)).map fun j=>zero[j % zero.size]!) ((List.range n).zip (xs.map a.eval))=some cells'∧cells'.size=cells.length∧∀i d,cells[i]?=some d→Enc w (Al w0 S H) (cells'.getD i undef) d:=fun zero =>
  qog (w:=w) (S:=Al w0 S H) ((List.range n).zip (xs.map a.eval)) (zip3 (qdn sz n 0) (xs.map (evO t))) _ (List.replicate (n*sz) .any) cells (by rw[hz1];simp;omega) (fun i p q h4 h5=>by
   obtain ⟨h6,h7⟩:=hz2 i q h5
   rw[List.getElem?_zip_eq_some] at h4
   obtain ⟨h8,h9⟩:=h4
   have hp1:p.1=i:=by
    rw[List.getElem?_range (by have:=(List.getElem?_eq_some_iff.1 h8).1;simpa using this)] at h8
    injection h8 with h8;exact h8.symm
   obtain ⟨h10,_⟩:=qpt sz n 0 i _ h6
   refine ⟨?_,?_⟩
   ·rw[hp1]
    have e1:q.1=i*sz:=by have:=congrArg Prod.fst h10;simpa using this
    have e2:q.2.1=sz:=by have:=congrArg Prod.snd h10;simpa using this
    rw[e1,e2]
   rw[List.getElem?_map] at h9 h7
   cases hx:xs[i]? with
   | none=>rw[hx] at h9;cases h9
   | some x =>
    rw[hx] at h9 h7
    injection h9 with h9;injection h7 with h7
    rw[← h9,← h7]
    exact hX x (List.mem_of_getElem? hx)) (by simp) (fun i d hi=>by
   have:=List.mem_replicate.1 (List.mem_of_getElem? hi)
   rw[this.2];exact .any _) hf
 obtain ⟨cells',h1,h2,h3⟩:=key (if n*sz=0 then #[] else z.cells)
 have hlen:cells.length=n*sz:=by
  have hl:=qps _ _ _ hf
  rw[hl];simp
 refine ⟨.value (.slice (some ⟨w.heap.size,0,none⟩) n n),w.alloc (.cells cells' e),?_,.val (.slice (some ⟨w.heap.size,0,none⟩) n n),.own (.slice (some ⟨w.heap.size,0,none⟩) n n) e sz n cells::H,?_,h w.heap.size⟩
 ·unfold execOp
  rw[ho]
  have h24:¬n*sz>2 ^ 24:=Nat.not_lt.2 (Nat.le_trans hn (by decide))
  by_cases h0:n*sz=0
  ·rw[if_pos h0] at h1
   simp only[Instr.buildSlice,Sem.run_bind,run_underlying hu,Result.andThen_ok,hsz,if_neg h24,if_pos h0,Sem.run_pure,hparts,h1,newRow,newObj]
   rfl
  ·rw[if_neg h0] at h1
   simp only[Instr.buildSlice,Sem.run_bind,run_underlying hu,Result.andThen_ok,hsz,hzr,if_neg h24,if_neg h0,Sem.run_pure,hparts,h1,newRow,newObj]
   rfl
 ·have he:Ext w (w.alloc (.cells cells' e)):=(Ext.refl w).alloc _
  have hm:n≤maxLen:=by
   have:=i.p
   have h5:n≤n*sz:=Nat.le_mul_of_pos_right _ this
   unfold maxLen;omega
  refine (hr.newE (.own (.slice (some ⟨w.heap.size,0,none⟩) n n) e sz n cells) he trivial (fun b hb=>by injection hb with hb;exact Nat.le_of_eq hb) fun hsub=>?_).put o.dst (.val _)
  refine ⟨fun b hb=>by injection hb with hb;rw[← hb];exact qk9 hr.ext,cells'.toList,World.ownsRow_lit w cells' n (Nat.zero_le _) hm (by omega),by simpa using h2,fun j d hj=>?_⟩
  have:=((h3 j d hj).mono hsub).ext he
  rw[Array.getD_eq_getD_getElem?] at this
  rw[List.getD_eq_getElem?_getD,Array.getElem?_toList]
  exact this
theorem AL.buildO{F:Fence}{Q:qcB}(hF:Wf F){ops:Array Oper}{o:Oper}{l:List Oper}{ty e sz bytes n d:Nat}{ag:Bool}{z:Value}{parts:List (Nat×Operand)}{ds cells:List AV}[i:SliceTy P ty e sz ag bytes z](hg:o.guard=none)(ho:o.op = .buildSlice ty n parts.toArray)(hdst:o.dst=some d)(hd:(parts.map (·.2)).map (evO t)=ds)(hpp':parts.map (·.1)=List.range n)(hn:n*sz≤1000)
  (hf:qeB (zip3 (qdn sz n 0) ds) (List.replicate (n*sz) .any)=some cells)
  (h:∀b,AL P w0 S F ops Q l (AV.put t d (.val (.slice (some ⟨b,0,none⟩) n n))) (.own (.slice (some ⟨b,0,none⟩) n n) e sz n cells::H)):AL P w0 S F ops Q (o::l) t H :=
 AL.ef hF hg (EF.buildO ho hd hpp' hn hf fun b=>by rw[hdst];exact h b)
end
section
variable {P:Program} {w0:Bs} {S:Nat→Prop} {F:Fence} {Q:qcB} {H:List HE} {t:List AV}
end
theorem qAw{n:Int}(h:0≤n)(h':n≤18446744073709551615):IntKind.u64.wrap n=n:=by
 have:IntKind.u64.wrap n=n % 18446744073709551616:=by simp[IntKind.wrap,IntKind.bits,IntKind.signed]
 omega
theorem qn{n:Int}(h:n≤64):n≤(IntKind.bits .i64:Nat):=h
section
variable {P:Program} {w0:Bs} {S:Nat→Prop} {F:Fence} {Q:qcB} {H:List HE} {t:List AV}
theorem AL.build0(hF:Wf F){ops:Array Oper}{o:Oper}{l:List Oper}{ty e sz bytes d:Nat}{ag:Bool}{z:Value}[i:SliceTy P ty e sz ag bytes z](hg:o.guard=none)(ho:o.op = .buildSlice ty 0 #[])(hdst:o.dst=some d)
  (h:∀b,∃t',AV.put t d (.val (.slice (some ⟨b,0,none⟩) 0 0))=t'∧AL P w0 S F ops Q l t' (.own (.slice (some ⟨b,0,none⟩) 0 0) e sz 0 []::H)):AL P w0 S F ops Q (o::l) t H :=
 AL.buildO hF hg (parts:=[]) (ds:=[]) (cells:=[]) ho hdst rfl rfl (by omega) (by simp[qdn,zip3,qeB]) fun b=>by
  obtain ⟨t',h1,h2⟩:=h b
  rw[h1]
  exact h2
end
class WfI (F:Fence):Prop where
 h:Wf F
instance wfI0:WfI Fence.wide:=⟨.inl rfl⟩
instance wfI1(l:Nat):WfI (Fence.wide.inRound l):=⟨.inr ⟨l,rfl⟩⟩
def AE(P:Program)(w0:Bs)(S:Nat→Prop)(ops:Array Oper)(K:List AV→Prop)(l:List Oper)(t:List AV)(H:List HE):Prop:=AD P w0 S H ops K l t
class WK (P:outParam Program) (w0:outParam Bs) (S:outParam (Nat→Prop)) (ops:outParam (Array Oper)) (G:List Oper→List AV→List HE→Prop):Prop where
 s:∀{o:Oper} {l:List Oper} {t t':List AV} {H:List HE} {d:Nat} {v:AV},qZ ops o t=some true→o.dst=some d→AY P w0 S H o t v→AV.put t d v=t'→G l t' H→G (o::l) t H
 k:∀{o:Oper} {l:List Oper} {t t':List AV} {H:List HE} {d:Nat},qZ ops o t=some false→o.dst=some d→AV.put t d .undef=t'→G l t' H→G (o::l) t H
 p:∀{o:Oper} {l:List Oper} {t t' t'':List AV} {H:List HE} {d:Nat} {b:Bool},qnA ops o=some d→AV.get t d = .val (.bool b)→AV.put t d (.val (.bool true))=t'→AV.put t d (.val (.bool false))=t''→(b=true→G (o::l) t' H)→(b=false→G (o::l) t'' H)→G (o::l) t H
instance wkAL{P:Program}{w0:Bs}{S:Nat→Prop}{F:Fence}{ops:Array Oper}{Q:qcB}[hF:WfI F]:WK P w0 S ops (AL P w0 S F ops Q) where
 s:=fun hb hd hy ht h=>AL.snG hF.h _ _ hb hd hy ht h
 k:=fun hb hd ht h=>AL.kG hF.h _ hb hd ht h
 p:=fun hg hd ht hf h h'=>AL.pG hF.h hg hd ht hf h h'
instance wkAE{P:Program}{w0:Bs}{S:Nat→Prop}{ops:Array Oper}{K:List AV→Prop}:WK P w0 S ops (AE P w0 S ops K) where
 s:=fun hb hd hy ht h=>AD.snG _ _ hb hd hy ht h
 k:=fun hb hd ht h=>AD.kG _ hb hd ht h
 p:=fun hg hd ht hf h h'=>AD.pG hg hd ht hf h h'
section
variable {P:Program} {w0:Bs} {S:Nat→Prop} {F:Fence} {Q:qcB} {H:List HE} {t:List AV} {ops:Array Oper} {G:List Oper→List AV→List HE→Prop}
theorem W.s[WK P w0 S ops G]{o:Oper}{l:List Oper}{t':List AV}{d:Nat}{v:AV}(hb:qZ ops o t=some true)(hd:o.dst=some d)(hy:AY P w0 S H o t v)(ht:AV.put t d v=t')(h:G l t' H):G (o::l) t H:=WK.s hb hd hy ht h
theorem W.k[WK P w0 S ops G]{o:Oper}{l:List Oper}{t':List AV}{d:Nat}(hb:qZ ops o t=some false)(hd:o.dst=some d)(ht:AV.put t d .undef=t')(h:G l t' H):G (o::l) t H:=WK.k (P:=P) (w0:=w0) (S:=S) hb hd ht h
theorem W.p[WK P w0 S ops G]{o:Oper}{l:List Oper}{t' t'':List AV}{d:Nat}{b:Bool}(hg:qnA ops o=some d)(hd:AV.get t d = .val (.bool b))(ht:AV.put t d (.val (.bool true))=t')(hf:AV.put t d (.val (.bool false))=t'')(h:b=true→G (o::l) t' H)(h':b=false→G (o::l) t'' H):G (o::l) t H:=WK.p (P:=P) (w0:=w0) (S:=S) hg hd ht hf h h'
theorem W.on[WK P w0 S ops G]{o:Oper}{l:List Oper}(_hb:qZ ops o t=some true)(h:G (o::l) t H):G (o::l) t H:=h
theorem AE.nil{K:List AV→Prop}(h:K t):AE P w0 S ops K [] t H:=h
theorem AE.id_{K:List AV→Prop}{l:List Oper}(h:AE P w0 S ops K l t H):AE P w0 S ops K l t H:=h
theorem Awp.drawE[hF:WfI F]{id:Nat}{l:List Oper}{t':List AV}(ht:t=t')(hm:P.follows .mixedOrders=true)(hW:(l.all fun o=>!qvy o.op)=true)(hB:Region.lexB .any l.toArray=true)(h:∀K:List AV→Prop,(∀t,Q .normal t H→K t)→AE P w0 S l.toArray K l t' H):Awp P w0 S F (.region id l.toArray true) Q t H :=
 Awp.drawK hF.h ht hm hW hB h
end
inductive Step2 (P:Program) (H:List HE):Op→List AV→AV→Prop
 | a {op:Op} {avs:List AV} {v:AV} (h:Step0 P H op avs v):Step2 P H op avs v
 | b {op:Op} {avs:List AV} {v:AV} (h:Step1 P op avs v):Step2 P H op avs v
theorem Step2.sound{P:Program}{w0:Bs}{S:Nat→Prop}{H:List HE}{t:List AV}{o:Oper}{avs:List AV}{v:AV}(h:Step2 P H o.op avs v)(ha:avs=(opl o.op).map (evO t)):AY P w0 S H o t v:=by
 cases h with
 | a h=>exact h.sound ha
 | b h=>exact h.sound ha
theorem w64c{n:Int}(h:-9223372036854775808≤n∧n≤9223372036854775807):IntKind.i64.wrap n=n:=qzv h.1 h.2
theorem qw{n:Int}(h:0≤n∧n≤18446744073709551615):IntKind.u64.wrap n=n:=qAw h.1 h.2
theorem qo{a b:Int}(h:0≤a∧1≤b∧a≤9223372036854775807):IntKind.i64.wrap (a.tdiv b)=a/b:=qAY h.1 h.2.1 h.2.2
section
variable {P:Program} {w0:Bs} {S:Nat→Prop} {F:Fence} {Q:qcB} {H:List HE} {t:List AV}
theorem AL.st1(hF:Wf F){ops:Array Oper}{o:Oper}{l:List Oper}{ty sz:Nat}{ag:Bool}{z:Value}{x y:Operand}{b off k tt:Nat}{v:AV}{cs:List AV}{H':List HE}[i:TyAt P ty sz ag z](hg:o.guard=none)(ho:o.op = .store ty x y)(hd:o.dst=none)(hx:evO t x = .val (.pointer (some ⟨b,off,none⟩)))(hy:evO t y=v)
  (hH:H[k]?=some (.blk b tt cs)) (hc:qb3 v=some [v]) (hs:1=sz) (h1:v.one=true) (hl:off<cs.length) (hH':H.set k (.blk b tt (cs.set off v))=H')
  (h:AL P w0 S F ops Q l t H'):AL P w0 S F ops Q (o::l) t H :=
 AL.store' hF k tt cs [v] (cs.set off v) H' hg ho hd hx hy hH hc hs (by simp[h1]) (by simp;omega) (qrI cs off v hl) hH' h
theorem qm{ops:Array Oper}{i:Nat}{K:List AV→List HE→Prop}{o:Oper}{ty sz:Nat}{ag:Bool}{z:Value}{x y:Operand}{b off tt:Nat}{v:AV}{cs:List AV}{H':List HE}(k:Nat)[ht:TyAt P ty sz ag z](hi:ops[i]?=some o)(hg:o.guard=none)(ho:o.op = .store ty x y)(hd:o.dst=none)(hx:evO t x = .val (.pointer (some ⟨b,off,none⟩)))(hy:evO t y=v)
  (hH:H[k]?=some (.blk b tt cs)) (hc:qb3 v=some [v]) (hs:1=sz) (h1:v.one=true) (hl:off<cs.length) (hH':H.set k (.blk b tt (cs.set off v))=H') (h:K t H'):opB P w0 S ops i K t H :=
 ql hi hg (by rw[ho];rfl) (EF.store k tt cs [v] (cs.set off v) ho hx hy hH hc hs (by simp[h1]) (by simp;omega) (qrI cs off v hl) (by rw[hH',AV.putO_none hd];exact h))
theorem AL.stW(hF:Wf F){ops:Array Oper}{o:Oper}{l:List Oper}{ty sz:Nat}{ag:Bool}{z:Value}{x y:Operand}{b k tt:Nat}{v:AV}{cs ds:List AV}{H':List HE}[i:TyAt P ty sz ag z](hg:o.guard=none)(ho:o.op = .store ty x y)(hd:o.dst=none)(hx:evO t x = .val (.pointer (some ⟨b,0,none⟩)))(hy:evO t y=v)
  (hH:H[k]?=some (.blk b tt cs)) (hc:qb3 v=some ds) (hs:ds.length=sz) (h1:ds.all AV.one=true) (hl:ds.length=cs.length) (hH':H.set k (.blk b tt ds)=H')
  (h:AL P w0 S F ops Q l t H'):AL P w0 S F ops Q (o::l) t H :=
 AL.store' hF k tt cs ds ds H' hg ho hd hx hy hH hc hs h1 (by omega) (by unfold qk;rw[List.take_zero,List.nil_append,Nat.zero_add,hl,List.drop_length,List.append_nil]) hH' h
end
theorem z1{p:Prop}[Decidable p]:(decide p=true)=p:=decide_eq_true_eq
theorem z2{p:Prop}[Decidable p]:(decide p=false)↔¬p:=decide_eq_false_iff_not
theorem z3{b:Bool}:((!b)=true)=(b=false):=by simp
theorem z4{b:Bool}:((!b)=false)=(b=true):=by simp
theorem z5{a b:Int}:((a==b)=true)↔a=b:=beq_iff_eq
theorem z6{a b:Int}:((a != b)=true)↔¬a=b:=bne_iff_ne
theorem z7{a b:Int}:((a==b)=false)↔¬a=b:=beq_eq_false_iff_ne
theorem z8{a b:Int}:((a != b)=false)↔a=b:=bne_eq_false_iff_eq
theorem y5{a b:Bool}:((a==b)=true)↔a=b:=beq_iff_eq
theorem y6{a b:Bool}:((a != b)=true)↔¬a=b:=bne_iff_ne
theorem y7{a b:Bool}:((a==b)=false)↔¬a=b:=beq_eq_false_iff_ne
theorem y8{a b:Bool}:((a != b)=false)↔a=b:=bne_eq_false_iff_eq
theorem z9{p:Prop}[Decidable p]:¬¬p↔p:=Decidable.not_not
theorem x1{a b:Int}:(a>b)↔b<a:=gt_iff_lt
theorem x2{a b:Int}:(a≥b)↔b≤a:=ge_iff_le
theorem x3{a b:Int}:¬a≤b↔b<a:=Int.not_le
theorem x4{a b:Int}:¬a<b↔b≤a:=Int.not_lt
theorem x5{α:Type}(a:α):(a=a)=True:=eq_self a
theorem x6:(¬True)=False:=not_true_eq_false
theorem x7:(true=false)=False:=by simp
theorem x8:(false=true)=False:=by simp
end Go.Proofs.YtfnflenkeljkiaaGreat
/- How arguments that are laid out read: one law for all plain types. -/
namespace Go.Proofs.YtfnflenkeljkiaaGreat
open Go Go.Proofs Go.RowKit Go.ChangeShapes Go.WideShapes Go.Deep
inductive Sh where
 | int (k:IntKind)
 | bool
 | str
 | sl (l:List Sh)
def Sh.wt:Sh→Nat
 | .int k=>k.bits/8
 | .bool=>1
 | .str=>16
 | .sl _=>24
def wtL:List Sh→Nat
 | []=>0
 | s::l=>s.wt+wtL l
inductive ShOk:Sh→AV→Prop
 | int (k:IntKind) (n:Int):ShOk (.int k) (.val (.int k n))
 | bool (b:Bool):ShOk .bool (.val (.bool b))
 | str (s:ByteArray):ShOk .str (.val (.string s))
 | sl (l:List Sh) (rows:List (List AV)) (hn:∀row,row∈rows→row.length=l.length) (hb:rows.length*wtL l≤reachBytes) (h:∀row,row∈rows→∀(i:Nat) (s:Sh) (d:AV),l[i]?=some s→row[i]?=some d→ShOk s d):ShOk (.sl l) (.sl l.length rows)
def ShAll(l:List Sh)(ds:List AV):Prop:=ds.length=l.length∧∀(i:Nat) (s:Sh) (d:AV),l[i]?=some s→ds[i]?=some d→ShOk s d
theorem ShAll.append{l m:List Sh}{ds es:List AV}(h:ShAll l ds)(h':ShAll m es):ShAll (l++m) (ds++es):=by
 refine ⟨by rw[List.length_append,List.length_append,h.1,h'.1],fun i s d h1 h2=>?_⟩
 by_cases hi:i<l.length
 ·rw[List.getElem?_append_left hi] at h1
  rw[List.getElem?_append_left (by rw[h.1];exact hi)] at h2
  exact h.2 i s d h1 h2
 ·rw[List.getElem?_append_right (by omega)] at h1
  rw[List.getElem?_append_right (by rw[h.1];omega),h.1] at h2
  exact h'.2 _ s d h1 h2
def qnD(P:Program)(g:TypeId→Option (List Sh)):List Field→Nat→Option (List Sh)
 | [],_=>some []
 | f::fs,off=>if f.offset=off then match g f.type with
  | some l=>if l.length=P.cellsOf f.type then (qnD P g fs (off+l.length)).map (l ++ ·) else none
  | none=>none
  else none
def qnE(P:Program):Nat→TypeId→Option (List Sh)
 | 0,_=>none
 | n+1,t=>match P.underlying t with
  | some (.int k)=>some [.int k]
  | some .bool=>some [.bool]
  | some .string=>some [.str]
  | some (.slice e)=>match qnE P n e with
   | some l=>if l.length=P.cellsOf e∧0<l.length∧wtL l≤P.bytesOf e then some [.sl l] else none
   | none=>none
  | some (.struct fs)=>match qnD P (qnE P n) fs.toList 0 with
   | some l=>if l.length=P.cellsOf t then some l else none
   | none=>none
  | _=>none
section
variable {H:Type} {enc:TypeId×Value→H} {P:Program} {w:World} {base:Nat} {held:Bool}
abbrev all:Nat→Prop:=fun _=>True
def Rd(w:World)(shs:List Sh)(cs:List Value):Prop:=∃ds:List AV,ShAll shs ds∧cs.length=ds.length∧∀(i:Nat) (d:AV),ds[i]?=some d→Enc w all (cs.getD i undef) d
theorem Rd.one{s:Sh}{v:Value}{d:AV}(hs:ShOk s d)(he:Enc w all v d):Rd w [s] [v] :=
 ⟨[d],⟨rfl,fun i s' d' h1 h2=>by
  match i,h1,h2 with
  | 0,h1,h2=>injection h1 with h1;injection h2 with h2;subst h1 h2;exact hs
  | i+1,h1,_=>simp at h1⟩,rfl,fun i d' h=>by
  match i,h with
  | 0,h=>injection h with h;subst h;exact he
  | i+1,h=>simp at h⟩
theorem qo1{e:TypeId}:∀{l:List (DataW H)} {d:DataW H},d∈l→∀n∈d.weights P e,n∈DataW.weightsAll P e l
 | _::l,d,h,n,hn=>by
  unfold DataW.weightsAll
  rcases List.mem_cons.1 h with rfl | h
  ·exact List.mem_append_left _ hn
  ·exact List.mem_append_right _ (qo1 h n hn)
theorem qpv{g:TypeId→Option (List Sh)}{cs:List Value}(hg:∀t shs n cs' y,g t=some shs→DataW.trod enc P w base (fun _=>true) held n t cs'=some y→(∀q∈y.1.weights P t,q≤reachBytes)→Rd w shs cs') :
  ∀(fs:List Field) (off:Nat) (shs:List Sh),qnD P g fs off=some shs→(∀f,f∈fs→∃n y,DataW.trod enc P w base (fun _=>true) held n f.type ((cs.drop f.offset).take (P.cellsOf f.type))=some y∧∀q∈y.1.weights P f.type,q≤reachBytes) →
  ∃ds:List AV,ShAll shs ds∧∀(i:Nat) (d:AV),ds[i]?=some d→Enc w all (cs.getD (off+i) undef) d
 | [],off,shs,h,_=>by
  injection h with h;subst h
  exact ⟨[],⟨rfl,fun i s d h=>by simp at h⟩,fun i d h=>by simp at h⟩
 | f::fs,off,shs,h,hf=>by
  unfold qnD at h
  split at h
  ·next ho =>
   split at h
   ·next l hl =>
    split at h
    ·next hc =>
     obtain ⟨n,y,hy,hq⟩:=hf f (List.mem_cons_self ..)
     obtain ⟨ds,h1,h2,h3⟩:=hg _ _ _ _ _ hl hy hq
     cases hr:qnD P g fs (off+l.length) with
     | none=>rw[hr] at h;cases h
     | some shs' =>
      rw[hr] at h
      injection h with h
      subst h
      obtain ⟨es,h4,h5⟩:=qpv hg fs (off+l.length) shs' hr fun f' hf'=>hf f' (List.mem_cons_of_mem _ hf')
      refine ⟨ds++es,h1.append h4,fun i d hi=>?_⟩
      have hdl:=h1.1
      by_cases hlt:i<ds.length
      ·rw[List.getElem?_append_left hlt] at hi
       have:=h3 i d hi
       rw[List.getD_eq_getElem?_getD,List.getElem?_take_of_lt (by omega),List.getElem?_drop,← List.getD_eq_getElem?_getD] at this
       rwa [ho] at this
      ·rw[List.getElem?_append_right (by omega)] at hi
       have:=h5 _ d hi
       rwa [show off+l.length+(i-ds.length)=off+i by omega] at this
    ·cases h
   ·cases h
  ·cases h
theorem qnk:∀(n:Nat) (t:TypeId) (shs:List Sh) (fuel:Nat) (cs:List Value) (x:DataW H×List MemPlace),qnE P n t=some shs→DataW.trod enc P w base (fun _=>true) held fuel t cs=some x→(∀q∈x.1.weights P t,q≤reachBytes)→Rd w shs cs
 | 0,_,_,_,_,_,h,_,_=>by cases h
 | n+1,t,shs,fuel,cs,x,h,hx,hw=>by
  unfold qnE at h
  split at h
  ·next k hu =>
   injection h with h;subst h
   obtain ⟨m,rfl,_⟩:=DataW.trod_int hu hx
   exact Rd.one (.int k m) (.val _)
  ·next hu =>
   injection h with h;subst h
   obtain ⟨b,rfl,_⟩:=DataW.trod_bool hu hx
   exact Rd.one (.bool b) (.val _)
  ·next hu =>
   injection h with h;subst h
   obtain ⟨s,rfl,_⟩:=DataW.trod_string hu hx
   exact Rd.one (.str s) (.val _)
  ·next e hu =>
   split at h
   ·next l hl =>
    split at h
    ·next hc =>
     injection h with h;subst h
     obtain ⟨hc1,hc2,hc3⟩:=hc
     rcases open_slice hu hx with ⟨rfl,_⟩ | ⟨a,len,cap,m,n',D,Pl,rfl,hb,hle,hm,hmm,hxe,hi⟩
     ·exact Rd.one (.sl l [] (fun row hr=>by cases hr) (by simp) (fun row hr=>by cases hr)) (.slnil none 0 _ (Nat.zero_le _))
     ·have hlm:len≤m:=by rw[hmm];exact hle
      rcases Nat.eq_zero_or_pos len with h0 | h0
      ·subst h0
       exact Rd.one (.sl l [] (fun row hr=>by cases hr) (by simp) (fun row hr=>by cases hr)) (.slnil _ _ _ hm)
      have hwl:len*wtL l≤reachBytes:=by
       have:=hw ((len+(m-len))*P.bytesOf e) (by rw[hxe];simp[DataW.weights,hu])
       exact Nat.le_trans (Nat.mul_le_mul (by omega:len≤len+(m-len)) hc3) this
      have hwi:∀i,i<len→∀q∈(D i).weights P e,q≤reachBytes:=fun i hil q hq=>by
       refine hw q ?_
       rw[hxe]
       simp only[DataW.weights,hu]
       exact List.mem_cons_of_mem _ (List.mem_append_left _ (qo1 (List.mem_map.2 ⟨i,List.mem_range.2 hil,rfl⟩) q hq))
      have key:∀i,∃(z:List Value) (ds:List AV),i<len→w.cells? base (a.add (i*l.length)) l.length=some z∧ShAll l ds∧z.length=ds.length∧∀(j:Nat) (d:AV),ds[j]?=some d→Enc w all (z.getD j undef) d:=by
       intro i
       by_cases hil:i<len
       ·obtain ⟨cs',h1,h2⟩:=hi i (by omega)
        obtain ⟨ds,h3,h4,h5⟩:=qnk n e l _ _ _ hl h2 (hwi i hil)
        rw[← hc1] at h1
        exact ⟨cs',ds,fun _=>⟨h1,h3,h4,h5⟩⟩
       ·exact ⟨[],[],fun h=>absurd h hil⟩
      obtain ⟨z,hz⟩:=Classical.skolem.1 key
      obtain ⟨dd,hd⟩:=Classical.skolem.1 hz
      have hzl:∀i,i<len→(z i).length=l.length:=fun i hi'=>by rw[(hd i hi').2.2.1,(hd i hi').2.1.1]
      obtain ⟨b,off,spot⟩:=a
      have hat:∀i,i<len→∀j,j<l.length→w.cell? (((⟨b,off,spot⟩:Addr).add (i*l.length)).add j)=(z i)[j]?:=fun i hi' j hj=>(World.cells?_some (hd i hi').1).2.2 j hj
      have c0:w.cell? ⟨b,off,spot⟩=some ((z 0)[0]'(by have:=hzl 0 h0;omega)):=by
       have:=hat 0 h0 0 hc2
       simp only[Nat.zero_mul,Addr.add,if_true] at this
       exact this.trans (List.getElem?_eq_getElem _)
      have hblk:b<w.heap.size:=World.block_lt_of_cell? w _ c0
      obtain rfl:spot=none:=by
       unfold World.cell? at c0
       cases spot with
       | none=>rfl
       | some k=>simp at c0;split at c0<;>simp_all
      have e1:∀i j,((⟨b,off,none⟩:Addr).add (i*l.length)).add j=⟨b,off+(i*l.length+j),none⟩:=fun i j=>by
       unfold Addr.add
       split<;>split<;>simp<;>omega
      refine Rd.one (.sl l ((List.range len).map dd) (fun row hr=>?_) (by simpa using hwl) (fun row hr=>?_)) (.sl b off len cap l.length _ (fun j=>(z (j/l.length)).getD (j % l.length) undef) (by simp) hle hm trivial hblk (fun i row hr=>?_) (fun j hj=>?_) fun i j row d hr hj=>?_)
      ·obtain ⟨i,hi',rfl⟩:=List.mem_map.1 hr
       exact (hd i (List.mem_range.1 hi')).2.1.1
      ·obtain ⟨i,hi',rfl⟩:=List.mem_map.1 hr
       exact (hd i (List.mem_range.1 hi')).2.1.2
      ·rw[List.getElem?_map] at hr
       cases hq:(List.range len)[i]? with
       | none=>rw[hq] at hr;cases hr
       | some i' =>
        rw[hq] at hr
        injection hr with hr
        subst hr
        exact (hd i' (List.mem_range.1 (List.mem_of_getElem? hq))).2.1.1
      ·have hq:j/l.length<len:=Nat.div_lt_of_lt_mul (by rw[Nat.mul_comm];exact hj)
       have hr:=Nat.mod_lt j hc2
       have:=hat _ hq _ hr
       rw[e1,Nat.div_add_mod' j l.length,List.getElem?_eq_getElem (by rw[hzl _ hq];exact hr)] at this
       rw[this,List.getD_eq_getElem?_getD,List.getElem?_eq_getElem (by rw[hzl _ hq];exact hr)]
       rfl
      ·rw[List.getElem?_map] at hr
       cases hq:(List.range len)[i]? with
       | none=>rw[hq] at hr;cases hr
       | some i' =>
        have hii:i'=i:=by
         have hlt:=(List.getElem?_eq_some_iff.1 hq).1
         rw[List.getElem?_range (by simpa using hlt)] at hq
         injection hq with hq;exact hq.symm
        have hlt:=List.mem_range.1 (List.mem_of_getElem? hq)
        rw[hq] at hr
        injection hr with hr
        subst hr hii
        have hjl:j<l.length:=by
         rw[← (hd i' hlt).2.1.1]
         exact (List.getElem?_eq_some_iff.1 hj).1
        have:=(hd i' hlt).2.2.2 j d hj
        rwa [show (i'*l.length+j)/l.length=i' by rw[Nat.mul_comm,Nat.mul_add_div hc2,Nat.div_eq_of_lt hjl,Nat.add_zero],show (i'*l.length+j) % l.length=j by rw[Nat.mul_comm,Nat.mul_add_mod,Nat.mod_eq_of_lt hjl]]
    ·cases h
   ·cases h
  ·next fs hu =>
   split at h
   ·next l hl =>
    split at h
    ·next hc =>
     injection h with h;subst h
     obtain ⟨xs,n',_,hxe,hlen,hxl,hg⟩:=DataW.trod_struct hu hx
     obtain ⟨ds,h1,h2⟩:=qpv (cs:=cs) (fun t' shs' m cs' y h3 h4 h5=>qnk n t' shs' m cs' y h3 h4 h5) fs.toList 0 l hl fun f hf=>by
      obtain ⟨i,hi,rfl⟩:=List.getElem_of_mem hf
      have:=hg i fs.toList[i] (by simp)
      have hi':i<xs.length:=by rw[hxl];simpa using hi
      rw[List.getElem?_eq_getElem hi'] at this
      refine ⟨n',_,this,fun q hq=>hw q ?_⟩
      rw[hxe]
      simp only[DataW.weights,hu]
      exact DataW.weights_mem_each (j:=i) (t:=fs.toList[i].type) (d:=xs[i].1) (by rw[List.getElem?_map,List.getElem?_eq_getElem hi];rfl) (by rw[List.getElem?_map,List.getElem?_eq_getElem hi'];rfl) q hq
     exact ⟨ds,h1,by rw[hlen,h1.1,hc],fun i d hi=>by simpa using h2 i d hi⟩
    ·cases h
   ·cases h
  ·cases h
theorem ql9{n:Nat}{t:TypeId}{fs:Array Field}{shs:List Sh}{r:Reach}{b0:Nat}{v:Value}{d:DataW H}{p:List MemPlace}(hu:P.underlying t=some (.struct fs))(hs:qnE P n t=some shs)(hv:Value.okWide P w r b0 t v)(h:DataW.Trod enc P w base (fun _=>true) held t v d p)(hw:∀q∈d.weights P t,q≤reachBytes) :
  ∃ds:List AV,Enc w all v (.agg ds)∧ShAll shs ds:=by
 obtain ⟨cs,rfl,hsz⟩:=okWide_struct hu hv
 obtain ⟨fuel,hf⟩:=h
 obtain ⟨ds,h1,h2,h3⟩:=qnk n t shs _ _ _ hs hf hw
 refine ⟨ds,.agg _ _ (by simpa[Value.cells] using h2) fun i d hi=>?_,h1⟩
 have:=h3 i d hi
 rwa [List.getD_eq_getElem?_getD,Array.getElem?_toList,← Array.getD_eq_getD_getElem?] at this
end
theorem ShAll.cons{s:Sh}{l:List Sh}{ds:List AV}(h:ShAll (s::l) ds):∃d ds',ds=d::ds'∧ShOk s d∧ShAll l ds':=by
 match ds,h with
 | d::ds',h=>exact ⟨d,ds',rfl,h.2 0 s d rfl rfl,by have:=h.1;simp at this;exact this,fun i s' d' h1 h2=>h.2 (i+1) s' d' h1 h2⟩
theorem ShAll.nil{ds:List AV}(h:ShAll [] ds):ds=[]:=List.eq_nil_of_length_eq_zero h.1
theorem ShOk.int'{k:IntKind}{d:AV}(h:ShOk (.int k) d):∃n,d = .val (.int k n):=by cases h with | int k n=>exact ⟨n,rfl⟩
theorem ShOk.bool'{d:AV}(h:ShOk .bool d):∃b,d = .val (.bool b):=by cases h with | bool b=>exact ⟨b,rfl⟩
theorem ShOk.str'{d:AV}(h:ShOk .str d):∃b,d = .val (.string b):=by cases h with | str b=>exact ⟨b,rfl⟩
theorem ShOk.slW{l:List Sh}{d:AV}(h:ShOk (.sl l) d):∃rows,d = .sl l.length rows∧rows.length*wtL l≤reachBytes∧∀row,row∈rows→ShAll l row:=by
 cases h with | sl _ rows hn hb h=>exact ⟨rows,rfl,hb,fun row hr=>⟨hn row hr,h row hr⟩⟩
theorem PC.said{P:Program}{f:FuncId}{args:List AV}(h:PC P f args (.bool true)){w:World}(hG:Gl w){vs:Array Value}(hn:vs.size=args.length)(he:∀(i:Nat) (d:AV),args[i]?=some d→Enc w all (vs.getD i undef) d):Calls P f vs w fun e w'=>e = .returned (.bool true)∧Ext w w' :=
 (h.2 w all vs hG hn he).mono fun e w' ⟨h1,u,h2,h3⟩=>by
  have:=h3.val_eq
  subst this
  exact ⟨h2,h1⟩
theorem qA1{w:World}{v0 v1 v2:Value}{d0 d1 d2:AV}(h0:Enc w all v0 d0)(h1:Enc w all v1 d1)(h2:Enc w all v2 d2):∀(i:Nat) (d:AV),[d0,d1,d2][i]?=some d→Enc w all ((#[v0,v1,v2]:Array Value).getD i undef) d:=fun i d hi=>by
 match i,hi with
 | 0,hi=>injection hi with hi;subst hi;exact h0
 | 1,hi=>injection hi with hi;subst hi;exact h1
 | 2,hi=>injection hi with hi;subst hi;exact h2
 | n+3,hi=>simp at hi
end Go.Proofs.YtfnflenkeljkiaaGreat
