/- Texts Dc4, Dc5, Dc6, Dc7, Dc8, Dc9, Dc10, Dc11, Dc12 in one. -/
import Derived.Test.YtlmicgmhallkkaaGreatDoorPd
/- Clubs, plain: a valid union is opened. -/
set_option linter.constructorNameAsVariable false
set_option linter.unusedSimpArgs false
set_option linter.unusedVariables false
set_option linter.unusedSectionVars false
namespace Go.Proofs.YtlmicgmhallkkaaGreatDoor
open Go Go.Proofs Go.RowKit
set_option maxHeartbeats 1000000
structure Okay (u:Uni):Prop where
 v:Vld u.1 u.2.1
 ms:u.2.1.length≤9
 cl:1≤u.2.2.1∧u.2.2.1≤6
 fe:u.2.2.2.1.length=u.1.1.length
 sh:u.2.2.2.2.1.length=u.1.1.length
 rows:∀r,r∈u.2.2.2.2.1→(r.length:Int)=u.2.2.1
 gu:∀g,g∈u.2.2.2.2.2.1→-1≤g.2.1∧g.2.1≤u.2.2.1-1
 ri:∀g,g∈u.2.2.2.2.2.2.1→(0≤g.1∧g.1≤u.2.2.1-1)∧(0≤g.2∧g.2≤u.2.2.1-1)
 wo:∀g,g∈u.2.2.2.2.2.2.2.1→(0≤g.1∧g.1≤u.2.2.1-1)∧(0≤g.2.1∧g.2.1≤(u.1.1.length:Int)-1)
 gl:u.2.2.2.2.2.1.length≤40
 rl:u.2.2.2.2.2.2.1.length≤12
 wl:u.2.2.2.2.2.2.2.1.length≤20
theorem qI3{u:Uni}(hs:Small11 u)(h9:u.2.1.length≤9)(h:chkU u=0):Okay u:=by
 unfold chkU at h
 by_cases hk:chkN u.1 u.2.1=0
 ·rw[if_pos hk] at h
  have hb:uniB u=true:=by
   cases hu:uniB u with
   | true=>rfl
   | false=>rw[hu] at h;exact absurd h (by decide)
  obtain ⟨b1,b2,b3,b4⟩:=qDL hk
  unfold uniB qhU at hb
  simp only[Bool.and_eq_true,decide_eq_true_eq,List.all_eq_true,qca] at hb
  obtain ⟨c1,c2,c3,c4,c5,c6,c7,-,c9,c10,c11,-⟩:=hb
  refine ⟨⟨b1,b2,b3,b4,hs.st,hs.hu⟩,h9,c1,c2,c3,?_,?_,?_,?_,c5,c6,c7⟩
  ·intro r hr
   have:=c9 r hr
   unfold rowB at this
   simp only[Bool.and_eq_true,decide_eq_true_eq] at this
   exact this.1
  ·intro g hg
   have:=c4.1 g hg
   unfold qnC at this
   simp only[Bool.and_eq_true,qca] at this
   exact this.2.1
  ·intro g hg
   have:=c10 g hg
   unfold qnD qmT at this
   simp only[Bool.and_eq_true,qca] at this
   exact this
  ·intro g hg
   have:=c11 g hg
   unfold qqa qmT at this
   simp only[Bool.and_eq_true,qca] at this
   exact ⟨this.1,this.2.1⟩
 ·rw[if_neg hk] at h;exact absurd h hk
def qlP(l:List Msg)(i:Int):Msg:=(l.find? fun m=>iEq m.1 1&&iEq m.2.1 i).getD (0,(0,(0,(0,[]))))
theorem qyN{l:List Msg}(M:Msgs l){m:Msg}(hm:m∈l)(h1:m.1=1):qlP l m.2.1=m:=by
 unfold qlP
 cases hf:l.find? fun x=>iEq x.1 1&&iEq x.2.1 m.2.1 with
 | none =>
  have:=List.find?_eq_none.1 hf m hm
  rw[qbn h1,qbn rfl] at this
  exact absurd rfl this
 | some x =>
  have hx:=List.find?_some hf
  have hm':=List.mem_of_find?_eq_some hf
  simp only[Bool.and_eq_true,iEq] at hx
  exact M.cl x m hm' hm (eq_of_beq hx.2) (by rw[eq_of_beq hx.1,h1])
theorem qHQ(l:List Msg)(p:Msg→Bool){k:Nat}(hk:k<l.length)(h1:p l[k]=true)(h2:(l.take k).any p=false):l.find? p=some l[k]:=by
 induction l generalizing k with
 | nil=>exact absurd hk (Nat.not_lt_zero _)
 | cons x l ih =>
  cases k with
  | zero=>exact List.find?_cons_of_pos h1
  | succ k =>
   rw[List.take_succ_cons,List.any_cons,Bool.or_eq_false_iff] at h2
   rw[List.find?_cons_of_neg (by rw[h2.1];decide)]
   exact ih (Nat.lt_of_succ_lt_succ hk) h1 h2.2
def qfh(u:Uni):List Msg:=(accL u.1 u.2.1).map (qlP u.2.1)
theorem qAq{u:Uni}(V:Vld u.1 u.2.1){i:Int}(h:i∈accL u.1 u.2.1):∃m,m∈qgu u.2.1∧m∈u.2.1∧m.1=1∧m.2.1=i∧qlP u.2.1 i=m:=by
 obtain ⟨m,hm,rfl⟩:=qHJ.1 h
 have hq:m∈qgu u.2.1:=qmb.2 (qCB.1 (.inl hm))
 exact ⟨m,hq,(qlM.1 hq).1,qyM V.msgs hq,rfl,qyN V.msgs (qlM.1 hq).1 (qyM V.msgs hq)⟩
theorem qGe(n:Nat)(l:List Msg)(i:Int)(hl:l.length≤1000)(hn:2000≤n) :
  (l.any (fun m=>iEq m.1 1&&iEq m.2.1 i)=false∧qb0 n (l,(i,()))=some (-1,(i,()))) ∨
  (∃k,∃hk:k<l.length,l[k]=qlP l i∧qb0 n (l,(i,()))=some ((k:Int),(i,()))):=by
 rw[qjD]
 have h1:=qcX (step:=qcU n) l (fun k=>(l,((l.length:Int),((k:Int),(i,()))))) (fun m=>iEq m.1 1&&iEq m.2.1 i) (fun k=>.inr ((k:Int),(i,()))) (.inl (i,())) (fun rec k hk=>by
  rw[qeQ]
  simp only[qk hk,cond_true,qm l hk,Option.bind_some,qw6,qg (show k<9223372036854775807 by omega)]
  cases iEq l[k].1 1<;>cases iEq l[k].2.1 i<;>rfl) (fun rec=>by
  rw[qeQ]
  simp only[ql,cond_false]) (n:=n) (by omega)
 rcases h1 with ⟨h1,h2⟩ | ⟨k,hk,h1,h3,h2⟩
 ·refine .inl ⟨h1,?_⟩
  show Option.bind (qb n _ (l,((l.length:Int),(((0:Nat):Int),(i,()))))) _=_
  rw[h2];rfl
 ·refine .inr ⟨k,hk,?_,?_⟩
  ·unfold qlP
   rw[qHQ l _ hk h1 h3];rfl
  ·show Option.bind (qb n _ (l,((l.length:Int),(((0:Nat):Int),(i,()))))) _=_
   rw[h2];rfl
theorem qDW(c:Chn)(l:List Msg):(accL c l).length≤l.length:=by
 have:=qvK c l
 unfold accL
 rw[(qeX _ _).length_eq,List.length_map]
 omega
theorem qCI(n:Nat)(u:Uni)(hs:Small11 u)(hk:Okay u)(h:chkU u=0)(hn:5000≤n):qgH n (u,())=some (.inl (0,(u,(qfh u,())))):=by
 have hl:=qDW u.1 u.2.1
 have h9:=hk.ms
 rw[qoJ]
 simp only[qxe n u hs hn,Option.bind_some,h,qc3 rfl,cond_false,qDa n u.1 u.2.1 hk.v (by omega) (by omega)]
 have h1:=qhs (step:=qp2 n) (accL u.1 u.2.1) (fun k (b:List Msg)=>(accL u.1 u.2.1,(((accL u.1 u.2.1).length:Int),((k:Int),(u,(u,(b,()))))))) (fun b i=>b++[qlP u.2.1 i]) [] (fun b=>(u,(b,()))) (fun rec k b hk' hb=>by
  have hbl:b.length≤9:=by
   have:∀(l:List Int) (b:List Msg),(l.foldl (fun b i=>b++[qlP u.2.1 i]) b).length=b.length+l.length:=by
    intro l
    induction l with
    | nil=>intro b;rfl
    | cons x l ih=>intro b;rw[List.foldl_cons,ih];simp;omega
   rw[hb,this,List.length_take];simp;omega
  rw[qru]
  simp only[qk hk',cond_true,qm _ hk',Option.bind_some]
  obtain ⟨m,_,hm,h1m,hi,_⟩:=qAq hk.v (List.getElem_mem hk')
  rcases qGe n u.2.1 (accL u.1 u.2.1)[k] (by omega) (by omega) with ⟨hno,_⟩ | ⟨j,hj,hj2,he⟩
  ·have:=List.any_eq_false.1 hno m hm
   rw[qbn h1m,qbn hi] at this
   exact absurd rfl this
  ·simp only[he,Option.bind_some,qm _ hj,hj2]
   rw[q8 (by rw[Nat.ble_eq];show b.length+1≤_;omega)]
   simp only[Option.bind_some,qg (show k<9223372036854775807 by omega)]
   rfl) (fun rec b=>by
  rw[qru]
  simp only[ql,cond_false]) (n:=n) (by omega)
 rw[show (accL u.1 u.2.1,(((accL u.1 u.2.1).length:Int),((0:Int),(u,(u,(([]:List Msg),()))))))=(accL u.1 u.2.1,(((accL u.1 u.2.1).length:Int),(((0:Nat):Int),(u,(u,(([]:List Msg),())))))) from rfl,h1]
 have:∀(l:List Int) (b:List Msg),l.foldl (fun b i=>b++[qlP u.2.1 i]) b=b++l.map (qlP u.2.1):=by
  intro l
  induction l with
  | nil=>intro b;simp
  | cons x l ih=>intro b;rw[List.foldl_cons,ih];simp
 rw[this]
 rfl
theorem qBd(n:Nat)(u:Uni)(hs:Small11 u)(h:chkU u≠0)(hn:5000≤n):qgH n (u,())=some (.inr (chkU u,())):=by
 rw[qoJ]
 simp only[qxe n u hs hn,Option.bind_some,qf3 h,cond_true]
abbrev Bk:=Uni×(List Msg)
def payV(l:List qlN)(i:Int):qlN:=(l.find? fun g=>iEq g.1 i).getD (i,(-1,0))
theorem qHR(n:Nat)(i:Int)(b:Bk)(hl:b.1.2.2.2.2.2.1.length≤1000)(hn:2000≤n):qkZ n (i,(b,()))=some (payV b.1.2.2.2.2.2.1 i,(b,())):=by
 rw[qs1]
 have h1:=qcX (step:=qjC n) b.1.2.2.2.2.2.1 (fun k=>(i,(b.1.2.2.2.2.2.1,((b.1.2.2.2.2.2.1.length:Int),((k:Int),(b,(((0:Int),((0:Int),(0:Int))),()))))))) (fun g=>iEq g.1 i) (fun k=>.inr (b,((b.1.2.2.2.2.2.1[k]?).getD (0,(0,0)),()))) (.inl (i,(b,(((0:Int),((0:Int),(0:Int))),())))) (fun rec k hk=>by
  rw[qlZ]
  simp only[qk hk,cond_true,qm _ hk,Option.bind_some,qg (show k<9223372036854775807 by omega),List.getElem?_eq_getElem hk,Option.getD_some]) (fun rec=>by
  rw[qlZ]
  simp only[ql,cond_false]) (n:=n) (by omega)
 unfold payV
 rcases h1 with ⟨h1,h2⟩ | ⟨k,hk,h1,h3,h2⟩
 ·rw[List.find?_eq_none.2 (fun x hx=>by have:=List.any_eq_false.1 h1 x hx;simpa using this)]
  show Option.bind (qb n _ (i,(b.1.2.2.2.2.2.1,((b.1.2.2.2.2.2.1.length:Int),(((0:Nat):Int),(b,(((0:Int),((0:Int),(0:Int))),()))))))) _=_
  rw[h2];rfl
 ·have hf:List.find? (fun g=>iEq g.1 i) b.1.2.2.2.2.2.1=some b.1.2.2.2.2.2.1[k]:=by
   have:∀(l:List qlN) (k:Nat) (hk:k<l.length),iEq l[k].1 i=true→(l.take k).any (fun g=>iEq g.1 i)=false→List.find? (fun g=>iEq g.1 i) l=some l[k]:=by
    intro l
    induction l with
    | nil=>intro k hk;exact absurd hk (Nat.not_lt_zero _)
    | cons x l ih =>
     intro k hk a c
     cases k with
     | zero=>exact List.find?_cons_of_pos a
     | succ k =>
      rw[List.take_succ_cons,List.any_cons,Bool.or_eq_false_iff] at c
      rw[List.find?_cons_of_neg (by rw[c.1];decide)]
      exact ih k (Nat.lt_of_succ_lt_succ hk) a c.2
   exact this _ k hk h1 h3
  rw[hf]
  show Option.bind (qb n _ (i,(b.1.2.2.2.2.2.1,((b.1.2.2.2.2.2.1.length:Int),(((0:Nat):Int),(b,(((0:Int),((0:Int),(0:Int))),()))))))) _=_
  rw[h2,List.getElem?_eq_getElem hk];rfl
def ownV(sh:List (List Int))(c h:Int):Bool:=iNe (((sh[h.toNat]?).getD [])[c.toNat]?.getD 0) 0
theorem qDX(n:Nat)(c h:Int)(b:Bk)(K:Okay b.1)(hc:0≤c∧c≤b.1.2.2.1-1)(hh:0≤h∧h<b.1.1.1.length):qir n (c,(h,(b,())))=some (ownV b.1.2.2.2.2.1 c h,(b,())):=by
 rw[qto]
 obtain ⟨j,rfl⟩:=Int.eq_ofNat_of_zero_le hh.1
 obtain ⟨i,rfl⟩:=Int.eq_ofNat_of_zero_le hc.1
 have hj:j<b.1.2.2.2.2.1.length:=by rw[K.sh];omega
 have hr:=K.rows _ (List.getElem_mem hj)
 have hi:i<(b.1.2.2.2.2.1[j]).length:=by omega
 unfold ownV
 simp only[qm _ hj,Option.bind_some,qm _ hi,Int.toNat_natCast,List.getElem?_eq_getElem hj,Option.getD_some,List.getElem?_eq_getElem hi]
def entV(u:Uni)(c h:Int):Bool:=cond (iLt c 0) false (ownV u.2.2.2.2.1 c h||u.2.2.2.2.2.2.1.any fun r=>iEq r.1 c&&ownV u.2.2.2.2.1 r.2 h)
theorem qDg(n:Nat)(c h:Int)(b:Bk)(K:Okay b.1)(hc:-1≤c∧c≤b.1.2.2.1-1)(hh:0≤h∧h<b.1.1.1.length)(hn:2000≤n):qi1 n (c,(h,(b,())))=some (entV b.1 c h,(b,())):=by
 have hrl:=K.rl
 rw[qrv]
 unfold entV
 cases hc0:iLt c 0 with
 | true=>rfl
 | false =>
  have h0:0≤c:=by unfold iLt at hc0;simpa using hc0
  simp only[hc0,cond_false,qDX n c h b K ⟨h0,hc.2⟩ hh,Option.bind_some]
  cases ownV b.1.2.2.2.2.1 c h with
  | true=>rfl
  | false =>
   simp only[cond_false,Bool.false_or]
   rw[qgP,qhl]
   have h1:=qcX (step:=qbZ n) b.1.2.2.2.2.2.2.1 (fun k=>(b.1.2.2.2.2.2.2.1,((b.1.2.2.2.2.2.2.1.length:Int),((k:Int),(c,(b,(h,()))))))) (fun r=>iEq r.1 c&&ownV b.1.2.2.2.2.1 r.2 h) (fun k=>.inr ((k:Int),(c,(b,(h,()))))) (.inl (c,(b,(h,())))) (fun rec k hk=>by
    rw[qdf]
    have hr:=K.ri _ (List.getElem_mem hk)
    simp only[qk hk,cond_true,qm _ hk,Option.bind_some,qql,qg (show k<9223372036854775807 by omega),qDX n _ h b K hr.2 hh]
    cases iEq (b.1.2.2.2.2.2.2.1[k]).1 c<;>cases ownV b.1.2.2.2.2.1 (b.1.2.2.2.2.2.2.1[k]).2 h<;>rfl) (fun rec=>by
    rw[qdf]
    simp only[ql,cond_false]) (n:=n) (by omega)
   rcases h1 with ⟨h1,h2⟩ | ⟨k,hk,h1,_,h2⟩
   ·rw[h1]
    show Option.bind (Option.bind (Option.bind (qb n _ (b.1.2.2.2.2.2.2.1,((b.1.2.2.2.2.2.2.1.length:Int),(((0:Nat):Int),(c,(b,(h,()))))))) _) _) _=_
    rw[h2];rfl
   ·rw[show (b.1.2.2.2.2.2.2.1.any fun r=>iEq r.1 c&&ownV b.1.2.2.2.2.1 r.2 h)=true from List.any_eq_true.2 ⟨_,List.getElem_mem hk,h1⟩]
    show Option.bind (Option.bind (Option.bind (qb n _ (b.1.2.2.2.2.2.2.1,((b.1.2.2.2.2.2.2.1.length:Int),(((0:Nat):Int),(c,(b,(h,()))))))) _) _) _=_
    rw[h2]
    show some (iGe (k:Int) 0,(b,()))=_
    simp[iGe]
def upV(x p:Int):Int:=iW (Int.tdiv (iW (iAdd (iW (iMul x p)) 99)) 100)
theorem qKi(n:Nat)(x p:Int):qp3 n (x,(p,()))=some (upV x p,()):=by
 rw[qBm];rfl
def qbw(u:Uni)(m:Msg)(s:Stay):Int×Int :=
 let g:=payV u.2.2.2.2.2.1 m.2.1
 let f:=(u.2.2.2.1[s.1.toNat]?).getD 0
 let nts:=iW (iAdd (iW (iSub s.2.2 s.2.1)) 1)
 let kids:=iMin g.2.2 m.2.2.2.1
 let big:=iW (iSub m.2.2.2.1 kids)
 let pr:=cond (entV u g.2.1 s.1) (upV f (iW (iSub 100 u.2.2.2.2.2.2.2.2.1))) f
 (iW (iMul nts (iW (iAdd (iW (iMul big pr)) (iW (iMul kids (upV pr u.2.2.2.2.2.2.2.2.2.1)))))),iW (iMul (iW (iMul nts big)) u.2.2.2.2.2.2.2.2.2.2.1))
theorem qBe{u:Uni}(K:Okay u)(i:Int):-1≤(payV u.2.2.2.2.2.1 i).2.1∧(payV u.2.2.2.2.2.1 i).2.1≤u.2.2.1-1:=by
 unfold payV
 cases hf:u.2.2.2.2.2.1.find? fun g=>iEq g.1 i with
 | none=>have:=K.cl;exact ⟨Int.le_refl _,by show (-1:Int)≤_;omega⟩
 | some g=>exact K.gu g (List.mem_of_find?_eq_some hf)
theorem qDY(n:Nat)(m:Msg)(s:Stay)(b:Bk)(K:Okay b.1)(hh:0≤s.1∧s.1<b.1.1.1.length)(hn:2000≤n):qis n (m,(s,(b,())))=some ((qbw b.1 m s).1,((qbw b.1 m s).2,(b,()))):=by
 have hgl:=K.gl
 rw[qtp]
 obtain ⟨s1,s2⟩:=s
 obtain ⟨j,rfl⟩:=Int.eq_ofNat_of_zero_le hh.1
 have hj:j<b.1.2.2.2.1.length:=by rw[K.fe];have:=hh.2;show j<_;omega
 unfold qbw
 simp only[qHR n m.2.1 b (by omega) hn,Option.bind_some,qm _ hj,qDg n _ _ b K (qBe K m.2.1) hh hn,Int.toNat_natCast,List.getElem?_eq_getElem hj,Option.getD_some,qKi]
 cases entV b.1 (payV b.1.2.2.2.2.2.1 m.2.1).2.1 (j:Int)<;>rfl
def qxf(u:Uni)(m:Msg)(p:Int×Int)(s:Stay):Int×Int:=(iW (iAdd p.1 (qbw u m s).1),iW (iAdd p.2 (qbw u m s).2))
def qzG(u:Uni)(m:Msg):Int×Int:=m.2.2.2.2.foldl (qxf u m) (0,0)
def qzH(u:Uni)(i:Int):Int×(Int×(Int×Unit)):=if i∈accL u.1 u.2.1 then ((qzG u (qlP u.2.1 i)).1,((qzG u (qlP u.2.1 i)).2,(0,()))) else (0,(0,(3,())))
theorem qxE{u:Uni}(V:Vld u.1 u.2.1){m:Msg}(hm:m∈u.2.1)(h1:m.1=1){s:Stay}(hs:s∈m.2.2.2.2):0≤s.1∧s.1<u.1.1.length:=by
 have:=qvO (qxb (V.ms m hm) (by omega)) (Int.le_refl _) s hs
 omega
theorem qEP(n:Nat)(l:List Msg)(i:Int)(hl:l.length≤1000)(hn:2000≤n) :
  ((∀m,m∈l→m.2.1≠i)∧qbS n (l,(i,()))=some (-1,(i,()))) ∨
  (∃k,∃hk:k<l.length,l[k].2.1=i∧qbS n (l,(i,()))=some ((k:Int),(i,()))):=by
 rw[qjk]
 have h1:=qcX (step:=qcO n) l (fun k=>(l,((l.length:Int),((k:Int),(i,()))))) (fun m=>iEq m.2.1 i) (fun k=>.inr ((k:Int),(i,()))) (.inl (i,())) (fun rec k hk=>by
  rw[qeB]
  simp only[qk hk,cond_true,qm l hk,Option.bind_some,qwl,qg (show k<9223372036854775807 by omega)]) (fun rec=>by
  rw[qeB]
  simp only[ql,cond_false]) (n:=n) (by omega)
 rcases h1 with ⟨h1,h2⟩ | ⟨k,hk,h1,h3,h2⟩
 ·refine .inl ⟨fun m hm e=>?_,?_⟩
  ·have:=List.any_eq_false.1 h1 m hm
   rw[qbn e] at this
   exact this rfl
  ·show Option.bind (qb n _ (l,((l.length:Int),(((0:Nat):Int),(i,()))))) _=_
   rw[h2];rfl
 ·refine .inr ⟨k,hk,eq_of_beq h1,?_⟩
  show Option.bind (qb n _ (l,((l.length:Int),(((0:Nat):Int),(i,()))))) _=_
  rw[h2];rfl
theorem qCJ{u:Uni}(V:Vld u.1 u.2.1){m:Msg}(h:m∈qfh u):m.2.1∈accL u.1 u.2.1∧m∈u.2.1∧m.1=1∧qlP u.2.1 m.2.1=m∧m∈qgu u.2.1:=by
 obtain ⟨i,hi,rfl⟩:=List.mem_map.1 h
 obtain ⟨m,hq,hm,h1,rfl,he⟩:=qAq V hi
 rw[he]
 exact ⟨hi,hm,h1,he,hq⟩
theorem qHS{u:Uni}(V:Vld u.1 u.2.1){i:Int}(h:i∈accL u.1 u.2.1):∃m,m∈qfh u∧m.2.1=i:=by
 obtain ⟨m,_,_,_,hi,he⟩:=qAq V h
 exact ⟨m,List.mem_map.2 ⟨i,h,he⟩,hi⟩
theorem qCK(u:Uni):(qfh u).length≤u.2.1.length:=by
 unfold qfh
 rw[List.length_map]
 exact qDW _ _
theorem qHT(n:Nat)(u:Uni)(i:Int)(hs:Small11 u)(K:Okay u)(h:chkU u=0)(hn:5000≤n):qlY n (u,(i,()))=some (qzH u i):=by
 have hl:=qCK u
 have h9:=K.ms
 rw[qs2]
 simp only[qCI n u hs K h hn,Option.bind_some,Sum.elim_inl,qc3 rfl,cond_false]
 unfold qzH
 rcases qEP n (qfh u) i (by omega) (by omega) with ⟨hno,he⟩ | ⟨k,hk,hi,he⟩
 ·rw[if_neg (fun hm=>by obtain ⟨m,h1,h2⟩:=qHS K.v hm;exact hno m h1 h2)]
  simp only[he,Option.bind_some]
  rfl
 ·obtain ⟨b1,b2,b3,b4,-⟩:=qCJ K.v (List.getElem_mem hk)
  have hst:=K.v.st _ b2
  have hin:∀s,s∈((qfh u)[k]).2.2.2.2→0≤s.1∧s.1<u.1.1.length:=fun s hs=>qxE K.v b2 b3 hs
  rw[hi] at b1 b4
  rw[if_pos b1,b4]
  simp only[he,Option.bind_some,show iLt (k:Int) 0=false from decide_eq_false (by omega),cond_false,qm _ hk]
  generalize hm:(qfh u)[k]=m at *
  have h1:=qhs (step:=qp4 n) m.2.2.2.2 (fun j (p:Int×Int)=>(p.1,(p.2,((k:Int),(m.2.2.2.2,((m.2.2.2.2.length:Int),((j:Int),((u,qfh u),())))))))) (qxf u m) (0,0) (fun p=>(p.1,(p.2,()))) (fun rec j p hj _=>by
   rw[qrw]
   simp only[qk hj,cond_true,qm _ hj,qm _ hk,hm,Option.bind_some,qDY n m _ (u,qfh u) K (hin _ (List.getElem_mem hj)) (by omega),qg (show j<9223372036854775807 by omega)]
   rfl) (fun rec p=>by
   rw[qrw]
   simp only[ql,cond_false]) (n:=n) (by omega)
  rw[show ((0:Int),((0:Int),((k:Int),(m.2.2.2.2,((m.2.2.2.2.length:Int),((0:Int),((u,qfh u),())))))))=(((0,0):Int×Int).1,(((0,0):Int×Int).2,((k:Int),(m.2.2.2.2,((m.2.2.2.2.length:Int),(((0:Nat):Int),((u,qfh u),()))))))) from rfl,h1]
  rfl
theorem qGf(n:Nat)(u:Uni)(i:Int)(hs:Small11 u)(h:chkU u≠0)(hn:5000≤n):qlY n (u,(i,()))=some (0,(0,(chkU u,()))):=by
 rw[qs2]
 simp only[qBd n u hs h hn,Option.bind_some,Sum.elim_inr,qf3 h,cond_true]
theorem qqc(x:Int):(18446744073709551616:Int)∣iW x-x:=by
 unfold iW Go.IntKind.wrap
 simp[Go.IntKind.bits,Go.IntKind.signed]
 omega
theorem qvP(x:Int):-9223372036854775808≤iW x∧iW x≤9223372036854775807:=by
 unfold iW Go.IntKind.wrap
 simp[Go.IntKind.bits,Go.IntKind.signed]
 split<;>omega
theorem qtZ{a b A B:Int}(h1:0≤a)(h2:a≤A)(h3:0≤b)(h4:b≤B):0≤a*b∧a*b≤A*B :=
 ⟨Int.mul_nonneg h1 h3,Int.le_trans (Int.mul_le_mul_of_nonneg_right h2 h3) (Int.mul_le_mul_of_nonneg_left h4 (by omega))⟩
def InR(L:Nat)(d:List Int):Prop:=∀x,x∈d→0≤x∧x<L
def qS(a x:Int):Int:=a*x/100
theorem qzI{a x:Int}(ha:0≤a∧a≤1000000000000)(hx:0≤x∧x≤100):0≤qS a x∧qS a x≤1000000000000∧100*qS a x≤a*x∧a*x<100*qS a x+100∧iW (Int.tdiv (iW (iMul a x)) 100)=qS a x:=by
 have h:=qtZ ha.1 ha.2 hx.1 hx.2
 unfold qS
 have e:iW (iMul a x)=a*x:=qbm (by unfold iMul;omega) (by unfold iMul;omega)
 rw[e,Int.tdiv_eq_ediv_of_nonneg h.1]
 refine ⟨by omega,by omega,by omega,by omega,qbm (by omega) (by omega)⟩
theorem qxF{a:Int}(ha:0≤a∧a≤1000000000000):∀(l:List Int),(∀x,x∈l→0≤x∧x≤100)→0≤(l.map (qS a)).sum∧(l.map (qS a)).sum≤1000000000000*l.length∧100*(l.map (qS a)).sum≤a*l.sum∧a*l.sum≤100*(l.map (qS a)).sum+99*l.length
 | [],_=>by simp
 | x::l,h=>by
  have:=qxF ha l fun y hy=>h y (List.mem_cons_of_mem _ hy)
  have hq:=qzI ha (h x List.mem_cons_self)
  rw[List.map_cons,List.sum_cons,List.sum_cons,List.length_cons,Int.mul_add a x l.sum]
  omega
theorem latA{α:Type}(A B:List α)(x:α){k:Nat}(h:A.length=k):lat (A++x::B) (k:Int)=some x:=by
 subst h;rw[qfj];simp
theorem getA{α:Type}(A B:List α)(x:α){k:Nat}(h:A.length=k):(A++x::B)[k]?=some x:=by
 subst h;simp
theorem setA{α:Type}(A B:List α)(x y:α){k:Nat}(h:A.length=k):(A++x::B).set k y=A++y::B:=by
 subst h;simp
structure Bnd (u:Uni):Prop where
 fe:∀f,f∈u.2.2.2.1→0≤f∧f≤100000
 ro:∀r,r∈u.2.2.2.2.1→(∀x,x∈r→0≤x∧x≤100)∧r.sum=100
 gk:∀g,g∈u.2.2.2.2.2.1→0≤g.2.2∧g.2.2≤20
 wk:∀w,w∈u.2.2.2.2.2.2.2.1→0≤w.2.2∧w.2.2≤20
 me:0≤u.2.2.2.2.2.2.2.2.1∧u.2.2.2.2.2.2.2.2.1≤100
 ch:0≤u.2.2.2.2.2.2.2.2.2.1∧u.2.2.2.2.2.2.2.2.2.1≤100
 cr:0≤u.2.2.2.2.2.2.2.2.2.2.2∧u.2.2.2.2.2.2.2.2.2.2.2≤100000
theorem qCL{u:Uni}(h:chkU u=0):Bnd u:=by
 unfold chkU at h
 by_cases hk:chkN u.1 u.2.1=0
 ·rw[if_pos hk] at h
  have hb:uniB u=true:=by
   cases hu:uniB u with
   | true=>rfl
   | false=>rw[hu] at h;exact absurd h (by decide)
  unfold uniB qhU at hb
  simp only[Bool.and_eq_true,decide_eq_true_eq,List.all_eq_true,qca] at hb
  obtain ⟨c1,c2,c3,c4,c5,c6,c7,c8,c9,c10,c11,c12,c13,c14,c15⟩:=hb
  refine ⟨c8,?_,?_,?_,c12,c13,c15⟩
  ·intro r hr
   have:=c9 r hr
   unfold rowB shB at this
   simp only[Bool.and_eq_true,decide_eq_true_eq,List.all_eq_true,qca] at this
   exact this.2
  ·intro g hg
   have:=c4.1 g hg
   unfold qnC at this
   simp only[Bool.and_eq_true,qca] at this
   exact this.2.2
  ·intro g hg
   have:=c11 g hg
   unfold qqa qmT at this
   simp only[Bool.and_eq_true,qca] at this
   exact this.2.2
 ·rw[if_neg hk] at h;exact absurd h hk
theorem qGg{x p:Int}(hx:0≤x∧x≤200000)(hp:0≤p∧p≤100):0≤upV x p∧upV x p≤x+1∧upV x p=(x*p+99)/100:=by
 have h:=qtZ hx.1 hx.2 hp.1 hp.2
 have h2:x*p≤x*100:=Int.mul_le_mul_of_nonneg_left hp.2 hx.1
 unfold upV
 have e:iW (iAdd (iW (iMul x p)) 99)=x*p+99:=by
  rw[show iW (iMul x p)=x*p from qbm (by unfold iMul;omega) (by unfold iMul;omega)]
  exact qbm (by unfold iAdd;omega) (by unfold iAdd;omega)
 rw[e,Int.tdiv_eq_ediv_of_nonneg (by omega),qbm (by omega) (by omega)]
 omega
theorem qCM{u:Uni}(K:Okay u)(b:Bnd u){m:Msg}(hm:m∈u.2.1)(h1:m.1=1){s:Stay}(hs:s∈m.2.2.2.2):0≤(qbw u m s).1∧(qbw u m s).1≤1000000000000:=by
 have hst:=qvO (qxb (K.v.ms m hm) (by omega)) (Int.le_refl _) s hs
 have hnn:u.1.2≤20:=by
  have:=K.v.ch
  unfold qc9 at this
  simp only[Bool.and_eq_true,qca] at this
  exact this.2.2.2
 have hpe:1≤m.2.2.2.1∧m.2.2.2.1≤20:=by
  have:=K.v.ms m hm
  unfold mesB canB reqB at this
  rw[show decide (m.1=2)=false from decide_eq_false (by omega)] at this
  simp only[Bool.false_and,Bool.false_or,Bool.and_eq_true,qca] at this
  exact this.2.2.2.1
 have hfe:0≤(u.2.2.2.1[s.1.toNat]?).getD 0∧(u.2.2.2.1[s.1.toNat]?).getD 0≤100000:=by
  cases hf:u.2.2.2.1[s.1.toNat]? with
  | none=>exact ⟨Int.le_refl _,by show (0:Int)≤_;omega⟩
  | some f=>exact b.fe f (List.mem_of_getElem? hf)
 have hg:0≤(payV u.2.2.2.2.2.1 m.2.1).2.2∧(payV u.2.2.2.2.2.1 m.2.1).2.2≤20:=by
  unfold payV
  cases hf:u.2.2.2.2.2.1.find? fun g=>iEq g.1 m.2.1 with
  | none=>exact ⟨Int.le_refl _,by show (0:Int)≤_;omega⟩
  | some g=>exact b.gk g (List.mem_of_find?_eq_some hf)
 unfold qbw
 simp only
 generalize (u.2.2.2.1[s.1.toNat]?).getD 0=f at *
 generalize (payV u.2.2.2.2.2.1 m.2.1).2.2=g at *
 generalize entV u _ s.1=en
 have hk:0≤iMin g m.2.2.2.1∧iMin g m.2.2.2.1≤20∧iMin g m.2.2.2.1≤m.2.2.2.1:=by
  unfold iMin;split<;>omega
 generalize iMin g m.2.2.2.1=kd at *
 have hnts:iW (iAdd (iW (iSub s.2.2 s.2.1)) 1)=s.2.2-s.2.1+1:=by
  rw[show iW (iSub s.2.2 s.2.1)=s.2.2-s.2.1 from qbm (by unfold iSub;omega) (by unfold iSub;omega)]
  exact qbm (by unfold iAdd;omega) (by unfold iAdd;omega)
 have hbig:iW (iSub m.2.2.2.1 kd)=m.2.2.2.1-kd:=qbm (by unfold iSub;omega) (by unfold iSub;omega)
 have hme:=b.me
 have h100:iW (iSub 100 u.2.2.2.2.2.2.2.2.1)=100-u.2.2.2.2.2.2.2.2.1:=qbm (by unfold iSub;omega) (by unfold iSub;omega)
 rw[hnts,hbig,h100]
 have hup:=qGg (x:=f) (p:=100-u.2.2.2.2.2.2.2.2.1) (by omega) (by omega)
 have hpr:0≤cond en (upV f (100-u.2.2.2.2.2.2.2.2.1)) f∧cond en (upV f (100-u.2.2.2.2.2.2.2.2.1)) f≤100001:=by
  cases en<;>simp only[cond_true,cond_false]<;>omega
 generalize cond en (upV f (100-u.2.2.2.2.2.2.2.2.1)) f=pr at *
 have hch:=qGg (x:=pr) (p:=u.2.2.2.2.2.2.2.2.2.1) (by omega) b.ch
 generalize upV pr u.2.2.2.2.2.2.2.2.2.1=up at *
 have p1:=qtZ (a:=m.2.2.2.1-kd) (b:=pr) (A:=20) (B:=100001) (by omega) (by omega) hpr.1 hpr.2
 have p2:=qtZ (a:=kd) (b:=up) (A:=20) (B:=100002) (by omega) (by omega) hch.1 (by omega)
 have e3:iW (iAdd (iW (iMul (m.2.2.2.1-kd) pr)) (iW (iMul kd up)))=(m.2.2.2.1-kd)*pr+kd*up:=by
  rw[show iW (iMul (m.2.2.2.1-kd) pr)=(m.2.2.2.1-kd)*pr from qbm (by unfold iMul;omega) (by unfold iMul;omega),show iW (iMul kd up)=kd*up from qbm (by unfold iMul;omega) (by unfold iMul;omega)]
  exact qbm (by unfold iAdd;omega) (by unfold iAdd;omega)
 rw[e3]
 have p3:=qtZ (a:=s.2.2-s.2.1+1) (b:=(m.2.2.2.1-kd)*pr+kd*up) (A:=20) (B:=4000060) (by omega) (by omega) (by omega) (by omega)
 rw[show iW (iMul (s.2.2-s.2.1+1) ((m.2.2.2.1-kd)*pr+kd*up))=(s.2.2-s.2.1+1)*((m.2.2.2.1-kd)*pr+kd*up) from qbm (by unfold iMul;omega) (by unfold iMul;omega)]
 omega
set_option maxRecDepth 20000
def qxg(u:Uni):Bool:=farB u.1 u.2.1||(decide (20<u.2.2.2.1.length)||(decide (20<u.2.2.2.2.1.length)||(decide (42<u.2.2.2.2.2.1.length)||(decide (14<u.2.2.2.2.2.2.1.length)||(decide (22<u.2.2.2.2.2.2.2.1.length)||u.2.2.2.2.1.any fun r=>decide (20<r.length))))))
theorem qsx(k j:Nat):iGt (k:Int) (j:Int)=decide (j<k):=by unfold iGt;congr 1;simp
theorem qHU(n:Nat)(u:Uni)(hl:u.2.1.length≤9223372036854775807)(hl2:u.2.2.2.2.1.length≤9223372036854775807)(hn:u.2.1.length<n)(hn2:u.2.2.2.2.1.length<n):qny n (u,())=some (qxg u,()):=by
 rw[quZ]
 simp only[qJt n u.1 u.2.1 hl hn,Option.bind_some]
 unfold qxg
 cases farB u.1 u.2.1 with
 | true=>rfl
 | false =>
  simp only[cond_false,Bool.false_or]
  rw[show iGt (u.2.2.2.1.length:Int) 20=decide (20<u.2.2.2.1.length) from qsx _ 20,show iGt (u.2.2.2.2.1.length:Int) 20=decide (20<u.2.2.2.2.1.length) from qsx _ 20,show iGt (u.2.2.2.2.2.1.length:Int) 42=decide (42<u.2.2.2.2.2.1.length) from qsx _ 42,show iGt (u.2.2.2.2.2.2.1.length:Int) 14=decide (14<u.2.2.2.2.2.2.1.length) from qsx _ 14,show iGt (u.2.2.2.2.2.2.2.1.length:Int) 22=decide (22<u.2.2.2.2.2.2.2.1.length) from qsx _ 22]
  have h1:=qj4 (step:=qit n) u.2.2.2.2.1 (fun k=>((k:Int),(u,()))) (fun r=>decide (20<r.length)) (.inr (true,())) (.inl ()) (fun rec k hk=>by
   rw[qn4]
   simp only[qk hk,cond_true,qm _ hk,Option.bind_some,qg (show k<9223372036854775807 by omega)]
   rw[show iGt ((u.2.2.2.2.1[k]).length:Int) 20=decide (20<(u.2.2.2.2.1[k]).length) from qsx _ 20]) (fun rec=>by
   rw[qn4]
   simp only[ql,cond_false]) (n:=n) hn2
  have h1':qb n (qit n) ((0:Int),(u,()))=_:=h1
  rw[h1']
  cases decide (20<u.2.2.2.1.length)<;>cases decide (20<u.2.2.2.2.1.length)<;>cases decide (42<u.2.2.2.2.2.1.length)<;>cases decide (14<u.2.2.2.2.2.2.1.length)<;>cases decide (22<u.2.2.2.2.2.2.2.1.length)<;>cases (u.2.2.2.2.1.any fun r=>decide (20<r.length))<;>rfl
theorem qCN{u:Uni}(h:qxg u=false):Small11 u:=by
 unfold qxg at h
 simp only[Bool.or_eq_false_iff,decide_eq_false_iff_not,List.any_eq_false,decide_eq_true_eq] at h
 obtain ⟨h1,h2,h3,h4,h5,h6,h7⟩:=h
 have N:=qF0 h1
 exact ⟨N.hu,N.ln,N.st,by omega,by omega,fun r hr=>by have:=h7 r hr;omega,by omega,by omega,by omega⟩
theorem qHV(n:Nat)(l:List Msg)(hl:l.length≤1000)(hs:∀m,m∈l→m.2.2.2.2.length≤1000)(hn:2000≤n):qmf n (l,())=some (l,()):=by
 rw[que]
 have h:=qhs (step:=qkU n) l (fun k b=>(l,((k:Int),(b,())))) (fun b m=>b++[m]) [] (fun b=>(b,())) (fun rec k b hk hb=>by
  have hb2:b=l.take k:=by
   have:=qp9 (fun m:Msg=>m) (l.take k) []
   rw[hb,this];simp
  have hbl:b.length≤k:=by rw[hb2];simp;omega
  have hst:=hs l[k] (List.getElem_mem hk)
  rw[qnu]
  simp only[qk hk,cond_true,qm l hk,Option.bind_some,qg (show k<9223372036854775807 by omega)]
  rw[q8 (by rw[Nat.ble_eq];unfold nAdd;omega)]
  simp only[Option.bind_some]
  rw[q8 (by rw[Nat.ble_eq];unfold nAdd;omega)]
  rfl) (fun rec b=>by
  rw[qnu]
  simp only[ql,cond_false]) (n:=n) (by omega)
 show Option.bind (qb n _ (l,(((0:Nat):Int),([],())))) _=_
 have h2:=qp9 (fun m:Msg=>m) l []
 rw[h,h2]
 simp
theorem qHW(n:Nat)(c:Chn)(hl:c.1.length≤1000):qiV n (c,())=some (c,()):=by
 rw[qrs,q8 (by rw[Nat.ble_eq];unfold nAdd;show 0+c.1.length≤_;omega)]
 rfl
theorem qHX(n:Nat)(u:Uni)(hs:Small11 u)(hn:2000≤n):qmh n (u,())=some (u,()):=by
 have a1:=hs.hu;have a2:=hs.ms;have a3:=hs.fe;have a4:=hs.sh;have a5:=hs.gu;have a6:=hs.ri;have a7:=hs.wo
 rw[qug]
 simp only[qHW n u.1 (by omega),qHV n u.2.1 (by omega) (fun m hm=>by have:=hs.st m hm;omega) hn,Option.bind_some]
 rw[q8 (by rw[Nat.ble_eq];show 0+u.2.2.2.1.length≤_;omega)]
 simp only[Option.bind_some]
 have h:=qhs (step:=qk2 n) u.2.2.2.2.1 (fun k (b:List (List Int))=>((k:Int),(u,((([],(0:Int)),([],((0:Int),([],([],([],([],([],((0:Int),((0:Int),((0:Int),(0:Int)))))))))))),(u.1,(u.2.1,(u.2.2.1,(List.append [] u.2.2.2.1,(b,(u.2.2.2.2.2.1,(u.2.2.2.2.2.2.1,(u.2.2.2.2.2.2.2.1,(u.2.2.2.2.2.2.2.2.1,(u.2.2.2.2.2.2.2.2.2.1,(u.2.2.2.2.2.2.2.2.2.2.1,(u.2.2.2.2.2.2.2.2.2.2.2,())))))))))))))))) (fun b r=>b++[r]) [] (fun b=>(u,((([],(0:Int)),([],((0:Int),([],([],([],([],([],((0:Int),((0:Int),((0:Int),(0:Int)))))))))))),(u.1,(u.2.1,(u.2.2.1,(List.append [] u.2.2.2.1,(b,(u.2.2.2.2.2.1,(u.2.2.2.2.2.2.1,(u.2.2.2.2.2.2.2.1,(u.2.2.2.2.2.2.2.2.1,(u.2.2.2.2.2.2.2.2.2.1,(u.2.2.2.2.2.2.2.2.2.2.1,(u.2.2.2.2.2.2.2.2.2.2.2,()))))))))))))))) (fun rec k b hk hb=>by
  have hb2:b=u.2.2.2.2.1.take k:=by
   have:=qp9 (fun m:List Int=>m) (u.2.2.2.2.1.take k) []
   rw[hb,this];simp
  have hbl:b.length≤k:=by rw[hb2];simp;omega
  have hst:=hs.rl _ (List.getElem_mem hk)
  rw[qnz]
  simp only[qk hk,cond_true,qm _ hk,Option.bind_some,qg (show k<9223372036854775807 by omega)]
  rw[q8 (by rw[Nat.ble_eq];unfold nAdd;omega)]
  simp only[Option.bind_some]
  rw[q8 (by rw[Nat.ble_eq];unfold nAdd;omega)]
  rfl) (fun rec b=>by
  rw[qnz]
  simp only[ql,cond_false]) (n:=n) (by omega)
 have h2:=qp9 (fun m:List Int=>m) u.2.2.2.2.1 []
 rw[h2] at h
 rw[show ((0:Int),(u,((([],(0:Int)),([],((0:Int),([],([],([],([],([],((0:Int),((0:Int),((0:Int),(0:Int)))))))))))),(u.1,(u.2.1,(u.2.2.1,(List.append [] u.2.2.2.1,(([]:List (List Int)),(u.2.2.2.2.2.1,(u.2.2.2.2.2.2.1,(u.2.2.2.2.2.2.2.1,(u.2.2.2.2.2.2.2.2.1,(u.2.2.2.2.2.2.2.2.2.1,(u.2.2.2.2.2.2.2.2.2.2.1,(u.2.2.2.2.2.2.2.2.2.2.2,())))))))))))))))=(((0:Nat):Int),(u,(((([]:List (Int×Int)),(0:Int)),(([]:List Msg),((0:Int),(([]:List Int),(([]:List (List Int)),(([]:List qlN),(([]:List qxD),(([]:List Work),((0:Int),((0:Int),((0:Int),(0:Int)))))))))))),(u.1,(u.2.1,(u.2.2.1,(List.append [] u.2.2.2.1,(([]:List (List Int)),(u.2.2.2.2.2.1,(u.2.2.2.2.2.2.1,(u.2.2.2.2.2.2.2.1,(u.2.2.2.2.2.2.2.2.1,(u.2.2.2.2.2.2.2.2.2.1,(u.2.2.2.2.2.2.2.2.2.2.1,(u.2.2.2.2.2.2.2.2.2.2.2,()))))))))))))))) from rfl,h]
 simp only[Option.bind_some]
 rw[q8 (by rw[Nat.ble_eq];show 0+u.2.2.2.2.2.1.length≤_;omega)]
 simp only[Option.bind_some]
 rw[q8 (by rw[Nat.ble_eq];show 0+u.2.2.2.2.2.2.1.length≤_;omega)]
 simp only[Option.bind_some]
 rw[q8 (by rw[Nat.ble_eq];show 0+u.2.2.2.2.2.2.2.1.length≤_;omega)]
 simp
end Go.Proofs.YtlmicgmhallkkaaGreatDoor
