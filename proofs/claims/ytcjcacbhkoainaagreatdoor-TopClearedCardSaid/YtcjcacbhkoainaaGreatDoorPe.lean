/- Texts Dc4, Dc5, Dc6, Dc7, Dc8, Dc9, Dc10, Dc11, Dc12 in one. -/
import Derived.Test.YtcjcacbhkoainaaGreatDoorPd
/- Clubs, plain: a valid union is opened. -/
set_option linter.constructorNameAsVariable false
set_option linter.unusedSimpArgs false
set_option linter.unusedVariables false
set_option linter.unusedSectionVars false
namespace Go.Proofs.YtcjcacbhkoainaaGreatDoor
open Go Go.Proofs Go.RowKit
set_option maxHeartbeats 1000000
structure Okay (u:Uni):Prop where
 v:Vld u.1 u.2.1
 ms:u.2.1.length≤9
 cl:1≤u.2.2.1∧u.2.2.1≤6
 fe:u.2.2.2.1.length=u.1.1.length
 sh:u.2.2.2.2.1.length=u.1.1.length
 rows:∀r,r∈u.2.2.2.2.1→(r.length:Int)=u.2.2.1
 gu:∀g,g∈u.2.2.2.2.2.1→-1≤g.2.1∧g.2.1≤u.2.2.1-1
 ri:∀g,g∈u.2.2.2.2.2.2.1→(0≤g.1∧g.1≤u.2.2.1-1)∧(0≤g.2∧g.2≤u.2.2.1-1)
 wo:∀g,g∈u.2.2.2.2.2.2.2.1→(0≤g.1∧g.1≤u.2.2.1-1)∧(0≤g.2.1∧g.2.1≤(u.1.1.length:Int)-1)
 gl:u.2.2.2.2.2.1.length≤40
 rl:u.2.2.2.2.2.2.1.length≤12
 wl:u.2.2.2.2.2.2.2.1.length≤20
theorem qDc{u:Uni}(hs:Small11 u)(h9:u.2.1.length≤9)(h:chkU u=0):Okay u:=by
 unfold chkU at h
 by_cases hk:chkN u.1 u.2.1=0
 ·rw[if_pos hk] at h
  have hb:uniB u=true:=by
   cases hu:uniB u with
   | true=>rfl
   | false=>rw[hu] at h;exact absurd h (by decide)
  obtain ⟨b1,b2,b3,b4⟩:=qC3 hk
  unfold uniB qik at hb
  simp only[Bool.and_eq_true,decide_eq_true_eq,List.all_eq_true,q7] at hb
  obtain ⟨c1,c2,c3,c4,c5,c6,c7,-,c9,c10,c11,-⟩:=hb
  refine ⟨⟨b1,b2,b3,b4,hs.st,hs.hu⟩,h9,c1,c2,c3,?_,?_,?_,?_,c5,c6,c7⟩
  ·intro r hr
   have:=c9 r hr
   unfold rowB at this
   simp only[Bool.and_eq_true,decide_eq_true_eq] at this
   exact this.1
  ·intro g hg
   have:=c4.1 g hg
   unfold qna at this
   simp only[Bool.and_eq_true,q7] at this
   exact this.2.1
  ·intro g hg
   have:=c10 g hg
   unfold qnb qmD at this
   simp only[Bool.and_eq_true,q7] at this
   exact this
  ·intro g hg
   have:=c11 g hg
   unfold qpf qmD at this
   simp only[Bool.and_eq_true,q7] at this
   exact ⟨this.1,this.2.1⟩
 ·rw[if_neg hk] at h;exact absurd h hk
def qno(l:List Msg)(i:Int):Msg:=(l.find? fun m=>iEq m.1 1&&iEq m.2.1 i).getD (0,(0,(0,(0,[]))))
theorem qHw{l:List Msg}(M:Msgs l){m:Msg}(hm:m∈l)(h1:m.1=1):qno l m.2.1=m:=by
 unfold qno
 cases hf:l.find? fun x=>iEq x.1 1&&iEq x.2.1 m.2.1 with
 | none =>
  have:=List.find?_eq_none.1 hf m hm
  rw[qb4 h1,qb4 rfl] at this
  exact absurd rfl this
 | some x =>
  have hx:=List.find?_some hf
  have hm':=List.mem_of_find?_eq_some hf
  simp only[Bool.and_eq_true,iEq] at hx
  exact M.cl x m hm' hm (eq_of_beq hx.2) (by rw[eq_of_beq hx.1,h1])
theorem qHx(l:List Msg)(p:Msg→Bool){k:Nat}(hk:k<l.length)(h1:p l[k]=true)(h2:(l.take k).any p=false):l.find? p=some l[k]:=by
 induction l generalizing k with
 | nil=>exact absurd hk (Nat.not_lt_zero _)
 | cons x l ih =>
  cases k with
  | zero=>exact List.find?_cons_of_pos h1
  | succ k =>
   rw[List.take_succ_cons,List.any_cons,Bool.or_eq_false_iff] at h2
   rw[List.find?_cons_of_neg (by rw[h2.1];decide)]
   exact ih (Nat.lt_of_succ_lt_succ hk) h1 h2.2
def qdd(u:Uni):List Msg:=(accL u.1 u.2.1).map (qno u.2.1)
theorem qzy{u:Uni}(V:Vld u.1 u.2.1){i:Int}(h:i∈accL u.1 u.2.1):∃m,m∈qkk u.2.1∧m∈u.2.1∧m.1=1∧m.2.1=i∧qno u.2.1 i=m:=by
 obtain ⟨m,hm,rfl⟩:=qHv.1 h
 have hq:m∈qkk u.2.1:=qtl.2 (qHu.1 (.inl hm))
 exact ⟨m,hq,(qrx.1 hq).1,qBS V.msgs hq,rfl,qHw V.msgs (qrx.1 hq).1 (qBS V.msgs hq)⟩
theorem qFH(n:Nat)(l:List Msg)(i:Int)(hl:l.length≤1000)(hn:2000≤n) :
  (l.any (fun m=>iEq m.1 1&&iEq m.2.1 i)=false∧qce n (l,(i,()))=some (-1,(i,()))) ∨
  (∃k,∃hk:k<l.length,l[k]=qno l i∧qce n (l,(i,()))=some ((k:Int),(i,()))):=by
 rw[qjV]
 have h1:=qeI (step:=qc9 n) l (fun k=>(l,((l.length:Int),((k:Int),(i,()))))) (fun m=>iEq m.1 1&&iEq m.2.1 i) (fun k=>.inr ((k:Int),(i,()))) (.inl (i,())) (fun rec k hk=>by
  rw[qfb]
  simp only[qv hk,cond_true,qw l hk,Option.bind_some,qwa,qi (show k<9223372036854775807 by omega)]
  cases iEq l[k].1 1<;>cases iEq l[k].2.1 i<;>rfl) (fun rec=>by
  rw[qfb]
  simp only[qB,cond_false]) (n:=n) (by omega)
 rcases h1 with ⟨h1,h2⟩ | ⟨k,hk,h1,h3,h2⟩
 ·refine .inl ⟨h1,?_⟩
  show Option.bind (qb n _ (l,((l.length:Int),(((0:Nat):Int),(i,()))))) _=_
  rw[h2];rfl
 ·refine .inr ⟨k,hk,?_,?_⟩
  ·unfold qno
   rw[qHx l _ hk h1 h3];rfl
  ·show Option.bind (qb n _ (l,((l.length:Int),(((0:Nat):Int),(i,()))))) _=_
   rw[h2];rfl
theorem qDd(c:Chn)(l:List Msg):(accL c l).length≤l.length:=by
 have:=qBO c l
 unfold accL
 rw[(qki _ _).length_eq,List.length_map]
 omega
theorem qxT(n:Nat)(u:Uni)(hs:Small11 u)(hk:Okay u)(h:chkU u=0)(hn:5000≤n):qn0 n (u,())=some (.inl (0,(u,(qdd u,())))):=by
 have hl:=qDd u.1 u.2.1
 have h9:=hk.ms
 rw[qxL]
 simp only[qFG n u hs hn,Option.bind_some,h,qev rfl,cond_false,qxf n u.1 u.2.1 hk.v (by omega) (by omega)]
 have h1:=qrw (step:=qpa n) (accL u.1 u.2.1) (fun k (b:List Msg)=>(accL u.1 u.2.1,(((accL u.1 u.2.1).length:Int),((k:Int),(u,(u,(b,()))))))) (fun b i=>b++[qno u.2.1 i]) [] (fun b=>(u,(b,()))) (fun rec k b hk' hb=>by
  have hbl:b.length≤9:=by
   have:∀(l:List Int) (b:List Msg),(l.foldl (fun b i=>b++[qno u.2.1 i]) b).length=b.length+l.length:=by
    intro l
    induction l with
    | nil=>intro b;rfl
    | cons x l ih=>intro b;rw[List.foldl_cons,ih];simp;omega
   rw[hb,this,List.length_take];simp;omega
  rw[qqC]
  simp only[qv hk',cond_true,qw _ hk',Option.bind_some]
  obtain ⟨m,_,hm,h1m,hi,_⟩:=qzy hk.v (List.getElem_mem hk')
  rcases qFH n u.2.1 (accL u.1 u.2.1)[k] (by omega) (by omega) with ⟨hno,_⟩ | ⟨j,hj,hj2,he⟩
  ·have:=List.any_eq_false.1 hno m hm
   rw[qb4 h1m,qb4 hi] at this
   exact absurd rfl this
  ·simp only[he,Option.bind_some,qw _ hj,hj2]
   rw[qcC (by rw[Nat.ble_eq];show b.length+1≤_;omega)]
   simp only[Option.bind_some,qi (show k<9223372036854775807 by omega)]
   rfl) (fun rec b=>by
  rw[qqC]
  simp only[qB,cond_false]) (n:=n) (by omega)
 rw[show (accL u.1 u.2.1,(((accL u.1 u.2.1).length:Int),((0:Int),(u,(u,(([]:List Msg),()))))))=(accL u.1 u.2.1,(((accL u.1 u.2.1).length:Int),(((0:Nat):Int),(u,(u,(([]:List Msg),())))))) from rfl,h1]
 have:∀(l:List Int) (b:List Msg),l.foldl (fun b i=>b++[qno u.2.1 i]) b=b++l.map (qno u.2.1):=by
  intro l
  induction l with
  | nil=>intro b;simp
  | cons x l ih=>intro b;rw[List.foldl_cons,ih];simp
 rw[this]
 rfl
abbrev Bk:=Uni×(List Msg)
def payV(l:List qmC)(i:Int):qmC:=(l.find? fun g=>iEq g.1 i).getD (i,(-1,0))
theorem qHy(n:Nat)(i:Int)(b:Bk)(hl:b.1.2.2.2.2.2.1.length≤1000)(hn:2000≤n):qk4 n (i,(b,()))=some (payV b.1.2.2.2.2.2.1 i,(b,())):=by
 rw[qr7]
 have h1:=qeI (step:=qjU n) b.1.2.2.2.2.2.1 (fun k=>(i,(b.1.2.2.2.2.2.1,((b.1.2.2.2.2.2.1.length:Int),((k:Int),(b,(((0:Int),((0:Int),(0:Int))),()))))))) (fun g=>iEq g.1 i) (fun k=>.inr (b,((b.1.2.2.2.2.2.1[k]?).getD (0,(0,0)),()))) (.inl (i,(b,(((0:Int),((0:Int),(0:Int))),())))) (fun rec k hk=>by
  rw[qlZ]
  simp only[qv hk,cond_true,qw _ hk,Option.bind_some,qi (show k<9223372036854775807 by omega),List.getElem?_eq_getElem hk,Option.getD_some]) (fun rec=>by
  rw[qlZ]
  simp only[qB,cond_false]) (n:=n) (by omega)
 unfold payV
 rcases h1 with ⟨h1,h2⟩ | ⟨k,hk,h1,h3,h2⟩
 ·rw[List.find?_eq_none.2 (fun x hx=>by have:=List.any_eq_false.1 h1 x hx;simpa using this)]
  show Option.bind (qb n _ (i,(b.1.2.2.2.2.2.1,((b.1.2.2.2.2.2.1.length:Int),(((0:Nat):Int),(b,(((0:Int),((0:Int),(0:Int))),()))))))) _=_
  rw[h2];rfl
 ·have hf:List.find? (fun g=>iEq g.1 i) b.1.2.2.2.2.2.1=some b.1.2.2.2.2.2.1[k]:=by
   have:∀(l:List qmC) (k:Nat) (hk:k<l.length),iEq l[k].1 i=true→(l.take k).any (fun g=>iEq g.1 i)=false→List.find? (fun g=>iEq g.1 i) l=some l[k]:=by
    intro l
    induction l with
    | nil=>intro k hk;exact absurd hk (Nat.not_lt_zero _)
    | cons x l ih =>
     intro k hk a c
     cases k with
     | zero=>exact List.find?_cons_of_pos a
     | succ k =>
      rw[List.take_succ_cons,List.any_cons,Bool.or_eq_false_iff] at c
      rw[List.find?_cons_of_neg (by rw[c.1];decide)]
      exact ih k (Nat.lt_of_succ_lt_succ hk) a c.2
   exact this _ k hk h1 h3
  rw[hf]
  show Option.bind (qb n _ (i,(b.1.2.2.2.2.2.1,((b.1.2.2.2.2.2.1.length:Int),(((0:Nat):Int),(b,(((0:Int),((0:Int),(0:Int))),()))))))) _=_
  rw[h2,List.getElem?_eq_getElem hk];rfl
def ownV(sh:List (List Int))(c h:Int):Bool:=iNe (((sh[h.toNat]?).getD [])[c.toNat]?.getD 0) 0
theorem qDe(n:Nat)(c h:Int)(b:Bk)(K:Okay b.1)(hc:0≤c∧c≤b.1.2.2.1-1)(hh:0≤h∧h<b.1.1.1.length):qiS n (c,(h,(b,())))=some (ownV b.1.2.2.2.2.1 c h,(b,())):=by
 rw[qst]
 obtain ⟨j,rfl⟩:=Int.eq_ofNat_of_zero_le hh.1
 obtain ⟨i,rfl⟩:=Int.eq_ofNat_of_zero_le hc.1
 have hj:j<b.1.2.2.2.2.1.length:=by rw[K.sh];omega
 have hr:=K.rows _ (List.getElem_mem hj)
 have hi:i<(b.1.2.2.2.2.1[j]).length:=by omega
 unfold ownV
 simp only[qw _ hj,Option.bind_some,qw _ hi,Int.toNat_natCast,List.getElem?_eq_getElem hj,Option.getD_some,List.getElem?_eq_getElem hi]
def entV(u:Uni)(c h:Int):Bool:=cond (iLt c 0) false (ownV u.2.2.2.2.1 c h||u.2.2.2.2.2.2.1.any fun r=>iEq r.1 c&&ownV u.2.2.2.2.1 r.2 h)
theorem qCw(n:Nat)(c h:Int)(b:Bk)(K:Okay b.1)(hc:-1≤c∧c≤b.1.2.2.1-1)(hh:0≤h∧h<b.1.1.1.length)(hn:2000≤n):qjt n (c,(h,(b,())))=some (entV b.1 c h,(b,())):=by
 have hrl:=K.rl
 rw[qqD]
 unfold entV
 cases hc0:iLt c 0 with
 | true=>rfl
 | false =>
  have h0:0≤c:=by unfold iLt at hc0;simpa using hc0
  simp only[hc0,cond_false,qDe n c h b K ⟨h0,hc.2⟩ hh,Option.bind_some]
  cases ownV b.1.2.2.2.2.1 c h with
  | true=>rfl
  | false =>
   simp only[cond_false,Bool.false_or]
   rw[qhd,qhH]
   have h1:=qeI (step:=qcc n) b.1.2.2.2.2.2.2.1 (fun k=>(b.1.2.2.2.2.2.2.1,((b.1.2.2.2.2.2.2.1.length:Int),((k:Int),(c,(b,(h,()))))))) (fun r=>iEq r.1 c&&ownV b.1.2.2.2.2.1 r.2 h) (fun k=>.inr ((k:Int),(c,(b,(h,()))))) (.inl (c,(b,(h,())))) (fun rec k hk=>by
    rw[qdx]
    have hr:=K.ri _ (List.getElem_mem hk)
    simp only[qv hk,cond_true,qw _ hk,Option.bind_some,qpp,qi (show k<9223372036854775807 by omega),qDe n _ h b K hr.2 hh]
    cases iEq (b.1.2.2.2.2.2.2.1[k]).1 c<;>cases ownV b.1.2.2.2.2.1 (b.1.2.2.2.2.2.2.1[k]).2 h<;>rfl) (fun rec=>by
    rw[qdx]
    simp only[qB,cond_false]) (n:=n) (by omega)
   rcases h1 with ⟨h1,h2⟩ | ⟨k,hk,h1,_,h2⟩
   ·rw[h1]
    show Option.bind (Option.bind (Option.bind (qb n _ (b.1.2.2.2.2.2.2.1,((b.1.2.2.2.2.2.2.1.length:Int),(((0:Nat):Int),(c,(b,(h,()))))))) _) _) _=_
    rw[h2];rfl
   ·rw[show (b.1.2.2.2.2.2.2.1.any fun r=>iEq r.1 c&&ownV b.1.2.2.2.2.1 r.2 h)=true from List.any_eq_true.2 ⟨_,List.getElem_mem hk,h1⟩]
    show Option.bind (Option.bind (Option.bind (qb n _ (b.1.2.2.2.2.2.2.1,((b.1.2.2.2.2.2.2.1.length:Int),(((0:Nat):Int),(c,(b,(h,()))))))) _) _) _=_
    rw[h2]
    show some (iGe (k:Int) 0,(b,()))=_
    simp[iGe]
def upV(x p:Int):Int:=iW (Int.tdiv (iW (iAdd (iW (iMul x p)) 99)) 100)
theorem qKC(n:Nat)(x p:Int):qpb n (x,(p,()))=some (upV x p,()):=by
 rw[qAz];rfl
def qT(u:Uni)(m:Msg)(s:Stay):Int×Int :=
 let g:=payV u.2.2.2.2.2.1 m.2.1
 let f:=(u.2.2.2.1[s.1.toNat]?).getD 0
 let nts:=iW (iAdd (iW (iSub s.2.2 s.2.1)) 1)
 let kids:=iMin g.2.2 m.2.2.2.1
 let big:=iW (iSub m.2.2.2.1 kids)
 let pr:=cond (entV u g.2.1 s.1) (upV f (iW (iSub 100 u.2.2.2.2.2.2.2.2.1))) f
 (iW (iMul nts (iW (iAdd (iW (iMul big pr)) (iW (iMul kids (upV pr u.2.2.2.2.2.2.2.2.2.1)))))),iW (iMul (iW (iMul nts big)) u.2.2.2.2.2.2.2.2.2.2.1))
theorem qFI{u:Uni}(K:Okay u)(i:Int):-1≤(payV u.2.2.2.2.2.1 i).2.1∧(payV u.2.2.2.2.2.1 i).2.1≤u.2.2.1-1:=by
 unfold payV
 cases hf:u.2.2.2.2.2.1.find? fun g=>iEq g.1 i with
 | none=>have:=K.cl;exact ⟨Int.le_refl _,by show (-1:Int)≤_;omega⟩
 | some g=>exact K.gu g (List.mem_of_find?_eq_some hf)
theorem qzz(n:Nat)(m:Msg)(s:Stay)(b:Bk)(K:Okay b.1)(hh:0≤s.1∧s.1<b.1.1.1.length)(hn:2000≤n):qiT n (m,(s,(b,())))=some ((qT b.1 m s).1,((qT b.1 m s).2,(b,()))):=by
 have hgl:=K.gl
 rw[qsu]
 obtain ⟨s1,s2⟩:=s
 obtain ⟨j,rfl⟩:=Int.eq_ofNat_of_zero_le hh.1
 have hj:j<b.1.2.2.2.1.length:=by rw[K.fe];have:=hh.2;show j<_;omega
 unfold qT
 simp only[qHy n m.2.1 b (by omega) hn,Option.bind_some,qw _ hj,qCw n _ _ b K (qFI K m.2.1) hh hn,Int.toNat_natCast,List.getElem?_eq_getElem hj,Option.getD_some,qKC]
 cases entV b.1 (payV b.1.2.2.2.2.2.1 m.2.1).2.1 (j:Int)<;>rfl
def qFJ(u:Uni)(m:Msg)(p:Int×Int)(s:Stay):Int×Int:=(iW (iAdd p.1 (qT u m s).1),iW (iAdd p.2 (qT u m s).2))
def qFK(u:Uni)(m:Msg):Int×Int:=m.2.2.2.2.foldl (qFJ u m) (0,0)
def qBY(u:Uni)(i:Int):Int×(Int×(Int×Unit)):=if i∈accL u.1 u.2.1 then ((qFK u (qno u.2.1 i)).1,((qFK u (qno u.2.1 i)).2,(0,()))) else (0,(0,(3,())))
theorem qrF{u:Uni}(V:Vld u.1 u.2.1){m:Msg}(hm:m∈u.2.1)(h1:m.1=1){s:Stay}(hs:s∈m.2.2.2.2):0≤s.1∧s.1<u.1.1.length:=by
 have:=qsd (qqJ (V.ms m hm) (by omega)) (Int.le_refl _) s hs
 omega
theorem qEc(n:Nat)(l:List Msg)(i:Int)(hl:l.length≤1000)(hn:2000≤n) :
  ((∀m,m∈l→m.2.1≠i)∧qb2 n (l,(i,()))=some (-1,(i,()))) ∨
  (∃k,∃hk:k<l.length,l[k].2.1=i∧qb2 n (l,(i,()))=some ((k:Int),(i,()))):=by
 rw[qjJ]
 have h1:=qeI (step:=qc1 n) l (fun k=>(l,((l.length:Int),((k:Int),(i,()))))) (fun m=>iEq m.2.1 i) (fun k=>.inr ((k:Int),(i,()))) (.inl (i,())) (fun rec k hk=>by
  rw[qeX]
  simp only[qv hk,cond_true,qw l hk,Option.bind_some,qvp,qi (show k<9223372036854775807 by omega)]) (fun rec=>by
  rw[qeX]
  simp only[qB,cond_false]) (n:=n) (by omega)
 rcases h1 with ⟨h1,h2⟩ | ⟨k,hk,h1,h3,h2⟩
 ·refine .inl ⟨fun m hm e=>?_,?_⟩
  ·have:=List.any_eq_false.1 h1 m hm
   rw[qb4 e] at this
   exact this rfl
  ·show Option.bind (qb n _ (l,((l.length:Int),(((0:Nat):Int),(i,()))))) _=_
   rw[h2];rfl
 ·refine .inr ⟨k,hk,eq_of_beq h1,?_⟩
  show Option.bind (qb n _ (l,((l.length:Int),(((0:Nat):Int),(i,()))))) _=_
  rw[h2];rfl
theorem quP{u:Uni}(V:Vld u.1 u.2.1){m:Msg}(h:m∈qdd u):m.2.1∈accL u.1 u.2.1∧m∈u.2.1∧m.1=1∧qno u.2.1 m.2.1=m∧m∈qkk u.2.1:=by
 obtain ⟨i,hi,rfl⟩:=List.mem_map.1 h
 obtain ⟨m,hq,hm,h1,rfl,he⟩:=qzy V hi
 rw[he]
 exact ⟨hi,hm,h1,he,hq⟩
theorem qHz{u:Uni}(V:Vld u.1 u.2.1){i:Int}(h:i∈accL u.1 u.2.1):∃m,m∈qdd u∧m.2.1=i:=by
 obtain ⟨m,_,_,_,hi,he⟩:=qzy V h
 exact ⟨m,List.mem_map.2 ⟨i,h,he⟩,hi⟩
theorem quQ(u:Uni):(qdd u).length≤u.2.1.length:=by
 unfold qdd
 rw[List.length_map]
 exact qDd _ _
theorem qHA(n:Nat)(u:Uni)(i:Int)(hs:Small11 u)(K:Okay u)(h:chkU u=0)(hn:5000≤n):qq0 n (u,(i,()))=some (qBY u i):=by
 have hl:=quQ u
 have h9:=K.ms
 rw[qxM]
 simp only[qxT n u hs K h hn,Option.bind_some,Sum.elim_inl,qev rfl,cond_false]
 unfold qBY
 rcases qEc n (qdd u) i (by omega) (by omega) with ⟨hno,he⟩ | ⟨k,hk,hi,he⟩
 ·rw[if_neg (fun hm=>by obtain ⟨m,h1,h2⟩:=qHz K.v hm;exact hno m h1 h2)]
  simp only[he,Option.bind_some]
  rfl
 ·obtain ⟨b1,b2,b3,b4,-⟩:=quP K.v (List.getElem_mem hk)
  have hst:=K.v.st _ b2
  have hin:∀s,s∈((qdd u)[k]).2.2.2.2→0≤s.1∧s.1<u.1.1.length:=fun s hs=>qrF K.v b2 b3 hs
  rw[hi] at b1 b4
  rw[if_pos b1,b4]
  simp only[he,Option.bind_some,show iLt (k:Int) 0=false from decide_eq_false (by omega),cond_false,qw _ hk]
  generalize hm:(qdd u)[k]=m at *
  have h1:=qrw (step:=qpc n) m.2.2.2.2 (fun j (p:Int×Int)=>(p.1,(p.2,((k:Int),(m.2.2.2.2,((m.2.2.2.2.length:Int),((j:Int),((u,qdd u),())))))))) (qFJ u m) (0,0) (fun p=>(p.1,(p.2,()))) (fun rec j p hj _=>by
   rw[qqE]
   simp only[qv hj,cond_true,qw _ hj,qw _ hk,hm,Option.bind_some,qzz n m _ (u,qdd u) K (hin _ (List.getElem_mem hj)) (by omega),qi (show j<9223372036854775807 by omega)]
   rfl) (fun rec p=>by
   rw[qqE]
   simp only[qB,cond_false]) (n:=n) (by omega)
  rw[show ((0:Int),((0:Int),((k:Int),(m.2.2.2.2,((m.2.2.2.2.length:Int),((0:Int),((u,qdd u),())))))))=(((0,0):Int×Int).1,(((0,0):Int×Int).2,((k:Int),(m.2.2.2.2,((m.2.2.2.2.length:Int),(((0:Nat):Int),((u,qdd u),()))))))) from rfl,h1]
  rfl
theorem qk9(x:Int):(18446744073709551616:Int)∣iW x-x:=by
 unfold iW Go.IntKind.wrap
 simp[Go.IntKind.bits,Go.IntKind.signed]
 omega
theorem qAN(x:Int):-9223372036854775808≤iW x∧iW x≤9223372036854775807:=by
 unfold iW Go.IntKind.wrap
 simp[Go.IntKind.bits,Go.IntKind.signed]
 split<;>omega
theorem qiY{a b A B:Int}(h1:0≤a)(h2:a≤A)(h3:0≤b)(h4:b≤B):0≤a*b∧a*b≤A*B :=
 ⟨Int.mul_nonneg h1 h3,Int.le_trans (Int.mul_le_mul_of_nonneg_right h2 h3) (Int.mul_le_mul_of_nonneg_left h4 (by omega))⟩
def InR(L:Nat)(d:List Int):Prop:=∀x,x∈d→0≤x∧x<L
theorem InR.set{L:Nat}{d:List Int}(h:InR L d){v:Int}(hv:0≤v∧v<L)(j:Nat):InR L (d.set j v):=fun x hx=>by
 rcases List.mem_or_eq_of_mem_set hx with h' | rfl
 ·exact h x h'
 ·exact hv
theorem InR.lat{L:Nat}{d l:List Int}(h:InR L d)(hL:l.length=L){j:Nat}(hj:j<d.length):∃v,lat l d[j]=some v:=by
 have:=h _ (List.getElem_mem hj)
 obtain ⟨i,hi⟩:=Int.eq_ofNat_of_zero_le this.1
 rw[hi] at this ⊢
 exact ⟨_,qw l (show i<l.length by omega)⟩
theorem qIX(n:Nat)(l:List Int)(a x y v w:Int)(hx:lat l x=some v)(hy:lat l y=some w):∃c,qlM n (x,(y,(a,(l,()))))=some (c,(a,(l,()))):=by
 rw[qpH]
 simp only[hx,hy,Option.bind_some,qrD,show qbb (iNe (100:Int) (0:Int))=some () from rfl]
 exact ⟨_,rfl⟩
theorem qJW(n:Nat)(l:List Int)(a:Int)(b i:Int):∀(m j:Nat) (d:List Int),InR l.length d→d.length<1000→j<d.length→j<m →
  ∃d',InR l.length d'∧d'.length=d.length∧qb m (qbv n) ((0:Int),(b,(i,((j:Int),(d,(a,(l,())))))))=some ((0:Int),(b,(i,(d',(a,(l,())))))):=by
 intro m
 induction m with
 | zero=>intro j d _ _ _ h;exact absurd h (Nat.not_lt_zero _)
 | succ m ih =>
  intro j d hd hdl hj hm
  rw[qc,qcj]
  cases j with
  | zero=>exact ⟨d,hd,rfl,rfl⟩
  | succ j =>
   have hj':j<d.length:=by omega
   obtain ⟨v,hv⟩:=hd.lat rfl hj
   obtain ⟨w,hw⟩:=hd.lat rfl hj'
   obtain ⟨c,hc⟩:=qIX n l a _ _ v w hv hw
   have hpos:iGt ((j+1:Nat):Int) 0=true:=decide_eq_true (by omega)
   simp only[hpos,cond_true,qk8 (show j<9223372036854775807 by omega),qw d hj,qw d hj',Option.bind_some,Int.toNat_natCast,List.getElem?_eq_getElem hj,List.getElem?_eq_getElem hj',hc]
   cases hcl:iLt c 0 with
   | false=>exact ⟨d,hd,rfl,by simp only[cond_false]⟩
   | true =>
    have hs:j<(d.set (j+1) d[j]).length:=by rw[List.length_set];exact hj'
    simp only[cond_true,qw _ hs,List.getElem?_eq_getElem hs,Option.bind_some]
    obtain ⟨d',h1,h2,h3⟩:=ih j ((d.set (j+1) d[j]).set j d[j+1]) ((hd.set (hd _ (List.getElem_mem hj')) _).set (hd _ (List.getElem_mem hj)) _) (by rw[List.length_set,List.length_set];exact hdl) (by rw[List.length_set];exact hs) (by omega)
    exact ⟨d',h1,by rw[h2,List.length_set,List.length_set],h3⟩
theorem qFL(n:Nat)(l:List Int)(a:Int)(L:Nat)(hL:L<1000)(hn:2000≤n):∀(k i m:Nat) (d:List Int),InR l.length d→d.length=L→i+k=L∨(L=0∧k=0∧i=1)→k<m →
  ∃d',InR l.length d'∧d'.length=L∧qb m (qI n) ((0:Int),((L:Int),((i:Int),(d,(a,(l,()))))))=some (d',(a,(l,()))):=by
 intro k
 induction k with
 | zero =>
  intro i m d hd hl hk hm
  obtain ⟨m,rfl⟩:∃j,m=j+1:=⟨m-1,by omega⟩
  rw[qc,qV]
  simp only[show iLt (i:Int) (L:Int)=false from decide_eq_false (by omega),cond_false]
  exact ⟨d,hd,hl,rfl⟩
 | succ k ih =>
  intro i m d hd hl hk hm
  obtain ⟨m,rfl⟩:∃j,m=j+1:=⟨m-1,by omega⟩
  rw[qc,qV]
  simp only[show iLt (i:Int) (L:Int)=true from decide_eq_true (by omega),cond_true]
  obtain ⟨d1,g1,g2,g3⟩:=qJW n l a (L:Int) (i:Int) n i d hd (by omega) (by omega) (by omega)
  rw[g3]
  simp only[Option.bind_some,qi (show i<9223372036854775807 by omega)]
  exact ih (i+1) m d1 g1 (by omega) (by omega) (by omega)
theorem qHB(n:Nat)(l d:List Int)(a:Int)(hd:InR l.length d)(hl:d.length<20)(hn:2000≤n):∃d',InR l.length d'∧d'.length=d.length∧qco n (d,(a,(l,())))=some (d',(a,(l,()))):=by
 obtain ⟨d',h1,h2,h3⟩:∃d',InR l.length d'∧d'.length=d.length∧qb n (qI n) ((0:Int),((d.length:Int),(((1:Nat):Int),(d,(a,(l,()))))))=some (d',(a,(l,()))):=by
  by_cases h0:d.length=0
  ·exact qFL n l a d.length (by omega) hn 0 1 n d hd rfl (.inr ⟨h0,rfl,rfl⟩) (by omega)
  ·exact qFL n l a d.length (by omega) hn (d.length-1) 1 n d hd rfl (.inl (by omega)) (by omega)
 refine ⟨d',h1,h2,?_⟩
 obtain ⟨n,rfl⟩:∃m,n=m+1:=⟨n-1,by omega⟩
 rw[qfQ,qf2]
 simp only[qc]
 rw[qfw]
 simp only[show iLe (20:Int) (d.length:Int)=false from decide_eq_false (by omega),cond_false,Option.bind_some,qeA]
 rw[show iW (iAdd (0:Int) 1)=((1:Nat):Int) from rfl,h3]
 simp only[Option.bind_some]
 rw[qfx]
 simp only[show iLt (20:Int) (d.length:Int)=false from decide_eq_false (by omega),cond_false,Option.bind_some]
def qS(a x:Int):Int:=a*x/100
theorem qyQ{a x:Int}(ha:0≤a∧a≤1000000000000)(hx:0≤x∧x≤100):0≤qS a x∧qS a x≤1000000000000∧100*qS a x≤a*x∧a*x<100*qS a x+100∧iW (Int.tdiv (iW (iMul a x)) 100)=qS a x:=by
 have h:=qiY ha.1 ha.2 hx.1 hx.2
 unfold qS
 have e:iW (iMul a x)=a*x:=qM (by unfold iMul;omega) (by unfold iMul;omega)
 rw[e,Int.tdiv_eq_ediv_of_nonneg h.1]
 refine ⟨by omega,by omega,by omega,by omega,qM (by omega) (by omega)⟩
theorem qt7{a:Int}(ha:0≤a∧a≤1000000000000):∀(l:List Int),(∀x,x∈l→0≤x∧x≤100)→0≤(l.map (qS a)).sum∧(l.map (qS a)).sum≤1000000000000*l.length∧100*(l.map (qS a)).sum≤a*l.sum∧a*l.sum≤100*(l.map (qS a)).sum+99*l.length
 | [],_=>by simp
 | x::l,h=>by
  have:=qt7 ha l fun y hy=>h y (List.mem_cons_of_mem _ hy)
  have hq:=qyQ ha (h x List.mem_cons_self)
  rw[List.map_cons,List.sum_cons,List.sum_cons,List.length_cons,Int.mul_add a x l.sum]
  omega
theorem latA{α:Type}(A B:List α)(x:α){k:Nat}(h:A.length=k):lat (A++x::B) (k:Int)=some x:=by
 subst h;rw[qi8];simp
theorem getA{α:Type}(A B:List α)(x:α){k:Nat}(h:A.length=k):(A++x::B)[k]?=some x:=by
 subst h;simp
theorem qph{α:Type}(A B:List α)(x y:α){k:Nat}(h:A.length=k):(A++x::B).set k y=A++y::B:=by
 subst h;simp
theorem qJX(n:Nat)(a:Int)(l:List Int)(ha:0≤a∧a≤1000000000000)(hl:∀x,x∈l→0≤x∧x≤100)(hL:l.length<20):∀(B A ord:List Int) (n':Nat),l=A++B→ord.length=A.length→InR l.length ord→B.length<n' →
  ∃ord',InR l.length ord'∧ord'.length=l.length∧qb n' (qie n) (a-(A.map (qS a)).sum,(l,((l.length:Int),((A.length:Int),(a,(l,(A.map (qS a)++List.replicate B.length 0,(ord++List.replicate B.length 0,()))))))))=some (a-(l.map (qS a)).sum,(a,(l,(l.map (qS a),(ord',()))))):=by
 intro B
 induction B with
 | nil =>
  intro A ord n' e ho hr hn'
  obtain ⟨n',rfl⟩:∃j,n'=j+1:=⟨n'-1,by simp at hn';omega⟩
  rw[List.append_nil] at e
  subst e
  refine ⟨ord,hr,ho,?_⟩
  rw[qc,qkg]
  simp only[qB,cond_false,List.length_nil,List.replicate_zero,List.append_nil]
 | cons x B ih =>
  intro A ord n' e ho hr hn'
  obtain ⟨n',rfl⟩:∃j,n'=j+1:=⟨n'-1,by simp at hn';omega⟩
  have hlen:l.length=A.length+(B.length+1):=by rw[e,List.length_append,List.length_cons]
  have hlt:A.length<l.length:=by omega
  have hx:=hl x (by rw[e];simp)
  have hq:=qyQ ha hx
  have hA:=qt7 ha A fun y hy=>hl y (by rw[e];simp[hy])
  have hAq:(A.map (qS a)).length=A.length:=List.length_map _
  rw[qc,qkg]
  rw[List.length_cons,List.replicate_succ]
  have hlat:lat l (A.length:Int)=some x:=by rw[e];exact latA A B x rfl
  simp only[qv hlt,cond_true,hlat,Option.bind_some,show qbb (iNe (100:Int) (0:Int))=some () from rfl,latA _ _ _ hAq,getA _ _ _ hAq,qph _ _ _ _ hAq,latA _ _ _ ho,getA _ _ _ ho,qph _ _ _ _ ho,Int.toNat_natCast,hq.2.2.2.2,qi (show A.length<9223372036854775807 by omega)]
  rw[show iW (iSub (a-(A.map (qS a)).sum) (qS a x))=a-((A++[x]).map (qS a)).sum by
   rw[qM (by unfold iSub;omega) (by unfold iSub;omega),List.map_append,List.sum_append]
   simp[iSub]
   omega]
  have:=ih (A++[x]) (ord++[(A.length:Int)]) n' (by rw[e];simp) (by simp[ho]) (fun y hy=>by
   rcases List.mem_append.1 hy with h | h
   ·exact hr y h
   ·rw[List.mem_singleton.1 h];omega) (by simp at hn';omega)
  rw[List.length_append,List.map_append] at this
  rw[List.map_append]
  simpa using this
theorem qqc:∀(l:List Int) (i:Nat) (v:Int) (h:i<l.length),(l.set i v).sum=l.sum-l[i]+v
 | [],i,v,h=>absurd h (Nat.not_lt_zero _)
 | x::l,0,v,h=>by simp;omega
 | x::l,i+1,v,h=>by
  have:=qqc l i v (Nat.lt_of_succ_lt_succ h)
  simp only[List.set_cons_succ,List.sum_cons,List.getElem_cons_succ,this]
  omega
theorem qJY(n:Nat)(R:Nat)(L:Nat)(ord:List Int)(hr:InR L ord)(hR:R≤ord.length)(hR2:R<1000):∀(m k n':Nat) (p:List Int),k+m=R→m<n'→p.length=L →
  ∃p',p'.length=L∧(18446744073709551616:Int)∣p'.sum-p.sum-m∧qb n' (qmy n) ((R:Int),((k:Int),(p,(ord,(((0:Nat),R),())))))=some (p',()):=by
 intro m
 induction m with
 | zero =>
  intro k n' p hk hn' hp
  obtain ⟨n',rfl⟩:∃j,n'=j+1:=⟨n'-1,by omega⟩
  refine ⟨p,hp,⟨0,by simp⟩,?_⟩
  rw[qc,qkh]
  simp only[show iLt (k:Int) (R:Int)=false from decide_eq_false (by omega),cond_false]
 | succ m ih =>
  intro k n' p hk hn' hp
  obtain ⟨n',rfl⟩:∃j,n'=j+1:=⟨n'-1,by omega⟩
  have hko:k<ord.length:=by omega
  obtain ⟨i,hi⟩:=Int.eq_ofNat_of_zero_le (hr _ (List.getElem_mem hko)).1
  have hi2:i<p.length:=by have:=(hr _ (List.getElem_mem hko)).2;omega
  have hkt:k<(List.take R (List.drop 0 ord)).length:=by rw[List.drop_zero,List.length_take];omega
  rw[qc,qkh]
  simp only[show iLt (k:Int) (R:Int)=true from decide_eq_true (by omega),cond_true,qw _ hkt,Option.bind_some,Int.toNat_natCast,show nAdd (0:Nat) k=k from Nat.zero_add k,List.getElem?_eq_getElem hko]
  rw[hi]
  simp only[qw _ hi2,Option.bind_some,Int.toNat_natCast,List.getElem?_eq_getElem hi2,qi (show k<9223372036854775807 by omega)]
  obtain ⟨p',h1,h2,h3⟩:=ih (k+1) n' (p.set i (iW (iAdd p[i] 1))) (by omega) (by omega) (by rw[List.length_set];exact hp)
  refine ⟨p',h1,?_,h3⟩
  rw[qqc _ _ _ hi2] at h2
  have h4:=qk9 (iAdd p[i] 1)
  unfold iAdd at h2 h4
  omega
theorem qHC(n:Nat)(a:Int)(l:List Int)(ha:0≤a∧a≤1000000000000)(hl:∀x,x∈l→0≤x∧x≤100)(hs:l.sum=100)(hL:l.length<20)(hn:2000≤n):∃p,p.length=l.length∧(18446744073709551616:Int)∣p.sum-a∧qn1 n (a,(l,()))=some (p,()):=by
 have hb:=qt7 ha l hl
 rw[hs] at hb
 obtain ⟨o,o1,o2,o3⟩:=qJX n a l ha hl hL l [] [] n rfl rfl (fun x h=>absurd h (by simp)) (by omega)
 obtain ⟨o',s1,s2,s3⟩:=qHB n l o a o1 (by omega) hn
 have hR:0≤a-(l.map (qS a)).sum∧a-(l.map (qS a)).sum≤l.length:=by omega
 obtain ⟨R,hRe⟩:=Int.eq_ofNat_of_zero_le hR.1
 obtain ⟨p,p1,p2,p3⟩:=qJY n R l.length o' s1 (by omega) (by omega) R 0 n (l.map (qS a)) (by omega) (by omega) (List.length_map _)
 refine ⟨p,p1,by omega,?_⟩
 rw[qr8]
 have hmk:qbb (iMk (l.length:Int))=some ():=qcC (by unfold iMk;simp only[Bool.and_eq_true,decide_eq_true_eq];omega)
 simp only[hmk,qcC (qb4 (rfl:(l.length:Int)=l.length)),Option.bind_some,Int.toNat_natCast]
 have o3':qb n (qie n) (a,(l,((l.length:Int),((0:Int),(a,(l,(List.replicate l.length 0,(List.replicate l.length 0,()))))))))=some (a-(l.map (qS a)).sum,(a,(l,(l.map (qS a),(o,()))))):=by
  rw[← o3];simp
 rw[o3']
 simp only[Option.bind_some,s3,hRe]
 rw[show cutO o'.length (R:Int)=some R by unfold cutO;rw[if_pos (by omega),Int.toNat_natCast]]
 simp only[Option.bind_some]
 rw[show ((0:Int))=((0:Nat):Int) from rfl,p3]
 rfl
structure Bnd (u:Uni):Prop where
 fe:∀f,f∈u.2.2.2.1→0≤f∧f≤100000
 ro:∀r,r∈u.2.2.2.2.1→(∀x,x∈r→0≤x∧x≤100)∧r.sum=100
 gk:∀g,g∈u.2.2.2.2.2.1→0≤g.2.2∧g.2.2≤20
 wk:∀w,w∈u.2.2.2.2.2.2.2.1→0≤w.2.2∧w.2.2≤20
 me:0≤u.2.2.2.2.2.2.2.2.1∧u.2.2.2.2.2.2.2.2.1≤100
 ch:0≤u.2.2.2.2.2.2.2.2.2.1∧u.2.2.2.2.2.2.2.2.2.1≤100
 cr:0≤u.2.2.2.2.2.2.2.2.2.2.2∧u.2.2.2.2.2.2.2.2.2.2.2≤100000
theorem qBZ{u:Uni}(h:chkU u=0):Bnd u:=by
 unfold chkU at h
 by_cases hk:chkN u.1 u.2.1=0
 ·rw[if_pos hk] at h
  have hb:uniB u=true:=by
   cases hu:uniB u with
   | true=>rfl
   | false=>rw[hu] at h;exact absurd h (by decide)
  unfold uniB qik at hb
  simp only[Bool.and_eq_true,decide_eq_true_eq,List.all_eq_true,q7] at hb
  obtain ⟨c1,c2,c3,c4,c5,c6,c7,c8,c9,c10,c11,c12,c13,c14,c15⟩:=hb
  refine ⟨c8,?_,?_,?_,c12,c13,c15⟩
  ·intro r hr
   have:=c9 r hr
   unfold rowB shB at this
   simp only[Bool.and_eq_true,decide_eq_true_eq,List.all_eq_true,q7] at this
   exact this.2
  ·intro g hg
   have:=c4.1 g hg
   unfold qna at this
   simp only[Bool.and_eq_true,q7] at this
   exact this.2.2
  ·intro g hg
   have:=c11 g hg
   unfold qpf qmD at this
   simp only[Bool.and_eq_true,q7] at this
   exact this.2.2
 ·rw[if_neg hk] at h;exact absurd h hk
theorem qyR{x p:Int}(hx:0≤x∧x≤200000)(hp:0≤p∧p≤100):0≤upV x p∧upV x p≤x+1∧upV x p=(x*p+99)/100:=by
 have h:=qiY hx.1 hx.2 hp.1 hp.2
 have h2:x*p≤x*100:=Int.mul_le_mul_of_nonneg_left hp.2 hx.1
 unfold upV
 have e:iW (iAdd (iW (iMul x p)) 99)=x*p+99:=by
  rw[show iW (iMul x p)=x*p from qM (by unfold iMul;omega) (by unfold iMul;omega)]
  exact qM (by unfold iAdd;omega) (by unfold iAdd;omega)
 rw[e,Int.tdiv_eq_ediv_of_nonneg (by omega),qM (by omega) (by omega)]
 omega
theorem qB0{u:Uni}(K:Okay u)(b:Bnd u){m:Msg}(hm:m∈u.2.1)(h1:m.1=1){s:Stay}(hs:s∈m.2.2.2.2):0≤(qT u m s).1∧(qT u m s).1≤1000000000000:=by
 have hst:=qsd (qqJ (K.v.ms m hm) (by omega)) (Int.le_refl _) s hs
 have hnn:u.1.2≤20:=by
  have:=K.v.ch
  unfold qdr at this
  simp only[Bool.and_eq_true,q7] at this
  exact this.2.2.2
 have hpe:1≤m.2.2.2.1∧m.2.2.2.1≤20:=by
  have:=K.v.ms m hm
  unfold mesB canB reqB at this
  rw[show decide (m.1=2)=false from decide_eq_false (by omega)] at this
  simp only[Bool.false_and,Bool.false_or,Bool.and_eq_true,q7] at this
  exact this.2.2.2.1
 have hfe:0≤(u.2.2.2.1[s.1.toNat]?).getD 0∧(u.2.2.2.1[s.1.toNat]?).getD 0≤100000:=by
  cases hf:u.2.2.2.1[s.1.toNat]? with
  | none=>exact ⟨Int.le_refl _,by show (0:Int)≤_;omega⟩
  | some f=>exact b.fe f (List.mem_of_getElem? hf)
 have hg:0≤(payV u.2.2.2.2.2.1 m.2.1).2.2∧(payV u.2.2.2.2.2.1 m.2.1).2.2≤20:=by
  unfold payV
  cases hf:u.2.2.2.2.2.1.find? fun g=>iEq g.1 m.2.1 with
  | none=>exact ⟨Int.le_refl _,by show (0:Int)≤_;omega⟩
  | some g=>exact b.gk g (List.mem_of_find?_eq_some hf)
 unfold qT
 simp only
 generalize (u.2.2.2.1[s.1.toNat]?).getD 0=f at *
 generalize (payV u.2.2.2.2.2.1 m.2.1).2.2=g at *
 generalize entV u _ s.1=en
 have hk:0≤iMin g m.2.2.2.1∧iMin g m.2.2.2.1≤20∧iMin g m.2.2.2.1≤m.2.2.2.1:=by
  unfold iMin;split<;>omega
 generalize iMin g m.2.2.2.1=kd at *
 have hnts:iW (iAdd (iW (iSub s.2.2 s.2.1)) 1)=s.2.2-s.2.1+1:=by
  rw[show iW (iSub s.2.2 s.2.1)=s.2.2-s.2.1 from qM (by unfold iSub;omega) (by unfold iSub;omega)]
  exact qM (by unfold iAdd;omega) (by unfold iAdd;omega)
 have hbig:iW (iSub m.2.2.2.1 kd)=m.2.2.2.1-kd:=qM (by unfold iSub;omega) (by unfold iSub;omega)
 have hme:=b.me
 have h100:iW (iSub 100 u.2.2.2.2.2.2.2.2.1)=100-u.2.2.2.2.2.2.2.2.1:=qM (by unfold iSub;omega) (by unfold iSub;omega)
 rw[hnts,hbig,h100]
 have hup:=qyR (x:=f) (p:=100-u.2.2.2.2.2.2.2.2.1) (by omega) (by omega)
 have hpr:0≤cond en (upV f (100-u.2.2.2.2.2.2.2.2.1)) f∧cond en (upV f (100-u.2.2.2.2.2.2.2.2.1)) f≤100001:=by
  cases en<;>simp only[cond_true,cond_false]<;>omega
 generalize cond en (upV f (100-u.2.2.2.2.2.2.2.2.1)) f=pr at *
 have hch:=qyR (x:=pr) (p:=u.2.2.2.2.2.2.2.2.2.1) (by omega) b.ch
 generalize upV pr u.2.2.2.2.2.2.2.2.2.1=up at *
 have p1:=qiY (a:=m.2.2.2.1-kd) (b:=pr) (A:=20) (B:=100001) (by omega) (by omega) hpr.1 hpr.2
 have p2:=qiY (a:=kd) (b:=up) (A:=20) (B:=100002) (by omega) (by omega) hch.1 (by omega)
 have e3:iW (iAdd (iW (iMul (m.2.2.2.1-kd) pr)) (iW (iMul kd up)))=(m.2.2.2.1-kd)*pr+kd*up:=by
  rw[show iW (iMul (m.2.2.2.1-kd) pr)=(m.2.2.2.1-kd)*pr from qM (by unfold iMul;omega) (by unfold iMul;omega),show iW (iMul kd up)=kd*up from qM (by unfold iMul;omega) (by unfold iMul;omega)]
  exact qM (by unfold iAdd;omega) (by unfold iAdd;omega)
 rw[e3]
 have p3:=qiY (a:=s.2.2-s.2.1+1) (b:=(m.2.2.2.1-kd)*pr+kd*up) (A:=20) (B:=4000060) (by omega) (by omega) (by omega) (by omega)
 rw[show iW (iMul (s.2.2-s.2.1+1) ((m.2.2.2.1-kd)*pr+kd*up))=(s.2.2-s.2.1+1)*((m.2.2.2.1-kd)*pr+kd*up) from qM (by unfold iMul;omega) (by unfold iMul;omega)]
 omega
theorem qIY(n:Nat)(f:Int)(hf:f=1∨f = -1)(b:Bk)(ps:List Int)(L:Nat)(hL:ps.length≤L)(hps:ps.length<1000):∀(B A:List Int) (n':Nat) (acc:List Int),ps=A++B→acc.length=L→B.length<n' →
  ∃acc',acc'.length=L∧(18446744073709551616:Int)∣acc'.sum-acc.sum-f*B.sum∧qb n' (qif n) (f,(ps,((ps.length:Int),((A.length:Int),(b,(acc,()))))))=some (b,(acc',())):=by
 intro B
 induction B with
 | nil =>
  intro A n' acc e ha hn'
  obtain ⟨n',rfl⟩:∃j,n'=j+1:=⟨n'-1,by simp at hn';omega⟩
  rw[List.append_nil] at e
  subst e
  refine ⟨acc,ha,⟨0,by simp⟩,?_⟩
  rw[qc,qgW]
  simp only[qB,cond_false]
 | cons x B ih =>
  intro A n' acc e ha hn'
  obtain ⟨n',rfl⟩:∃j,n'=j+1:=⟨n'-1,by simp at hn';omega⟩
  have hlen:ps.length=A.length+(B.length+1):=by rw[e,List.length_append,List.length_cons]
  have hlt:A.length<ps.length:=by omega
  have hla:A.length<acc.length:=by omega
  have hlat:lat ps (A.length:Int)=some x:=by rw[e];exact latA A B x rfl
  rw[qc,qgW]
  simp only[qv hlt,cond_true,hlat,Option.bind_some,qw _ hla,Int.toNat_natCast,List.getElem?_eq_getElem hla,qi (show A.length<9223372036854775807 by omega)]
  obtain ⟨acc',h1,h2,h3⟩:=ih (A++[x]) n' (acc.set A.length (iW (iAdd acc[A.length] (iW (iMul f x))))) (by rw[e];simp) (by rw[List.length_set];exact ha) (by simp at hn';omega)
  rw[List.length_append] at h3
  refine ⟨acc',h1,?_,h3⟩
  rw[qqc _ _ _ hla] at h2
  have d1:=qk9 (iAdd acc[A.length] (iW (iMul f x)))
  have d2:=qk9 (iMul f x)
  rw[List.sum_cons]
  rcases hf with rfl | rfl
  ·unfold iAdd iMul at *;omega
  ·unfold iAdd iMul at *;omega
theorem qDf(n:Nat)(a h f:Int)(hf:f=1∨f = -1)(b:Bk)(K:Okay b.1)(B:Bnd b.1)(acc:List Int)(ha:0≤a∧a≤1000000000000)(hh:0≤h∧h<b.1.1.1.length)(hl:(acc.length:Int)=b.1.2.2.1+2)(hn:2000≤n) :
  ∃acc',acc'.length=acc.length∧(18446744073709551616:Int)∣acc'.sum-acc.sum-f*a∧qho n (a,(h,(f,(b,(acc,())))))=some (b,(acc',())):=by
 obtain ⟨j,rfl⟩:=Int.eq_ofNat_of_zero_le hh.1
 have hj:j<b.1.2.2.2.2.1.length:=by rw[K.sh];omega
 have hr:=K.rows _ (List.getElem_mem hj)
 have hb:=B.ro _ (List.getElem_mem hj)
 have hc:=K.cl
 obtain ⟨p,p1,p2,p3⟩:=qHC n a _ ha hb.1 hb.2 (by omega) hn
 rw[qnV]
 simp only[qw _ hj,Option.bind_some,p3]
 obtain ⟨acc',h1,h2,h3⟩:=qIY n f hf b p acc.length (by omega) (by omega) p [] n acc rfl rfl (by omega)
 refine ⟨acc',h1,?_,?_⟩
 ·rcases hf with rfl | rfl<;>omega
 ·rw[show ((0:Int))=(([]:List Int).length:Int) from rfl,h3];rfl
def qqk(u:Uni)(acc:List Int):Prop:=(acc.length:Int)=u.2.2.1+2∧(18446744073709551616:Int)∣acc.sum
theorem qKD(n:Nat)(b:Bk)(K:Okay b.1)(B:Bnd b.1)(m:Msg)(hm:m∈b.1.2.1)(hm1:m.1=1)(bk0:List Msg)(lb k0:Int)(hn:2000≤n):∀(Y A:List Stay) (n':Nat) (acc:List Int),m.2.2.2.2=A++Y→qqk b.1 acc→Y.length<n' →
  ∃acc',qqk b.1 acc'∧qb n' (qkf n) (b.1.2.2.1,(b.1.2.2.1+1,(bk0,(lb,(k0,(m.2.2.2.2,((m.2.2.2.2.length:Int),((A.length:Int),(b,(acc,(m,())))))))))))=some (b.1.2.2.1,(b.1.2.2.1+1,(bk0,(lb,(k0,(b,(acc',()))))))):=by
 have hst:=K.v.st m hm
 have hc:=K.cl
 obtain ⟨c,hce⟩:=Int.eq_ofNat_of_zero_le (show 0≤b.1.2.2.1 by omega)
 intro Y
 induction Y with
 | nil =>
  intro A n' acc e ha hn'
  obtain ⟨n',rfl⟩:∃j,n'=j+1:=⟨n'-1,by simp at hn';omega⟩
  rw[List.append_nil] at e
  refine ⟨acc,ha,?_⟩
  rw[qc,qig,e]
  simp only[qB,cond_false]
 | cons x Y ih =>
  intro A n' acc e ha hn'
  obtain ⟨n',rfl⟩:∃j,n'=j+1:=⟨n'-1,by simp at hn';omega⟩
  have hlen:m.2.2.2.2.length=A.length+(Y.length+1):=by rw[e,List.length_append,List.length_cons]
  have hlt:A.length<m.2.2.2.2.length:=by omega
  have hx:x∈m.2.2.2.2:=by rw[e];simp
  have hlat:lat m.2.2.2.2 (A.length:Int)=some x:=by rw[e];exact latA A Y x rfl
  have hin:=qrF K.v hm hm1 hx
  have hbd:=qB0 K B hm hm1 hx
  obtain ⟨acc1,h1,h2,h3⟩:=qDf n (qT b.1 m x).1 x.1 1 (.inl rfl) b K B acc hbd hin ha.1 hn
  have hal:=ha.1
  have hcl:c<acc1.length:=by omega
  rw[qc,qig]
  simp only[qv hlt,cond_true,hlat,Option.bind_some,qzz n m x b K hin hn,h3]
  have hc1l:c+1<(acc1.set c (iW (iAdd acc1[c] (qT b.1 m x).2))).length:=by rw[List.length_set];omega
  rw[hce,show ((c:Int)+1)=((c+1:Nat):Int) from rfl]
  simp only[qw _ hcl,Option.bind_some,Int.toNat_natCast,List.getElem?_eq_getElem hcl,qw _ hc1l,List.getElem?_eq_getElem hc1l,qi (show A.length<9223372036854775807 by omega)]
  have hnew:qqk b.1 ((acc1.set c (iW (iAdd acc1[c] (qT b.1 m x).2))).set (c+1) (iW (iSub (acc1.set c (iW (iAdd acc1[c] (qT b.1 m x).2)))[c+1] (iW (iAdd (qT b.1 m x).1 (qT b.1 m x).2))))):=by
   refine ⟨by rw[List.length_set,List.length_set,h1];exact hal,?_⟩
   rw[qqc _ _ _ hc1l,qqc _ _ _ hcl]
   have d1:=qk9 (iAdd acc1[c] (qT b.1 m x).2)
   have d2:=qk9 (iSub (acc1.set c (iW (iAdd acc1[c] (qT b.1 m x).2)))[c+1] (iW (iAdd (qT b.1 m x).1 (qT b.1 m x).2)))
   have d3:=qk9 (iAdd (qT b.1 m x).1 (qT b.1 m x).2)
   have d4:=ha.2
   unfold iAdd iSub at *
   omega
  obtain ⟨acc',g1,g2⟩:=ih (A++[x]) n' _ (by rw[e];simp) hnew (by simp at hn';omega)
  rw[List.length_append,hce] at g2
  exact ⟨acc',g1,g2⟩
theorem qKE(n:Nat)(b:Bk)(K:Okay b.1)(B:Bnd b.1)(hb:∀m,m∈b.2→m∈b.1.2.1∧m.1=1)(hbl:b.2.length<1000)(hn:2000≤n):∀(Y A:List Msg) (n':Nat) (acc:List Int),b.2=A++Y→qqk b.1 acc→Y.length<n' →
  ∃acc',qqk b.1 acc'∧qb n' (qgs n) (b.1.2.2.1,(b.1.2.2.1+1,(b.2,((b.2.length:Int),((A.length:Int),(b,(acc,())))))))=some (b,(acc',())):=by
 intro Y
 induction Y with
 | nil =>
  intro A n' acc e ha hn'
  obtain ⟨n',rfl⟩:∃j,n'=j+1:=⟨n'-1,by simp at hn';omega⟩
  rw[List.append_nil] at e
  refine ⟨acc,ha,?_⟩
  rw[qc,qih,e]
  simp only[qB,cond_false]
 | cons x Y ih =>
  intro A n' acc e ha hn'
  obtain ⟨n',rfl⟩:∃j,n'=j+1:=⟨n'-1,by simp at hn';omega⟩
  have hlen:b.2.length=A.length+(Y.length+1):=by rw[e,List.length_append,List.length_cons]
  have hlt:A.length<b.2.length:=by omega
  have hx:=hb x (by rw[e];simp)
  have hst:=K.v.st x hx.1
  have hlat:lat b.2 (A.length:Int)=some x:=by rw[e];exact latA A Y x rfl
  rw[qc,qih]
  simp only[qv hlt,cond_true,hlat,Option.bind_some]
  obtain ⟨acc1,h1,h2⟩:=qKD n b K B x hx.1 hx.2 b.2 (b.2.length:Int) (A.length:Int) hn x.2.2.2.2 [] n acc rfl ha (by omega)
  rw[show ((0:Int))=(([]:List Stay).length:Int) from rfl,h2]
  simp only[Option.bind_some,qi (show A.length<9223372036854775807 by omega)]
  obtain ⟨acc',g1,g2⟩:=ih (A++[x]) n' acc1 (by rw[e];simp) h1 (by simp at hn';omega)
  rw[List.length_append] at g2
  exact ⟨acc',g1,g2⟩
theorem qKF(n:Nat)(b:Bk)(K:Okay b.1)(B:Bnd b.1)(hn:2000≤n):∀(Y A:List Work) (n':Nat) (acc:List Int),b.1.2.2.2.2.2.2.2.1=A++Y→qqk b.1 acc→Y.length<n' →
  ∃acc',qqk b.1 acc'∧qb n' (qgt n) (b.1.2.2.2.2.2.2.2.1,((b.1.2.2.2.2.2.2.2.1.length:Int),((A.length:Int),(b,(acc,())))))=some (acc',()):=by
 have hwl:=K.wl
 intro Y
 induction Y with
 | nil =>
  intro A n' acc e ha hn'
  obtain ⟨n',rfl⟩:∃j,n'=j+1:=⟨n'-1,by simp at hn';omega⟩
  rw[List.append_nil] at e
  refine ⟨acc,ha,?_⟩
  rw[qc,qii,e]
  simp only[qB,cond_false]
 | cons x Y ih =>
  intro A n' acc e ha hn'
  obtain ⟨n',rfl⟩:∃j,n'=j+1:=⟨n'-1,by simp at hn';omega⟩
  have hlen:b.1.2.2.2.2.2.2.2.1.length=A.length+(Y.length+1):=by rw[e,List.length_append,List.length_cons]
  have hlt:A.length<b.1.2.2.2.2.2.2.2.1.length:=by omega
  have hxm:x∈b.1.2.2.2.2.2.2.2.1:=by rw[e];simp
  have hx:=K.wo x hxm
  have hw:=qiY (B.wk x hxm).1 (B.wk x hxm).2 B.cr.1 B.cr.2
  have hv:iW (iMul x.2.2 b.1.2.2.2.2.2.2.2.2.2.2.2)=x.2.2*b.1.2.2.2.2.2.2.2.2.2.2.2:=qM (by unfold iMul;omega) (by unfold iMul;omega)
  have hlat:lat b.1.2.2.2.2.2.2.2.1 (A.length:Int)=some x:=by rw[e];exact latA A Y x rfl
  obtain ⟨c,hce⟩:=Int.eq_ofNat_of_zero_le hx.1.1
  have hal:=ha.1
  have hcl:c<acc.length:=by omega
  rw[qc,qii]
  simp only[qv hlt,cond_true,hlat,Option.bind_some,hv,hce,qw _ hcl,Int.toNat_natCast,List.getElem?_eq_getElem hcl,qi (show A.length<9223372036854775807 by omega)]
  generalize x.2.2*b.1.2.2.2.2.2.2.2.2.2.2.2=v at *
  obtain ⟨acc1,h1,h2,h3⟩:=qDf n v x.2.1 (-1) (.inr rfl) b K B (acc.set c (iW (iAdd acc[c] v))) (by omega) (by omega) (by rw[List.length_set];exact hal) hn
  rw[show Int.negSucc 0=(-1:Int) from rfl,h3]
  simp only[Option.bind_some]
  have hnew:qqk b.1 acc1:=by
   refine ⟨by rw[h1,List.length_set];exact hal,?_⟩
   rw[qqc _ _ _ hcl] at h2
   have d1:=qk9 (iAdd acc[c] v)
   have d4:=ha.2
   unfold iAdd at *
   omega
  obtain ⟨acc',g1,g2⟩:=ih (A++[x]) n' acc1 (by rw[e];simp) hnew (by simp at hn';omega)
  rw[List.length_append] at g2
  exact ⟨acc',g1,g2⟩
theorem qCx(n:Nat)(u:Uni)(hs:Small11 u)(K:Okay u)(h:chkU u=0)(hn:5000≤n):∃acc,qqk u acc∧qju n (u,())=some (acc,(0,())):=by
 have B:=qBZ h
 have hc:=K.cl
 have hbl:=quQ u
 have hms:=K.ms
 have hwl:=K.wl
 have hst:=K.v.st
 have e1:iW (iAdd u.2.2.1 2)=u.2.2.1+2:=qM (by unfold iAdd;omega) (by unfold iAdd;omega)
 have e2:iW (iAdd u.2.2.1 1)=u.2.2.1+1:=qM (by unfold iAdd;omega) (by unfold iAdd;omega)
 rw[qpI]
 simp only[qxT n u hs K h hn,Option.bind_some,Sum.elim_inl,qev rfl,cond_false,e1,e2,qcC (qb4 (rfl:u.2.2.1+2=u.2.2.1+2)),qcC (show iMk (u.2.2.1+2)=true by unfold iMk;simp only[Bool.and_eq_true,decide_eq_true_eq];omega)]
 have h0:qqk u (List.replicate (u.2.2.1+2).toNat 0):=by
  refine ⟨by rw[List.length_replicate];omega,?_⟩
  rw[show (List.replicate (u.2.2.1+2).toNat (0:Int)).sum=0 from by simp]
  exact ⟨0,by simp⟩
 obtain ⟨acc1,h1,h2⟩:=qKE n (u,qdd u) K B (fun m hm=>by have:=quP K.v hm;exact ⟨this.2.1,this.2.2.1⟩) (by show (qdd u).length<_;omega) (by omega) (qdd u) [] n _ rfl h0 (by omega)
 obtain ⟨acc2,h3,h4⟩:=qKF n (u,qdd u) K B (by omega) u.2.2.2.2.2.2.2.1 [] n acc1 rfl h1 (by omega)
 refine ⟨acc2,h3,?_⟩
 have h2':qb n (qgs n) (u.2.2.1,(u.2.2.1+1,(qdd u,(((qdd u).length:Int),((0:Int),((u,qdd u),(List.replicate (u.2.2.1+2).toNat 0,())))))))=some ((u,qdd u),(acc1,())):=h2
 have h4':qb n (qgt n) (u.2.2.2.2.2.2.2.1,((u.2.2.2.2.2.2.2.1.length:Int),((0:Int),((u,qdd u),(acc1,())))))=some (acc2,()):=h4
 rw[h2']
 simp only[Option.bind_some]
 rw[h4']
 rfl
set_option maxRecDepth 20000
def qwf(u:Uni):Bool:=farB u.1 u.2.1||(decide (20<u.2.2.2.1.length)||(decide (20<u.2.2.2.2.1.length)||(decide (42<u.2.2.2.2.2.1.length)||(decide (14<u.2.2.2.2.2.2.1.length)||(decide (22<u.2.2.2.2.2.2.2.1.length)||u.2.2.2.2.1.any fun r=>decide (20<r.length))))))
theorem qrG(k j:Nat):iGt (k:Int) (j:Int)=decide (j<k):=by unfold iGt;congr 1;simp
theorem qHD(n:Nat)(u:Uni)(hl:u.2.1.length≤9223372036854775807)(hl2:u.2.2.2.2.1.length≤9223372036854775807)(hn:u.2.1.length<n)(hn2:u.2.2.2.2.1.length<n):qm5 n (u,())=some (qwf u,()):=by
 rw[qt1]
 simp only[qJz n u.1 u.2.1 hl hn,Option.bind_some]
 unfold qwf
 cases farB u.1 u.2.1 with
 | true=>rfl
 | false =>
  simp only[cond_false,Bool.false_or]
  rw[show iGt (u.2.2.2.1.length:Int) 20=decide (20<u.2.2.2.1.length) from qrG _ 20,show iGt (u.2.2.2.2.1.length:Int) 20=decide (20<u.2.2.2.2.1.length) from qrG _ 20,show iGt (u.2.2.2.2.2.1.length:Int) 42=decide (42<u.2.2.2.2.2.1.length) from qrG _ 42,show iGt (u.2.2.2.2.2.2.1.length:Int) 14=decide (14<u.2.2.2.2.2.2.1.length) from qrG _ 14,show iGt (u.2.2.2.2.2.2.2.1.length:Int) 22=decide (22<u.2.2.2.2.2.2.2.1.length) from qrG _ 22]
  have h1:=qm8 (step:=qiU n) u.2.2.2.2.1 (fun k=>((k:Int),(u,()))) (fun r=>decide (20<r.length)) (.inr (true,())) (.inl ()) (fun rec k hk=>by
   rw[qnz]
   simp only[qv hk,cond_true,qw _ hk,Option.bind_some,qi (show k<9223372036854775807 by omega)]
   rw[show iGt ((u.2.2.2.2.1[k]).length:Int) 20=decide (20<(u.2.2.2.2.1[k]).length) from qrG _ 20]) (fun rec=>by
   rw[qnz]
   simp only[qB,cond_false]) (n:=n) hn2
  have h1':qb n (qiU n) ((0:Int),(u,()))=_:=h1
  rw[h1']
  cases decide (20<u.2.2.2.1.length)<;>cases decide (20<u.2.2.2.2.1.length)<;>cases decide (42<u.2.2.2.2.2.1.length)<;>cases decide (14<u.2.2.2.2.2.2.1.length)<;>cases decide (22<u.2.2.2.2.2.2.2.1.length)<;>cases (u.2.2.2.2.1.any fun r=>decide (20<r.length))<;>rfl
theorem qB1{u:Uni}(h:qwf u=false):Small11 u:=by
 unfold qwf at h
 simp only[Bool.or_eq_false_iff,decide_eq_false_iff_not,List.any_eq_false,decide_eq_true_eq] at h
 obtain ⟨h1,h2,h3,h4,h5,h6,h7⟩:=h
 have N:=qFt h1
 exact ⟨N.hu,N.ln,N.st,by omega,by omega,fun r hr=>by have:=h7 r hr;omega,by omega,by omega,by omega⟩
def exU:Uni:=(exC,(exL,(3,([3000,2501],([[60,40,0],[0,33,67]],([(5,(1,1)),(9,(2,0))],([(2,0)],([(0,(1,2))],(40,(50,(150,1000)))))))))))
theorem qAn:Small11 exU:=⟨by decide +kernel,by decide +kernel,by decide +kernel,by decide +kernel,by decide +kernel,by decide +kernel,by decide +kernel,by decide +kernel,by decide +kernel⟩
theorem qDg:chkU exU=0:=by decide +kernel
theorem qFM:qBY exU 5=(7652,(450,(0,()))):=by decide +kernel
theorem qIZ(n:Nat)(hn:5000≤n):qkO n ()=some (true,()):=by
 have K:=qDc qAn (by decide +kernel) qDg
 rw[quN,qru]
 simp only[qKB,Option.bind_some]
 rw[show ((exC,(exL,((3:Int),(((3000:Int)::((2501:Int)::[])),((((60:Int)::((40:Int)::((0:Int)::[])))::(((0:Int)::((33:Int)::((67:Int)::[])))::[])),((((5:Int),((1:Int),(1:Int)))::(((9:Int),((2:Int),(0:Int)))::[])),((((2:Int),(0:Int))::[]),((((0:Int),((1:Int),(2:Int)))::[]),((40:Int),((50:Int),((150:Int),(1000:Int)))))))))))):Uni)=exU from rfl]
 rw[qHA n exU 5 qAn K qDg hn,qFM]
 simp only[Option.bind_some]
 rw[qxf n exC exL qJT (by decide) (by omega),qJU]
 rfl
end Go.Proofs.YtcjcacbhkoainaaGreatDoor
