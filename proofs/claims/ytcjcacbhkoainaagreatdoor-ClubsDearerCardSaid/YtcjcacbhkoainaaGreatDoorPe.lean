/- Texts Dc4, Dc5, Dc6, Dc7, Dc8, Dc9, Dc10, Dc11, Dc12 in one. -/
import Derived.Test.YtcjcacbhkoainaaGreatDoorPd
/- Clubs, plain: a valid union is opened. -/
set_option linter.constructorNameAsVariable false
set_option linter.unusedSimpArgs false
set_option linter.unusedVariables false
set_option linter.unusedSectionVars false
namespace Go.Proofs.YtcjcacbhkoainaaGreatDoor
open Go Go.Proofs Go.RowKit
set_option maxHeartbeats 1000000
structure Okay (u:Uni):Prop where
 v:Vld u.1 u.2.1
 ms:u.2.1.length≤9
 cl:1≤u.2.2.1∧u.2.2.1≤6
 fe:u.2.2.2.1.length=u.1.1.length
 sh:u.2.2.2.2.1.length=u.1.1.length
 rows:∀r,r∈u.2.2.2.2.1→(r.length:Int)=u.2.2.1
 gu:∀g,g∈u.2.2.2.2.2.1→-1≤g.2.1∧g.2.1≤u.2.2.1-1
 ri:∀g,g∈u.2.2.2.2.2.2.1→(0≤g.1∧g.1≤u.2.2.1-1)∧(0≤g.2∧g.2≤u.2.2.1-1)
 wo:∀g,g∈u.2.2.2.2.2.2.2.1→(0≤g.1∧g.1≤u.2.2.1-1)∧(0≤g.2.1∧g.2.1≤(u.1.1.length:Int)-1)
 gl:u.2.2.2.2.2.1.length≤40
 rl:u.2.2.2.2.2.2.1.length≤12
 wl:u.2.2.2.2.2.2.2.1.length≤20
theorem qFa{u:Uni}(hs:Small11 u)(h9:u.2.1.length≤9)(h:chkU u=0):Okay u:=by
 unfold chkU at h
 by_cases hk:chkN u.1 u.2.1=0
 ·rw[if_pos hk] at h
  have hb:uniB u=true:=by
   cases hu:uniB u with
   | true=>rfl
   | false=>rw[hu] at h;exact absurd h (by decide)
  obtain ⟨b1,b2,b3,b4⟩:=qAd hk
  unfold uniB qg9 at hb
  simp only[Bool.and_eq_true,decide_eq_true_eq,List.all_eq_true,qbd] at hb
  obtain ⟨c1,c2,c3,c4,c5,c6,c7,-,c9,c10,c11,-⟩:=hb
  refine ⟨⟨b1,b2,b3,b4,hs.st,hs.hu⟩,h9,c1,c2,c3,?_,?_,?_,?_,c5,c6,c7⟩
  ·intro r hr
   have:=c9 r hr
   unfold rowB at this
   simp only[Bool.and_eq_true,decide_eq_true_eq] at this
   exact this.1
  ·intro g hg
   have:=c4.1 g hg
   unfold qlJ at this
   simp only[Bool.and_eq_true,qbd] at this
   exact this.2.1
  ·intro g hg
   have:=c10 g hg
   unfold qlK qld at this
   simp only[Bool.and_eq_true,qbd] at this
   exact this
  ·intro g hg
   have:=c11 g hg
   unfold qnN qld at this
   simp only[Bool.and_eq_true,qbd] at this
   exact ⟨this.1,this.2.1⟩
 ·rw[if_neg hk] at h;exact absurd h hk
def qlZ(l:List Msg)(i:Int):Msg:=(l.find? fun m=>iEq m.1 1&&iEq m.2.1 i).getD (0,(0,(0,(0,[]))))
theorem qzp{l:List Msg}(M:Msgs l){m:Msg}(hm:m∈l)(h1:m.1=1):qlZ l m.2.1=m:=by
 unfold qlZ
 cases hf:l.find? fun x=>iEq x.1 1&&iEq x.2.1 m.2.1 with
 | none =>
  have:=List.find?_eq_none.1 hf m hm
  rw[qcv h1,qcv rfl] at this
  exact absurd rfl this
 | some x =>
  have hx:=List.find?_some hf
  have hm':=List.mem_of_find?_eq_some hf
  simp only[Bool.and_eq_true,iEq] at hx
  exact M.cl x m hm' hm (eq_of_beq hx.2) (by rw[eq_of_beq hx.1,h1])
theorem qDT(l:List Msg)(p:Msg→Bool){k:Nat}(hk:k<l.length)(h1:p l[k]=true)(h2:(l.take k).any p=false):l.find? p=some l[k]:=by
 induction l generalizing k with
 | nil=>exact absurd hk (Nat.not_lt_zero _)
 | cons x l ih =>
  cases k with
  | zero=>exact List.find?_cons_of_pos h1
  | succ k =>
   rw[List.take_succ_cons,List.any_cons,Bool.or_eq_false_iff] at h2
   rw[List.find?_cons_of_neg (by rw[h2.1];decide)]
   exact ih (Nat.lt_of_succ_lt_succ hk) h1 h2.2
def qmy(u:Uni):List Msg:=(accL u.1 u.2.1).map (qlZ u.2.1)
theorem qxc{u:Uni}(V:Vld u.1 u.2.1){i:Int}(h:i∈accL u.1 u.2.1):∃m,m∈qik u.2.1∧m∈u.2.1∧m.1=1∧m.2.1=i∧qlZ u.2.1 i=m:=by
 obtain ⟨m,hm,rfl⟩:=qzj.1 h
 have hq:m∈qik u.2.1:=qoG.2 (qzi.1 (.inl hm))
 exact ⟨m,hq,(qnL.1 hq).1,qvF V.msgs hq,rfl,qzp V.msgs (qnL.1 hq).1 (qvF V.msgs hq)⟩
theorem qCv(n:Nat)(l:List Msg)(i:Int)(hl:l.length≤1000)(hn:2000≤n) :
  (l.any (fun m=>iEq m.1 1&&iEq m.2.1 i)=false∧qbX n (l,(i,()))=some (-1,(i,()))) ∨
  (∃k,∃hk:k<l.length,l[k]=qlZ l i∧qbX n (l,(i,()))=some ((k:Int),(i,()))):=by
 rw[qiI]
 have h1:=qeb (step:=qcO n) l (fun k=>(l,((l.length:Int),((k:Int),(i,()))))) (fun m=>iEq m.1 1&&iEq m.2.1 i) (fun k=>.inr ((k:Int),(i,()))) (.inl (i,())) (fun rec k hk=>by
  rw[qeC]
  simp only[qK hk,cond_true,qS l hk,Option.bind_some,quc,qy (show k<9223372036854775807 by omega)]
  cases iEq l[k].1 1<;>cases iEq l[k].2.1 i<;>rfl) (fun rec=>by
  rw[qeC]
  simp only[qQ,cond_false]) (n:=n) (by omega)
 rcases h1 with ⟨h1,h2⟩ | ⟨k,hk,h1,h3,h2⟩
 ·refine .inl ⟨h1,?_⟩
  show Option.bind (qb n _ (l,((l.length:Int),(((0:Nat):Int),(i,()))))) _=_
  rw[h2];rfl
 ·refine .inr ⟨k,hk,?_,?_⟩
  ·unfold qlZ
   rw[qDT l _ hk h1 h3];rfl
  ·show Option.bind (qb n _ (l,((l.length:Int),(((0:Nat):Int),(i,()))))) _=_
   rw[h2];rfl
theorem qAm(c:Chn)(l:List Msg):(accL c l).length≤l.length:=by
 have:=qze c l
 unfold accL
 rw[(qi6 _ _).length_eq,List.length_map]
 omega
theorem qDU(n:Nat)(u:Uni)(hs:Small11 u)(hk:Okay u)(h:chkU u=0)(hn:5000≤n):qhj n (u,())=some (.inl (0,(u,(qmy u,())))):=by
 have hl:=qAm u.1 u.2.1
 have h9:=hk.ms
 rw[qqi]
 simp only[qCu n u hs hn,Option.bind_some,h,qdY rfl,cond_false,qzJ n u.1 u.2.1 hk.v (by omega) (by omega)]
 have h1:=qlX (step:=qnH n) (accL u.1 u.2.1) (fun k (b:List Msg)=>(accL u.1 u.2.1,(((accL u.1 u.2.1).length:Int),((k:Int),(u,(u,(b,()))))))) (fun b i=>b++[qlZ u.2.1 i]) [] (fun b=>(u,(b,()))) (fun rec k b hk' hb=>by
  have hbl:b.length≤9:=by
   have:∀(l:List Int) (b:List Msg),(l.foldl (fun b i=>b++[qlZ u.2.1 i]) b).length=b.length+l.length:=by
    intro l
    induction l with
    | nil=>intro b;rfl
    | cons x l ih=>intro b;rw[List.foldl_cons,ih];simp;omega
   rw[hb,this,List.length_take];simp;omega
  rw[qoY]
  simp only[qK hk',cond_true,qS _ hk',Option.bind_some]
  obtain ⟨m,_,hm,h1m,hi,_⟩:=qxc hk.v (List.getElem_mem hk')
  rcases qCv n u.2.1 (accL u.1 u.2.1)[k] (by omega) (by omega) with ⟨hno,_⟩ | ⟨j,hj,hj2,he⟩
  ·have:=List.any_eq_false.1 hno m hm
   rw[qcv h1m,qcv hi] at this
   exact absurd rfl this
  ·simp only[he,Option.bind_some,qS _ hj,hj2]
   rw[qdI (by rw[Nat.ble_eq];show b.length+1≤_;omega)]
   simp only[Option.bind_some,qy (show k<9223372036854775807 by omega)]
   rfl) (fun rec b=>by
  rw[qoY]
  simp only[qQ,cond_false]) (n:=n) (by omega)
 rw[show (accL u.1 u.2.1,(((accL u.1 u.2.1).length:Int),((0:Int),(u,(u,(([]:List Msg),()))))))=(accL u.1 u.2.1,(((accL u.1 u.2.1).length:Int),(((0:Nat):Int),(u,(u,(([]:List Msg),())))))) from rfl,h1]
 have:∀(l:List Int) (b:List Msg),l.foldl (fun b i=>b++[qlZ u.2.1 i]) b=b++l.map (qlZ u.2.1):=by
  intro l
  induction l with
  | nil=>intro b;simp
  | cons x l ih=>intro b;rw[List.foldl_cons,ih];simp
 rw[this]
 rfl
abbrev Bk:=Uni×(List Msg)
def payV(l:List qjA)(i:Int):qjA:=(l.find? fun g=>iEq g.1 i).getD (i,(-1,0))
theorem qDV(n:Nat)(i:Int)(b:Bk)(hl:b.1.2.2.2.2.2.1.length≤1000)(hn:2000≤n):qjT n (i,(b,()))=some (payV b.1.2.2.2.2.2.1 i,(b,())):=by
 rw[qqj]
 have h1:=qeb (step:=qiH n) b.1.2.2.2.2.2.1 (fun k=>(i,(b.1.2.2.2.2.2.1,((b.1.2.2.2.2.2.1.length:Int),((k:Int),(b,(((0:Int),((0:Int),(0:Int))),()))))))) (fun g=>iEq g.1 i) (fun k=>.inr (b,((b.1.2.2.2.2.2.1[k]?).getD (0,(0,0)),()))) (.inl (i,(b,(((0:Int),((0:Int),(0:Int))),())))) (fun rec k hk=>by
  rw[qkB]
  simp only[qK hk,cond_true,qS _ hk,Option.bind_some,qy (show k<9223372036854775807 by omega),List.getElem?_eq_getElem hk,Option.getD_some]) (fun rec=>by
  rw[qkB]
  simp only[qQ,cond_false]) (n:=n) (by omega)
 unfold payV
 rcases h1 with ⟨h1,h2⟩ | ⟨k,hk,h1,h3,h2⟩
 ·rw[List.find?_eq_none.2 (fun x hx=>by have:=List.any_eq_false.1 h1 x hx;simpa using this)]
  show Option.bind (qb n _ (i,(b.1.2.2.2.2.2.1,((b.1.2.2.2.2.2.1.length:Int),(((0:Nat):Int),(b,(((0:Int),((0:Int),(0:Int))),()))))))) _=_
  rw[h2];rfl
 ·have hf:List.find? (fun g=>iEq g.1 i) b.1.2.2.2.2.2.1=some b.1.2.2.2.2.2.1[k]:=by
   have:∀(l:List qjA) (k:Nat) (hk:k<l.length),iEq l[k].1 i=true→(l.take k).any (fun g=>iEq g.1 i)=false→List.find? (fun g=>iEq g.1 i) l=some l[k]:=by
    intro l
    induction l with
    | nil=>intro k hk;exact absurd hk (Nat.not_lt_zero _)
    | cons x l ih =>
     intro k hk a c
     cases k with
     | zero=>exact List.find?_cons_of_pos a
     | succ k =>
      rw[List.take_succ_cons,List.any_cons,Bool.or_eq_false_iff] at c
      rw[List.find?_cons_of_neg (by rw[c.1];decide)]
      exact ih k (Nat.lt_of_succ_lt_succ hk) a c.2
   exact this _ k hk h1 h3
  rw[hf]
  show Option.bind (qb n _ (i,(b.1.2.2.2.2.2.1,((b.1.2.2.2.2.2.1.length:Int),(((0:Nat):Int),(b,(((0:Int),((0:Int),(0:Int))),()))))))) _=_
  rw[h2,List.getElem?_eq_getElem hk];rfl
def ownV(sh:List (List Int))(c h:Int):Bool:=iNe (((sh[h.toNat]?).getD [])[c.toNat]?.getD 0) 0
theorem qAn(n:Nat)(c h:Int)(b:Bk)(K:Okay b.1)(hc:0≤c∧c≤b.1.2.2.1-1)(hh:0≤h∧h<b.1.1.1.length):qhF n (c,(h,(b,())))=some (ownV b.1.2.2.2.2.1 c h,(b,())):=by
 rw[qqA]
 obtain ⟨j,rfl⟩:=Int.eq_ofNat_of_zero_le hh.1
 obtain ⟨i,rfl⟩:=Int.eq_ofNat_of_zero_le hc.1
 have hj:j<b.1.2.2.2.2.1.length:=by rw[K.sh];omega
 have hr:=K.rows _ (List.getElem_mem hj)
 have hi:i<(b.1.2.2.2.2.1[j]).length:=by omega
 unfold ownV
 simp only[qS _ hj,Option.bind_some,qS _ hi,Int.toNat_natCast,List.getElem?_eq_getElem hj,Option.getD_some,List.getElem?_eq_getElem hi]
def entV(u:Uni)(c h:Int):Bool:=cond (iLt c 0) false (ownV u.2.2.2.2.1 c h||u.2.2.2.2.2.2.1.any fun r=>iEq r.1 c&&ownV u.2.2.2.2.1 r.2 h)
theorem qzL(n:Nat)(c h:Int)(b:Bk)(K:Okay b.1)(hc:-1≤c∧c≤b.1.2.2.1-1)(hh:0≤h∧h<b.1.1.1.length)(hn:2000≤n):qif n (c,(h,(b,())))=some (entV b.1 c h,(b,())):=by
 have hrl:=K.rl
 rw[qoZ]
 unfold entV
 cases hc0:iLt c 0 with
 | true=>rfl
 | false =>
  have h0:0≤c:=by unfold iLt at hc0;simpa using hc0
  simp only[hc0,cond_false,qAn n c h b K ⟨h0,hc.2⟩ hh,Option.bind_some]
  cases ownV b.1.2.2.2.2.1 c h with
  | true=>rfl
  | false =>
   simp only[cond_false,Bool.false_or]
   rw[qgd,qgD]
   have h1:=qeb (step:=qbW n) b.1.2.2.2.2.2.2.1 (fun k=>(b.1.2.2.2.2.2.2.1,((b.1.2.2.2.2.2.2.1.length:Int),((k:Int),(c,(b,(h,()))))))) (fun r=>iEq r.1 c&&ownV b.1.2.2.2.2.1 r.2 h) (fun k=>.inr ((k:Int),(c,(b,(h,()))))) (.inl (c,(b,(h,())))) (fun rec k hk=>by
    rw[qc6]
    have hr:=K.ri _ (List.getElem_mem hk)
    simp only[qK hk,cond_true,qS _ hk,Option.bind_some,qnW,qy (show k<9223372036854775807 by omega),qAn n _ h b K hr.2 hh]
    cases iEq (b.1.2.2.2.2.2.2.1[k]).1 c<;>cases ownV b.1.2.2.2.2.1 (b.1.2.2.2.2.2.2.1[k]).2 h<;>rfl) (fun rec=>by
    rw[qc6]
    simp only[qQ,cond_false]) (n:=n) (by omega)
   rcases h1 with ⟨h1,h2⟩ | ⟨k,hk,h1,_,h2⟩
   ·rw[h1]
    show Option.bind (Option.bind (Option.bind (qb n _ (b.1.2.2.2.2.2.2.1,((b.1.2.2.2.2.2.2.1.length:Int),(((0:Nat):Int),(c,(b,(h,()))))))) _) _) _=_
    rw[h2];rfl
   ·rw[show (b.1.2.2.2.2.2.2.1.any fun r=>iEq r.1 c&&ownV b.1.2.2.2.2.1 r.2 h)=true from List.any_eq_true.2 ⟨_,List.getElem_mem hk,h1⟩]
    show Option.bind (Option.bind (Option.bind (qb n _ (b.1.2.2.2.2.2.2.1,((b.1.2.2.2.2.2.2.1.length:Int),(((0:Nat):Int),(c,(b,(h,()))))))) _) _) _=_
    rw[h2]
    show some (iGe (k:Int) 0,(b,()))=_
    simp[iGe]
def upV(x p:Int):Int:=iW (Int.tdiv (iW (iAdd (iW (iMul x p)) 99)) 100)
theorem qGb(n:Nat)(x p:Int):qnI n (x,(p,()))=some (upV x p,()):=by
 rw[qx4];rfl
def qbf(u:Uni)(m:Msg)(s:Stay):Int×Int :=
 let g:=payV u.2.2.2.2.2.1 m.2.1
 let f:=(u.2.2.2.1[s.1.toNat]?).getD 0
 let nts:=iW (iAdd (iW (iSub s.2.2 s.2.1)) 1)
 let kids:=iMin g.2.2 m.2.2.2.1
 let big:=iW (iSub m.2.2.2.1 kids)
 let pr:=cond (entV u g.2.1 s.1) (upV f (iW (iSub 100 u.2.2.2.2.2.2.2.2.1))) f
 (iW (iMul nts (iW (iAdd (iW (iMul big pr)) (iW (iMul kids (upV pr u.2.2.2.2.2.2.2.2.2.1)))))),iW (iMul (iW (iMul nts big)) u.2.2.2.2.2.2.2.2.2.2.1))
theorem qCw{u:Uni}(K:Okay u)(i:Int):-1≤(payV u.2.2.2.2.2.1 i).2.1∧(payV u.2.2.2.2.2.1 i).2.1≤u.2.2.1-1:=by
 unfold payV
 cases hf:u.2.2.2.2.2.1.find? fun g=>iEq g.1 i with
 | none=>have:=K.cl;exact ⟨Int.le_refl _,by show (-1:Int)≤_;omega⟩
 | some g=>exact K.gu g (List.mem_of_find?_eq_some hf)
theorem qFb(n:Nat)(m:Msg)(s:Stay)(b:Bk)(K:Okay b.1)(hh:0≤s.1∧s.1<b.1.1.1.length)(hn:2000≤n):qkp n (m,(s,(b,())))=some ((qbf b.1 m s).1,((qbf b.1 m s).2,(b,()))):=by
 have hgl:=K.gl
 rw[qqB]
 obtain ⟨s1,s2⟩:=s
 obtain ⟨j,rfl⟩:=Int.eq_ofNat_of_zero_le hh.1
 have hj:j<b.1.2.2.2.1.length:=by rw[K.fe];have:=hh.2;show j<_;omega
 unfold qbf
 simp only[qDV n m.2.1 b (by omega) hn,Option.bind_some,qS _ hj,qzL n _ _ b K (qCw K m.2.1) hh hn,Int.toNat_natCast,List.getElem?_eq_getElem hj,Option.getD_some,qGb]
 cases entV b.1 (payV b.1.2.2.2.2.2.1 m.2.1).2.1 (j:Int)<;>rfl
def quj(u:Uni)(m:Msg)(p:Int×Int)(s:Stay):Int×Int:=(iW (iAdd p.1 (qbf u m s).1),iW (iAdd p.2 (qbf u m s).2))
def qwy(u:Uni)(m:Msg):Int×Int:=m.2.2.2.2.foldl (quj u m) (0,0)
def qdG(u:Uni)(i:Int):Int×(Int×(Int×Unit)):=if i∈accL u.1 u.2.1 then ((qwy u (qlZ u.2.1 i)).1,((qwy u (qlZ u.2.1 i)).2,(0,()))) else (0,(0,(3,())))
theorem qsa{u:Uni}(V:Vld u.1 u.2.1){m:Msg}(hm:m∈u.2.1)(h1:m.1=1){s:Stay}(hs:s∈m.2.2.2.2):0≤s.1∧s.1<u.1.1.length:=by
 have:=qoz (qo3 (V.ms m hm) (by omega)) (Int.le_refl _) s hs
 omega
theorem qA6(n:Nat)(l:List Msg)(i:Int)(hl:l.length≤1000)(hn:2000≤n) :
  ((∀m,m∈l→m.2.1≠i)∧qbO n (l,(i,()))=some (-1,(i,()))) ∨
  (∃k,∃hk:k<l.length,l[k].2.1=i∧qbO n (l,(i,()))=some ((k:Int),(i,()))):=by
 rw[qiu]
 have h1:=qeb (step:=qcG n) l (fun k=>(l,((l.length:Int),((k:Int),(i,()))))) (fun m=>iEq m.2.1 i) (fun k=>.inr ((k:Int),(i,()))) (.inl (i,())) (fun rec k hk=>by
  rw[qep]
  simp only[qK hk,cond_true,qS l hk,Option.bind_some,qtp,qy (show k<9223372036854775807 by omega)]) (fun rec=>by
  rw[qep]
  simp only[qQ,cond_false]) (n:=n) (by omega)
 rcases h1 with ⟨h1,h2⟩ | ⟨k,hk,h1,h3,h2⟩
 ·refine .inl ⟨fun m hm e=>?_,?_⟩
  ·have:=List.any_eq_false.1 h1 m hm
   rw[qcv e] at this
   exact this rfl
  ·show Option.bind (qb n _ (l,((l.length:Int),(((0:Nat):Int),(i,()))))) _=_
   rw[h2];rfl
 ·refine .inr ⟨k,hk,eq_of_beq h1,?_⟩
  show Option.bind (qb n _ (l,((l.length:Int),(((0:Nat):Int),(i,()))))) _=_
  rw[h2];rfl
theorem qDW{u:Uni}(V:Vld u.1 u.2.1){m:Msg}(h:m∈qmy u):m.2.1∈accL u.1 u.2.1∧m∈u.2.1∧m.1=1∧qlZ u.2.1 m.2.1=m∧m∈qik u.2.1:=by
 obtain ⟨i,hi,rfl⟩:=List.mem_map.1 h
 obtain ⟨m,hq,hm,h1,rfl,he⟩:=qxc V hi
 rw[he]
 exact ⟨hi,hm,h1,he,hq⟩
theorem qDX{u:Uni}(V:Vld u.1 u.2.1){i:Int}(h:i∈accL u.1 u.2.1):∃m,m∈qmy u∧m.2.1=i:=by
 obtain ⟨m,_,_,_,hi,he⟩:=qxc V h
 exact ⟨m,List.mem_map.2 ⟨i,h,he⟩,hi⟩
theorem qDY(u:Uni):(qmy u).length≤u.2.1.length:=by
 unfold qmy
 rw[List.length_map]
 exact qAm _ _
theorem qvG(n:Nat)(u:Uni)(i:Int)(hs:Small11 u)(K:Okay u)(h:chkU u=0)(hn:5000≤n):qhk n (u,(i,()))=some (qdG u i):=by
 have hl:=qDY u
 have h9:=K.ms
 rw[qvz]
 simp only[qDU n u hs K h hn,Option.bind_some,Sum.elim_inl,qdY rfl,cond_false]
 unfold qdG
 rcases qA6 n (qmy u) i (by omega) (by omega) with ⟨hno,he⟩ | ⟨k,hk,hi,he⟩
 ·rw[if_neg (fun hm=>by obtain ⟨m,h1,h2⟩:=qDX K.v hm;exact hno m h1 h2)]
  simp only[he,Option.bind_some]
  rfl
 ·obtain ⟨b1,b2,b3,b4,-⟩:=qDW K.v (List.getElem_mem hk)
  have hst:=K.v.st _ b2
  have hin:∀s,s∈((qmy u)[k]).2.2.2.2→0≤s.1∧s.1<u.1.1.length:=fun s hs=>qsa K.v b2 b3 hs
  rw[hi] at b1 b4
  rw[if_pos b1,b4]
  simp only[he,Option.bind_some,show iLt (k:Int) 0=false from decide_eq_false (by omega),cond_false,qS _ hk]
  generalize hm:(qmy u)[k]=m at *
  have h1:=qlX (step:=qnJ n) m.2.2.2.2 (fun j (p:Int×Int)=>(p.1,(p.2,((k:Int),(m.2.2.2.2,((m.2.2.2.2.length:Int),((j:Int),((u,qmy u),())))))))) (quj u m) (0,0) (fun p=>(p.1,(p.2,()))) (fun rec j p hj _=>by
   rw[qo0]
   simp only[qK hj,cond_true,qS _ hj,qS _ hk,hm,Option.bind_some,qFb n m _ (u,qmy u) K (hin _ (List.getElem_mem hj)) (by omega),qy (show j<9223372036854775807 by omega)]
   rfl) (fun rec p=>by
   rw[qo0]
   simp only[qQ,cond_false]) (n:=n) (by omega)
  rw[show ((0:Int),((0:Int),((k:Int),(m.2.2.2.2,((m.2.2.2.2.length:Int),((0:Int),((u,qmy u),())))))))=(((0,0):Int×Int).1,(((0,0):Int×Int).2,((k:Int),(m.2.2.2.2,((m.2.2.2.2.length:Int),(((0:Nat):Int),((u,qmy u),()))))))) from rfl,h1]
  rfl
theorem qmz{a b A B:Int}(h1:0≤a)(h2:a≤A)(h3:0≤b)(h4:b≤B):0≤a*b∧a*b≤A*B :=
 ⟨Int.mul_nonneg h1 h3,Int.le_trans (Int.mul_le_mul_of_nonneg_right h2 h3) (Int.mul_le_mul_of_nonneg_left h4 (by omega))⟩
structure Bnd (u:Uni):Prop where
 fe:∀f,f∈u.2.2.2.1→0≤f∧f≤100000
 ro:∀r,r∈u.2.2.2.2.1→(∀x,x∈r→0≤x∧x≤100)∧r.sum=100
 gk:∀g,g∈u.2.2.2.2.2.1→0≤g.2.2∧g.2.2≤20
 wk:∀w,w∈u.2.2.2.2.2.2.2.1→0≤w.2.2∧w.2.2≤20
 me:0≤u.2.2.2.2.2.2.2.2.1∧u.2.2.2.2.2.2.2.2.1≤100
 ch:0≤u.2.2.2.2.2.2.2.2.2.1∧u.2.2.2.2.2.2.2.2.2.1≤100
 cr:0≤u.2.2.2.2.2.2.2.2.2.2.2∧u.2.2.2.2.2.2.2.2.2.2.2≤100000
theorem qsb{u:Uni}(h:chkU u=0):Bnd u:=by
 unfold chkU at h
 by_cases hk:chkN u.1 u.2.1=0
 ·rw[if_pos hk] at h
  have hb:uniB u=true:=by
   cases hu:uniB u with
   | true=>rfl
   | false=>rw[hu] at h;exact absurd h (by decide)
  unfold uniB qg9 at hb
  simp only[Bool.and_eq_true,decide_eq_true_eq,List.all_eq_true,qbd] at hb
  obtain ⟨c1,c2,c3,c4,c5,c6,c7,c8,c9,c10,c11,c12,c13,c14,c15⟩:=hb
  refine ⟨c8,?_,?_,?_,c12,c13,c15⟩
  ·intro r hr
   have:=c9 r hr
   unfold rowB shB at this
   simp only[Bool.and_eq_true,decide_eq_true_eq,List.all_eq_true,qbd] at this
   exact this.2
  ·intro g hg
   have:=c4.1 g hg
   unfold qlJ at this
   simp only[Bool.and_eq_true,qbd] at this
   exact this.2.2
  ·intro g hg
   have:=c11 g hg
   unfold qnN qld at this
   simp only[Bool.and_eq_true,qbd] at this
   exact this.2.2
 ·rw[if_neg hk] at h;exact absurd h hk
theorem qsc{x p:Int}(hx:0≤x∧x≤200000)(hp:0≤p∧p≤100):0≤upV x p∧upV x p≤x+1∧upV x p=(x*p+99)/100:=by
 have h:=qmz hx.1 hx.2 hp.1 hp.2
 have h2:x*p≤x*100:=Int.mul_le_mul_of_nonneg_left hp.2 hx.1
 unfold upV
 have e:iW (iAdd (iW (iMul x p)) 99)=x*p+99:=by
  rw[show iW (iMul x p)=x*p from qZ (by unfold iMul;omega) (by unfold iMul;omega)]
  exact qZ (by unfold iAdd;omega) (by unfold iAdd;omega)
 rw[e,Int.tdiv_eq_ediv_of_nonneg (by omega),qZ (by omega) (by omega)]
 omega
theorem qDZ{u:Uni}(K:Okay u)(b:Bnd u){m:Msg}(hm:m∈u.2.1)(h1:m.1=1){s:Stay}(hs:s∈m.2.2.2.2):0≤(qbf u m s).1∧(qbf u m s).1≤1000000000000:=by
 have hst:=qoz (qo3 (K.v.ms m hm) (by omega)) (Int.le_refl _) s hs
 have hnn:u.1.2≤20:=by
  have:=K.v.ch
  unfold qdm at this
  simp only[Bool.and_eq_true,qbd] at this
  exact this.2.2.2
 have hpe:1≤m.2.2.2.1∧m.2.2.2.1≤20:=by
  have:=K.v.ms m hm
  unfold mesB canB reqB at this
  rw[show decide (m.1=2)=false from decide_eq_false (by omega)] at this
  simp only[Bool.false_and,Bool.false_or,Bool.and_eq_true,qbd] at this
  exact this.2.2.2.1
 have hfe:0≤(u.2.2.2.1[s.1.toNat]?).getD 0∧(u.2.2.2.1[s.1.toNat]?).getD 0≤100000:=by
  cases hf:u.2.2.2.1[s.1.toNat]? with
  | none=>exact ⟨Int.le_refl _,by show (0:Int)≤_;omega⟩
  | some f=>exact b.fe f (List.mem_of_getElem? hf)
 have hg:0≤(payV u.2.2.2.2.2.1 m.2.1).2.2∧(payV u.2.2.2.2.2.1 m.2.1).2.2≤20:=by
  unfold payV
  cases hf:u.2.2.2.2.2.1.find? fun g=>iEq g.1 m.2.1 with
  | none=>exact ⟨Int.le_refl _,by show (0:Int)≤_;omega⟩
  | some g=>exact b.gk g (List.mem_of_find?_eq_some hf)
 unfold qbf
 simp only
 generalize (u.2.2.2.1[s.1.toNat]?).getD 0=f at *
 generalize (payV u.2.2.2.2.2.1 m.2.1).2.2=g at *
 generalize entV u _ s.1=en
 have hk:0≤iMin g m.2.2.2.1∧iMin g m.2.2.2.1≤20∧iMin g m.2.2.2.1≤m.2.2.2.1:=by
  unfold iMin;split<;>omega
 generalize iMin g m.2.2.2.1=kd at *
 have hnts:iW (iAdd (iW (iSub s.2.2 s.2.1)) 1)=s.2.2-s.2.1+1:=by
  rw[show iW (iSub s.2.2 s.2.1)=s.2.2-s.2.1 from qZ (by unfold iSub;omega) (by unfold iSub;omega)]
  exact qZ (by unfold iAdd;omega) (by unfold iAdd;omega)
 have hbig:iW (iSub m.2.2.2.1 kd)=m.2.2.2.1-kd:=qZ (by unfold iSub;omega) (by unfold iSub;omega)
 have hme:=b.me
 have h100:iW (iSub 100 u.2.2.2.2.2.2.2.2.1)=100-u.2.2.2.2.2.2.2.2.1:=qZ (by unfold iSub;omega) (by unfold iSub;omega)
 rw[hnts,hbig,h100]
 have hup:=qsc (x:=f) (p:=100-u.2.2.2.2.2.2.2.2.1) (by omega) (by omega)
 have hpr:0≤cond en (upV f (100-u.2.2.2.2.2.2.2.2.1)) f∧cond en (upV f (100-u.2.2.2.2.2.2.2.2.1)) f≤100001:=by
  cases en<;>simp only[cond_true,cond_false]<;>omega
 generalize cond en (upV f (100-u.2.2.2.2.2.2.2.2.1)) f=pr at *
 have hch:=qsc (x:=pr) (p:=u.2.2.2.2.2.2.2.2.2.1) (by omega) b.ch
 generalize upV pr u.2.2.2.2.2.2.2.2.2.1=up at *
 have p1:=qmz (a:=m.2.2.2.1-kd) (b:=pr) (A:=20) (B:=100001) (by omega) (by omega) hpr.1 hpr.2
 have p2:=qmz (a:=kd) (b:=up) (A:=20) (B:=100002) (by omega) (by omega) hch.1 (by omega)
 have e3:iW (iAdd (iW (iMul (m.2.2.2.1-kd) pr)) (iW (iMul kd up)))=(m.2.2.2.1-kd)*pr+kd*up:=by
  rw[show iW (iMul (m.2.2.2.1-kd) pr)=(m.2.2.2.1-kd)*pr from qZ (by unfold iMul;omega) (by unfold iMul;omega),show iW (iMul kd up)=kd*up from qZ (by unfold iMul;omega) (by unfold iMul;omega)]
  exact qZ (by unfold iAdd;omega) (by unfold iAdd;omega)
 rw[e3]
 have p3:=qmz (a:=s.2.2-s.2.1+1) (b:=(m.2.2.2.1-kd)*pr+kd*up) (A:=20) (B:=4000060) (by omega) (by omega) (by omega) (by omega)
 rw[show iW (iMul (s.2.2-s.2.1+1) ((m.2.2.2.1-kd)*pr+kd*up))=(s.2.2-s.2.1+1)*((m.2.2.2.1-kd)*pr+kd*up) from qZ (by unfold iMul;omega) (by unfold iMul;omega)]
 omega
set_option maxRecDepth 20000
def qqo(u:Uni):Bool:=farB u.1 u.2.1||(decide (20<u.2.2.2.1.length)||(decide (20<u.2.2.2.2.1.length)||(decide (42<u.2.2.2.2.2.1.length)||(decide (14<u.2.2.2.2.2.2.1.length)||(decide (22<u.2.2.2.2.2.2.2.1.length)||u.2.2.2.2.1.any fun r=>decide (20<r.length))))))
theorem qpN(k j:Nat):iGt (k:Int) (j:Int)=decide (j<k):=by unfold iGt;congr 1;simp
theorem qD0(n:Nat)(u:Uni)(hl:u.2.1.length≤9223372036854775807)(hl2:u.2.2.2.2.1.length≤9223372036854775807)(hn:u.2.1.length<n)(hn2:u.2.2.2.2.1.length<n):qlH n (u,())=some (qqo u,()):=by
 rw[qr5]
 simp only[qFt n u.1 u.2.1 hl hn,Option.bind_some]
 unfold qqo
 cases farB u.1 u.2.1 with
 | true=>rfl
 | false =>
  simp only[cond_false,Bool.false_or]
  rw[show iGt (u.2.2.2.1.length:Int) 20=decide (20<u.2.2.2.1.length) from qpN _ 20,show iGt (u.2.2.2.2.1.length:Int) 20=decide (20<u.2.2.2.2.1.length) from qpN _ 20,show iGt (u.2.2.2.2.2.1.length:Int) 42=decide (42<u.2.2.2.2.2.1.length) from qpN _ 42,show iGt (u.2.2.2.2.2.2.1.length:Int) 14=decide (14<u.2.2.2.2.2.2.1.length) from qpN _ 14,show iGt (u.2.2.2.2.2.2.2.1.length:Int) 22=decide (22<u.2.2.2.2.2.2.2.1.length) from qpN _ 22]
  have h1:=qlI (step:=qhG n) u.2.2.2.2.1 (fun k=>((k:Int),(u,()))) (fun r=>decide (20<r.length)) (.inr (true,())) (.inl ()) (fun rec k hk=>by
   rw[ql8]
   simp only[qK hk,cond_true,qS _ hk,Option.bind_some,qy (show k<9223372036854775807 by omega)]
   rw[show iGt ((u.2.2.2.2.1[k]).length:Int) 20=decide (20<(u.2.2.2.2.1[k]).length) from qpN _ 20]) (fun rec=>by
   rw[ql8]
   simp only[qQ,cond_false]) (n:=n) hn2
  have h1':qb n (qhG n) ((0:Int),(u,()))=_:=h1
  rw[h1']
  cases decide (20<u.2.2.2.1.length)<;>cases decide (20<u.2.2.2.2.1.length)<;>cases decide (42<u.2.2.2.2.2.1.length)<;>cases decide (14<u.2.2.2.2.2.2.1.length)<;>cases decide (22<u.2.2.2.2.2.2.2.1.length)<;>cases (u.2.2.2.2.1.any fun r=>decide (20<r.length))<;>rfl
theorem quk{u:Uni}(h:qqo u=false):Small11 u:=by
 unfold qqo at h
 simp only[Bool.or_eq_false_iff,decide_eq_false_iff_not,List.any_eq_false,decide_eq_true_eq] at h
 obtain ⟨h1,h2,h3,h4,h5,h6,h7⟩:=h
 have N:=qCh h1
 exact ⟨N.hu,N.ln,N.st,by omega,by omega,fun r hr=>by have:=h7 r hr;omega,by omega,by omega,by omega⟩
theorem qD1(n:Nat)(l:List Msg)(hl:l.length≤1000)(hs:∀m,m∈l→m.2.2.2.2.length≤1000)(hn:2000≤n):qkN n (l,())=some (l,()):=by
 rw[qrm]
 have h:=qlX (step:=qjQ n) l (fun k b=>(l,((k:Int),(b,())))) (fun b m=>b++[m]) [] (fun b=>(b,())) (fun rec k b hk hb=>by
  have hb2:b=l.take k:=by
   have:=qnM (fun m:Msg=>m) (l.take k) []
   rw[hb,this];simp
  have hbl:b.length≤k:=by rw[hb2];simp;omega
  have hst:=hs l[k] (List.getElem_mem hk)
  rw[qlF]
  simp only[qK hk,cond_true,qS l hk,Option.bind_some,qy (show k<9223372036854775807 by omega)]
  rw[qdI (by rw[Nat.ble_eq];unfold nAdd;omega)]
  simp only[Option.bind_some]
  rw[qdI (by rw[Nat.ble_eq];unfold nAdd;omega)]
  rfl) (fun rec b=>by
  rw[qlF]
  simp only[qQ,cond_false]) (n:=n) (by omega)
 show Option.bind (qb n _ (l,(((0:Nat):Int),([],())))) _=_
 have h2:=qnM (fun m:Msg=>m) l []
 rw[h,h2]
 simp
theorem qD2(n:Nat)(c:Chn)(hl:c.1.length≤1000):qh9 n (c,())=some (c,()):=by
 rw[qoW,qdI (by rw[Nat.ble_eq];unfold nAdd;show 0+c.1.length≤_;omega)]
 rfl
end Go.Proofs.YtcjcacbhkoainaaGreatDoor
