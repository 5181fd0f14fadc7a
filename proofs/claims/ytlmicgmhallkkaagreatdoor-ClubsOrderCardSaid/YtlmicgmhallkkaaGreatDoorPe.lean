/- Texts Dc4, Dc5, Dc6, Dc7, Dc8, Dc9, Dc10, Dc11, Dc12 in one. -/
import Derived.Test.YtlmicgmhallkkaaGreatDoorPd
/- Clubs, plain: a valid union is opened. -/
set_option linter.constructorNameAsVariable false
set_option linter.unusedSimpArgs false
set_option linter.unusedVariables false
set_option linter.unusedSectionVars false
namespace Go.Proofs.YtlmicgmhallkkaaGreatDoor
open Go Go.Proofs Go.RowKit
set_option maxHeartbeats 1000000
structure Okay (u:Uni):Prop where
 v:Vld u.1 u.2.1
 ms:u.2.1.length≤9
 cl:1≤u.2.2.1∧u.2.2.1≤6
 fe:u.2.2.2.1.length=u.1.1.length
 sh:u.2.2.2.2.1.length=u.1.1.length
 rows:∀r,r∈u.2.2.2.2.1→(r.length:Int)=u.2.2.1
 gu:∀g,g∈u.2.2.2.2.2.1→-1≤g.2.1∧g.2.1≤u.2.2.1-1
 ri:∀g,g∈u.2.2.2.2.2.2.1→(0≤g.1∧g.1≤u.2.2.1-1)∧(0≤g.2∧g.2≤u.2.2.1-1)
 wo:∀g,g∈u.2.2.2.2.2.2.2.1→(0≤g.1∧g.1≤u.2.2.1-1)∧(0≤g.2.1∧g.2.1≤(u.1.1.length:Int)-1)
 gl:u.2.2.2.2.2.1.length≤40
 rl:u.2.2.2.2.2.2.1.length≤12
 wl:u.2.2.2.2.2.2.2.1.length≤20
theorem qG0{u:Uni}(hs:Small11 u)(h9:u.2.1.length≤9)(h:chkU u=0):Okay u:=by
 unfold chkU at h
 by_cases hk:chkN u.1 u.2.1=0
 ·rw[if_pos hk] at h
  have hb:uniB u=true:=by
   cases hu:uniB u with
   | true=>rfl
   | false=>rw[hu] at h;exact absurd h (by decide)
  obtain ⟨b1,b2,b3,b4⟩:=qBS hk
  unfold uniB qgv at hb
  simp only[Bool.and_eq_true,decide_eq_true_eq,List.all_eq_true,qca] at hb
  obtain ⟨c1,c2,c3,c4,c5,c6,c7,-,c9,c10,c11,-⟩:=hb
  refine ⟨⟨b1,b2,b3,b4,hs.st,hs.hu⟩,h9,c1,c2,c3,?_,?_,?_,?_,c5,c6,c7⟩
  ·intro r hr
   have:=c9 r hr
   unfold rowB at this
   simp only[Bool.and_eq_true,decide_eq_true_eq] at this
   exact this.1
  ·intro g hg
   have:=c4.1 g hg
   unfold qmB at this
   simp only[Bool.and_eq_true,qca] at this
   exact this.2.1
  ·intro g hg
   have:=c10 g hg
   unfold qmC ql4 at this
   simp only[Bool.and_eq_true,qca] at this
   exact this
  ·intro g hg
   have:=c11 g hg
   unfold qoP ql4 at this
   simp only[Bool.and_eq_true,qca] at this
   exact ⟨this.1,this.2.1⟩
 ·rw[if_neg hk] at h;exact absurd h hk
def qgs(l:List Msg)(i:Int):Msg:=(l.find? fun m=>iEq m.1 1&&iEq m.2.1 i).getD (0,(0,(0,(0,[]))))
theorem qwX{l:List Msg}(M:Msgs l){m:Msg}(hm:m∈l)(h1:m.1=1):qgs l m.2.1=m:=by
 unfold qgs
 cases hf:l.find? fun x=>iEq x.1 1&&iEq x.2.1 m.2.1 with
 | none =>
  have:=List.find?_eq_none.1 hf m hm
  rw[qcg h1,qcg rfl] at this
  exact absurd rfl this
 | some x =>
  have hx:=List.find?_some hf
  have hm':=List.mem_of_find?_eq_some hf
  simp only[Bool.and_eq_true,iEq] at hx
  exact M.cl x m hm' hm (eq_of_beq hx.2) (by rw[eq_of_beq hx.1,h1])
theorem qFH(l:List Msg)(p:Msg→Bool){k:Nat}(hk:k<l.length)(h1:p l[k]=true)(h2:(l.take k).any p=false):l.find? p=some l[k]:=by
 induction l generalizing k with
 | nil=>exact absurd hk (Nat.not_lt_zero _)
 | cons x l ih =>
  cases k with
  | zero=>exact List.find?_cons_of_pos h1
  | succ k =>
   rw[List.take_succ_cons,List.any_cons,Bool.or_eq_false_iff] at h2
   rw[List.find?_cons_of_neg (by rw[h2.1];decide)]
   exact ih (Nat.lt_of_succ_lt_succ hk) h1 h2.2
def qcK(u:Uni):List Msg:=(accL u.1 u.2.1).map (qgs u.2.1)
theorem qyB{u:Uni}(V:Vld u.1 u.2.1){i:Int}(h:i∈accL u.1 u.2.1):∃m,m∈qh7 u.2.1∧m∈u.2.1∧m.1=1∧m.2.1=i∧qgs u.2.1 i=m:=by
 obtain ⟨m,hm,rfl⟩:=qAR.1 h
 have hq:m∈qh7 u.2.1:=qpO.2 (qAQ.1 (.inl hm))
 exact ⟨m,hq,(qoO.1 hq).1,qwV V.msgs hq,rfl,qwX V.msgs (qoO.1 hq).1 (qwV V.msgs hq)⟩
theorem qEd(n:Nat)(l:List Msg)(i:Int)(hl:l.length≤1000)(hn:2000≤n) :
  (l.any (fun m=>iEq m.1 1&&iEq m.2.1 i)=false∧qb0 n (l,(i,()))=some (-1,(i,()))) ∨
  (∃k,∃hk:k<l.length,l[k]=qgs l i∧qb0 n (l,(i,()))=some ((k:Int),(i,()))):=by
 rw[qjp]
 have h1:=qdl (step:=qcW n) l (fun k=>(l,((l.length:Int),((k:Int),(i,()))))) (fun m=>iEq m.1 1&&iEq m.2.1 i) (fun k=>.inr ((k:Int),(i,()))) (.inl (i,())) (fun rec k hk=>by
  rw[qe1]
  simp only[qu hk,cond_true,qA l hk,Option.bind_some,qvt,qj (show k<9223372036854775807 by omega)]
  cases iEq l[k].1 1<;>cases iEq l[k].2.1 i<;>rfl) (fun rec=>by
  rw[qe1]
  simp only[qw,cond_false]) (n:=n) (by omega)
 rcases h1 with ⟨h1,h2⟩ | ⟨k,hk,h1,h3,h2⟩
 ·refine .inl ⟨h1,?_⟩
  show Option.bind (qb n _ (l,((l.length:Int),(((0:Nat):Int),(i,()))))) _=_
  rw[h2];rfl
 ·refine .inr ⟨k,hk,?_,?_⟩
  ·unfold qgs
   rw[qFH l _ hk h1 h3];rfl
  ·show Option.bind (qb n _ (l,((l.length:Int),(((0:Nat):Int),(i,()))))) _=_
   rw[h2];rfl
theorem qB1(c:Chn)(l:List Msg):(accL c l).length≤l.length:=by
 have:=qAN c l
 unfold accL
 rw[(qjQ _ _).length_eq,List.length_map]
 omega
theorem qwY(n:Nat)(u:Uni)(hs:Small11 u)(hk:Okay u)(h:chkU u=0)(hn:5000≤n):qgE n (u,())=some (.inl (0,(u,(qcK u,())))):=by
 have hl:=qB1 u.1 u.2.1
 have h9:=hk.ms
 rw[qnE]
 simp only[qzn n u hs hn,Option.bind_some,h,qd1 rfl,cond_false,qBn n u.1 u.2.1 hk.v (by omega) (by omega)]
 have h1:=qhk (step:=qoJ n) (accL u.1 u.2.1) (fun k (b:List Msg)=>(accL u.1 u.2.1,(((accL u.1 u.2.1).length:Int),((k:Int),(u,(u,(b,()))))))) (fun b i=>b++[qgs u.2.1 i]) [] (fun b=>(u,(b,()))) (fun rec k b hk' hb=>by
  have hbl:b.length≤9:=by
   have:∀(l:List Int) (b:List Msg),(l.foldl (fun b i=>b++[qgs u.2.1 i]) b).length=b.length+l.length:=by
    intro l
    induction l with
    | nil=>intro b;rfl
    | cons x l ih=>intro b;rw[List.foldl_cons,ih];simp;omega
   rw[hb,this,List.length_take];simp;omega
  rw[qp7]
  simp only[qu hk',cond_true,qA _ hk',Option.bind_some]
  obtain ⟨m,_,hm,h1m,hi,_⟩:=qyB hk.v (List.getElem_mem hk')
  rcases qEd n u.2.1 (accL u.1 u.2.1)[k] (by omega) (by omega) with ⟨hno,_⟩ | ⟨j,hj,hj2,he⟩
  ·have:=List.any_eq_false.1 hno m hm
   rw[qcg h1m,qcg hi] at this
   exact absurd rfl this
  ·simp only[he,Option.bind_some,qA _ hj,hj2]
   rw[qbe (by rw[Nat.ble_eq];show b.length+1≤_;omega)]
   simp only[Option.bind_some,qj (show k<9223372036854775807 by omega)]
   rfl) (fun rec b=>by
  rw[qp7]
  simp only[qw,cond_false]) (n:=n) (by omega)
 rw[show (accL u.1 u.2.1,(((accL u.1 u.2.1).length:Int),((0:Int),(u,(u,(([]:List Msg),()))))))=(accL u.1 u.2.1,(((accL u.1 u.2.1).length:Int),(((0:Nat):Int),(u,(u,(([]:List Msg),())))))) from rfl,h1]
 have:∀(l:List Int) (b:List Msg),l.foldl (fun b i=>b++[qgs u.2.1 i]) b=b++l.map (qgs u.2.1):=by
  intro l
  induction l with
  | nil=>intro b;simp
  | cons x l ih=>intro b;rw[List.foldl_cons,ih];simp
 rw[this]
 rfl
theorem qEe(n:Nat)(u:Uni)(hs:Small11 u)(h:chkU u≠0)(hn:5000≤n):qgE n (u,())=some (.inr (chkU u,())):=by
 rw[qnE]
 simp only[qzn n u hs hn,Option.bind_some,qgS h,cond_true]
abbrev Bk:=Uni×(List Msg)
def payV(l:List qdP)(i:Int):qdP:=(l.find? fun g=>iEq g.1 i).getD (i,(-1,0))
theorem qFI(n:Nat)(i:Int)(b:Bk)(hl:b.1.2.2.2.2.2.1.length≤1000)(hn:2000≤n):qkz n (i,(b,()))=some (payV b.1.2.2.2.2.2.1 i,(b,())):=by
 rw[qrv]
 have h1:=qdl (step:=qjo n) b.1.2.2.2.2.2.1 (fun k=>(i,(b.1.2.2.2.2.2.1,((b.1.2.2.2.2.2.1.length:Int),((k:Int),(b,(((0:Int),((0:Int),(0:Int))),()))))))) (fun g=>iEq g.1 i) (fun k=>.inr (b,((b.1.2.2.2.2.2.1[k]?).getD (0,(0,0)),()))) (.inl (i,(b,(((0:Int),((0:Int),(0:Int))),())))) (fun rec k hk=>by
  rw[qll]
  simp only[qu hk,cond_true,qA _ hk,Option.bind_some,qj (show k<9223372036854775807 by omega),List.getElem?_eq_getElem hk,Option.getD_some]) (fun rec=>by
  rw[qll]
  simp only[qw,cond_false]) (n:=n) (by omega)
 unfold payV
 rcases h1 with ⟨h1,h2⟩ | ⟨k,hk,h1,h3,h2⟩
 ·rw[List.find?_eq_none.2 (fun x hx=>by have:=List.any_eq_false.1 h1 x hx;simpa using this)]
  show Option.bind (qb n _ (i,(b.1.2.2.2.2.2.1,((b.1.2.2.2.2.2.1.length:Int),(((0:Nat):Int),(b,(((0:Int),((0:Int),(0:Int))),()))))))) _=_
  rw[h2];rfl
 ·have hf:List.find? (fun g=>iEq g.1 i) b.1.2.2.2.2.2.1=some b.1.2.2.2.2.2.1[k]:=by
   have:∀(l:List qdP) (k:Nat) (hk:k<l.length),iEq l[k].1 i=true→(l.take k).any (fun g=>iEq g.1 i)=false→List.find? (fun g=>iEq g.1 i) l=some l[k]:=by
    intro l
    induction l with
    | nil=>intro k hk;exact absurd hk (Nat.not_lt_zero _)
    | cons x l ih =>
     intro k hk a c
     cases k with
     | zero=>exact List.find?_cons_of_pos a
     | succ k =>
      rw[List.take_succ_cons,List.any_cons,Bool.or_eq_false_iff] at c
      rw[List.find?_cons_of_neg (by rw[c.1];decide)]
      exact ih k (Nat.lt_of_succ_lt_succ hk) a c.2
   exact this _ k hk h1 h3
  rw[hf]
  show Option.bind (qb n _ (i,(b.1.2.2.2.2.2.1,((b.1.2.2.2.2.2.1.length:Int),(((0:Nat):Int),(b,(((0:Int),((0:Int),(0:Int))),()))))))) _=_
  rw[h2,List.getElem?_eq_getElem hk];rfl
def ownV(sh:List (List Int))(c h:Int):Bool:=iNe (((sh[h.toNat]?).getD [])[c.toNat]?.getD 0) 0
theorem qB2(n:Nat)(c h:Int)(b:Bk)(K:Okay b.1)(hc:0≤c∧c≤b.1.2.2.1-1)(hh:0≤h∧h<b.1.1.1.length):qii n (c,(h,(b,())))=some (ownV b.1.2.2.2.2.1 c h,(b,())):=by
 rw[qrP]
 obtain ⟨j,rfl⟩:=Int.eq_ofNat_of_zero_le hh.1
 obtain ⟨i,rfl⟩:=Int.eq_ofNat_of_zero_le hc.1
 have hj:j<b.1.2.2.2.2.1.length:=by rw[K.sh];omega
 have hr:=K.rows _ (List.getElem_mem hj)
 have hi:i<(b.1.2.2.2.2.1[j]).length:=by omega
 unfold ownV
 simp only[qA _ hj,Option.bind_some,qA _ hi,Int.toNat_natCast,List.getElem?_eq_getElem hj,Option.getD_some,List.getElem?_eq_getElem hi]
def entV(u:Uni)(c h:Int):Bool:=cond (iLt c 0) false (ownV u.2.2.2.2.1 c h||u.2.2.2.2.2.2.1.any fun r=>iEq r.1 c&&ownV u.2.2.2.2.1 r.2 h)
theorem qBp(n:Nat)(c h:Int)(b:Bk)(K:Okay b.1)(hc:-1≤c∧c≤b.1.2.2.1-1)(hh:0≤h∧h<b.1.1.1.length)(hn:2000≤n):qiR n (c,(h,(b,())))=some (entV b.1 c h,(b,())):=by
 have hrl:=K.rl
 rw[qp8]
 unfold entV
 cases hc0:iLt c 0 with
 | true=>rfl
 | false =>
  have h0:0≤c:=by unfold iLt at hc0;simpa using hc0
  simp only[hc0,cond_false,qB2 n c h b K ⟨h0,hc.2⟩ hh,Option.bind_some]
  cases ownV b.1.2.2.2.2.1 c h with
  | true=>rfl
  | false =>
   simp only[cond_false,Bool.false_or]
   rw[qgN,qhh]
   have h1:=qdl (step:=qbZ n) b.1.2.2.2.2.2.2.1 (fun k=>(b.1.2.2.2.2.2.2.1,((b.1.2.2.2.2.2.2.1.length:Int),((k:Int),(c,(b,(h,()))))))) (fun r=>iEq r.1 c&&ownV b.1.2.2.2.2.1 r.2 h) (fun k=>.inr ((k:Int),(c,(b,(h,()))))) (.inl (c,(b,(h,())))) (fun rec k hk=>by
    rw[qdf]
    have hr:=K.ri _ (List.getElem_mem hk)
    simp only[qu hk,cond_true,qA _ hk,Option.bind_some,qoY,qj (show k<9223372036854775807 by omega),qB2 n _ h b K hr.2 hh]
    cases iEq (b.1.2.2.2.2.2.2.1[k]).1 c<;>cases ownV b.1.2.2.2.2.1 (b.1.2.2.2.2.2.2.1[k]).2 h<;>rfl) (fun rec=>by
    rw[qdf]
    simp only[qw,cond_false]) (n:=n) (by omega)
   rcases h1 with ⟨h1,h2⟩ | ⟨k,hk,h1,_,h2⟩
   ·rw[h1]
    show Option.bind (Option.bind (Option.bind (qb n _ (b.1.2.2.2.2.2.2.1,((b.1.2.2.2.2.2.2.1.length:Int),(((0:Nat):Int),(c,(b,(h,()))))))) _) _) _=_
    rw[h2];rfl
   ·rw[show (b.1.2.2.2.2.2.2.1.any fun r=>iEq r.1 c&&ownV b.1.2.2.2.2.1 r.2 h)=true from List.any_eq_true.2 ⟨_,List.getElem_mem hk,h1⟩]
    show Option.bind (Option.bind (Option.bind (qb n _ (b.1.2.2.2.2.2.2.1,((b.1.2.2.2.2.2.2.1.length:Int),(((0:Nat):Int),(c,(b,(h,()))))))) _) _) _=_
    rw[h2]
    show some (iGe (k:Int) 0,(b,()))=_
    simp[iGe]
def upV(x p:Int):Int:=iW (Int.tdiv (iW (iAdd (iW (iMul x p)) 99)) 100)
theorem qGk(n:Nat)(x p:Int):qjM n (x,(p,()))=some (upV x p,()):=by
 rw[qzA];rfl
def qbA(u:Uni)(m:Msg)(s:Stay):Int×Int :=
 let g:=payV u.2.2.2.2.2.1 m.2.1
 let f:=(u.2.2.2.1[s.1.toNat]?).getD 0
 let nts:=iW (iAdd (iW (iSub s.2.2 s.2.1)) 1)
 let kids:=iMin g.2.2 m.2.2.2.1
 let big:=iW (iSub m.2.2.2.1 kids)
 let pr:=cond (entV u g.2.1 s.1) (upV f (iW (iSub 100 u.2.2.2.2.2.2.2.2.1))) f
 (iW (iMul nts (iW (iAdd (iW (iMul big pr)) (iW (iMul kids (upV pr u.2.2.2.2.2.2.2.2.2.1)))))),iW (iMul (iW (iMul nts big)) u.2.2.2.2.2.2.2.2.2.2.1))
theorem qzo{u:Uni}(K:Okay u)(i:Int):-1≤(payV u.2.2.2.2.2.1 i).2.1∧(payV u.2.2.2.2.2.1 i).2.1≤u.2.2.1-1:=by
 unfold payV
 cases hf:u.2.2.2.2.2.1.find? fun g=>iEq g.1 i with
 | none=>have:=K.cl;exact ⟨Int.le_refl _,by show (-1:Int)≤_;omega⟩
 | some g=>exact K.gu g (List.mem_of_find?_eq_some hf)
theorem qB3(n:Nat)(m:Msg)(s:Stay)(b:Bk)(K:Okay b.1)(hh:0≤s.1∧s.1<b.1.1.1.length)(hn:2000≤n):qij n (m,(s,(b,())))=some ((qbA b.1 m s).1,((qbA b.1 m s).2,(b,()))):=by
 have hgl:=K.gl
 rw[qrQ]
 obtain ⟨s1,s2⟩:=s
 obtain ⟨j,rfl⟩:=Int.eq_ofNat_of_zero_le hh.1
 have hj:j<b.1.2.2.2.1.length:=by rw[K.fe];have:=hh.2;show j<_;omega
 unfold qbA
 simp only[qFI n m.2.1 b (by omega) hn,Option.bind_some,qA _ hj,qBp n _ _ b K (qzo K m.2.1) hh hn,Int.toNat_natCast,List.getElem?_eq_getElem hj,Option.getD_some,qGk]
 cases entV b.1 (payV b.1.2.2.2.2.2.1 m.2.1).2.1 (j:Int)<;>rfl
def qAX(u:Uni)(m:Msg)(p:Int×Int)(s:Stay):Int×Int:=(iW (iAdd p.1 (qbA u m s).1),iW (iAdd p.2 (qbA u m s).2))
def qvA(u:Uni)(m:Msg):Int×Int:=m.2.2.2.2.foldl (qAX u m) (0,0)
def qvB(u:Uni)(i:Int):Int×(Int×(Int×Unit)):=if i∈accL u.1 u.2.1 then ((qvA u (qgs u.2.1 i)).1,((qvA u (qgs u.2.1 i)).2,(0,()))) else (0,(0,(3,())))
theorem qyC{u:Uni}(V:Vld u.1 u.2.1){m:Msg}(hm:m∈u.2.1)(h1:m.1=1){s:Stay}(hs:s∈m.2.2.2.2):0≤s.1∧s.1<u.1.1.length:=by
 have:=qwW (qzk (V.ms m hm) (by omega)) (Int.le_refl _) s hs
 omega
theorem qCP(n:Nat)(l:List Msg)(i:Int)(hl:l.length≤1000)(hn:2000≤n) :
  ((∀m,m∈l→m.2.1≠i)∧qbR n (l,(i,()))=some (-1,(i,()))) ∨
  (∃k,∃hk:k<l.length,l[k].2.1=i∧qbR n (l,(i,()))=some ((k:Int),(i,()))):=by
 rw[qja]
 have h1:=qdl (step:=qcP n) l (fun k=>(l,((l.length:Int),((k:Int),(i,()))))) (fun m=>iEq m.2.1 i) (fun k=>.inr ((k:Int),(i,()))) (.inl (i,())) (fun rec k hk=>by
  rw[qeM]
  simp only[qu hk,cond_true,qA l hk,Option.bind_some,quJ,qj (show k<9223372036854775807 by omega)]) (fun rec=>by
  rw[qeM]
  simp only[qw,cond_false]) (n:=n) (by omega)
 rcases h1 with ⟨h1,h2⟩ | ⟨k,hk,h1,h3,h2⟩
 ·refine .inl ⟨fun m hm e=>?_,?_⟩
  ·have:=List.any_eq_false.1 h1 m hm
   rw[qcg e] at this
   exact this rfl
  ·show Option.bind (qb n _ (l,((l.length:Int),(((0:Nat):Int),(i,()))))) _=_
   rw[h2];rfl
 ·refine .inr ⟨k,hk,eq_of_beq h1,?_⟩
  show Option.bind (qb n _ (l,((l.length:Int),(((0:Nat):Int),(i,()))))) _=_
  rw[h2];rfl
theorem qwZ{u:Uni}(V:Vld u.1 u.2.1){m:Msg}(h:m∈qcK u):m.2.1∈accL u.1 u.2.1∧m∈u.2.1∧m.1=1∧qgs u.2.1 m.2.1=m∧m∈qh7 u.2.1:=by
 obtain ⟨i,hi,rfl⟩:=List.mem_map.1 h
 obtain ⟨m,hq,hm,h1,rfl,he⟩:=qyB V hi
 rw[he]
 exact ⟨hi,hm,h1,he,hq⟩
theorem qFJ{u:Uni}(V:Vld u.1 u.2.1){i:Int}(h:i∈accL u.1 u.2.1):∃m,m∈qcK u∧m.2.1=i:=by
 obtain ⟨m,_,_,_,hi,he⟩:=qyB V h
 exact ⟨m,List.mem_map.2 ⟨i,h,he⟩,hi⟩
theorem qw0(u:Uni):(qcK u).length≤u.2.1.length:=by
 unfold qcK
 rw[List.length_map]
 exact qB1 _ _
theorem qAY(n:Nat)(u:Uni)(i:Int)(hs:Small11 u)(K:Okay u)(h:chkU u=0)(hn:5000≤n):qns n (u,(i,()))=some (qvB u i):=by
 have hl:=qw0 u
 have h9:=K.ms
 rw[qwP]
 simp only[qwY n u hs K h hn,Option.bind_some,Sum.elim_inl,qd1 rfl,cond_false]
 unfold qvB
 rcases qCP n (qcK u) i (by omega) (by omega) with ⟨hno,he⟩ | ⟨k,hk,hi,he⟩
 ·rw[if_neg (fun hm=>by obtain ⟨m,h1,h2⟩:=qFJ K.v hm;exact hno m h1 h2)]
  simp only[he,Option.bind_some]
  rfl
 ·obtain ⟨b1,b2,b3,b4,-⟩:=qwZ K.v (List.getElem_mem hk)
  have hst:=K.v.st _ b2
  have hin:∀s,s∈((qcK u)[k]).2.2.2.2→0≤s.1∧s.1<u.1.1.length:=fun s hs=>qyC K.v b2 b3 hs
  rw[hi] at b1 b4
  rw[if_pos b1,b4]
  simp only[he,Option.bind_some,show iLt (k:Int) 0=false from decide_eq_false (by omega),cond_false,qA _ hk]
  generalize hm:(qcK u)[k]=m at *
  have h1:=qhk (step:=qoK n) m.2.2.2.2 (fun j (p:Int×Int)=>(p.1,(p.2,((k:Int),(m.2.2.2.2,((m.2.2.2.2.length:Int),((j:Int),((u,qcK u),())))))))) (qAX u m) (0,0) (fun p=>(p.1,(p.2,()))) (fun rec j p hj _=>by
   rw[qp9]
   simp only[qu hj,cond_true,qA _ hj,qA _ hk,hm,Option.bind_some,qB3 n m _ (u,qcK u) K (hin _ (List.getElem_mem hj)) (by omega),qj (show j<9223372036854775807 by omega)]
   rfl) (fun rec p=>by
   rw[qp9]
   simp only[qw,cond_false]) (n:=n) (by omega)
  rw[show ((0:Int),((0:Int),((k:Int),(m.2.2.2.2,((m.2.2.2.2.length:Int),((0:Int),((u,qcK u),())))))))=(((0,0):Int×Int).1,(((0,0):Int×Int).2,((k:Int),(m.2.2.2.2,((m.2.2.2.2.length:Int),(((0:Nat):Int),((u,qcK u),()))))))) from rfl,h1]
  rfl
theorem qtr(x:Int):(18446744073709551616:Int)∣iW x-x:=by
 unfold iW Go.IntKind.wrap
 simp[Go.IntKind.bits,Go.IntKind.signed]
 omega
theorem qzN(x:Int):-9223372036854775808≤iW x∧iW x≤9223372036854775807:=by
 unfold iW Go.IntKind.wrap
 simp[Go.IntKind.bits,Go.IntKind.signed]
 split<;>omega
theorem quc{a b A B:Int}(h1:0≤a)(h2:a≤A)(h3:0≤b)(h4:b≤B):0≤a*b∧a*b≤A*B :=
 ⟨Int.mul_nonneg h1 h3,Int.le_trans (Int.mul_le_mul_of_nonneg_right h2 h3) (Int.mul_le_mul_of_nonneg_left h4 (by omega))⟩
def InR(L:Nat)(d:List Int):Prop:=∀x,x∈d→0≤x∧x<L
def qS(a x:Int):Int:=a*x/100
theorem qCQ{a x:Int}(ha:0≤a∧a≤1000000000000)(hx:0≤x∧x≤100):0≤qS a x∧qS a x≤1000000000000∧100*qS a x≤a*x∧a*x<100*qS a x+100∧iW (Int.tdiv (iW (iMul a x)) 100)=qS a x:=by
 have h:=quc ha.1 ha.2 hx.1 hx.2
 unfold qS
 have e:iW (iMul a x)=a*x:=qbg (by unfold iMul;omega) (by unfold iMul;omega)
 rw[e,Int.tdiv_eq_ediv_of_nonneg h.1]
 refine ⟨by omega,by omega,by omega,by omega,qbg (by omega) (by omega)⟩
theorem qyD{a:Int}(ha:0≤a∧a≤1000000000000):∀(l:List Int),(∀x,x∈l→0≤x∧x≤100)→0≤(l.map (qS a)).sum∧(l.map (qS a)).sum≤1000000000000*l.length∧100*(l.map (qS a)).sum≤a*l.sum∧a*l.sum≤100*(l.map (qS a)).sum+99*l.length
 | [],_=>by simp
 | x::l,h=>by
  have:=qyD ha l fun y hy=>h y (List.mem_cons_of_mem _ hy)
  have hq:=qCQ ha (h x List.mem_cons_self)
  rw[List.map_cons,List.sum_cons,List.sum_cons,List.length_cons,Int.mul_add a x l.sum]
  omega
theorem latA{α:Type}(A B:List α)(x:α){k:Nat}(h:A.length=k):lat (A++x::B) (k:Int)=some x:=by
 subst h;rw[qiv];simp
theorem getA{α:Type}(A B:List α)(x:α){k:Nat}(h:A.length=k):(A++x::B)[k]?=some x:=by
 subst h;simp
theorem setA{α:Type}(A B:List α)(x y:α){k:Nat}(h:A.length=k):(A++x::B).set k y=A++y::B:=by
 subst h;simp
structure Bnd (u:Uni):Prop where
 fe:∀f,f∈u.2.2.2.1→0≤f∧f≤100000
 ro:∀r,r∈u.2.2.2.2.1→(∀x,x∈r→0≤x∧x≤100)∧r.sum=100
 gk:∀g,g∈u.2.2.2.2.2.1→0≤g.2.2∧g.2.2≤20
 wk:∀w,w∈u.2.2.2.2.2.2.2.1→0≤w.2.2∧w.2.2≤20
 me:0≤u.2.2.2.2.2.2.2.2.1∧u.2.2.2.2.2.2.2.2.1≤100
 ch:0≤u.2.2.2.2.2.2.2.2.2.1∧u.2.2.2.2.2.2.2.2.2.1≤100
 cr:0≤u.2.2.2.2.2.2.2.2.2.2.2∧u.2.2.2.2.2.2.2.2.2.2.2≤100000
theorem qEf{u:Uni}(h:chkU u=0):Bnd u:=by
 unfold chkU at h
 by_cases hk:chkN u.1 u.2.1=0
 ·rw[if_pos hk] at h
  have hb:uniB u=true:=by
   cases hu:uniB u with
   | true=>rfl
   | false=>rw[hu] at h;exact absurd h (by decide)
  unfold uniB qgv at hb
  simp only[Bool.and_eq_true,decide_eq_true_eq,List.all_eq_true,qca] at hb
  obtain ⟨c1,c2,c3,c4,c5,c6,c7,c8,c9,c10,c11,c12,c13,c14,c15⟩:=hb
  refine ⟨c8,?_,?_,?_,c12,c13,c15⟩
  ·intro r hr
   have:=c9 r hr
   unfold rowB shB at this
   simp only[Bool.and_eq_true,decide_eq_true_eq,List.all_eq_true,qca] at this
   exact this.2
  ·intro g hg
   have:=c4.1 g hg
   unfold qmB at this
   simp only[Bool.and_eq_true,qca] at this
   exact this.2.2
  ·intro g hg
   have:=c11 g hg
   unfold qoP ql4 at this
   simp only[Bool.and_eq_true,qca] at this
   exact this.2.2
 ·rw[if_neg hk] at h;exact absurd h hk
theorem qEg{x p:Int}(hx:0≤x∧x≤200000)(hp:0≤p∧p≤100):0≤upV x p∧upV x p≤x+1∧upV x p=(x*p+99)/100:=by
 have h:=quc hx.1 hx.2 hp.1 hp.2
 have h2:x*p≤x*100:=Int.mul_le_mul_of_nonneg_left hp.2 hx.1
 unfold upV
 have e:iW (iAdd (iW (iMul x p)) 99)=x*p+99:=by
  rw[show iW (iMul x p)=x*p from qbg (by unfold iMul;omega) (by unfold iMul;omega)]
  exact qbg (by unfold iAdd;omega) (by unfold iAdd;omega)
 rw[e,Int.tdiv_eq_ediv_of_nonneg (by omega),qbg (by omega) (by omega)]
 omega
theorem qw1{u:Uni}(K:Okay u)(b:Bnd u){m:Msg}(hm:m∈u.2.1)(h1:m.1=1){s:Stay}(hs:s∈m.2.2.2.2):0≤(qbA u m s).1∧(qbA u m s).1≤1000000000000:=by
 have hst:=qwW (qzk (K.v.ms m hm) (by omega)) (Int.le_refl _) s hs
 have hnn:u.1.2≤20:=by
  have:=K.v.ch
  unfold qew at this
  simp only[Bool.and_eq_true,qca] at this
  exact this.2.2.2
 have hpe:1≤m.2.2.2.1∧m.2.2.2.1≤20:=by
  have:=K.v.ms m hm
  unfold mesB canB reqB at this
  rw[show decide (m.1=2)=false from decide_eq_false (by omega)] at this
  simp only[Bool.false_and,Bool.false_or,Bool.and_eq_true,qca] at this
  exact this.2.2.2.1
 have hfe:0≤(u.2.2.2.1[s.1.toNat]?).getD 0∧(u.2.2.2.1[s.1.toNat]?).getD 0≤100000:=by
  cases hf:u.2.2.2.1[s.1.toNat]? with
  | none=>exact ⟨Int.le_refl _,by show (0:Int)≤_;omega⟩
  | some f=>exact b.fe f (List.mem_of_getElem? hf)
 have hg:0≤(payV u.2.2.2.2.2.1 m.2.1).2.2∧(payV u.2.2.2.2.2.1 m.2.1).2.2≤20:=by
  unfold payV
  cases hf:u.2.2.2.2.2.1.find? fun g=>iEq g.1 m.2.1 with
  | none=>exact ⟨Int.le_refl _,by show (0:Int)≤_;omega⟩
  | some g=>exact b.gk g (List.mem_of_find?_eq_some hf)
 unfold qbA
 simp only
 generalize (u.2.2.2.1[s.1.toNat]?).getD 0=f at *
 generalize (payV u.2.2.2.2.2.1 m.2.1).2.2=g at *
 generalize entV u _ s.1=en
 have hk:0≤iMin g m.2.2.2.1∧iMin g m.2.2.2.1≤20∧iMin g m.2.2.2.1≤m.2.2.2.1:=by
  unfold iMin;split<;>omega
 generalize iMin g m.2.2.2.1=kd at *
 have hnts:iW (iAdd (iW (iSub s.2.2 s.2.1)) 1)=s.2.2-s.2.1+1:=by
  rw[show iW (iSub s.2.2 s.2.1)=s.2.2-s.2.1 from qbg (by unfold iSub;omega) (by unfold iSub;omega)]
  exact qbg (by unfold iAdd;omega) (by unfold iAdd;omega)
 have hbig:iW (iSub m.2.2.2.1 kd)=m.2.2.2.1-kd:=qbg (by unfold iSub;omega) (by unfold iSub;omega)
 have hme:=b.me
 have h100:iW (iSub 100 u.2.2.2.2.2.2.2.2.1)=100-u.2.2.2.2.2.2.2.2.1:=qbg (by unfold iSub;omega) (by unfold iSub;omega)
 rw[hnts,hbig,h100]
 have hup:=qEg (x:=f) (p:=100-u.2.2.2.2.2.2.2.2.1) (by omega) (by omega)
 have hpr:0≤cond en (upV f (100-u.2.2.2.2.2.2.2.2.1)) f∧cond en (upV f (100-u.2.2.2.2.2.2.2.2.1)) f≤100001:=by
  cases en<;>simp only[cond_true,cond_false]<;>omega
 generalize cond en (upV f (100-u.2.2.2.2.2.2.2.2.1)) f=pr at *
 have hch:=qEg (x:=pr) (p:=u.2.2.2.2.2.2.2.2.2.1) (by omega) b.ch
 generalize upV pr u.2.2.2.2.2.2.2.2.2.1=up at *
 have p1:=quc (a:=m.2.2.2.1-kd) (b:=pr) (A:=20) (B:=100001) (by omega) (by omega) hpr.1 hpr.2
 have p2:=quc (a:=kd) (b:=up) (A:=20) (B:=100002) (by omega) (by omega) hch.1 (by omega)
 have e3:iW (iAdd (iW (iMul (m.2.2.2.1-kd) pr)) (iW (iMul kd up)))=(m.2.2.2.1-kd)*pr+kd*up:=by
  rw[show iW (iMul (m.2.2.2.1-kd) pr)=(m.2.2.2.1-kd)*pr from qbg (by unfold iMul;omega) (by unfold iMul;omega),show iW (iMul kd up)=kd*up from qbg (by unfold iMul;omega) (by unfold iMul;omega)]
  exact qbg (by unfold iAdd;omega) (by unfold iAdd;omega)
 rw[e3]
 have p3:=quc (a:=s.2.2-s.2.1+1) (b:=(m.2.2.2.1-kd)*pr+kd*up) (A:=20) (B:=4000060) (by omega) (by omega) (by omega) (by omega)
 rw[show iW (iMul (s.2.2-s.2.1+1) ((m.2.2.2.1-kd)*pr+kd*up))=(s.2.2-s.2.1+1)*((m.2.2.2.1-kd)*pr+kd*up) from qbg (by unfold iMul;omega) (by unfold iMul;omega)]
 omega
set_option maxRecDepth 20000
def qrE(u:Uni):Bool:=farB u.1 u.2.1||(decide (20<u.2.2.2.1.length)||(decide (20<u.2.2.2.2.1.length)||(decide (42<u.2.2.2.2.2.1.length)||(decide (14<u.2.2.2.2.2.2.1.length)||(decide (22<u.2.2.2.2.2.2.2.1.length)||u.2.2.2.2.1.any fun r=>decide (20<r.length))))))
theorem qq3(k j:Nat):iGt (k:Int) (j:Int)=decide (j<k):=by unfold iGt;congr 1;simp
theorem qFK(n:Nat)(u:Uni)(hl:u.2.1.length≤9223372036854775807)(hl2:u.2.2.2.2.1.length≤9223372036854775807)(hn:u.2.1.length<n)(hn2:u.2.2.2.2.1.length<n):qmz n (u,())=some (qrE u,()):=by
 rw[qtm]
 simp only[qHr n u.1 u.2.1 hl hn,Option.bind_some]
 unfold qrE
 cases farB u.1 u.2.1 with
 | true=>rfl
 | false =>
  simp only[cond_false,Bool.false_or]
  rw[show iGt (u.2.2.2.1.length:Int) 20=decide (20<u.2.2.2.1.length) from qq3 _ 20,show iGt (u.2.2.2.2.1.length:Int) 20=decide (20<u.2.2.2.2.1.length) from qq3 _ 20,show iGt (u.2.2.2.2.2.1.length:Int) 42=decide (42<u.2.2.2.2.2.1.length) from qq3 _ 42,show iGt (u.2.2.2.2.2.2.1.length:Int) 14=decide (14<u.2.2.2.2.2.2.1.length) from qq3 _ 14,show iGt (u.2.2.2.2.2.2.2.1.length:Int) 22=decide (22<u.2.2.2.2.2.2.2.1.length) from qq3 _ 22]
  have h1:=qkP (step:=qik n) u.2.2.2.2.1 (fun k=>((k:Int),(u,()))) (fun r=>decide (20<r.length)) (.inr (true,())) (.inl ()) (fun rec k hk=>by
   rw[qmX]
   simp only[qu hk,cond_true,qA _ hk,Option.bind_some,qj (show k<9223372036854775807 by omega)]
   rw[show iGt ((u.2.2.2.2.1[k]).length:Int) 20=decide (20<(u.2.2.2.2.1[k]).length) from qq3 _ 20]) (fun rec=>by
   rw[qmX]
   simp only[qw,cond_false]) (n:=n) hn2
  have h1':qb n (qik n) ((0:Int),(u,()))=_:=h1
  rw[h1']
  cases decide (20<u.2.2.2.1.length)<;>cases decide (20<u.2.2.2.2.1.length)<;>cases decide (42<u.2.2.2.2.2.1.length)<;>cases decide (14<u.2.2.2.2.2.2.1.length)<;>cases decide (22<u.2.2.2.2.2.2.2.1.length)<;>cases (u.2.2.2.2.1.any fun r=>decide (20<r.length))<;>rfl
theorem qvC{u:Uni}(h:qrE u=false):Small11 u:=by
 unfold qrE at h
 simp only[Bool.or_eq_false_iff,decide_eq_false_iff_not,List.any_eq_false,decide_eq_true_eq] at h
 obtain ⟨h1,h2,h3,h4,h5,h6,h7⟩:=h
 have N:=qD0 h1
 exact ⟨N.hu,N.ln,N.st,by omega,by omega,fun r hr=>by have:=h7 r hr;omega,by omega,by omega,by omega⟩
theorem qFL(n:Nat)(l:List Msg)(hl:l.length≤1000)(hs:∀m,m∈l→m.2.2.2.2.length≤1000)(hn:2000≤n):qlB n (l,())=some (l,()):=by
 rw[qsB]
 have h:=qhk (step:=qkw n) l (fun k b=>(l,((k:Int),(b,())))) (fun b m=>b++[m]) [] (fun b=>(b,())) (fun rec k b hk hb=>by
  have hb2:b=l.take k:=by
   have:=qe8 (fun m:Msg=>m) (l.take k) []
   rw[hb,this];simp
  have hbl:b.length≤k:=by rw[hb2];simp;omega
  have hst:=hs l[k] (List.getElem_mem hk)
  rw[qmv]
  simp only[qu hk,cond_true,qA l hk,Option.bind_some,qj (show k<9223372036854775807 by omega)]
  rw[qbe (by rw[Nat.ble_eq];unfold nAdd;omega)]
  simp only[Option.bind_some]
  rw[qbe (by rw[Nat.ble_eq];unfold nAdd;omega)]
  rfl) (fun rec b=>by
  rw[qmv]
  simp only[qw,cond_false]) (n:=n) (by omega)
 show Option.bind (qb n _ (l,(((0:Nat):Int),([],())))) _=_
 have h2:=qe8 (fun m:Msg=>m) l []
 rw[h,h2]
 simp
theorem qFM(n:Nat)(c:Chn)(hl:c.1.length≤1000):qiL n (c,())=some (c,()):=by
 rw[qp5,qbe (by rw[Nat.ble_eq];unfold nAdd;show 0+c.1.length≤_;omega)]
 rfl
theorem qFN(n:Nat)(u:Uni)(hs:Small11 u)(hn:2000≤n):qlC n (u,())=some (u,()):=by
 have a1:=hs.hu;have a2:=hs.ms;have a3:=hs.fe;have a4:=hs.sh;have a5:=hs.gu;have a6:=hs.ri;have a7:=hs.wo
 rw[qsD]
 simp only[qFM n u.1 (by omega),qFL n u.2.1 (by omega) (fun m hm=>by have:=hs.st m hm;omega) hn,Option.bind_some]
 rw[qbe (by rw[Nat.ble_eq];show 0+u.2.2.2.1.length≤_;omega)]
 simp only[Option.bind_some]
 have h:=qhk (step:=qkC n) u.2.2.2.2.1 (fun k (b:List (List Int))=>((k:Int),(u,((([],(0:Int)),([],((0:Int),([],([],([],([],([],((0:Int),((0:Int),((0:Int),(0:Int)))))))))))),(u.1,(u.2.1,(u.2.2.1,(List.append [] u.2.2.2.1,(b,(u.2.2.2.2.2.1,(u.2.2.2.2.2.2.1,(u.2.2.2.2.2.2.2.1,(u.2.2.2.2.2.2.2.2.1,(u.2.2.2.2.2.2.2.2.2.1,(u.2.2.2.2.2.2.2.2.2.2.1,(u.2.2.2.2.2.2.2.2.2.2.2,())))))))))))))))) (fun b r=>b++[r]) [] (fun b=>(u,((([],(0:Int)),([],((0:Int),([],([],([],([],([],((0:Int),((0:Int),((0:Int),(0:Int)))))))))))),(u.1,(u.2.1,(u.2.2.1,(List.append [] u.2.2.2.1,(b,(u.2.2.2.2.2.1,(u.2.2.2.2.2.2.1,(u.2.2.2.2.2.2.2.1,(u.2.2.2.2.2.2.2.2.1,(u.2.2.2.2.2.2.2.2.2.1,(u.2.2.2.2.2.2.2.2.2.2.1,(u.2.2.2.2.2.2.2.2.2.2.2,()))))))))))))))) (fun rec k b hk hb=>by
  have hb2:b=u.2.2.2.2.1.take k:=by
   have:=qe8 (fun m:List Int=>m) (u.2.2.2.2.1.take k) []
   rw[hb,this];simp
  have hbl:b.length≤k:=by rw[hb2];simp;omega
  have hst:=hs.rl _ (List.getElem_mem hk)
  rw[qmA]
  simp only[qu hk,cond_true,qA _ hk,Option.bind_some,qj (show k<9223372036854775807 by omega)]
  rw[qbe (by rw[Nat.ble_eq];unfold nAdd;omega)]
  simp only[Option.bind_some]
  rw[qbe (by rw[Nat.ble_eq];unfold nAdd;omega)]
  rfl) (fun rec b=>by
  rw[qmA]
  simp only[qw,cond_false]) (n:=n) (by omega)
 have h2:=qe8 (fun m:List Int=>m) u.2.2.2.2.1 []
 rw[h2] at h
 rw[show ((0:Int),(u,((([],(0:Int)),([],((0:Int),([],([],([],([],([],((0:Int),((0:Int),((0:Int),(0:Int)))))))))))),(u.1,(u.2.1,(u.2.2.1,(List.append [] u.2.2.2.1,(([]:List (List Int)),(u.2.2.2.2.2.1,(u.2.2.2.2.2.2.1,(u.2.2.2.2.2.2.2.1,(u.2.2.2.2.2.2.2.2.1,(u.2.2.2.2.2.2.2.2.2.1,(u.2.2.2.2.2.2.2.2.2.2.1,(u.2.2.2.2.2.2.2.2.2.2.2,())))))))))))))))=(((0:Nat):Int),(u,(((([]:List (Int×Int)),(0:Int)),(([]:List Msg),((0:Int),(([]:List Int),(([]:List (List Int)),(([]:List qdP),(([]:List qhM),(([]:List Work),((0:Int),((0:Int),((0:Int),(0:Int)))))))))))),(u.1,(u.2.1,(u.2.2.1,(List.append [] u.2.2.2.1,(([]:List (List Int)),(u.2.2.2.2.2.1,(u.2.2.2.2.2.2.1,(u.2.2.2.2.2.2.2.1,(u.2.2.2.2.2.2.2.2.1,(u.2.2.2.2.2.2.2.2.2.1,(u.2.2.2.2.2.2.2.2.2.2.1,(u.2.2.2.2.2.2.2.2.2.2.2,()))))))))))))))) from rfl,h]
 simp only[Option.bind_some]
 rw[qbe (by rw[Nat.ble_eq];show 0+u.2.2.2.2.2.1.length≤_;omega)]
 simp only[Option.bind_some]
 rw[qbe (by rw[Nat.ble_eq];show 0+u.2.2.2.2.2.2.1.length≤_;omega)]
 simp only[Option.bind_some]
 rw[qbe (by rw[Nat.ble_eq];show 0+u.2.2.2.2.2.2.2.1.length≤_;omega)]
 simp
end Go.Proofs.YtlmicgmhallkkaaGreatDoor
