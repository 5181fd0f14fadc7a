/- Texts Dc4, Dc5, Dc6, Dc7, Dc8, Dc9, Dc10, Dc11, Dc12 in one. -/
import Derived.Test.YtlmicgmhallkkaaGreatDoorPd
/- Clubs, plain: a valid union is opened. -/
set_option linter.constructorNameAsVariable false
set_option linter.unusedSimpArgs false
set_option linter.unusedVariables false
set_option linter.unusedSectionVars false
namespace Go.Proofs.YtlmicgmhallkkaaGreatDoor
open Go Go.Proofs Go.RowKit
set_option maxHeartbeats 1000000
structure Okay (u:Uni):Prop where
 v:Vld u.1 u.2.1
 ms:u.2.1.length≤9
 cl:1≤u.2.2.1∧u.2.2.1≤6
 fe:u.2.2.2.1.length=u.1.1.length
 sh:u.2.2.2.2.1.length=u.1.1.length
 rows:∀r,r∈u.2.2.2.2.1→(r.length:Int)=u.2.2.1
 gu:∀g,g∈u.2.2.2.2.2.1→-1≤g.2.1∧g.2.1≤u.2.2.1-1
 ri:∀g,g∈u.2.2.2.2.2.2.1→(0≤g.1∧g.1≤u.2.2.1-1)∧(0≤g.2∧g.2≤u.2.2.1-1)
 wo:∀g,g∈u.2.2.2.2.2.2.2.1→(0≤g.1∧g.1≤u.2.2.1-1)∧(0≤g.2.1∧g.2.1≤(u.1.1.length:Int)-1)
 gl:u.2.2.2.2.2.1.length≤40
 rl:u.2.2.2.2.2.2.1.length≤12
 wl:u.2.2.2.2.2.2.2.1.length≤20
theorem qHs{u:Uni}(hs:Small11 u)(h9:u.2.1.length≤9)(h:chkU u=0):Okay u:=by
 unfold chkU at h
 by_cases hk:chkN u.1 u.2.1=0
 ·rw[if_pos hk] at h
  have hb:uniB u=true:=by
   cases hu:uniB u with
   | true=>rfl
   | false=>rw[hu] at h;exact absurd h (by decide)
  obtain ⟨b1,b2,b3,b4⟩:=qCc hk
  unfold uniB qhk at hb
  simp only[Bool.and_eq_true,decide_eq_true_eq,List.all_eq_true,qbj] at hb
  obtain ⟨c1,c2,c3,c4,c5,c6,c7,-,c9,c10,c11,-⟩:=hb
  refine ⟨⟨b1,b2,b3,b4,hs.st,hs.hu⟩,h9,c1,c2,c3,?_,?_,?_,?_,c5,c6,c7⟩
  ·intro r hr
   have:=c9 r hr
   unfold rowB at this
   simp only[Bool.and_eq_true,decide_eq_true_eq] at this
   exact this.1
  ·intro g hg
   have:=c4.1 g hg
   unfold qmF at this
   simp only[Bool.and_eq_true,qbj] at this
   exact this.2.1
  ·intro g hg
   have:=c10 g hg
   unfold qmG ql4 at this
   simp only[Bool.and_eq_true,qbj] at this
   exact this
  ·intro g hg
   have:=c11 g hg
   unfold qo9 ql4 at this
   simp only[Bool.and_eq_true,qbj] at this
   exact ⟨this.1,this.2.1⟩
 ·rw[if_neg hk] at h;exact absurd h hk
def qmV(l:List Msg)(i:Int):Msg:=(l.find? fun m=>iEq m.1 1&&iEq m.2.1 i).getD (0,(0,(0,(0,[]))))
theorem qBe{l:List Msg}(M:Msgs l){m:Msg}(hm:m∈l)(h1:m.1=1):qmV l m.2.1=m:=by
 unfold qmV
 cases hf:l.find? fun x=>iEq x.1 1&&iEq x.2.1 m.2.1 with
 | none =>
  have:=List.find?_eq_none.1 hf m hm
  rw[qbP h1,qbP rfl] at this
  exact absurd rfl this
 | some x =>
  have hx:=List.find?_some hf
  have hm':=List.mem_of_find?_eq_some hf
  simp only[Bool.and_eq_true,iEq] at hx
  exact M.cl x m hm' hm (eq_of_beq hx.2) (by rw[eq_of_beq hx.1,h1])
theorem qGe(l:List Msg)(p:Msg→Bool){k:Nat}(hk:k<l.length)(h1:p l[k]=true)(h2:(l.take k).any p=false):l.find? p=some l[k]:=by
 induction l generalizing k with
 | nil=>exact absurd hk (Nat.not_lt_zero _)
 | cons x l ih =>
  cases k with
  | zero=>exact List.find?_cons_of_pos h1
  | succ k =>
   rw[List.take_succ_cons,List.any_cons,Bool.or_eq_false_iff] at h2
   rw[List.find?_cons_of_neg (by rw[h2.1];decide)]
   exact ih (Nat.lt_of_succ_lt_succ hk) h1 h2.2
def qb5(u:Uni):List Msg:=(accL u.1 u.2.1).map (qmV u.2.1)
theorem qCn{u:Uni}(V:Vld u.1 u.2.1){i:Int}(h:i∈accL u.1 u.2.1):∃m,m∈qfY u.2.1∧m∈u.2.1∧m.1=1∧m.2.1=i∧qmV u.2.1 i=m:=by
 obtain ⟨m,hm,rfl⟩:=qF7.1 h
 have hq:m∈qfY u.2.1:=qlr.2 (qA7.1 (.inl hm))
 exact ⟨m,hq,(qk9.1 hq).1,qxo V.msgs hq,rfl,qBe V.msgs (qk9.1 hq).1 (qxo V.msgs hq)⟩
theorem qED(n:Nat)(l:List Msg)(i:Int)(hl:l.length≤1000)(hn:2000≤n) :
  (l.any (fun m=>iEq m.1 1&&iEq m.2.1 i)=false∧qbW n (l,(i,()))=some (-1,(i,()))) ∨
  (∃k,∃hk:k<l.length,l[k]=qmV l i∧qbW n (l,(i,()))=some ((k:Int),(i,()))):=by
 rw[qi1]
 have h1:=qdL (step:=qcP n) l (fun k=>(l,((l.length:Int),((k:Int),(i,()))))) (fun m=>iEq m.1 1&&iEq m.2.1 i) (fun k=>.inr ((k:Int),(i,()))) (.inl (i,())) (fun rec k hk=>by
  rw[qeG]
  simp only[qy hk,cond_true,qK l hk,Option.bind_some,qvT,qj (show k<9223372036854775807 by omega)]
  cases iEq l[k].1 1<;>cases iEq l[k].2.1 i<;>rfl) (fun rec=>by
  rw[qeG]
  simp only[qC,cond_false]) (n:=n) (by omega)
 rcases h1 with ⟨h1,h2⟩ | ⟨k,hk,h1,h3,h2⟩
 ·refine .inl ⟨h1,?_⟩
  show Option.bind (qb n _ (l,((l.length:Int),(((0:Nat):Int),(i,()))))) _=_
  rw[h2];rfl
 ·refine .inr ⟨k,hk,?_,?_⟩
  ·unfold qmV
   rw[qGe l _ hk h1 h3];rfl
  ·show Option.bind (qb n _ (l,((l.length:Int),(((0:Nat):Int),(i,()))))) _=_
   rw[h2];rfl
theorem qCo(c:Chn)(l:List Msg):(accL c l).length≤l.length:=by
 have:=qxn c l
 unfold accL
 rw[(qfl _ _).length_eq,List.length_map]
 omega
theorem qGf(n:Nat)(u:Uni)(hs:Small11 u)(hk:Okay u)(h:chkU u=0)(hn:5000≤n):qhw n (u,())=some (.inl (0,(u,(qb5 u,())))):=by
 have hl:=qCo u.1 u.2.1
 have h9:=hk.ms
 rw[qnT]
 simp only[qzM n u hs hn,Option.bind_some,h,qd2 rfl,cond_false,qBD n u.1 u.2.1 hk.v (by omega) (by omega)]
 have h1:=qhV (step:=qo3 n) (accL u.1 u.2.1) (fun k (b:List Msg)=>(accL u.1 u.2.1,(((accL u.1 u.2.1).length:Int),((k:Int),(u,(u,(b,()))))))) (fun b i=>b++[qmV u.2.1 i]) [] (fun b=>(u,(b,()))) (fun rec k b hk' hb=>by
  have hbl:b.length≤9:=by
   have:∀(l:List Int) (b:List Msg),(l.foldl (fun b i=>b++[qmV u.2.1 i]) b).length=b.length+l.length:=by
    intro l
    induction l with
    | nil=>intro b;rfl
    | cons x l ih=>intro b;rw[List.foldl_cons,ih];simp;omega
   rw[hb,this,List.length_take];simp;omega
  rw[qqr]
  simp only[qy hk',cond_true,qK _ hk',Option.bind_some]
  obtain ⟨m,_,hm,h1m,hi,_⟩:=qCn hk.v (List.getElem_mem hk')
  rcases qED n u.2.1 (accL u.1 u.2.1)[k] (by omega) (by omega) with ⟨hno,_⟩ | ⟨j,hj,hj2,he⟩
  ·have:=List.any_eq_false.1 hno m hm
   rw[qbP h1m,qbP hi] at this
   exact absurd rfl this
  ·simp only[he,Option.bind_some,qK _ hj,hj2]
   rw[qbL (by rw[Nat.ble_eq];show b.length+1≤_;omega)]
   simp only[Option.bind_some,qj (show k<9223372036854775807 by omega)]
   rfl) (fun rec b=>by
  rw[qqr]
  simp only[qC,cond_false]) (n:=n) (by omega)
 rw[show (accL u.1 u.2.1,(((accL u.1 u.2.1).length:Int),((0:Int),(u,(u,(([]:List Msg),()))))))=(accL u.1 u.2.1,(((accL u.1 u.2.1).length:Int),(((0:Nat):Int),(u,(u,(([]:List Msg),())))))) from rfl,h1]
 have:∀(l:List Int) (b:List Msg),l.foldl (fun b i=>b++[qmV u.2.1 i]) b=b++l.map (qmV u.2.1):=by
  intro l
  induction l with
  | nil=>intro b;simp
  | cons x l ih=>intro b;rw[List.foldl_cons,ih];simp
 rw[this]
 rfl
theorem qEE(n:Nat)(u:Uni)(hs:Small11 u)(h:chkU u≠0)(hn:5000≤n):qhw n (u,())=some (.inr (chkU u,())):=by
 rw[qnT]
 simp only[qzM n u hs hn,Option.bind_some,qgo h,cond_true]
abbrev Bk:=Uni×(List Msg)
def payV(l:List qjs)(i:Int):qjs:=(l.find? fun g=>iEq g.1 i).getD (i,(-1,0))
def ownV(sh:List (List Int))(c h:Int):Bool:=iNe (((sh[h.toNat]?).getD [])[c.toNat]?.getD 0) 0
def entV(u:Uni)(c h:Int):Bool:=cond (iLt c 0) false (ownV u.2.2.2.2.1 c h||u.2.2.2.2.2.2.1.any fun r=>iEq r.1 c&&ownV u.2.2.2.2.1 r.2 h)
def upV(x p:Int):Int:=iW (Int.tdiv (iW (iAdd (iW (iMul x p)) 99)) 100)
theorem qIt(n:Nat)(x p:Int):qo4 n (x,(p,()))=some (upV x p,()):=by
 rw[qzW];rfl
def qgp(u:Uni)(m:Msg)(s:Stay):Int×Int :=
 let g:=payV u.2.2.2.2.2.1 m.2.1
 let f:=(u.2.2.2.1[s.1.toNat]?).getD 0
 let nts:=iW (iAdd (iW (iSub s.2.2 s.2.1)) 1)
 let kids:=iMin g.2.2 m.2.2.2.1
 let big:=iW (iSub m.2.2.2.1 kids)
 let pr:=cond (entV u g.2.1 s.1) (upV f (iW (iSub 100 u.2.2.2.2.2.2.2.2.1))) f
 (iW (iMul nts (iW (iAdd (iW (iMul big pr)) (iW (iMul kids (upV pr u.2.2.2.2.2.2.2.2.2.1)))))),iW (iMul (iW (iMul nts big)) u.2.2.2.2.2.2.2.2.2.2.1))
theorem qzN{u:Uni}(K:Okay u)(i:Int):-1≤(payV u.2.2.2.2.2.1 i).2.1∧(payV u.2.2.2.2.2.1 i).2.1≤u.2.2.1-1:=by
 unfold payV
 cases hf:u.2.2.2.2.2.1.find? fun g=>iEq g.1 i with
 | none=>have:=K.cl;exact ⟨Int.le_refl _,by show (-1:Int)≤_;omega⟩
 | some g=>exact K.gu g (List.mem_of_find?_eq_some hf)
theorem qy0{u:Uni}(V:Vld u.1 u.2.1){m:Msg}(hm:m∈u.2.1)(h1:m.1=1){s:Stay}(hs:s∈m.2.2.2.2):0≤s.1∧s.1<u.1.1.length:=by
 have:=qr5 (qsU (V.ms m hm) (by omega)) (Int.le_refl _) s hs
 omega
theorem qBf{u:Uni}(V:Vld u.1 u.2.1){m:Msg}(h:m∈qb5 u):m.2.1∈accL u.1 u.2.1∧m∈u.2.1∧m.1=1∧qmV u.2.1 m.2.1=m∧m∈qfY u.2.1:=by
 obtain ⟨i,hi,rfl⟩:=List.mem_map.1 h
 obtain ⟨m,hq,hm,h1,rfl,he⟩:=qCn V hi
 rw[he]
 exact ⟨hi,hm,h1,he,hq⟩
theorem qGg(u:Uni):(qb5 u).length≤u.2.1.length:=by
 unfold qb5
 rw[List.length_map]
 exact qCo _ _
theorem quF{a b A B:Int}(h1:0≤a)(h2:a≤A)(h3:0≤b)(h4:b≤B):0≤a*b∧a*b≤A*B :=
 ⟨Int.mul_nonneg h1 h3,Int.le_trans (Int.mul_le_mul_of_nonneg_right h2 h3) (Int.mul_le_mul_of_nonneg_left h4 (by omega))⟩
theorem latA{α:Type}(A B:List α)(x:α){k:Nat}(h:A.length=k):lat (A++x::B) (k:Int)=some x:=by
 subst h;rw[qe4];simp
theorem getA{α:Type}(A B:List α)(x:α){k:Nat}(h:A.length=k):(A++x::B)[k]?=some x:=by
 subst h;simp
structure Bnd (u:Uni):Prop where
 fe:∀f,f∈u.2.2.2.1→0≤f∧f≤100000
 ro:∀r,r∈u.2.2.2.2.1→(∀x,x∈r→0≤x∧x≤100)∧r.sum=100
 gk:∀g,g∈u.2.2.2.2.2.1→0≤g.2.2∧g.2.2≤20
 wk:∀w,w∈u.2.2.2.2.2.2.2.1→0≤w.2.2∧w.2.2≤20
 me:0≤u.2.2.2.2.2.2.2.2.1∧u.2.2.2.2.2.2.2.2.1≤100
 ch:0≤u.2.2.2.2.2.2.2.2.2.1∧u.2.2.2.2.2.2.2.2.2.1≤100
 cr:0≤u.2.2.2.2.2.2.2.2.2.2.2∧u.2.2.2.2.2.2.2.2.2.2.2≤100000
theorem qBg{u:Uni}(h:chkU u=0):Bnd u:=by
 unfold chkU at h
 by_cases hk:chkN u.1 u.2.1=0
 ·rw[if_pos hk] at h
  have hb:uniB u=true:=by
   cases hu:uniB u with
   | true=>rfl
   | false=>rw[hu] at h;exact absurd h (by decide)
  unfold uniB qhk at hb
  simp only[Bool.and_eq_true,decide_eq_true_eq,List.all_eq_true,qbj] at hb
  obtain ⟨c1,c2,c3,c4,c5,c6,c7,c8,c9,c10,c11,c12,c13,c14,c15⟩:=hb
  refine ⟨c8,?_,?_,?_,c12,c13,c15⟩
  ·intro r hr
   have:=c9 r hr
   unfold rowB shB at this
   simp only[Bool.and_eq_true,decide_eq_true_eq,List.all_eq_true,qbj] at this
   exact this.2
  ·intro g hg
   have:=c4.1 g hg
   unfold qmF at this
   simp only[Bool.and_eq_true,qbj] at this
   exact this.2.2
  ·intro g hg
   have:=c11 g hg
   unfold qo9 ql4 at this
   simp only[Bool.and_eq_true,qbj] at this
   exact this.2.2
 ·rw[if_neg hk] at h;exact absurd h hk
theorem qyi{x p:Int}(hx:0≤x∧x≤200000)(hp:0≤p∧p≤100):0≤upV x p∧upV x p≤x+1∧upV x p=(x*p+99)/100:=by
 have h:=quF hx.1 hx.2 hp.1 hp.2
 have h2:x*p≤x*100:=Int.mul_le_mul_of_nonneg_left hp.2 hx.1
 unfold upV
 have e:iW (iAdd (iW (iMul x p)) 99)=x*p+99:=by
  rw[show iW (iMul x p)=x*p from qbd (by unfold iMul;omega) (by unfold iMul;omega)]
  exact qbd (by unfold iAdd;omega) (by unfold iAdd;omega)
 rw[e,Int.tdiv_eq_ediv_of_nonneg (by omega),qbd (by omega) (by omega)]
 omega
theorem qxp{u:Uni}(K:Okay u)(b:Bnd u){m:Msg}(hm:m∈u.2.1)(h1:m.1=1){s:Stay}(hs:s∈m.2.2.2.2):0≤(qgp u m s).1∧(qgp u m s).1≤1000000000000:=by
 have hst:=qr5 (qsU (K.v.ms m hm) (by omega)) (Int.le_refl _) s hs
 have hnn:u.1.2≤20:=by
  have:=K.v.ch
  unfold qcS at this
  simp only[Bool.and_eq_true,qbj] at this
  exact this.2.2.2
 have hpe:1≤m.2.2.2.1∧m.2.2.2.1≤20:=by
  have:=K.v.ms m hm
  unfold mesB canB reqB at this
  rw[show decide (m.1=2)=false from decide_eq_false (by omega)] at this
  simp only[Bool.false_and,Bool.false_or,Bool.and_eq_true,qbj] at this
  exact this.2.2.2.1
 have hfe:0≤(u.2.2.2.1[s.1.toNat]?).getD 0∧(u.2.2.2.1[s.1.toNat]?).getD 0≤100000:=by
  cases hf:u.2.2.2.1[s.1.toNat]? with
  | none=>exact ⟨Int.le_refl _,by show (0:Int)≤_;omega⟩
  | some f=>exact b.fe f (List.mem_of_getElem? hf)
 have hg:0≤(payV u.2.2.2.2.2.1 m.2.1).2.2∧(payV u.2.2.2.2.2.1 m.2.1).2.2≤20:=by
  unfold payV
  cases hf:u.2.2.2.2.2.1.find? fun g=>iEq g.1 m.2.1 with
  | none=>exact ⟨Int.le_refl _,by show (0:Int)≤_;omega⟩
  | some g=>exact b.gk g (List.mem_of_find?_eq_some hf)
 unfold qgp
 simp only
 generalize (u.2.2.2.1[s.1.toNat]?).getD 0=f at *
 generalize (payV u.2.2.2.2.2.1 m.2.1).2.2=g at *
 generalize entV u _ s.1=en
 have hk:0≤iMin g m.2.2.2.1∧iMin g m.2.2.2.1≤20∧iMin g m.2.2.2.1≤m.2.2.2.1:=by
  unfold iMin;split<;>omega
 generalize iMin g m.2.2.2.1=kd at *
 have hnts:iW (iAdd (iW (iSub s.2.2 s.2.1)) 1)=s.2.2-s.2.1+1:=by
  rw[show iW (iSub s.2.2 s.2.1)=s.2.2-s.2.1 from qbd (by unfold iSub;omega) (by unfold iSub;omega)]
  exact qbd (by unfold iAdd;omega) (by unfold iAdd;omega)
 have hbig:iW (iSub m.2.2.2.1 kd)=m.2.2.2.1-kd:=qbd (by unfold iSub;omega) (by unfold iSub;omega)
 have hme:=b.me
 have h100:iW (iSub 100 u.2.2.2.2.2.2.2.2.1)=100-u.2.2.2.2.2.2.2.2.1:=qbd (by unfold iSub;omega) (by unfold iSub;omega)
 rw[hnts,hbig,h100]
 have hup:=qyi (x:=f) (p:=100-u.2.2.2.2.2.2.2.2.1) (by omega) (by omega)
 have hpr:0≤cond en (upV f (100-u.2.2.2.2.2.2.2.2.1)) f∧cond en (upV f (100-u.2.2.2.2.2.2.2.2.1)) f≤100001:=by
  cases en<;>simp only[cond_true,cond_false]<;>omega
 generalize cond en (upV f (100-u.2.2.2.2.2.2.2.2.1)) f=pr at *
 have hch:=qyi (x:=pr) (p:=u.2.2.2.2.2.2.2.2.2.1) (by omega) b.ch
 generalize upV pr u.2.2.2.2.2.2.2.2.2.1=up at *
 have p1:=quF (a:=m.2.2.2.1-kd) (b:=pr) (A:=20) (B:=100001) (by omega) (by omega) hpr.1 hpr.2
 have p2:=quF (a:=kd) (b:=up) (A:=20) (B:=100002) (by omega) (by omega) hch.1 (by omega)
 have e3:iW (iAdd (iW (iMul (m.2.2.2.1-kd) pr)) (iW (iMul kd up)))=(m.2.2.2.1-kd)*pr+kd*up:=by
  rw[show iW (iMul (m.2.2.2.1-kd) pr)=(m.2.2.2.1-kd)*pr from qbd (by unfold iMul;omega) (by unfold iMul;omega),show iW (iMul kd up)=kd*up from qbd (by unfold iMul;omega) (by unfold iMul;omega)]
  exact qbd (by unfold iAdd;omega) (by unfold iAdd;omega)
 rw[e3]
 have p3:=quF (a:=s.2.2-s.2.1+1) (b:=(m.2.2.2.1-kd)*pr+kd*up) (A:=20) (B:=4000060) (by omega) (by omega) (by omega) (by omega)
 rw[show iW (iMul (s.2.2-s.2.1+1) ((m.2.2.2.1-kd)*pr+kd*up))=(s.2.2-s.2.1+1)*((m.2.2.2.1-kd)*pr+kd*up) from qbd (by unfold iMul;omega) (by unfold iMul;omega)]
 omega
set_option maxRecDepth 20000
def qqy(u:Uni):Bool:=farB u.1 u.2.1||(decide (20<u.2.2.2.1.length)||(decide (20<u.2.2.2.2.1.length)||(decide (42<u.2.2.2.2.2.1.length)||(decide (14<u.2.2.2.2.2.2.1.length)||(decide (22<u.2.2.2.2.2.2.2.1.length)||u.2.2.2.2.1.any fun r=>decide (20<r.length))))))
theorem qro(k j:Nat):iGt (k:Int) (j:Int)=decide (j<k):=by unfold iGt;congr 1;simp
theorem qBh(n:Nat)(u:Uni)(hl:u.2.1.length≤9223372036854775807)(hl2:u.2.2.2.2.1.length≤9223372036854775807)(hn:u.2.1.length<n)(hn2:u.2.2.2.2.1.length<n):qjp n (u,())=some (qqy u,()):=by
 rw[qtO]
 simp only[qHJ n u.1 u.2.1 hl hn,Option.bind_some]
 unfold qqy
 cases farB u.1 u.2.1 with
 | true=>rfl
 | false =>
  simp only[cond_false,Bool.false_or]
  rw[show iGt (u.2.2.2.1.length:Int) 20=decide (20<u.2.2.2.1.length) from qro _ 20,show iGt (u.2.2.2.2.1.length:Int) 20=decide (20<u.2.2.2.2.1.length) from qro _ 20,show iGt (u.2.2.2.2.2.1.length:Int) 42=decide (42<u.2.2.2.2.2.1.length) from qro _ 42,show iGt (u.2.2.2.2.2.2.1.length:Int) 14=decide (14<u.2.2.2.2.2.2.1.length) from qro _ 14,show iGt (u.2.2.2.2.2.2.2.1.length:Int) 22=decide (22<u.2.2.2.2.2.2.2.1.length) from qro _ 22]
  have h1:=qkG (step:=qhT n) u.2.2.2.2.1 (fun k=>((k:Int),(u,()))) (fun r=>decide (20<r.length)) (.inr (true,())) (.inl ()) (fun rec k hk=>by
   rw[qna]
   simp only[qy hk,cond_true,qK _ hk,Option.bind_some,qj (show k<9223372036854775807 by omega)]
   rw[show iGt ((u.2.2.2.2.1[k]).length:Int) 20=decide (20<(u.2.2.2.2.1[k]).length) from qro _ 20]) (fun rec=>by
   rw[qna]
   simp only[qC,cond_false]) (n:=n) hn2
  have h1':qb n (qhT n) ((0:Int),(u,()))=_:=h1
  rw[h1']
  cases decide (20<u.2.2.2.1.length)<;>cases decide (20<u.2.2.2.2.1.length)<;>cases decide (42<u.2.2.2.2.2.1.length)<;>cases decide (14<u.2.2.2.2.2.2.1.length)<;>cases decide (22<u.2.2.2.2.2.2.2.1.length)<;>cases (u.2.2.2.2.1.any fun r=>decide (20<r.length))<;>rfl
theorem qr6{u:Uni}(h:qqy u=false):Small11 u:=by
 unfold qqy at h
 simp only[Bool.or_eq_false_iff,decide_eq_false_iff_not,List.any_eq_false,decide_eq_true_eq] at h
 obtain ⟨h1,h2,h3,h4,h5,h6,h7⟩:=h
 have N:=qEp h1
 exact ⟨N.hu,N.ln,N.st,by omega,by omega,fun r hr=>by have:=h7 r hr;omega,by omega,by omega,by omega⟩
theorem qGh(n:Nat)(l:List Msg)(hl:l.length≤1000)(hs:∀m,m∈l→m.2.2.2.2.length≤1000)(hn:2000≤n):qlv n (l,())=some (l,()):=by
 rw[qs8]
 have h:=qhV (step:=qkm n) l (fun k b=>(l,((k:Int),(b,())))) (fun b m=>b++[m]) [] (fun b=>(b,())) (fun rec k b hk hb=>by
  have hb2:b=l.take k:=by
   have:=qo8 (fun m:Msg=>m) (l.take k) []
   rw[hb,this];simp
  have hbl:b.length≤k:=by rw[hb2];simp;omega
  have hst:=hs l[k] (List.getElem_mem hk)
  rw[qmz]
  simp only[qy hk,cond_true,qK l hk,Option.bind_some,qj (show k<9223372036854775807 by omega)]
  rw[qbL (by rw[Nat.ble_eq];unfold nAdd;omega)]
  simp only[Option.bind_some]
  rw[qbL (by rw[Nat.ble_eq];unfold nAdd;omega)]
  rfl) (fun rec b=>by
  rw[qmz]
  simp only[qC,cond_false]) (n:=n) (by omega)
 show Option.bind (qb n _ (l,(((0:Nat):Int),([],())))) _=_
 have h2:=qo8 (fun m:Msg=>m) l []
 rw[h,h2]
 simp
theorem qGi(n:Nat)(c:Chn)(hl:c.1.length≤1000):qim n (c,())=some (c,()):=by
 rw[qqp,qbL (by rw[Nat.ble_eq];unfold nAdd;show 0+c.1.length≤_;omega)]
 rfl
theorem qGj(n:Nat)(u:Uni)(hs:Small11 u)(hn:2000≤n):qlw n (u,())=some (u,()):=by
 have a1:=hs.hu;have a2:=hs.ms;have a3:=hs.fe;have a4:=hs.sh;have a5:=hs.gu;have a6:=hs.ri;have a7:=hs.wo
 rw[qs9]
 simp only[qGi n u.1 (by omega),qGh n u.2.1 (by omega) (fun m hm=>by have:=hs.st m hm;omega) hn,Option.bind_some]
 rw[qbL (by rw[Nat.ble_eq];show 0+u.2.2.2.1.length≤_;omega)]
 simp only[Option.bind_some]
 have h:=qhV (step:=qks n) u.2.2.2.2.1 (fun k (b:List (List Int))=>((k:Int),(u,((([],(0:Int)),([],((0:Int),([],([],([],([],([],((0:Int),((0:Int),((0:Int),(0:Int)))))))))))),(u.1,(u.2.1,(u.2.2.1,(List.append [] u.2.2.2.1,(b,(u.2.2.2.2.2.1,(u.2.2.2.2.2.2.1,(u.2.2.2.2.2.2.2.1,(u.2.2.2.2.2.2.2.2.1,(u.2.2.2.2.2.2.2.2.2.1,(u.2.2.2.2.2.2.2.2.2.2.1,(u.2.2.2.2.2.2.2.2.2.2.2,())))))))))))))))) (fun b r=>b++[r]) [] (fun b=>(u,((([],(0:Int)),([],((0:Int),([],([],([],([],([],((0:Int),((0:Int),((0:Int),(0:Int)))))))))))),(u.1,(u.2.1,(u.2.2.1,(List.append [] u.2.2.2.1,(b,(u.2.2.2.2.2.1,(u.2.2.2.2.2.2.1,(u.2.2.2.2.2.2.2.1,(u.2.2.2.2.2.2.2.2.1,(u.2.2.2.2.2.2.2.2.2.1,(u.2.2.2.2.2.2.2.2.2.2.1,(u.2.2.2.2.2.2.2.2.2.2.2,()))))))))))))))) (fun rec k b hk hb=>by
  have hb2:b=u.2.2.2.2.1.take k:=by
   have:=qo8 (fun m:List Int=>m) (u.2.2.2.2.1.take k) []
   rw[hb,this];simp
  have hbl:b.length≤k:=by rw[hb2];simp;omega
  have hst:=hs.rl _ (List.getElem_mem hk)
  rw[qmB]
  simp only[qy hk,cond_true,qK _ hk,Option.bind_some,qj (show k<9223372036854775807 by omega)]
  rw[qbL (by rw[Nat.ble_eq];unfold nAdd;omega)]
  simp only[Option.bind_some]
  rw[qbL (by rw[Nat.ble_eq];unfold nAdd;omega)]
  rfl) (fun rec b=>by
  rw[qmB]
  simp only[qC,cond_false]) (n:=n) (by omega)
 have h2:=qo8 (fun m:List Int=>m) u.2.2.2.2.1 []
 rw[h2] at h
 rw[show ((0:Int),(u,((([],(0:Int)),([],((0:Int),([],([],([],([],([],((0:Int),((0:Int),((0:Int),(0:Int)))))))))))),(u.1,(u.2.1,(u.2.2.1,(List.append [] u.2.2.2.1,(([]:List (List Int)),(u.2.2.2.2.2.1,(u.2.2.2.2.2.2.1,(u.2.2.2.2.2.2.2.1,(u.2.2.2.2.2.2.2.2.1,(u.2.2.2.2.2.2.2.2.2.1,(u.2.2.2.2.2.2.2.2.2.2.1,(u.2.2.2.2.2.2.2.2.2.2.2,())))))))))))))))=(((0:Nat):Int),(u,(((([]:List (Int×Int)),(0:Int)),(([]:List Msg),((0:Int),(([]:List Int),(([]:List (List Int)),(([]:List qjs),(([]:List qsV),(([]:List Work),((0:Int),((0:Int),((0:Int),(0:Int)))))))))))),(u.1,(u.2.1,(u.2.2.1,(List.append [] u.2.2.2.1,(([]:List (List Int)),(u.2.2.2.2.2.1,(u.2.2.2.2.2.2.1,(u.2.2.2.2.2.2.2.1,(u.2.2.2.2.2.2.2.2.1,(u.2.2.2.2.2.2.2.2.2.1,(u.2.2.2.2.2.2.2.2.2.2.1,(u.2.2.2.2.2.2.2.2.2.2.2,()))))))))))))))) from rfl,h]
 simp only[Option.bind_some]
 rw[qbL (by rw[Nat.ble_eq];show 0+u.2.2.2.2.2.1.length≤_;omega)]
 simp only[Option.bind_some]
 rw[qbL (by rw[Nat.ble_eq];show 0+u.2.2.2.2.2.2.1.length≤_;omega)]
 simp only[Option.bind_some]
 rw[qbL (by rw[Nat.ble_eq];show 0+u.2.2.2.2.2.2.2.1.length≤_;omega)]
 simp
end Go.Proofs.YtlmicgmhallkkaaGreatDoor
