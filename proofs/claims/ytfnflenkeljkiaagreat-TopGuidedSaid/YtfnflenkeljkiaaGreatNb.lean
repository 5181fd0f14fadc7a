/- Texts Dn6, Dn7, Dn8, Dn9, Dn10, Dn11, Dn12, Dm1, Dm2, Dm3, Dm4 in one. -/
import Derived.Test.YtfnflenkeljkiaaGreatNa
import Derived.Lib.AppendZeros
import Derived.Laws.IdiomCopy
/- Reading code by computing: operations that look at no own object. Nothing here speaks of the program. -/
set_option linter.constructorNameAsVariable false
set_option linter.unusedSimpArgs false
set_option linter.unusedVariables false
set_option linter.unusedSectionVars false
namespace Go.Proofs.YtfnflenkeljkiaaGreat
open Go Go.Proofs Go.RowKit
set_option maxHeartbeats 2000000
section
variable {P:Program} {w0:Bs} {S:Nat→Prop} {g:Nat→Option Cn} {T:List DV} {H:List HE} {B:Tab P}
theorem quf{op:Op}{ds:List DV}(h:(opl op).map (evD T)=ds):(opl op).map (evO (qa g T))=qa g ds:=by
 rw[← h,qb4 (List.map _ _),List.map_map]
 exact List.map_congr_left fun x _=>qfU T x
theorem AY.bot{o:Oper}{x:Operand}{v:AV}{t:List AV}(hx:x∈opl o.op)(hb:evO t x=botA):AY P w0 S H o t v:=fun a w _ _ h=>by
 have:=h x (qqg hx)
 rw[hb] at this
 exact (qka this).elim
theorem qmW{sz:Nat}{ag:Bool}{cells:List DV}{d:DV}(h:qqk sz ag cells=some d):(ag=false∧sz=1∧∃r,cells=d::r)∨(ag=true∧(sz≤cells.length∧0<sz)∧d = .agg (cells.take sz)):=by
 unfold qqk at h
 split at h
 ·split at h
  ·rename_i hb;rw[Bool.and_eq_true] at hb;injection h with h;exact .inr ⟨rfl,⟨Nat.le_of_ble_eq_true hb.1,Nat.le_of_ble_eq_true hb.2⟩,h.symm⟩
  ·cases h
 ·split at h
  ·injection h with h;subst h;exact .inl ⟨rfl,rfl,_,rfl⟩
  ·cases h
theorem qpA(l:List Value):qa g (l.map .val)=l.map AV.val:=by rw[qb4,List.map_map];rfl
theorem qug(hg:Gok g):∀(ps:List (Nat×Nat)) (ds cells cs:List DV),qtQ ps ds cells=some cs→qeB (zip3 ps (qa g ds)) (qa g cells)=some (qa g cs)
 | [],[],cells,cs,h=>by injection h with h;subst h;rfl
 | (off,sz)::ps,d::ds,cells,cs,h=>by
  unfold qtQ at h
  split at h
  ·rename_i cd hcd
   split at h
   ·rename_i hb
    rw[Bool.and_eq_true] at hb
    have h1:cd.length=sz:=by simpa using hb.1
    have h2:off+sz≤cells.length:=Nat.le_of_ble_eq_true hb.2
    have:=qug hg ps ds _ cs h
    simp only[qa,zip3,qeB,qkb hg hcd]
    rw[if_pos ⟨by rw[qe,h1],by rw[qe];exact h2⟩,← qip]
    exact this
   ·cases h
  ·cases h
 | [],_::_,_,_,h=>by cases h
 | _::_,[],_,_,h=>by cases h
theorem qrP{ty:TypeId}:∀(fs:List Nat) (ps:List (Nat×Nat)),qql B ty fs=some ps→Places P ty fs ps
 | [],ps,h=>by injection h with h;subst h;exact .nil
 | f::fs,ps,h=>by
  unfold qql at h
  split at h
  ·rename_i e qs he hq
   injection h with h;subst h
   have:=e.ok
   exact .cons f e.off e.sz e.ag fs qs (qrP fs qs hq)
  ·cases h
theorem qpB{w:World}{S:Nat→Prop}{v:Value}{ds:List AV}(h:Enc w S v (.agg ds)):∃xs:List Value,v = .agg xs.toArray∧xs.length=ds.length∧∀i d,ds[i]?=some d→Enc w S (xs.getD i undef) d:=by
 cases h with
 | agg vs _ hn h=>exact ⟨vs.toList,rfl,by simpa using hn,fun i d hd=>by
   have:=h i d hd
   rwa [Array.getD_eq_getD_getElem?,← Array.getElem?_toList,← List.getD_eq_getElem?_getD] at this⟩
theorem qtd{o:Oper}{t:List AV}{x y:Operand}{ty ty2:TypeId}{bop:BinOp}{vs us:List Value}{v:Bool}(ho:o.op = .binOp bop ty x y ty2)(hx:evO t x = .agg (vs.map AV.val))(hy:evO t y = .agg (us.map AV.val))
  (hr:∀w,(do eqGuard bop ty x y (.agg vs.toArray) (.agg us.toArray);binOp bop ty (.agg vs.toArray) (.agg us.toArray):Sem Value).run P w = .ok (.bool v) w):AY P w0 S H o t (.val (.bool v)):=AY.of fun q w hE hH hX=>by
 have h1:=hX x (by rw[ho];simp[opl])
 have h2:=hX y (by rw[ho];simp[opl])
 rw[hx] at h1
 rw[hy] at h2
 obtain ⟨xs,e1,hn1,k1⟩:=qpB h1
 obtain ⟨ys,e2,hn2,k2⟩:=qpB h2
 have same:∀(xs vs:List Value),xs.length=(vs.map AV.val).length→(∀(i:Nat) (d:AV),(vs.map AV.val)[i]?=some d→Enc w (Al w0 S H) (xs.getD i undef) d)→xs=vs:=fun xs vs hn hk=>by
  apply List.ext_getElem?
  intro i
  rw[List.length_map] at hn
  rcases Nat.lt_or_ge i vs.length with hi | hi
  ·have:=(hk i (.val vs[i]) (by rw[List.getElem?_map,List.getElem?_eq_getElem hi];rfl)).val_eq
   rw[List.getD_eq_getElem?_getD,List.getElem?_eq_getElem (by omega),Option.getD_some] at this
   rw[List.getElem?_eq_getElem (by omega),List.getElem?_eq_getElem hi,this]
  ·rw[List.getElem?_eq_none (by omega),List.getElem?_eq_none hi]
 have g1:=same xs vs hn1 k1
 have g2:=same ys us hn2 k2
 subst g1 g2
 refine ⟨.bool v,w,?_,Ext.refl w,.val _⟩
 have hr:=hr w
 unfold execOp
 rw[ho]
 simp only[e1,e2]
 simp only[Sem.run_bind] at hr ⊢
 simp[hr]
theorem qsG{o:Oper}{x y:Operand}{ty ty2:TypeId}{bop:BinOp}{q:Operand→Value}{u1 u2:Value}{v:Bool}{w:World}(ho:o.op = .binOp bop ty x y ty2)(e1:q x=u1)(e2:q y=u2)(hr:(do eqGuard bop ty x y u1 u2;binOp bop ty u1 u2:Sem Value).run P w = .ok (.bool v) w):(execOp q o).run P w = .ok (.value (.bool v)) w:=by
 unfold execOp
 rw[ho]
 simp only[e1,e2]
 simp only[Sem.run_bind] at hr ⊢
 simp[hr]
theorem qqo{b:Bool}{op:BinOp}{v:DV}(h:(nilD b op).Is v):∃c,v = .val (.bool c)∧((op = .eql∧c=b)∨(op = .neq∧c = !b)):=by
 unfold nilD at h
 split at h
 ·exact ⟨_,h.symm,.inl ⟨rfl,rfl⟩⟩
 ·exact ⟨_,h.symm,.inr ⟨rfl,rfl⟩⟩
 ·exact h.elim
theorem qyh{o:Oper}{t:List AV}{x y:Operand}{ty ty2:TypeId}{bop:BinOp}{f:FuncId}{a c:List AV}{v:Bool}(ho:o.op = .binOp bop ty x y ty2)(hx:evO t x = .fn f a c)(hy:evO t y = .val .nilFunc)(hf:FuncTy P ty)(hop:(bop = .eql∧v=false)∨(bop = .neq∧v = !false)):AY P w0 S H o t (.val (.bool v)):=AY.of fun q w hE hH hX=>by
 have h1:=hX x (by rw[ho];simp[opl])
 have h2:=hX y (by rw[ho];simp[opl])
 rw[hx] at h1
 rw[hy] at h2
 refine ⟨.bool v,w,?_,Ext.refl w,.val _⟩
 generalize hq:q.eval x=u at h1
 cases h1 with
 | fn f first caps df dc hn hm h h'=>exact qsG ho hq h2.val_eq (qwQ hf bop x y _ _ _ v w hop)
theorem qte{o:Oper}{t:List AV}{x y:Operand}{ty ty2:TypeId}{bop:BinOp}{u1 u2:Value}{v:Bool}(ho:o.op = .binOp bop ty x y ty2)(hx:evO t x = .val u1)(hy:evO t y = .val u2)(hr:∀w,(do eqGuard bop ty x y u1 u2;binOp bop ty u1 u2:Sem Value).run P w = .ok (.bool v) w):AY P w0 S H o t (.val (.bool v)):=AY.of fun q w hE hH hX=>by
 have h1:=hX x (by rw[ho];simp[opl])
 have h2:=hX y (by rw[ho];simp[opl])
 rw[hx] at h1
 rw[hy] at h2
 exact ⟨.bool v,w,qsG ho h1.val_eq h2.val_eq (hr w),Ext.refl w,.val _⟩
theorem qyi{o:Oper}{t:List AV}{x y:Operand}{ty ty2 e:TypeId}{bop:BinOp}{sz:Nat}{row:List AV}{rows:List (List AV)}{v:Bool}(ho:o.op = .binOp bop ty x y ty2)(hx:evO t x = .sl sz (row::rows))(hy:evO t y = .val (.slice none 0 0))(hu:P.underlying ty=some (.slice e))(hop:(bop = .eql∧v=false)∨(bop = .neq∧v = !false)):AY P w0 S H o t (.val (.bool v)):=AY.of fun q w hE hH hX=>by
 have h1:=hX x (by rw[ho];simp[opl])
 have h2:=hX y (by rw[ho];simp[opl])
 rw[hx] at h1
 rw[hy] at h2
 refine ⟨.bool v,w,?_,Ext.refl w,.val _⟩
 generalize hq:q.eval x=u at h1
 cases h1 with
 | sl b off n c sz rows' cv hn hc hm hS hb hr hcell h=>exact qsG ho hq h2.val_eq (qs4 hu bop x y (some ⟨b,off,none⟩) _ _ v w hop)
theorem qtf(g:Nat→Option Cn)(l:List Value):qa g (l.map DV.val)=l.map AV.val:=by
 rw[qb4,List.map_map];rfl
theorem qwY{k:IntKind}{a b:Int}{op:BinOp}{v:DV}{ty ty2:TypeId}{x y:Operand}(h:(binI k a b op).Is v):Step0 P H (.binOp op ty x y ty2) [.val (.int k a),.val (.int k b)] (conc g v):=by
 cases op<;>unfold binI at h
 case add=>cases h;exact Step0.add ty ty2 x y k a b _ rfl
 case sub=>cases h;exact Step0.sub ty ty2 x y k a b _ rfl
 case mul=>cases h;exact Step0.mul ty ty2 x y k a b _ rfl
 case quo=>obtain ⟨u,h1,h⟩:=h;cases h;exact Step0.quo ty ty2 x y k a b _ (by have:=qd5 h1;simpa using this) rfl
 case rem=>obtain ⟨u,h1,h⟩:=h;cases h;exact Step0.rem ty ty2 x y k a b _ (by have:=qd5 h1;simpa using this) rfl
 case and=>cases h;exact Step0.bitand ty ty2 x y k a b
 case or=>cases h;exact Step0.bitor ty ty2 x y k a b
 case xor=>cases h;exact Step0.bitxor ty ty2 x y k a b
 case andNot=>cases h;exact Step0.bitandNot ty ty2 x y k a b
 case lss=>cases h;exact Step0.lss ty ty2 x y k a b
 case leq=>cases h;exact Step0.leq ty ty2 x y k a b
 case gtr=>cases h;exact Step0.gtr ty ty2 x y k a b
 case geq=>cases h;exact Step0.geq ty ty2 x y k a b
 case eql=>cases h;exact Step0.eql ty ty2 x y k a b
 case neq=>cases h;exact Step0.neq ty ty2 x y k a b
 all_goals exact h.elim
theorem qyj{k k2:IntKind}{a b:Int}{op:BinOp}{v:DV}{ty ty2:TypeId}{x y:Operand}(h:(shI k a b op).Is v):Step0 P H (.binOp op ty x y ty2) [.val (.int k a),.val (.int k2 b)] (conc g v):=by
 cases op<;>unfold shI at h
 case shr =>
  obtain ⟨u,h1,h⟩:=h;cases h
  have:=qd5 h1
  simp only[Bool.and_eq_true,decide_eq_true_eq] at this
  exact Step0.shr ty ty2 x y k k2 a b this.1 this.2
 case shl =>
  obtain ⟨u,h1,h⟩:=h;cases h
  have:=qd5 h1
  simp only[Bool.and_eq_true,decide_eq_true_eq] at this
  exact Step0.shl ty ty2 x y k k2 a b _ this.1 this.2 rfl
 all_goals exact h.elim
theorem qyk(hg:Gok g){o:Oper}{op:Op}{ds:List DV}{v:DV}(ho:o.op=op)(hds:(opl op).map (evD T)=ds)(h:(qwc B op ds).Is v):AY P w0 S H o (qa g T) (conc g v):=by
 have ha:=quf (g:=g) hds
 have fin:Step0 P H op (qa g ds) (conc g v)→AY P w0 S H o (qa g T) (conc g v):=Step0.snd ho ha
 have bot:∀x d,opl op=[x]→ds=[d]→conc g d=botA→AY P w0 S H o (qa g T) (conc g v):=fun x d h1 h2 h3=>by
  refine AY.bot (x:=x) (by rw[ho,h1];simp) ?_
  rw[qfU]
  rw[h1,h2] at hds
  simp only[List.map_cons,List.map_nil,List.cons.injEq,and_true] at hds
  rw[hds,h3]
 unfold qwc at h
 split at h
 ·rename_i x d
  cases h
  exact AY.mv ho (by simp only[opl,List.map_cons,List.map_nil,qa,List.cons.injEq,and_true] at ha;exact ha)
 ·rename_i x d
  cases h
  exact AY.asg ho (by simp only[opl,List.map_cons,List.map_nil,qa,List.cons.injEq,and_true] at ha;exact ha)
 ·rename_i xc xx xy b dx dy
  unfold qzy at h
  split at h
  ·cases h
   refine fin ?_
   simp only[qa,conc]
   rename_i u v
   have:=Step0.pickB (P:=P) (H:=H) xc xx xy b u v
   cases b<;>exact this
  ·rcases h with ⟨hb,h⟩ | ⟨hb,h⟩
   ·cases h;subst hb;exact fin (Step0.pickT xc xx xy _ _)
   ·cases h;subst hb;exact fin (Step0.pickF xc xx xy _ _)
 ·rename_i ty x f d
  unfold qrK at h
  split at h
  ·exact h.elim
  ·rename_i e _
   have:=e.ok
   split at h
   ·cases h;exact fin (Step0.fieldAddr ty x f e.off e.sz e.ag _ _ (by rw[qgr]))
   ·rename_i k o
    cases h
    rcases qoq o (g k) with h1 | ⟨b,c,h1⟩
    ·exact bot x _ rfl rfl (h1 o)
    ·refine fin ?_
     simp only[qa,conc,h1]
     exact Step0.mfieldAddr ty x f e.off e.sz e.ag b _ _ (by omega)
   ·rename_i k i o
    cases h
    rcases qpx (g k) with h1 | ⟨b,c,sz,h1⟩
    ·exact bot x _ rfl rfl (h1 i o)
    ·refine fin ?_
     simp only[qa,conc,h1]
     exact Step0.mfieldAddr ty x f e.off e.sz e.ag b _ _ (by omega)
   ·exact h.elim
 ·rename_i ty x f d
  unfold qwU at h
  split at h
  ·exact h.elim
  ·rename_i e _
   have hok:=e.ok
   split at h
   ·rename_i cells
    have h1:=qfe h
    obtain ⟨off,sz,ag,eok⟩:=e
    simp only at h1 hok
    rcases qmW h1 with ⟨rfl,rfl,r,h2⟩ | ⟨rfl,h2,rfl⟩
    ·refine fin (Step0.field1 ty x f off _ (conc g v) (conc g v) ?_ rfl)
     rw[qdX]
     have:cells[off]?=some v:=by rw[← List.head?_drop,h2];rfl
     rw[this];rfl
    ·simp only[conc]
     refine fin (Step0.fieldN ty x f off sz _ _ ?_ ?_)
     ·rw[qe];rw[List.length_drop] at h2
      omega
     ·rw[qgs,qgr]
   ·exact h.elim
 ·rename_i x d
  unfold qs8 at h
  split at h
  ·cases h;exact fin (Step0.nilCheckP x _)
  ·rename_i k o
   cases h
   rcases qoq o (g k) with h1 | ⟨b,c,h1⟩
   ·exact bot x _ rfl rfl (h1 o)
   ·refine fin ?_
    simp only[qa,conc,h1]
    exact Step0.nilCheckB x b _
  ·rename_i k i o
   cases h
   rcases qpx (g k) with h1 | ⟨b,c,sz,h1⟩
   ·exact bot x _ rfl rfl (h1 i o)
   ·refine fin ?_
    simp only[qa,conc,h1]
    exact Step0.nilCheckB x b _
  ·cases h;exact fin (Step0.nilCheckF x _ _ _)
  ·exact h.elim
 ·rename_i bop ty x y ty2 d1 d2
  unfold binD at h
  split at h
  ·split at h
   ·exact fin (qyj h)
   ·split at h
    ·rename_i hk;subst hk;exact fin (qwY h)
    ·exact h.elim
  ·split at h
   ·rename_i q hb;have:=q.down;cases h;exact fin (Step0.eqlB ty ty2 x y _ _)
   ·rename_i q hb;have:=q.down;cases h;exact fin (Step0.neqB ty ty2 x y _ _)
   ·exact h.elim
  ·rename_i a b
   split at h
   ·rename_i e he
    split at h
    ·rename_i u1 u2 h1 h2
     have e1:=ql4 h1
     have e2:=ql4 h2
     subst e1 e2
     obtain ⟨p,q,hpq⟩:∃p q,e.ty = .pr p q:=by
      have hag:=e.ag
      cases hty:e.ty with
      | pr p q=>exact ⟨p,q,rfl⟩
      | _=>rw[hty] at hag;cases hag
     have hx:evO (qa g T) x = .agg ((e.ty.encV u1).map AV.val):=by
      simp only[opl,List.map_cons,List.map_nil,qa,conc,List.cons.injEq,and_true] at ha
      rw[ha.1,qtf]
     have hy:evO (qa g T) y = .agg ((e.ty.encV u2).map AV.val):=by
      simp only[opl,List.map_cons,List.map_nil,qa,conc,List.cons.injEq,and_true] at ha
      rw[ha.2,qtf]
     split at h
     ·cases h
      exact qtd ho hx hy fun w=>qwO e hpq _ x y u1 u2 w _ (.inl ⟨rfl,rfl⟩)
     ·cases h
      exact qtd ho hx hy fun w=>qwO e hpq _ x y u1 u2 w _ (.inr ⟨rfl,rfl⟩)
     ·exact h.elim
    ·exact h.elim
   ·exact h.elim
  ·simp only[opl,List.map_cons,List.map_nil,qa,conc,List.cons.injEq,and_true] at ha
   split at h
   ·rename_i hft _
    obtain ⟨c,rfl,hop⟩:=qqo h
    exact qyh ho ha.1 ha.2 hft.down hop
   ·exact h.elim
  ·simp only[opl,List.map_cons,List.map_nil,qa,conc,List.cons.injEq,and_true] at ha
   split at h
   ·rename_i hft _
    obtain ⟨c,rfl,hop⟩:=qqo h
    exact qte ho ha.1 ha.2 fun w=>qwa hft.down bop x y c w hop
   ·exact h.elim
  ·simp only[opl,List.map_cons,List.map_nil,qa,conc,List.cons.injEq,and_true] at ha
   split at h
   ·rename_i e _
    obtain ⟨c,rfl,hop⟩:=qqo h
    exact qyi ho ha.1 ha.2 e.ok.h hop
   ·exact h.elim
  ·simp only[opl,List.map_cons,List.map_nil,qa,conc,List.cons.injEq,and_true] at ha
   split at h
   ·rename_i e _
    obtain ⟨c,rfl,hop⟩:=qqo h
    exact qte ho ha.1 ha.2 fun w=>qs4 e.ok.h bop x y _ _ _ c w hop
   ·exact h.elim
  ·exact h.elim
 ·rename_i uop ty x d
  unfold unD at h
  split at h
  ·split at h
   ·cases h;exact fin (Step0.not ty x _)
   ·exact h.elim
  ·split at h
   ·cases h;exact fin (Step0.neg ty x _ _ _ rfl)
   ·cases h;exact fin (Step0.compl ty x _ _ _ rfl)
   ·exact h.elim
  ·exact h.elim
 ·rename_i src dst x d
  unfold qzz at h
  split at h
  ·split at h
   ·rename_i k1 k2 _ _
    split at h
    ·rename_i hk
     cases h
     obtain ⟨k1,hk1⟩:=k1
     obtain ⟨k2,hk2⟩:=k2
     simp only at hk
     subst hk
     exact fin (Step0.convert src dst x _ _ _ _ rfl)
    ·exact h.elim
   ·exact h.elim
  ·exact h.elim
 ·rename_i x i d
  unfold quc at h
  split at h
  ·have h1:=qfe h
   exact fin (Step0.extract x i _ _ (by rw[qdX,h1];rfl))
  ·exact h.elim
 ·rename_i f first caps
  obtain ⟨first⟩:=first
  obtain ⟨caps⟩:=caps
  unfold qzA at h
  split at h
  ·rename_i hs
   cases h
   have:first=[]:=List.eq_nil_of_length_eq_zero hs
   subst this
   simp only[conc,qa]
   exact fin (Step0.makeFunc0 f caps _)
  ·rename_i hs
   cases h
   obtain ⟨y,rfl⟩:=List.length_eq_one_iff.1 hs
   simp only[conc,qa] at fin ⊢
   exact fin (Step0.makeFunc1 f y caps _ _)
  ·exact h.elim
 ·rename_i args tys x y
  unfold minD at h
  split at h
  ·split at h
   ·rename_i hk
    subst hk;cases h
    obtain ⟨args⟩:=args
    simp only[opl] at ha
    match args,ha with
    | [ox,oy],ha=>exact Step0.snd ho ha (Step0.min2 tys ox oy _ _ _)
    | [],ha=>cases ha
    | [_],ha=>simp[qa] at ha
    | _::_::_::_,ha=>simp[qa] at ha
   ·exact h.elim
  ·exact h.elim
 ·rename_i args tys x y
  unfold maxD at h
  split at h
  ·split at h
   ·rename_i hk
    subst hk;cases h
    obtain ⟨args⟩:=args
    simp only[opl] at ha
    match args,ha with
    | [ox,oy],ha=>exact Step0.snd ho ha (Step0.max2 tys ox oy _ _ _)
    | [],ha=>cases ha
    | [_],ha=>simp[qa] at ha
    | _::_::_::_,ha=>simp[qa] at ha
   ·exact h.elim
  ·exact h.elim
 ·rename_i ty ps
  obtain ⟨ps⟩:=ps
  unfold qwV at h
  split at h
  ·rename_i e hs pl he hst hpl
   split at h
   ·rename_i zs hag hz
    obtain ⟨cs,h1,h2⟩:=PT.seq_is _ h
    cases h2
    have h1:=qfe h1
    have hp:=qrP _ _ hpl
    have hf:=qug hg _ _ _ _ h1
    rw[qpA] at hf
    obtain ⟨sz,ag,z,ok⟩:=e
    simp only at hag hz
    subst hag hz
    have:=hs.down
    simp only[conc]
    exact Step1.snd ho ha (Step1.build ty sz zs pl ps _ _ hp hf)
   ·exact h.elim
  ·exact h.elim
 ·rename_i ty x y s kk n
  unfold qvC at h
  split at h
  ·rename_i hs _
   obtain ⟨b,hb,h⟩:=h
   cases h
   simp only[opl,List.map_cons,List.map_nil,qa,conc,List.cons.injEq,and_true] at ha
   refine AY.of fun q w hE hH hX=>?_
   have g1:=hX x (by rw[ho];simp[opl])
   have g2:=hX y (by rw[ho];simp[opl])
   rw[ha.1] at g1
   rw[ha.2] at g2
   have g1:=g1.val_eq
   have g2:=g2.val_eq
   refine ⟨.int .u8 b,w,?_,Ext.refl w,.val _⟩
   unfold qzB at hb
   split at hb
   ·rename_i h0
    cases hq:s[n.toNat]? with
    | none=>rw[hq] at hb;cases hb
    | some c =>
     rw[hq] at hb
     injection hb with hb
     unfold execOp
     rw[ho]
     have hrun:(Instr.index ty (.string s) (.int kk n)).run P w = .ok (.int .u8 b) w:=by
      simp only[Instr.index,asIntOf,Sem.run_bind,Sem.run_pure,Result.andThen_ok,run_underlying hs.down,if_pos h0,hq,← hb]
     simp only[g1,g2,Sem.run_bind,hrun,Result.andThen_ok,Sem.run_pure]
   ·cases hb
  ·exact h.elim
 ·exact h.elim
end
theorem qyl{sz:Nat}{rows:List (List AV)}(h:∀(i:Nat) (row:List AV),rows[i]?=some row→row.length=sz){i off n:Nat}{row:List AV}(hi:rows[i]?=some row)(hl:off+n≤sz):(rows.flatten.drop (i*sz+off)).take n=(row.drop off).take n:=by
 have hr:=h i row hi
 apply List.ext_getElem?
 intro j
 rw[List.getElem?_take,List.getElem?_take,List.getElem?_drop,List.getElem?_drop]
 by_cases hj:j<n
 ·rw[if_pos hj,if_pos hj]
  have hlt:off+j<row.length:=by omega
  rw[Nat.add_assoc,qfD h i (off+j) row _ hi (List.getElem?_eq_getElem hlt),List.getElem?_eq_getElem hlt]
 ·rw[if_neg hj,if_neg hj]
section
variable {P:Program} {w0:Bs} {S:Nat→Prop} {B:Tab P} {a:Act} {w:World} {m:Nat→Value} {st:St}
theorem qP{x:Operand}{d:DV}(hx:evD st.T x=d)(g:Nat→Option Cn):evO (qa g st.T) x=conc g d:=by rw[qfU,hx]
theorem DR.blkAt(hr:DR w0 S m st a w){k:Nat}{tt:TypeId}{cells:List DV}{z:Bool}(hk:hget st.H k = .blk z tt cells):∃b,m k = .pointer (some ⟨b,0,none⟩)∧(hes m st.H)[k]?=some (.blk b tt (qa (gOf m st.H) cells))∧∀off,ptrA off (gOf m st.H k) = .val (.pointer (some ⟨b,off,none⟩)):=by
 obtain ⟨_,hs,hr⟩:=hr
 have hg:=qg3 (m:=m) hk nofun
 have hok:=hr.hs _ (List.mem_of_getElem? hg)
 have hg':(hes m st.H)[k]?=some (heB (m k) tt (qa (gOf m st.H) cells)):=hg
 rcases qjE (m k) tt with ⟨b,h1,h2⟩ | h2
 ·refine ⟨b,h1,by rw[hg',h2],fun off=>?_⟩
  unfold gOf
  rw[hk,h1]
  simp only[DO.cn,ptrA,Nat.zero_add]
 ·have hok':(heB (m k) tt (qa (gOf m st.H) cells)).ok w w0 (Al w0 S (hes m st.H)):=hok
  rw[h2] at hok'
  obtain ⟨_,⟨_,_,h⟩,_⟩:=hok'
  exact h.elim
theorem DR.mapAt(hr:DR w0 S m st a w){k:Nat}{kt et:Ty}{l:List (kt.den×et.den)}{z:Bool}(hk:hget st.H k = .map z kt et l):∃b,m k = .pointer (some ⟨b,0,none⟩)∧(hes m st.H)[k]?=some (.obj b (MpIs kt et l))∧mpA (gOf m st.H k) = .val (.map (some b)):=by
 obtain ⟨_,hs,hr⟩:=hr
 have hg:=qg3 (m:=m) hk nofun
 have hok:=hr.hs _ (List.mem_of_getElem? hg)
 have hg':(hes m st.H)[k]?=some (heM (m k) kt et l):=hg
 rcases qmV (m k) kt et with ⟨b,h1,h2⟩ | h2
 ·refine ⟨b,h1,by rw[hg',h2],?_⟩
  unfold gOf
  rw[hk,h1]
  simp only[DO.cn,mpA]
 ·have hok':(heM (m k) kt et l).ok w w0 (Al w0 S (hes m st.H)):=hok
  rw[h2] at hok'
  obtain ⟨_,⟨_,_,h⟩,_⟩:=hok'
  exact h.elim
theorem DR.rowAt(hr:DR w0 S m st a w){k:Nat}{t:Ty}{e:TypeId}{l:List t.den}{z:Bool}(hk:hget st.H k = .row z t e l):(hes m st.H)[k]?=some (.own (m k) e t.sz l.length (l.map t.enc).flatten)∧refA (gOf m st.H k) = .val (m k) ∧
  ((m k = .slice none 0 0∧l=[])∨∃b c,m k = .slice (some ⟨b,0,none⟩) l.length c∧l.length≤c∧c≤maxLen∧(∀i off,epA i off (gOf m st.H k) = .val (.pointer (some ⟨b,i*t.sz+off,none⟩)))):=by
 obtain ⟨_,hs,hr⟩:=hr
 have hg:=qg3 (m:=m) hk nofun
 refine ⟨hg,by unfold gOf;rw[hk];rfl,?_⟩
 obtain ⟨_,xs,⟨h0,h1⟩,_⟩:=hr.hs _ (List.mem_of_getElem? hg)
 rcases h1 with ⟨h1,h2⟩ | ⟨b,c,cur,h1,_,_,h2,h3,_⟩
 ·exact .inl ⟨h1,List.eq_nil_of_length_eq_zero h2⟩
 ·refine .inr ⟨b,c,h1,h2,h3,fun i off=>?_⟩
  unfold gOf
  rw[hk,h1]
  simp only[DO.cn,epA,Nat.zero_add]
theorem DR.gok(hr:DR w0 S m st a w):Gok (gOf m st.H):=hr.2.1.gok
theorem qym{o:Oper}{ty:TypeId}{x:Operand}{d:DV}{r:SR}(ho:o.op = .load ty x)(hx:evD st.T x=d)(h:(qom B st.H ty d).Is r):StepW P o st ⟨qt st.T o.dst r.v,r.H⟩:=by
 unfold qom at h
 split at h
 ·exact h.elim
 ·rename_i e _
  obtain ⟨sz,ag,z,ok⟩:=e
  simp only at h
  split at h
  ·rename_i cells
   obtain ⟨v,h1,h2⟩:=PT.seq_is _ h
   cases h2
   have h1:=qfe h1
   refine StepW.ay fun w0 S m a w hr=>?_
   rcases qmW h1 with ⟨rfl,rfl,q,rfl⟩ | ⟨rfl,h2,rfl⟩
   ·exact Step0.snd ho (by simp only[opl,List.map_cons,List.map_nil,qP hx,conc,qa];rfl) (Step0.load1 ty x _ _ _ z rfl)
   ·exact Step0.snd ho (by simp only[opl,List.map_cons,List.map_nil,qP hx,conc,qa];rfl) (Step0.loadN ty x _ _ sz z (by rw[qe];exact h2.1) (by rw[qgs]))
  ·rename_i k off
   split at h
   ·rename_i tt cells hk
    obtain ⟨v,h1,h2⟩:=PT.seq_is _ h
    cases h2
    have h1:=qfe h1
    refine StepW.ay fun w0 S m a w hr=>?_
    obtain ⟨b,hb1,hb2,hb3⟩:=hr.blkAt hk
    rcases qmW h1 with ⟨rfl,rfl,q,hq⟩ | ⟨rfl,h2,rfl⟩
    ·have hc:cells[off]?=some v:=by rw[← List.head?_drop,hq];rfl
     exact Step0.snd ho (by simp only[opl,List.map_cons,List.map_nil,qP hx,conc,hb3]) (Step0.mload1 ty x b off tt _ _ _ z (List.mem_of_getElem? hb2) (by rw[qdX,hc];rfl) rfl)
    ·rw[List.length_drop] at h2
     simp only[conc,qgs,qgr]
     exact Step0.snd ho (by simp only[opl,List.map_cons,List.map_nil,qP hx,conc,hb3]) (Step0.mloadN ty x b off sz tt _ _ z (List.mem_of_getElem? hb2) (by rw[qe];omega) rfl)
   ·exact h.elim
  ·rename_i k i off
   split at h
   ·rename_i t te l hk
    obtain ⟨y,hy,h⟩:=h
    obtain ⟨v,h1,h2⟩:=PT.seq_is _ h
    cases h2
    have h1:=qfe h1
    refine StepW.ay fun w0 S m a w hr=>?_
    obtain ⟨hg,hrf,hcase⟩:=hr.rowAt hk
    rcases hcase with ⟨_,rfl⟩ | ⟨b,c,hm,hc,hc',hep⟩
    ·simp at hy
    ·rw[hm] at hg
     have hmem:=List.mem_of_getElem? hg
     have hrow:(l.map t.enc)[i]?=some (t.enc y):=by rw[List.getElem?_map,hy];rfl
     rcases qmW h1 with ⟨rfl,rfl,q,hq⟩ | ⟨rfl,h2,rfl⟩
     ·have hc0:(t.encD y)[off]?=some v:=by rw[← List.head?_drop,hq];rfl
      have hc1:(t.enc y)[off]?=some (conc (gOf m st.H) v):=by rw[← qc2 (g:=gOf m st.H),qdX,hc0];rfl
      exact Step0.snd ho (by simp only[opl,List.map_cons,List.map_nil,qP hx,conc,hep]) (Step0.oload1 ty x b _ _ c te t.sz _ _ _ z hmem (qfD (qeM t l) i off _ _ hrow hc1) rfl)
     ·rw[List.length_drop,Ty.encD_len] at h2
      simp only[conc,qgs,qgr,qc2]
      have hlt:=(List.getElem?_eq_some_iff.1 hy).1
      have hfl:(l.map t.enc).flatten.length=l.length*t.sz:=by rw[qhR (qeM t l),List.length_map]
      have:(i+1)*t.sz≤l.length*t.sz:=Nat.mul_le_mul_right _ hlt
      rw[Nat.succ_mul] at this
      exact Step0.snd ho (by simp only[opl,List.map_cons,List.map_nil,qP hx,conc,hep]) (Step0.oloadN ty x b _ sz _ c te t.sz _ _ z hmem (by omega) (qyl (qeM t l) hrow (by omega)))
   ·exact h.elim
  ·exact h.elim
theorem qqp{t:Ty}{l:List t.den}{n:Int}{y:t.den}(h:lat l n=some y):0≤n∧(l.map t.enc)[n.toNat]?=some (t.enc y)∧n.toNat<l.length:=by
 obtain ⟨h1,h2⟩:=qAx h
 exact ⟨h1,by rw[List.getElem?_map,h2];rfl,(List.getElem?_eq_some_iff.1 h2).1⟩
theorem qwZ{o:Oper}{ty:TypeId}{x y:Operand}{d:DV}{kk:IntKind}{n:Int}{r:SR}(ho:o.op = .indexAddr ty x y)(hx:evD st.T x=d)(hy:evD st.T y = .val (.int kk n))(h:(qmb B st.H ty d n).Is r):StepW P o st ⟨qt st.T o.dst r.v,r.H⟩:=by
 unfold qmb at h
 have hds:∀g,(opl (.indexAddr ty x y)).map (evO (qa g st.T))=[conc g d,.val (.int kk n)]:=fun g=>by
  simp only[opl,List.map_cons,List.map_nil,qP hx,qP hy,conc]
 split at h
 ·exact h.elim
 ·rename_i e _
  obtain ⟨te,sz,ag,bytes,z,tt,zero,ok,hsz,hb,hn,hz⟩:=e
  simp only at h
  split at h
  ·rename_i t l
   split at h
   ·rename_i hbq
    have hq:t.sz=sz:=by simpa using hbq
    obtain ⟨v,h1,h⟩:=h
    cases h
    obtain ⟨h2,h3,_⟩:=qqp h1
    refine StepW.ay fun w0 S m a w hr=>?_
    refine Step0.snd ho (hds _) ?_
    simp only[conc,qc2,hq]
    exact Step0.indexAddr ty te x y sz bytes ag z _ _ kk n h2 h3
   ·exact h.elim
  ·rename_i k
   split at h
   ·rename_i t te' l hk
    split at h
    ·rename_i hbq
     have hq:t.sz=sz:=by simpa using hbq
     obtain ⟨v,h1,h⟩:=h
     cases h
     obtain ⟨h2,h3,h4⟩:=qqp h1
     refine StepW.ay fun w0 S m a w hr=>?_
     obtain ⟨hg,hrf,hcase⟩:=hr.rowAt hk
     rcases hcase with ⟨_,rfl⟩ | ⟨b,c,hm,hc,hc',hep⟩
     ·simp at h4
     ·refine Step1.snd ho (hds _) ?_
      simp only[conc,hrf,hm,hep]
      exact Step1.mindexAddr ty te x y sz bytes b 0 _ c _ n.toNat ag z kk n (by omega) h4 (by rw[hq];omega)
    ·exact h.elim
   ·rename_i t l hk
    split at h
    ·rename_i hbq
     have hq:t.sz=sz:=by simpa using hbq
     obtain ⟨v,h1,h⟩:=h
     cases h
     obtain ⟨h2,h3,h4⟩:=qqp h1
     refine StepW.ay fun w0 S m a w hr=>?_
     refine Step0.snd ho (hds _) ?_
     simp only[conc,qjF hk,qc2,hq]
     exact Step0.indexAddr ty te x y sz bytes ag z _ _ kk n h2 h3
    ·exact h.elim
   ·exact h.elim
  ·rename_i k lo q
   split at h
   ·rename_i t te' l hk
    split at h
    ·rename_i hbq
     have hq:t.sz=sz:=by simpa using hbq
     obtain ⟨v,h1,h⟩:=h
     cases h
     obtain ⟨h2,h3,h4⟩:=qqp h1
     rw[List.length_take,List.length_drop] at h4
     refine StepW.ay fun w0 S m a w hr=>?_
     obtain ⟨hg,hrf,hcase⟩:=hr.rowAt hk
     rcases hcase with ⟨_,rfl⟩ | ⟨b,c,hm,hc,hc',hep⟩
     ·simp at h4
     ·refine Step1.snd ho (hds _) ?_
      have hsub:subA lo q (gOf m st.H k) = .val (.slice (some ⟨b,lo*t.sz,none⟩) q (c-lo)):=by
       unfold gOf
       rw[hk,hm]
       simp only[DO.cn,subA,Nat.zero_add]
       rw[if_neg (by omega)]
      simp only[conc,hsub,hep]
      exact Step1.mindexAddr ty te x y sz bytes b _ _ _ _ n.toNat ag z kk n (by omega) (by omega) (by rw[hq,Nat.add_mul];omega)
    ·exact h.elim
   ·exact h.elim
  ·exact h.elim
theorem qzR{o:Oper}{ty:TypeId}{x:Operand}{d:DV}{r:SR}(ho:o.op = .call ⟨.builtin .len,#[x],#[ty]⟩)(hx:evD st.T x=d)(h:(lenD B st.H ty d).Is r):StepW P o st ⟨qt st.T o.dst r.v,r.H⟩:=by
 unfold lenD at h
 have hds:∀g,(opl (.call ⟨.builtin .len,#[x],#[ty]⟩)).map (evO (qa g st.T))=[conc g d]:=fun g=>by
  simp only[opl,List.map_cons,List.map_nil,qP hx]
 split at h
 ·exact h.elim
 ·rename_i e _
  have eok:=e.ok
  split at h
  ·cases h
   refine StepW.ay fun w0 S m a w hr=>Step0.snd ho (hds _) ?_
   simp only[conc]
   exact Step0.lenS ty x _ _ _ _ _ _ _ _ (by simp)
  ·cases h
   refine StepW.ay fun w0 S m a w hr=>Step0.snd ho (hds _) ?_
   simp only[conc]
   exact Step0.lenV ty x _ _ _ _ _ _ _ _
  ·rename_i k
   split at h
   ·rename_i t te l hk
    cases h
    refine StepW.ay fun w0 S m a w hr=>Step0.snd ho (hds _) ?_
    obtain ⟨hg,hrf,hcase⟩:=hr.rowAt hk
    simp only[conc,hrf]
    rcases hcase with ⟨hm,rfl⟩ | ⟨b,c,hm,_⟩
    ·rw[hm];exact Step0.lenV ty x _ _ _ _ _ _ _ _
    ·rw[hm];exact Step0.lenV ty x _ _ _ _ _ _ _ _
   ·rename_i t l hk
    cases h
    refine StepW.ay fun w0 S m a w hr=>Step0.snd ho (hds _) ?_
    simp only[conc,qjF hk]
    exact Step0.lenS ty x _ _ _ _ _ _ _ _ (by simp)
   ·exact h.elim
  ·rename_i k lo q
   split at h
   ·rename_i t te l hk
    cases h
    refine StepW.ay fun w0 S m a w hr=>?_
    rcases qlK lo q (gOf m st.H k) with h1 | ⟨A,c,h1⟩
    ·exact AY.bot (x:=x) (by rw[ho];simp[opl]) (by rw[qP hx];simp only[conc,h1])
    ·refine Step0.snd ho (hds _) ?_
     simp only[conc,h1]
     exact Step0.lenV ty x _ _ _ _ _ _ _ _
   ·exact h.elim
  ·exact h.elim
theorem qzS{o:Oper}{ty:TypeId}{x:Operand}{d:DV}{r:SR}(ho:o.op = .call ⟨.builtin .cap,#[x],#[ty]⟩)(hx:evD st.T x=d)(h:(capD B st.H ty d).Is r):StepW P o st ⟨qt st.T o.dst r.v,r.H⟩:=by
 unfold capD at h
 split at h
 ·rename_i e _
  split at h
  ·rename_i A n c
   cases h
   refine StepW.ay fun w0 S m a w hr=>AY.of fun p w hE hH hX=>?_
   have g1:=hX x (by rw[ho];simp[opl])
   rw[qP hx] at g1
   have g1:p.eval x = .slice A n c:=Enc.val_eq g1
   refine ⟨.int .i64 c,w,?_,Ext.refl w,.val _⟩
   have hrun:(Builtin.cap_ #[ty] o.type #[.slice A n c]).run P w = .ok (.int .i64 c) w:=by
    unfold Builtin.cap_
    simp only[List.getElem?_toArray,List.getElem?_cons_zero,Sem.run_bind,run_underlying e.ok.h,Result.andThen_ok]
    rfl
   unfold execOp
   rw[ho]
   simp only[resolve,invoke,builtin,Sem.run_bind,Sem.run_pure,Result.andThen_ok,List.map_toArray,List.map_cons,List.map_nil,g1,hrun]
  ·exact h.elim
 ·exact h.elim
theorem AY.msliceL{H:List HE}{t:List AV}{o:Oper}{ty e sz bytes n c k:Nat}{ag:Bool}{z:Value}{x y:Operand}{A:Option Addr}{kk:IntKind}{m:Int}[i:SliceTy P ty e sz ag bytes z](ho:o.op = .slice ty x (some y) none none)(hx:evO t x = .val (.slice A n c))(hy:evO t y = .val (.int kk m))(hk:m=(k:Int))(hc:k≤n)(hnc:n≤c) :
  AY P w0 S H o t (.val (.slice (if c=k then A else A.map (·.add (k*sz))) (n-k) (c-k))):=by
 refine AY.of fun a w hE hH hX=>?_
 rw[ho] at hX
 have h1:=hX x (by simp[opl])
 have h2:=hX y (by simp[opl])
 rw[hx] at h1
 rw[hy] at h2
 have hs:=i.ty.size w
 have hu:=i.h
 refine ⟨_,w,?_,Ext.refl w,.val _⟩
 unfold execOp
 rw[ho]
 dsimp only
 simp only[Option.map_some,Option.map_none]
 rw[h1.val_eq,h2.val_eq]
 subst hk
 have hb:(0:Int)≤(k:Int)∧(k:Int)≤(n:Int):=by omega
 simp[Instr.sliceAt,Instr.slice,run_underlying hu,Instr.sliceBounds,Instr.sliceBound,asIntOf,hs,hb,hc]
theorem qyn{o:Oper}{ty:TypeId}{x y:Operand}{d:DV}{kk:IntKind}{n:Int}{r:SR}(ho:o.op = .slice ty x none (some y) none)(hx:evD st.T x=d)(hy:evD st.T y = .val (.int kk n))(h:(qon B st.H ty n d).Is r):StepW P o st ⟨qt st.T o.dst r.v,r.H⟩:=by
 unfold qon at h
 have hds:∀g,(opl (.slice ty x none (some y) none)).map (evO (qa g st.T))=[conc g d,.val (.int kk n)]:=fun g=>by
  simp[opl,qP hx,qP hy,conc]
 split at h
 ·exact h.elim
 ·rename_i e _
  obtain ⟨te,sz,ag,bytes,z,tt,zero,ok,hsz,hb,hn,hz⟩:=e
  simp only at h
  split at h
  ·rename_i t l
   split at h
   ·rename_i hbq
    have hq:t.sz=sz:=by simpa using hbq
    obtain ⟨v,h1,h⟩:=h
    cases h
    obtain ⟨h2,h3⟩:=qeK h1
    refine StepW.ay fun w0 S m a w hr=>Step1.snd ho (hds _) ?_
    simp only[conc,hq]
    exact Step1.sliceH ty te x y sz bytes v ag z kk n _ _ h2 (by simpa using h3) (by rw[List.map_take])
   ·exact h.elim
  ·rename_i k
   split at h
   ·rename_i t te' l hk
    split at h
    ·rename_i hbq
     obtain ⟨v,h1,h⟩:=h
     cases h
     obtain ⟨h2,h3⟩:=qeK h1
     refine StepW.ay fun w0 S m a w hr=>?_
     obtain ⟨hg,hrf,hcase⟩:=hr.rowAt hk
     have hxo:=qP hx (gOf m st.H)
     have hyo:=qP hy (gOf m st.H)
     simp only[conc,hrf] at hxo hyo
     rcases hcase with ⟨hm,rfl⟩ | ⟨b,c,hm,hc,_⟩
     ·rw[hm] at hxo
      have hv:v=0:=by simpa using h3
      subst hv
      have:=AY.msliceH (P:=P) (w0:=w0) (S:=S) (H:=hes m st.H) ho hxo hyo h2 (Nat.le_refl 0)
      simp only[conc]
      unfold gOf
      rw[hk,hm]
      exact this
     ·rw[hm] at hxo
      have:=AY.msliceH (P:=P) (w0:=w0) (S:=S) (H:=hes m st.H) ho hxo hyo h2 (Nat.le_trans h3 hc)
      simp only[conc]
      unfold gOf
      rw[hk,hm]
      simp only[DO.cn,subA,Nat.zero_mul,Nat.add_zero,ite_self,Nat.sub_zero]
      exact this
    ·exact h.elim
   ·rename_i t l hk
    split at h
    ·rename_i hbq
     have hq:t.sz=sz:=by simpa using hbq
     obtain ⟨v,h1,h⟩:=h
     cases h
     obtain ⟨h2,h3⟩:=qeK h1
     refine StepW.ay fun w0 S m a w hr=>Step1.snd ho (hds _) ?_
     simp only[conc,qjF hk,hq]
     exact Step1.sliceH ty te x y sz bytes v ag z kk n _ _ h2 (by simpa using h3) (by rw[List.map_take])
    ·exact h.elim
   ·exact h.elim
  ·rename_i A q c
   obtain ⟨v,h1,h⟩:=h
   cases h
   obtain ⟨h2,h3⟩:=qeK h1
   refine StepW.ay fun w0 S m a w hr=>?_
   have hxo:=qP hx (gOf m st.H)
   have hyo:=qP hy (gOf m st.H)
   simp only[conc] at hxo hyo ⊢
   exact AY.msliceH ho hxo hyo h2 h3
  ·exact h.elim
theorem AY.mslice2{H:List HE}{t:List AV}{o:Oper}{ty e sz bytes n c k j:Nat}{ag:Bool}{z:Value}{x y y2:Operand}{A:Option Addr}{kk k2:IntKind}{lo hi:Int}[i:SliceTy P ty e sz ag bytes z](ho:o.op = .slice ty x (some y) (some y2) none)(hx:evO t x = .val (.slice A n c))(hy:evO t y = .val (.int kk lo))(hy2:evO t y2 = .val (.int k2 hi))(hk:lo=(k:Int))(hj:hi=(j:Int))(hkj:k≤j)(hc:j≤c) :
  AY P w0 S H o t (.val (.slice (if c=k then A else A.map (·.add (k*sz))) (j-k) (c-k))):=by
 refine AY.of fun a w hE hH hX=>?_
 rw[ho] at hX
 have h1:=hX x (by simp[opl])
 have h2:=hX y (by simp[opl])
 have h3:=hX y2 (by simp[opl])
 rw[hx] at h1
 rw[hy] at h2
 rw[hy2] at h3
 have hs:=i.ty.size w
 have hu:=i.h
 refine ⟨_,w,?_,Ext.refl w,.val _⟩
 unfold execOp
 rw[ho]
 dsimp only
 simp only[Option.map_some,Option.map_none]
 rw[h1.val_eq,h2.val_eq,h3.val_eq]
 subst hk hj
 have hb:(0:Int)≤(k:Int)∧(k:Int)≤(j:Int):=by omega
 have hb2:(0:Int)≤(j:Int)∧(j:Int)≤(c:Int):=by omega
 simp[Instr.sliceAt,Instr.slice,run_underlying hu,Instr.sliceBounds,Instr.sliceBound,asIntOf,hs,hb,hb2,hc,hkj]
theorem AY.slice2{H:List HE}{t:List AV}{o:Oper}{ty e sz bytes k j:Nat}{ag:Bool}{z:Value}{x y y2:Operand}{rows:List (List AV)}{kk k2:IntKind}{lo hi:Int}[i:SliceTy P ty e sz ag bytes z](ho:o.op = .slice ty x (some y) (some y2) none)(hx:evO t x = .sl sz rows)(hy:evO t y = .val (.int kk lo))(hy2:evO t y2 = .val (.int k2 hi))(hk:lo=(k:Int))(hj:hi=(j:Int))(hkj:k≤j)(h:j≤rows.length) :
  AY P w0 S H o t (.sl sz ((rows.take j).drop k)):=by
 refine AY.of fun a w hE hH hX=>?_
 rw[ho] at hX
 have h1:=hX x (by simp[opl])
 have h2:=hX y (by simp[opl])
 have h3:=hX y2 (by simp[opl])
 rw[hx] at h1
 rw[hy] at h2
 rw[hy2] at h3
 have hs:=i.ty.size w
 have hu:=i.h
 unfold execOp
 rw[ho]
 dsimp only
 simp only[Option.map_some,Option.map_none]
 rw[h2.val_eq,h3.val_eq]
 generalize a.eval x=X at *
 subst hk hj
 cases h1 with
 | slnil A c _ hm =>
  have hj0:j=0:=by simpa using h
  subst hj0
  have hk0:k=0:=by omega
  subst hk0
  refine ⟨.slice A 0 c,w,?_,Ext.refl w,.slnil A c sz hm⟩
  simp[Instr.sliceAt,Instr.slice,run_underlying hu,Instr.sliceBounds,Instr.sliceBound,asIntOf,hs]
  cases A<;>simp[Addr.add]
 | sl b off m c _ _ cv hn hc hm h1 h2 h3 h4 h5 =>
  have hjm:j≤m:=by omega
  refine ⟨.slice (if c=k then some ⟨b,off,none⟩ else some ⟨b,off+k*sz,none⟩) (j-k) (c-k),w,?_,Ext.refl w,?_⟩
  ·have hb:(0:Int)≤(k:Int)∧(k:Int)≤(j:Int):=by omega
   have hb2:(0:Int)≤(j:Int)∧(j:Int)≤(c:Int):=by omega
   have hjc:j≤c:=by omega
   simp[Instr.sliceAt,Instr.slice,run_underlying hu,Instr.sliceBounds,Instr.sliceBound,asIntOf,hs,hb,hb2,hjc,hkj,qek]
  ·by_cases hck:c=k
   ·have e1:j-k=0:=by omega
    have hr:(rows.take j).drop k=[]:=List.drop_eq_nil_of_le (by simp;omega)
    rw[e1,hr]
    exact .slnil _ _ sz (by omega)
   ·rw[if_neg hck]
    refine .sl b (off+k*sz) (j-k) (c-k) sz _ (fun i=>cv (k*sz+i)) (by simp;omega) (by omega) (by omega) h1 h2 (fun i row hi=>h3 (k+i) row (by
     rw[List.getElem?_drop,List.getElem?_take] at hi
     split at hi
     ·exact hi
     ·cases hi)) (fun i hi=>?_) fun i q row d hi hj=>?_
    ·rw[Nat.add_assoc]
     refine h4 _ ?_
     rw[Nat.sub_mul] at hi
     have:j*sz≤m*sz:=Nat.mul_le_mul_right _ hjm
     omega
    ·rw[List.getElem?_drop,List.getElem?_take] at hi
     split at hi
     ·have:=h5 (k+i) q row d hi hj
      rwa [Nat.add_mul,Nat.add_assoc] at this
     ·cases hi
theorem qyo{o:Oper}{ty:TypeId}{x y:Operand}{d:DV}{kk:IntKind}{n:Int}{r:SR}(ho:o.op = .slice ty x (some y) none none)(hx:evD st.T x=d)(hy:evD st.T y = .val (.int kk n))(h:(qoo B st.H ty n d).Is r):StepW P o st ⟨qt st.T o.dst r.v,r.H⟩:=by
 unfold qoo at h
 have hds:∀g,(opl (.slice ty x (some y) none none)).map (evO (qa g st.T))=[conc g d,.val (.int kk n)]:=fun g=>by
  simp[opl,qP hx,qP hy,conc]
 split at h
 ·exact h.elim
 ·rename_i e _
  obtain ⟨te,sz,ag,bytes,z,tt,zero,ok,hsz,hb,hn,hz⟩:=e
  simp only at h
  split at h
  ·rename_i t l
   split at h
   ·rename_i hbq
    have hq:t.sz=sz:=by simpa using hbq
    obtain ⟨v,h1,h⟩:=h
    cases h
    obtain ⟨h2,h3⟩:=qeK h1
    refine StepW.ay fun w0 S m a w hr=>Step1.snd ho (hds _) ?_
    simp only[conc,hq]
    exact Step1.sliceL ty te x y sz bytes v ag z kk n _ _ h2 (by simpa using h3) (by rw[List.map_drop])
   ·exact h.elim
  ·rename_i k
   split at h
   ·rename_i t te' l hk
    split at h
    ·rename_i hbq
     have hq:t.sz=sz:=by simpa using hbq
     obtain ⟨v,h1,h⟩:=h
     cases h
     obtain ⟨h2,h3⟩:=qeK h1
     refine StepW.ay fun w0 S m a w hr=>?_
     obtain ⟨hg,hrf,hcase⟩:=hr.rowAt hk
     have hxo:=qP hx (gOf m st.H)
     have hyo:=qP hy (gOf m st.H)
     simp only[conc,hrf] at hxo hyo
     rcases hcase with ⟨hm,rfl⟩ | ⟨b,c,hm,hc,_⟩
     ·rw[hm] at hxo
      have hv:v=0:=by simpa using h3
      subst hv
      have:=AY.msliceL (P:=P) (w0:=w0) (S:=S) (H:=hes m st.H) ho hxo hyo h2 (Nat.le_refl 0) (Nat.le_refl 0)
      simp only[conc]
      unfold gOf
      rw[hk,hm]
      exact this
     ·rw[hm] at hxo
      have:=AY.msliceL (P:=P) (w0:=w0) (S:=S) (H:=hes m st.H) ho hxo hyo h2 h3 hc
      simp only[conc]
      unfold gOf
      rw[hk,hm]
      simp only[DO.cn,subA,Nat.zero_add,hq]
      have e1:(if c=v then (⟨b,0,none⟩:Addr) else ⟨b,v*sz,none⟩)=if c=v then ⟨b,0,none⟩ else Addr.add ⟨b,0,none⟩ (v*sz):=by
       rw[qek,Nat.zero_add]
      rw[e1]
      have e2:(some (if c=v then (⟨b,0,none⟩:Addr) else Addr.add ⟨b,0,none⟩ (v*sz)))=if c=v then some (⟨b,0,none⟩:Addr) else (some (⟨b,0,none⟩:Addr)).map (·.add (v*sz)):=by
       split<;>rfl
      rw[e2]
      exact this
    ·exact h.elim
   ·rename_i t l hk
    split at h
    ·rename_i hbq
     have hq:t.sz=sz:=by simpa using hbq
     obtain ⟨v,h1,h⟩:=h
     cases h
     obtain ⟨h2,h3⟩:=qeK h1
     refine StepW.ay fun w0 S m a w hr=>Step1.snd ho (hds _) ?_
     simp only[conc,qjF hk,hq]
     exact Step1.sliceL ty te x y sz bytes v ag z kk n _ _ h2 (by simpa using h3) (by rw[List.map_drop])
    ·exact h.elim
   ·exact h.elim
  ·exact h.elim
theorem qzT{o:Oper}{ty:TypeId}{x y y2:Operand}{d:DV}{kk k2:IntKind}{n n2:Int}{r:SR}(ho:o.op = .slice ty x (some y) (some y2) none)(hx:evD st.T x=d)(hy:evD st.T y = .val (.int kk n))(hy2:evD st.T y2 = .val (.int k2 n2))(h:(cutD B st.H ty n n2 d).Is r):StepW P o st ⟨qt st.T o.dst r.v,r.H⟩:=by
 unfold cutD at h
 split at h
 ·exact h.elim
 ·rename_i e _
  obtain ⟨te,sz,ag,bytes,z,tt,zero,ok,hsz,hb,hn,hz⟩:=e
  simp only at h
  split at h
  ·rename_i t l
   split at h
   ·rename_i hbq
    have hq:t.sz=sz:=by simpa using hbq
    obtain ⟨v,h1,v2,h1',h⟩:=h
    cases h
    obtain ⟨h2,h3⟩:=qeK h1
    obtain ⟨h2',h3'⟩:=qeK h1'
    refine StepW.ay fun w0 S m a w hr=>?_
    have hxo:=qP hx (gOf m st.H)
    have hyo:=qP hy (gOf m st.H)
    have hyo2:=qP hy2 (gOf m st.H)
    simp only[conc] at hxo hyo hyo2 ⊢
    rw[List.map_drop,List.map_take,hq]
    rw[hq] at hxo
    exact AY.slice2 ho hxo hyo hyo2 h2' h2 h3' (by simpa using h3)
   ·exact h.elim
  ·rename_i k
   split at h
   ·rename_i t te' l hk
    split at h
    ·rename_i hbq
     have hq:t.sz=sz:=by simpa using hbq
     obtain ⟨v,h1,v2,h1',h⟩:=h
     cases h
     obtain ⟨h2,h3⟩:=qeK h1
     obtain ⟨h2',h3'⟩:=qeK h1'
     refine StepW.ay fun w0 S m a w hr=>?_
     obtain ⟨hg,hrf,hcase⟩:=hr.rowAt hk
     have hxo:=qP hx (gOf m st.H)
     have hyo:=qP hy (gOf m st.H)
     have hyo2:=qP hy2 (gOf m st.H)
     simp only[conc,hrf] at hxo hyo hyo2
     rcases hcase with ⟨hm,rfl⟩ | ⟨b,c,hm,hc,_⟩
     ·rw[hm] at hxo
      have hv:v=0:=by simpa using h3
      subst hv
      have hv2:v2=0:=by omega
      subst hv2
      have:=AY.mslice2 (P:=P) (w0:=w0) (S:=S) (H:=hes m st.H) ho hxo hyo hyo2 h2' h2 (Nat.le_refl 0) (Nat.le_refl 0)
      simp only[Option.map_none,ite_self,Nat.sub_self] at this
      simp only[conc]
      unfold gOf
      rw[hk,hm]
      exact this
     ·rw[hm] at hxo
      have:=AY.mslice2 (P:=P) (w0:=w0) (S:=S) (H:=hes m st.H) ho hxo hyo hyo2 h2' h2 h3' (Nat.le_trans h3 hc)
      simp only[conc]
      unfold gOf
      rw[hk,hm]
      simp only[DO.cn,subA,hq]
      rw[show (if c=v2 then some (⟨b,0,none⟩:Addr) else (some (⟨b,0,none⟩:Addr)).map (·.add (v2*sz)))=some (if c=v2 then ⟨b,0,none⟩ else ⟨b,0+v2*sz,none⟩) by split<;>simp[qek]] at this
      exact this
    ·exact h.elim
   ·rename_i t l hk
    split at h
    ·rename_i hbq
     have hq:t.sz=sz:=by simpa using hbq
     obtain ⟨v,h1,v2,h1',h⟩:=h
     cases h
     obtain ⟨h2,h3⟩:=qeK h1
     obtain ⟨h2',h3'⟩:=qeK h1'
     refine StepW.ay fun w0 S m a w hr=>?_
     have hxo:=qP hx (gOf m st.H)
     have hyo:=qP hy (gOf m st.H)
     have hyo2:=qP hy2 (gOf m st.H)
     simp only[conc,qjF hk] at hxo hyo hyo2 ⊢
     rw[List.map_drop,List.map_take,hq]
     rw[hq] at hxo
     exact AY.slice2 ho hxo hyo hyo2 h2' h2 h3' (by simpa using h3)
    ·exact h.elim
   ·exact h.elim
  ·exact h.elim
end
def upd(m:Nat→Value)(k:Nat)(v:Value):Nat→Value:=fun j=>if j=k then v else m j
theorem qen(m:Nat→Value)(k:Nat)(v:Value):upd m k v k=v:=by simp[upd]
theorem qgu(m:Nat→Value){k j:Nat}(v:Value)(h:j≠k):upd m k v j=m j:=by simp[upd,h]
theorem qbC{H:List DO}{k:Nat}(h:qcI H k=true):hget H k = .new∧k<H.length:=by
 unfold qcI at h
 split at h
 ·rename_i h1;exact ⟨h1,Nat.le_of_ble_eq_true h⟩
 ·cases h
theorem qg4{m:Nat→Value}{H:List DO}{k:Nat}{v:Value}(h:qcI H k=true):mle m (upd m k v) H:=fun j hj=>qgu m v fun e=>hj (by rw[e];exact (qbC h).1)
theorem qgH{m:Nat→Value}{H:List DO}{k:Nat}{v:Value}{o:DO}(hs:Sane m H)(hv:(∃A n c,v = .slice A n c)∨∃b,v = .pointer (some ⟨b,0,none⟩)):Sane (upd m k v) (hput H k o):=fun j hj=>by
 by_cases h:j=k
 ·subst h;rw[qen];exact hv
 ·rw[qgu m v h]
  refine hs j ?_
  rw[qq,if_neg (fun e=>h e.1.symm)] at hj
  exact hj
theorem qvE{m:Nat→Value}{H:List DO}{k j:Nat}{v:Value}{o:DO}(h:j≠k):gOf (upd m k v) (hput H k o) j=gOf m H j:=by
 unfold gOf
 rw[qq,if_neg (fun e=>h e.1.symm),qgu m v h]
theorem qhU{m:Nat→Value}{H:List DO}{k:Nat}{v:Value}{o:DO}(h:k<H.length):gOf (upd m k v) (hput H k o) k=o.cn v:=by
 unfold gOf
 rw[qq,if_pos ⟨rfl,h⟩,qen]
section
variable {P:Program} {w0:Bs} {S:Nat→Prop} {B:Tab P} {a:Act} {w:World} {m:Nat→Value} {st:St}
theorem DR.made{HO:List DO}{T:List DV}{e:HE}{id:Nat}{v0:Value}{o:DO}(hr:SRel w0 S (qa (gOf m HO) T) (e::hes m HO) a w)(hn:qcI HO id=true)(hp:e.proper)
  (he:∀g' b,(heOf g' v0 o).owns b→e.owns b) (hok:∀(g':Nat→Option Cn) (A A':Nat→Prop),(∀b,A b→A' b)→Gle w A' (gOf m HO) g'→e.ok w w0 A→(heOf g' v0 o).ok w w0 A') :
  SRel w0 S (qa (gOf (upd m id v0) (hput HO id o)) T) (hes (upd m id v0) (hput HO id o)) a w:=by
 obtain ⟨h1,h2⟩:=qbC hn
 have hr2:=hr.place id (by rw[qj];exact h2)
 have hg:Gle w (Al w0 S (hes (upd m id v0) (hput HO id o))) (gOf m HO) (gOf (upd m id v0) (hput HO id o)):=fun k=>by
  by_cases hk:k=id
  ·subst hk;left;unfold gOf;rw[h1];rfl
  ·right;left;exact qvE hk
 refine DR.regle hr2 (by rw[qcD,List.length_set,qj]) hg fun k e' hk hlt=>?_
 rw[qcD] at hlt
 rw[List.getElem?_set] at hk
 by_cases hki:k=id
 ·subst hki
  rw[if_pos rfl,if_pos (by rw[qj];exact h2)] at hk
  injection hk with hk
  subst hk
  rw[qq,if_pos ⟨rfl,h2⟩,qen]
  exact ⟨.inr ⟨hp,he _⟩,fun hA=>hok _ _ _ hA hg⟩
 ·rw[if_neg (fun h=>hki h.symm),q8,if_pos hlt] at hk
  injection hk with hk
  subst hk
  rw[qq,if_neg (fun h=>hki h.1.symm),qgu m v0 hki]
  exact ⟨.inr ⟨qbm _,fun b hb=>qbx hb⟩,fun hA=>(qlb hA hg _ _).2⟩
theorem qvc{b:Nat}{tt:TypeId}{cs cs':List AV}{A A':Nat→Prop}(hl:cs'.length=cs.length)(hc:∀(i:Nat) (d':AV),cs'[i]?=some d'→∃d,cs[i]?=some d∧∀u,Enc w A u d→Enc w A' u d')(h:(HE.blk b tt cs).ok w w0 A):(HE.blk b tt cs').ok w w0 A':=by
 obtain ⟨h1,vs,h2,h3,h4⟩:=h
 refine ⟨h1,vs,h2,by omega,fun i d hi=>?_⟩
 obtain ⟨d0,h5,h6⟩:=hc i d hi
 exact h6 _ (h4 i d0 h5)
theorem qzU{id:Nat}{o:Oper}{ty:TypeId}{x:Operand}{d:DV}{r:SR}(ho:o.op = .box ty x)(hx:evD st.T x=d)(h:(boxD id st.H ty d).Is r):StepW P o st ⟨qt st.T o.dst r.v,r.H⟩:=by
 unfold boxD at h
 split at h
 ·rename_i cs hc hn
  cases h
  refine StepW.ef (.put (by rw[(qbC hn).1];rfl)) fun w0 S m a w hr=>EF.box ho (qP hx _) (qkb hr.gok hc) fun b=>⟨upd m id (.pointer (some ⟨b,0,none⟩)),qg4 hn,qgH hr.2.1 (.inr ⟨b,rfl⟩),fun a w hs=>?_⟩
  have e1:conc (gOf (upd m id (.pointer (some ⟨b,0,none⟩))) (hput st.H id (.blk false ty cs))) (.ptr id 0) = .val (.pointer (some ⟨b,0,none⟩)):=by
   simp only[conc,qhU (qbC hn).2];rfl
  have e2:∀g,AV.putO (qa g st.T) o.dst (.val (.pointer (some ⟨b,0,none⟩)))=qa g (qt st.T o.dst (.val (.pointer (some ⟨b,0,none⟩)))):=fun g=>by rw[qcX];rfl
  rw[e1,e2]
  rw[e2] at hs
  refine DR.made hs hn trivial (fun g' b' hb=>hb) fun g' A A' hA hg hok=>?_
  exact qvc (by simp only[qe]) (fun i d' hi=>qgt (fun b _=>hA b) hg cs i d' hi) hok
 ·exact h.elim
theorem qw0{id:Nat}{o:Oper}{ty:TypeId}{r:SR}(ho:o.op = .alloc ty)(h:(qnG B id st.H ty).Is r):StepW P o st ⟨qt st.T o.dst r.v,r.H⟩:=by
 unfold qnG at h
 split at h
 ·rename_i e he hn
  cases h
  have eok:=e.ok
  refine StepW.ef (.put (by rw[(qbC hn).1];rfl)) fun w0 S m a w hr=>EF.alloc ho rfl fun b=>⟨upd m id (.pointer (some ⟨b,0,none⟩)),qg4 hn,qgH hr.2.1 (.inr ⟨b,rfl⟩),fun a w hs=>?_⟩
  have e1:conc (gOf (upd m id (.pointer (some ⟨b,0,none⟩))) (hput st.H id (.blk false ty (e.z.cells.toList.map .val)))) (.ptr id 0) = .val (.pointer (some ⟨b,0,none⟩)):=by
   simp only[conc,qhU (qbC hn).2];rfl
  have e2:∀g,AV.putO (qa g st.T) o.dst (.val (.pointer (some ⟨b,0,none⟩)))=qa g (qt st.T o.dst (.val (.pointer (some ⟨b,0,none⟩)))):=fun g=>by rw[qcX];rfl
  rw[e1,e2]
  rw[e2] at hs
  refine DR.made hs hn trivial (fun g' b' hb=>hb) fun g' A A' hA hg hok=>?_
  show (HE.blk b ty (qa g' (e.z.cells.toList.map .val))).ok w w0 A'
  rw[qpA]
  exact HE.ok_mono hok fun b _ hb=>hA b hb
 ·exact h.elim
end
theorem qmc{sz:Nat}{rows:List (List AV)}(h:∀(i:Nat) (row:List AV),rows[i]?=some row→row.length=sz){i:Nat}{d:AV}(hd:rows.flatten[i]?=some d):0<sz∧∃row,rows[i/sz]?=some row∧row[i % sz]?=some d:=by
 have hi:=qbK hd
 rw[qhR h] at hi
 have hsz:0<sz:=Nat.pos_of_ne_zero fun h0=>by rw[h0] at hi;simp at hi
 have hq:i/sz<rows.length:=Nat.div_lt_of_lt_mul (by rw[Nat.mul_comm];exact hi)
 have hm:i % sz<sz:=Nat.mod_lt _ hsz
 have hrl:=h _ _ (List.getElem?_eq_getElem hq)
 have e1:i/sz*sz+i % sz=i:=by rw[Nat.mul_comm];exact Nat.div_add_mod i sz
 have hfa:=qfD h (i/sz) (i % sz) _ _ (List.getElem?_eq_getElem hq) (List.getElem?_eq_getElem (by omega))
 rw[e1,hd] at hfa
 exact ⟨hsz,_,List.getElem?_eq_getElem hq,by rw[hfa];exact List.getElem?_eq_getElem _⟩
section
variable {P:Program} {w0:Bs} {S:Nat→Prop} {B:Tab P} {a:Act} {w:World} {m:Nat→Value} {st:St}
theorem qqV{v:Value}{e sz n:Nat}{cs cs':List AV}{A A':Nat→Prop}(hl:cs'.length=cs.length)(hc:∀(i:Nat) (d':AV),cs'[i]?=some d'→∃d,cs[i]?=some d∧∀u,Enc w A u d→Enc w A' u d')(h:(HE.own v e sz n cs).ok w w0 A):(HE.own v e sz n cs').ok w w0 A':=by
 obtain ⟨h1,vs,h2,h3,h4⟩:=h
 refine ⟨h1,vs,h2,by omega,fun i d hi=>?_⟩
 obtain ⟨d0,h5,h6⟩:=hc i d hi
 exact h6 _ (h4 i d0 h5)
theorem StepW.fz{o:Oper}{T:List DV}{H H':List DO}{st':St}(h:Fz H H')(hs:StepW P o ⟨T,H'⟩ st'):StepW P o ⟨T,H⟩ st':=by
 refine ⟨h.kl.trans hs.1,?_⟩
 intro w0 S F hF m a w hr K Q hK
 exact hs.2 w0 S F hF m a w (hr.fz h).1 K Q fun m' a' w' hm hd hdf=>hK m' a' w' (fun k hk=>hm k (by
  rcases h.2 k with h1 | ⟨t,e,l,_,h2⟩
  ·rw[h1];exact hk
  ·rw[h2];exact nofun)) hd hdf
theorem qbb(t:Ty)(l:List t.den):(l.map t.enc).flatten.length=l.length*t.sz:=by rw[qhR (qeM t l),List.length_map]
theorem qyp{id:Nat}{o:Oper}{ty:TypeId}{x y:Operand}{k1 k2:IntKind}{n q:Int}{r:SR}(ho:o.op = .makeSlice ty x y)(hx:evD st.T x = .val (.int k1 n))(hy:evD st.T y = .val (.int k2 q))(h:(qqm B id st.H ty n q).Is r):StepW P o st ⟨qt st.T o.dst r.v,r.H⟩:=by
 unfold qqm at h
 split at h
 ·rename_i e he hn
  obtain ⟨_,g1,_,g2,h⟩:=h
  cases h
  have g1:=qd5 g1
  have g2:=qd5 g2
  simp only[Bool.and_eq_true,decide_eq_true_eq] at g1
  have g2:n=q:=by simpa using g2
  subst g2
  obtain ⟨te,sz,ag,bytes,z,tt,zero,ok,hsz,hb,hns,hz⟩:=e
  simp only
  obtain ⟨j,rfl⟩:∃j:Nat,n=(j:Int):=⟨n.toNat,by omega⟩
  have hj:j≤10000:=by omega
  have hbb:j*bytes≤281474976710656:=Nat.le_trans (Nat.mul_le_mul hj hb) (by decide)
  have hss:j*sz≤1000000:=Nat.le_trans (Nat.mul_le_mul hj hns) (by decide)
  rw[Int.toNat_natCast]
  refine StepW.ef (.put (by rw[(qbC hn).1];rfl)) fun w0 S m a w hr=>EF.make (P:=P) (n:=(j:Int)) (m:=(j:Int)) j ho (by rw[qP hx];rfl) (by rw[qP hy];rfl) rfl rfl hss hbb (by unfold maxLen;omega) fun b=>⟨upd m id (.slice (some ⟨b,0,none⟩) j j),qg4 hn,qgH hr.2.1 (.inl ⟨_,_,_,rfl⟩),fun a w hs=>?_⟩
  have e1:conc (gOf (upd m id (.slice (some ⟨b,0,none⟩) j j)) (hput st.H id (.row false tt te (List.replicate j zero)))) (.ref id) = .val (.slice (some ⟨b,0,none⟩) j j):=by
   simp only[conc,qhU (qbC hn).2];rfl
  have e2:∀g,AV.putO (qa g st.T) o.dst (.val (.slice (some ⟨b,0,none⟩) j j))=qa g (qt st.T o.dst (.val (.slice (some ⟨b,0,none⟩) j j))):=fun g=>by rw[qcX];rfl
  rw[e1,e2]
  rw[e2] at hs
  refine DR.made hs hn trivial (fun g' b' hb=>by injection hb) fun g' A A' hA hg hok=>?_
  obtain ⟨h1,vs,h2,h3,h4⟩:=hok
  rw[List.length_map,List.length_range] at h3
  show (HE.own (.slice (some ⟨b,0,none⟩) j j) te tt.sz (List.replicate j zero).length ((List.replicate j zero).map tt.enc).flatten).ok w w0 A'
  refine ⟨fun b' hb'=>by injection hb' with hb';rw[← hb'];exact h1,vs,⟨by rw[List.length_replicate,hsz,h3],.inr ⟨b,j,vs.toArray,by rw[List.length_replicate],Nat.zero_le _,h2,by rw[List.length_replicate];exact Nat.le_refl _,by unfold maxLen;omega,by rw[hsz];simpa using h3,by rw[List.length_replicate,hsz,← h3];simp⟩⟩,by rw[qbb,List.length_replicate,hsz,h3],fun i d hi=>?_⟩
  have hlt:=qbK hi
  rw[qbb,List.length_replicate,hsz] at hlt
  obtain ⟨hp,row,h5,h6⟩:=qmc (qeM tt _) hi
  rw[List.getElem?_map] at h5
  cases hq:(List.replicate j zero)[i/tt.sz]? with
  | none=>rw[hq] at h5;cases h5
  | some q =>
   rw[hq] at h5
   injection h5 with h5
   have:q=zero:=List.eq_of_mem_replicate (List.mem_of_getElem? hq)
   subst this
   rw[← h5,hsz] at h6
   have h7:=(h4 i (AV.val (z.cells.getD (i % sz) undef)) (by rw[List.getElem?_map,List.getElem?_range hlt];rfl)).val_eq
   rw[h7]
   exact hz w A' _ d h6
 ·exact h.elim
theorem qgI{H:List DO}{k:Nat}{o:DO}(h:∀v,o.cn v=(hget H k).cn v):gOf m (hput H k o)=gOf m H:=by
 funext j
 unfold gOf
 rw[qq]
 split
 ·rename_i h1;obtain ⟨rfl,_⟩:=h1;exact h _
 ·rfl
theorem qjG{H:List DO}{k:Nat}{o:DO}(h:∀v,o.cn v=(hget H k).cn v):hes m (hput H k o)=(hes m H).set k (heOf (gOf m H) (m k) o):=by
 apply List.ext_getElem?
 intro i
 rw[q8,qcD,qgI h,qq,List.getElem?_set,qj]
 by_cases hik:k=i
 ·subst hik
  by_cases hlt:k<H.length
  ·simp[hlt]
  ·simp[hlt]
 ·rw[if_neg hik]
  by_cases hlt:i<H.length
  ·rw[if_pos hlt,if_neg (fun h=>hik h.1),q8,if_pos hlt]
  ·rw[if_neg hlt,q8,if_neg hlt]
end
section
variable {P:Program} {w0:Bs} {S:Nat→Prop} {B:Tab P} {a:Act} {w:World} {m:Nat→Value} {st:St}
theorem qw1{o:Oper}{ty:TypeId}{x y:Operand}{p d:DV}{r:SR}(ho:o.op = .store ty x y)(hx:evD st.T x=p)(hy:evD st.T y=d)(h:(qnF B st.H ty p d).Is r):StepW P o st ⟨qt st.T o.dst r.v,r.H⟩:=by
 unfold qnF at h
 split at h
 ·rename_i e cs he hc
  have eok:=e.ok
  split at h
  ·rename_i hb
   rw[Bool.and_eq_true] at hb
   have hb1:cs.length=e.sz:=by simpa using hb.1
   split at h
   ·rename_i k off
    split at h
    ·rename_i z tt cells hk
     split at h
     ·rename_i hle
      have hle:off+cs.length≤cells.length:=Nat.le_of_ble_eq_true hle
      cases h
      have hcn:∀v,(DO.blk z tt (qk cells off cs)).cn v=(hget st.H k).cn v:=fun v=>by rw[hk];rfl
      refine StepW.ef (Kl.blk hk) fun w0 S m a w hr=>?_
      obtain ⟨b,hb2,hb3,hb4⟩:=hr.blkAt hk
      refine EF.store k tt _ _ _ ho (by rw[qP hx];simp only[conc,hb4];rfl) (qP hy _) hb3 (qkb hr.gok hc) (by rw[qe,hb1]) (qtb hr.gok hb.2) (by rw[qe,qe];exact hle) rfl ⟨m,mle.refl _ _,fun j hj=>hr.2.1 j fun e=>?_,fun a w hs=>?_⟩
      ·rw[qq] at hj
       split at hj
       ·rename_i h1;obtain ⟨rfl,_⟩:=h1;rw[hk] at e;cases e
       ·exact hj e
      ·rw[qgI hcn,qjG hcn]
       have:heOf (gOf m st.H) (m k) (.blk z tt (qk cells off cs)) = .blk b tt (qk (qa (gOf m st.H) cells) off (qa (gOf m st.H) cs)):=by
        show heB (m k) tt _=_
        rw[hb2,qip];rfl
       rw[this]
       exact hs
     ·exact h.elim
    ·exact h.elim
   ·rename_i k i off
    split at h
    ·rename_i z t te l hk
     obtain ⟨xx,hxx,h⟩:=h
     dsimp only at h
     split at h
     ·rename_i hle
      have hle:off+cs.length≤t.sz:=Nat.le_of_ble_eq_true hle
      split at h
      ·rename_i x' H' F hdec
       split at h
       ·cases h
        obtain ⟨hfz,hlen,hD⟩:=qgo t _ _ _ _ _ hdec
        have hk':hget H' k = .row z t te l:=by
         rename_i hq
         rcases hfz.2 k with h1 | ⟨t2,e2,l2,h1,h2⟩
         ·rw[h1,hk]
         ·rw[h2] at hq;cases hq
        refine StepW.fz hfz ?_
        have hcn:∀v,(DO.row z t te (l.set i x')).cn v=(hget H' k).cn v:=fun v=>by rw[hk'];rfl
        have hlt:=(List.getElem?_eq_some_iff.1 hxx).1
        refine StepW.ef (st:=⟨st.T,H'⟩) (Kl.row hk') fun w0 S m a w hr=>?_
        obtain ⟨hg,hrf,hcase⟩:=hr.rowAt hk'
        rcases hcase with ⟨_,rfl⟩ | ⟨b,c,hm,hc1,hc2,hep⟩
        ·simp at hxx
        rw[hm] at hg
        have hll:(i+1)*t.sz≤l.length*t.sz:=Nat.mul_le_mul_right _ hlt
        rw[Nat.succ_mul] at hll
        have hoff:i*t.sz+off+cs.length≤(l.map t.enc).flatten.length:=by rw[qbb];omega
        refine EF.ostore k l.length c te t.sz _ _ _ ho (by rw[qP (st:=⟨st.T,H'⟩) hx];simp only[conc,hep];rfl) (qP (st:=⟨st.T,H'⟩) hy _) hg (qkb hr.gok hc) (by rw[qe,hb1]) (qtb hr.gok hb.2) (by rw[qe];exact hoff) rfl ⟨m,mle.refl _ _,fun j hj=>hr.2.1 j fun e=>?_,fun a w hs=>?_⟩
        ·rw[qq] at hj
         split at hj
         ·rename_i h1;obtain ⟨rfl,_⟩:=h1;rw[show hget H' k=_ from hk'] at e;cases e
         ·exact hj e
        ·have e2:∀g,AV.putO (qa g st.T) o.dst .undef=qa g (qt st.T o.dst (.val undef)):=fun g=>by rw[qcX];rfl
         have e3:conc (gOf m (hput H' k (.row z t te (l.set i x')))) (.val undef) = .undef:=rfl
         rw[e3,e2]
         simp only[e2] at hs
         have hgg:=qgI (m:=m) hcn
         have hgl:Gle w (Al w0 S (hes m (hput H' k (.row z t te (l.set i x'))))) (gOf m H') (gOf m (hput H' k (.row z t te (l.set i x')))):=fun j=>.inr (.inl (by rw[hgg]))
         refine DR.regle hs (by rw[qcD,List.length_set,qj]) hgl fun j e' hj hjl=>?_
         rw[qcD] at hjl
         rw[hgg,qq]
         rw[List.getElem?_set] at hj
         by_cases hjk:k=j
         ·subst hjk
          rw[if_pos rfl,if_pos (by rw[qj];exact hjl)] at hj
          injection hj with hj
          subst hj
          rw[if_pos ⟨rfl,hjl⟩]
          simp only[heOf,hm,List.length_set]
          refine ⟨.inr ⟨trivial,fun b hb=>hb⟩,fun hA hok=>qqV ?_ (fun q d' hq=>?_) hok⟩
          ·rw[qbb,List.length_set,qA (by rw[qe];exact hoff),qbb]
          ·obtain ⟨hsz,row,h5,h6⟩:=qmc (qeM t _) hq
           rw[qe1 (by rw[qe];exact hoff),qe]
           have hqe:q/t.sz*t.sz+q % t.sz=q:=by rw[Nat.mul_comm];exact Nat.div_add_mod q t.sz
           have hqm:q % t.sz<t.sz:=Nat.mod_lt _ hsz
           rw[List.getElem?_map,List.getElem?_set] at h5
           by_cases hqi:i=q/t.sz
           ·rw[if_pos hqi,if_pos hlt] at h5
            injection h5 with h5
            rw[← h5] at h6
            obtain ⟨d0,h7,h8⟩:=hD m H' (Fz.refl _) w (Al w0 S ((hes m H').set k (.own (.slice (some ⟨b,0,none⟩) l.length c) te t.sz l.length (qk (l.map t.enc).flatten (i*t.sz+off) (qa (gOf m H') cs))))) (q % t.sz) d' h6
            rw[qip,qc2,qe1 (by rw[Ty.enc_len,qe];exact hle),qe] at h7
            refine ⟨d0,?_,fun u hu=>(h8 u hu).mono fun b _ hb=>hA b hb⟩
            rw[← hqi] at hqe
            by_cases hin:off≤q % t.sz∧q % t.sz<off+cs.length
            ·rw[if_pos hin] at h7
             rw[if_pos (by omega),show q-(i*t.sz+off)=q % t.sz-off by omega]
             exact h7
            ·rw[if_neg hin] at h7
             rw[if_neg (by omega),← hqe]
             exact qfD (qeM t l) i _ _ _ (by rw[List.getElem?_map,hxx];rfl) h7
           ·rw[if_neg hqi] at h5
            refine ⟨d',?_,fun u hu=>hu.mono fun b _ hb=>hA b hb⟩
            have hfl:(l.map t.enc).flatten[q]?=some d':=by
             rw[← hqe]
             exact qfD (qeM t l) _ _ row _ (by rw[List.getElem?_map];exact h5) h6
            rw[if_neg,hfl]
            intro hin
            rcases Nat.lt_or_gt_of_ne hqi with hlt2 | hgt2
            ·have:(i+1)*t.sz≤q/t.sz*t.sz:=Nat.mul_le_mul_right _ hlt2
             rw[Nat.succ_mul] at this
             omega
            ·have:(q/t.sz+1)*t.sz≤i*t.sz:=Nat.mul_le_mul_right _ hgt2
             rw[Nat.succ_mul] at this
             omega
         ·rw[if_neg hjk] at hj
          rw[if_neg (fun h=>hjk h.1)]
          rw[q8,if_pos hjl] at hj
          injection hj with hj
          subst hj
          exact ⟨.inr ⟨qbm _,fun b hb=>hb⟩,fun hA hok=>HE.ok_mono hok fun b _ hb=>hA b hb⟩
       ·exact h.elim
      ·exact h.elim
     ·exact h.elim
    ·exact h.elim
   ·exact h.elim
  ·exact h.elim
 ·exact h.elim
end
section
variable {P:Program} {w0:Bs} {S:Nat→Prop} {B:Tab P} {a:Act} {w:World} {m:Nat→Value} {st:St}
theorem Dec.fz{t:Ty}{cs:List DV}{x:t.den}{H H':List DO}(h:Dec t cs x H)(hf:Fz H H'):Dec t cs x H':=fun m H2 hf2=>h m H2 (hf.trans hf2)
theorem qsH{t:Ty}:∀(ds:List DV) (H:List DO) (l:List t.den) (H':List DO) (F:List Nat),decL t H ds=some (l,H',F)→Fz H H'∧∃css:List (List DV),ds.map qma=css.map some∧css.length=l.length ∧
  ∀(i:Nat) (cs:List DV) (x:t.den),css[i]?=some cs→l[i]?=some x→cs.length=t.sz∧Dec t cs x H'
 | [],H,l,H',F,h=>by
  injection h with h
  obtain ⟨rfl,rfl,rfl⟩:=h
  exact ⟨Fz.refl _,[],rfl,rfl,fun i cs x h=>by simp at h⟩
 | d::ds,H,l,H',F,h=>by
  unfold decL at h
  split at h
  ·rename_i cs hcs
   split at h
   ·rename_i x H1 F1 h1
    split at h
    ·rename_i l2 H2 F2 h2
     injection h with h
     obtain ⟨rfl,rfl,rfl⟩:=h
     obtain ⟨a1,a2,a3⟩:=qgo t H _ _ _ _ h1
     obtain ⟨b1,css,b2,b3,b4⟩:=qsH ds H1 _ _ _ h2
     refine ⟨a1.trans b1,cs::css,by simp[hcs,b2],by simp[b3],fun i c y h5 h6=>?_⟩
     cases i with
     | zero =>
      simp only[List.getElem?_cons_zero,Option.some.injEq] at h5 h6
      subst h5 h6
      exact ⟨a2,a3.fz b1⟩
     | succ i=>exact b4 i c y (by simpa using h5) (by simpa using h6)
    ·cases h
   ·cases h
  ·cases h
theorem qqW{sz:Nat}{g:Nat→Option Cn}(hg:Gok g):∀(ds:List DV) (css:List (List DV)) (i:Nat) (pre:List AV),ds.map qma=css.map some→(∀(i:Nat) (cs:List DV),css[i]?=some cs→cs.length=sz)→pre.length=i*sz →
  qeB (zip3 (qdn sz ds.length i) (qa g ds)) (pre++List.replicate (ds.length*sz) .any)=some (pre++(css.map (qa g)).flatten)
 | [],css,i,pre,h,_,_=>by
  cases css with
  | nil=>simp[qa,qdn,zip3,qeB]
  | cons c css=>cases h
 | d::ds,[],i,pre,h,_,_=>by cases h
 | d::ds,cs::css,i,pre,h,hl,hp=>by
  simp only[List.map_cons,List.cons.injEq] at h
  obtain ⟨h1,h2⟩:=h
  have h3:=hl 0 cs rfl
  simp only[List.length_cons,qdn,qa,zip3,qeB,qkb hg h1]
  have hlen:(pre++List.replicate ((ds.length+1)*sz) AV.any).length=i*sz+(ds.length+1)*sz:=by simp[hp]
  rw[if_pos ⟨by rw[qe,h3],by rw[hlen,Nat.succ_mul];omega⟩]
  have hsp:qk (pre++List.replicate ((ds.length+1)*sz) AV.any) (i*sz) (qa g cs)=(pre++qa g cs)++List.replicate (ds.length*sz) AV.any:=by
   unfold qk
   rw[qe,h3,List.append_assoc]
   congr 1
   ·rw[List.take_append_of_le_length (by omega),← hp,List.take_length]
   ·congr 1
    rw[List.drop_append,hp,List.drop_eq_nil_of_le (by omega),List.nil_append,List.drop_replicate]
    congr 1
    rw[Nat.succ_mul];omega
  rw[hsp,qqW hg ds css (i+1) _ h2 (fun j c hj=>hl (j+1) c hj) (by rw[List.length_append,qe,h3,hp,Nat.succ_mul])]
  simp
theorem qwd{id:Nat}{o:Oper}{ty:TypeId}{n:Nat}{ps:Array (Nat×Operand)}{ds:List DV}{r:SR}(ho:o.op = .buildSlice ty n ps)(hds:(ps.toList.map (·.2)).map (evD st.T)=ds)(h:(ql5 B id st.H ty n (ps.toList.map (·.1)) ds).Is r):StepW P o st ⟨qt st.T o.dst r.v,r.H⟩:=by
 obtain ⟨ps⟩:=ps
 simp only at hds h
 unfold ql5 at h
 split at h
 ·rename_i e he
  split at h
  ·rename_i l H' F hdec
   split at h
   ·rename_i hn
    split at h
    ·rename_i hb
     cases h
     rw[Bool.and_eq_true,decide_eq_true_eq] at hb
     have hn20:n≤20:=Nat.le_of_ble_eq_true hb.1
     obtain ⟨hfz,css,h1,h2,h3⟩:=qsH ds _ _ _ _ hdec
     refine StepW.fz hfz ?_
     obtain ⟨te,sz,ag,bytes,z,tt,zero,ok,hsz,hbb,hns,hz⟩:=e
     simp only at h2 h3 hdec ⊢
     have hdl:ds.length=n:=by
      have e1:=congrArg List.length hb.2
      rw[List.length_map,List.length_range] at e1
      rw[← hds];simp[e1]
     have hcl:css.length=n:=by
      have:=congrArg List.length h1
      simp only[List.length_map] at this
      omega
     have hll:l.length=n:=by omega
     have hcs:∀(i:Nat) (cs:List DV),css[i]?=some cs→cs.length=sz:=fun i cs hi=>by
      have hlt:=(List.getElem?_eq_some_iff.1 hi).1
      rw[← hsz]
      exact (h3 i cs _ hi (List.getElem?_eq_getElem (by omega))).1
     refine StepW.ef (st:=⟨st.T,H'⟩) (.put (by rw[(qbC hn).1];rfl)) fun w0 S m a w hr=>EF.buildO (P:=P) (parts:=ps) (ds:=qa (gOf m H') ds) ho (quf (g:=gOf m H') (op:=.buildSlice ty n ps.toArray) (T:=st.T) (ds:=ds) hds) hb.2 (Nat.le_trans (Nat.mul_le_mul hn20 hns) (by decide)) (by
      have:=qqW (g:=gOf m H') hr.gok ds css 0 [] h1 hcs (by simp)
      rw[hdl,List.nil_append,List.nil_append] at this
      exact this) fun b=>⟨upd m id (.slice (some ⟨b,0,none⟩) n n),qg4 hn,qgH hr.2.1 (.inl ⟨_,_,_,rfl⟩),fun a w hs=>?_⟩
     have e1:conc (gOf (upd m id (.slice (some ⟨b,0,none⟩) n n)) (hput H' id (.row false tt te l))) (.ref id) = .val (.slice (some ⟨b,0,none⟩) n n):=by
      simp only[conc,qhU (qbC hn).2];rfl
     have e2:∀g,AV.putO (qa g st.T) o.dst (.val (.slice (some ⟨b,0,none⟩) n n))=qa g (qt st.T o.dst (.val (.slice (some ⟨b,0,none⟩) n n))):=fun g=>by rw[qcX];rfl
     rw[e1,e2]
     simp only[e2] at hs
     refine DR.made hs hn trivial (fun g' b' hb=>hb) fun g' A A' hA hg hok=>?_
     show (HE.own (.slice (some ⟨b,0,none⟩) n n) te tt.sz l.length (l.map tt.enc).flatten).ok w _ A'
     rw[hll,hsz]
     have hcsz:∀(i:Nat) (row:List AV),(css.map (qa (gOf m H')))[i]?=some row→row.length=sz:=fun i row hi=>by
      rw[List.getElem?_map] at hi
      cases hx:css[i]? with
      | none=>rw[hx] at hi;cases hi
      | some c=>rw[hx] at hi;injection hi with hi;rw[← hi,qe];exact hcs i c hx
     refine qqV ?_ (fun q d' hq=>?_) hok
     ·rw[qbb,hll,qhR hcsz,List.length_map,hcl,hsz]
     ·obtain ⟨hp,row,h5,h6⟩:=qmc (qeM tt _) hq
      rw[List.getElem?_map] at h5
      cases hx:l[q/tt.sz]? with
      | none=>rw[hx] at h5;cases h5
      | some x =>
       rw[hx] at h5
       injection h5 with h5
       rw[← h5] at h6
       have hlt:=(List.getElem?_eq_some_iff.1 hx).1
       have hcq:css[q/tt.sz]?=some (css[q/tt.sz]'(by omega)):=List.getElem?_eq_getElem _
       obtain ⟨_,hD⟩:=h3 _ _ x hcq hx
       obtain ⟨d0,h7,h8⟩:=hD m H' (Fz.refl _) w A _ d' h6
       refine ⟨d0,?_,fun u hu=>(h8 u hu).mono fun b _ hb=>hA b hb⟩
       have:=qfD hcsz (q/tt.sz) (q % tt.sz) _ d0 (by rw[List.getElem?_map,hcq];rfl) h7
       rw[← hsz,Nat.mul_comm,Nat.div_add_mod] at this
       exact this
    ·exact h.elim
   ·exact h.elim
  ·exact h.elim
 ·exact h.elim
def Src(w:World)(A:Nat→Prop)(t:Ty)(X:Value)(l:List t.den):Prop :=
 ∃(Ad:Option Addr) (c:Nat) (news:List Value),X = .slice Ad l.length c∧Sl w w.heap.size t.sz Ad l.length news∧news.length=(l.map t.enc).flatten.length∧∀(i:Nat) (d:AV),(l.map t.enc).flatten[i]?=some d→Enc w A (news.getD i undef) d
theorem Src.enc{A:Nat→Prop}{t:Ty}{X:Value}{l:List t.den}(h:Enc w A X (.sl t.sz (l.map t.enc))):Src w A t X l:=by
 obtain ⟨Ad,c,news,h1,h2,h3,h4⟩:=qt3 h
 rw[List.length_map] at h1 h2
 exact ⟨Ad,c,news,h1,h2,h3,h4⟩
theorem qw2(t:Ty)(l:List t.den)(n:Nat):(l.map t.enc).flatten.drop (n*t.sz)=((l.drop n).map t.enc).flatten:=by
 induction n generalizing l with
 | zero=>simp
 | succ n ih=>cases l with
  | nil=>simp
  | cons x l =>
   rw[List.drop_succ_cons,← ih l,List.map_cons,List.flatten_cons,Nat.succ_mul,Nat.add_comm,List.drop_append,Ty.enc_len,List.drop_eq_nil_of_le (by rw[Ty.enc_len];omega),List.nil_append]
   congr 1;omega
theorem qmX(t:Ty)(l:List t.den)(n:Nat):(l.map t.enc).flatten.take (n*t.sz)=((l.take n).map t.enc).flatten:=by
 induction n generalizing l with
 | zero=>simp
 | succ n ih=>cases l with
  | nil=>simp
  | cons x l =>
   rw[List.take_succ_cons,List.map_cons,List.flatten_cons,List.map_cons,List.flatten_cons,← ih l,Nat.succ_mul,Nat.add_comm,List.take_append,Ty.enc_len,List.take_of_length_le (by rw[Ty.enc_len];omega)]
   congr 2;omega
theorem Src.own{A:Nat→Prop}{b c e n:Nat}{t:Ty}{l:List t.den}(lo k:Nat)(h:(HE.own (.slice (some ⟨b,0,none⟩) n c) e t.sz n (l.map t.enc).flatten).ok w w0 A)(hle:lo+k≤l.length)(Ad:Option Addr)(hAd:0<k→Ad=some ⟨b,lo*t.sz,none⟩)(c':Nat):Src w A t (.slice Ad k c') ((l.drop lo).take k):=by
 obtain ⟨_,xs,h1,h2,h3⟩:=h
 have hk:((l.drop lo).take k).length=k:=by simp;omega
 have hlt:=(h1.lt b rfl).2
 have hfl:=qbb t l
 have e1:lo*t.sz+k*t.sz≤l.length*t.sz:=by rw[← Nat.add_mul];exact Nat.mul_le_mul_right _ hle
 refine ⟨Ad,c',(xs.drop (lo*t.sz)).take (k*t.sz),by rw[hk],⟨by rw[List.length_take,List.length_drop,hk,h2,hfl];omega,fun h0=>⟨b,lo*t.sz,hAd (by omega),hlt,fun j u hu=>?_⟩⟩,?_,fun i d hi=>?_⟩
 ·rw[List.getElem?_take] at hu
  split at hu
  ·rw[List.getElem?_drop] at hu
   have:=h1.cells (g:=b) rfl _ u hu
   rw[qek,Nat.zero_add] at this
   exact this
  ·cases hu
 ·rw[List.length_take,List.length_drop,h2,hfl,qbb,hk];omega
 ·rw[← qmX,← qw2,List.getElem?_take] at hi
  split at hi
  ·rename_i hik
   rw[List.getElem?_drop] at hi
   have:=h3 _ d hi
   rw[List.getD_eq_getElem?_getD] at this ⊢
   rw[List.getElem?_take,if_pos hik,List.getElem?_drop]
   exact this
  ·cases hi
theorem Src.nil{A:Nat→Prop}{t:Ty}(Ad:Option Addr)(c:Nat):Src w A t (.slice Ad 0 c) []:=⟨Ad,c,[],rfl,Sl.nil w _ _ _,rfl,fun i d h=>by simp at h⟩
theorem qmY{t:Ty}{d:DV}{r:List t.den×List Nat}{T:List AV}(hr:SRel w0 S T (hes m st.H) a w)(h:(qk1 t st.H d).Is r){u:Value}(hu:Enc w (Al w0 S (hes m st.H)) u (conc (gOf m st.H) d)):Src w (Al w0 S (hes m st.H)) t u r.1:=by
 unfold qk1 at h
 split at h
 ·obtain ⟨l,h1,h2⟩:=PT.seq_is _ h
  obtain ⟨e,rfl⟩:=qem (qfe h1)
  cases h2
  subst e
  exact Src.enc hu
 ·cases h
  rw[show u=_ from hu.val_eq]
  exact Src.nil _ _
 ·rename_i k
  split at h
  ·rename_i t' te l hk
   obtain ⟨l',h1,h2⟩:=PT.seq_is _ h
   obtain ⟨e,rfl⟩:=qem (qfe h1)
   cases h2
   subst e
   have hg:=qg3 (m:=m) hk nofun
   have hok:=hr.hs _ (List.mem_of_getElem? hg)
   have hrf:refA (gOf m st.H k) = .val (m k):=by unfold gOf;rw[hk];rfl
   simp only[conc,hrf] at hu
   rw[hu.val_eq]
   have hok':(HE.own (m k) te t'.sz l.length (l.map t'.enc).flatten).ok w w0 (Al w0 S (hes m st.H)):=hok
   clear h1
   obtain ⟨_,xs,⟨h0,h1⟩,_⟩:=hok'
   rcases h1 with ⟨h1,h2⟩ | ⟨b,c,cur,h1,_⟩
   ·have:=List.eq_nil_of_length_eq_zero h2
    rw[h1,this];exact Src.nil _ _
   ·have hok2:(HE.own (m k) te t'.sz l.length (l.map t'.enc).flatten).ok w w0 (Al w0 S (hes m st.H)):=hok
    rw[h1] at hok2 ⊢
    have:=Src.own (w:=w) 0 l.length hok2 (by omega) (some ⟨b,0,none⟩) (fun _=>by rw[Nat.zero_mul]) c
    rw[List.drop_zero,List.take_length] at this
    exact this
  ·rename_i t' l hk
   obtain ⟨l',h1,h2⟩:=PT.seq_is _ h
   obtain ⟨e,rfl⟩:=qem (qfe h1)
   cases h2
   subst e
   simp only[conc,qjF hk] at hu
   exact Src.enc hu
  ·exact h.elim
 ·rename_i k lo n
  split at h
  ·rename_i t' te l hk
   obtain ⟨_,g1,h⟩:=h
   obtain ⟨l',h1,h2⟩:=PT.seq_is _ h
   obtain ⟨e,rfl⟩:=qem (qfe h1)
   cases h2
   subst e
   clear h1
   have hle:=Nat.le_of_ble_eq_true (qd5 g1)
   have hg:=qg3 (m:=m) hk nofun
   have hok:(HE.own (m k) te t'.sz l.length (l.map t'.enc).flatten).ok w w0 (Al w0 S (hes m st.H)):=hr.hs _ (List.mem_of_getElem? hg)
   obtain ⟨_,xs,⟨h0,h1⟩,_⟩:=hok
   have hok:(HE.own (m k) te t'.sz l.length (l.map t'.enc).flatten).ok w w0 (Al w0 S (hes m st.H)):=hr.hs _ (List.mem_of_getElem? hg)
   rcases h1 with ⟨h1,h2⟩ | ⟨b,c,cur,h1,_,_,h2,_⟩
   ·have hl0:=List.eq_nil_of_length_eq_zero h2
    have hn:n=0:=by rw[hl0] at hle;simp at hle;omega
    subst hn
    have:subA lo 0 (gOf m st.H k) = .val (.slice none 0 (0-lo)):=by unfold gOf;rw[hk,h1];rfl
    simp only[conc,this] at hu
    rw[hu.val_eq]
    simp only[List.take_zero]
    exact Src.nil _ _
   ·have:subA lo n (gOf m st.H k) = .val (.slice (some (if c=lo then ⟨b,0,none⟩ else ⟨b,lo*t'.sz,none⟩)) n (c-lo)):=by
     unfold gOf;rw[hk,h1]
     simp only[DO.cn,subA,Nat.zero_add]
    simp only[conc,this] at hu
    rw[hu.val_eq]
    rw[h1] at hok
    refine Src.own (w:=w) lo n hok hle _ (fun hn=>?_) _
    rw[if_neg (by omega)]
  ·exact h.elim
 ·exact h.elim
end
theorem qor{α:Type}(l:List α)(j:Nat)(b:α)(h:j<l.length):(l.set j b).Perm (b::l.eraseIdx j):=by
 induction l generalizing j with
 | nil=>simp at h
 | cons x l ih=>cases j with
  | zero=>simp
  | succ j =>
   simp only[List.set_cons_succ,List.eraseIdx_cons_succ]
   exact ((ih j (by simpa using h)).cons x).trans (.swap _ _ _)
theorem qyq{α:Type}(l:List α)(i j:Nat)(x y:α)(hne:i≠j)(hi:i<l.length)(hj:j<l.length):((l.set i x).set j y).Perm ((l.set i y).set j x):=by
 induction l generalizing i j with
 | nil=>simp at hi
 | cons z l ih=>cases i with
  | zero=>cases j with
   | zero=>exact absurd rfl hne
   | succ j =>
    simp only[List.set_cons_zero,List.set_cons_succ]
    have hj':j<l.length:=by simpa using hj
    exact ((qor l j y hj').cons x).trans ((List.Perm.swap _ _ _).trans ((qor l j x hj').symm.cons y))
  | succ i=>cases j with
   | zero =>
    simp only[List.set_cons_zero,List.set_cons_succ]
    have hi':i<l.length:=by simpa using hi
    exact ((qor l i x hi').cons y).trans ((List.Perm.swap _ _ _).trans ((qor l i y hi').symm.cons x))
   | succ j =>
    simp only[List.set_cons_succ]
    exact (ih i j (by omega) (by simpa using hi) (by simpa using hj)).cons z
section
variable {P:Program} {w0:Bs} {S:Nat→Prop} {B:Tab P} {a:Act} {w:World} {m:Nat→Value} {st:St}
theorem qsI{t':List AV}{HH:List HE}{o:Oper}{x y:Operand}{ty e sz bytes n k mm c:Nat}{ag:Bool}{z v:Value}{Ad:Option Addr}{cells cells2:List AV}{news:List Value}(i:SliceTy P ty e sz ag bytes z)(ho:o.op = .call ⟨.builtin .append,#[x,y],#[ty,ty]⟩)
  (hr:SRel w0 S t' HH a w) (hH:HH[k]?=some (.own v e sz n cells)) (hx:a.eval x=v) (hy:a.eval y = .slice Ad mm c) (hs:Sl w w.heap.size sz Ad mm news) (hn:news.length=cells2.length) (hv:∀(i:Nat) (d:AV),cells2[i]?=some d→Enc w (Al w0 S HH) (news.getD i undef) d) (h1:cells2.all AV.one=true)
  (h63:n+mm≤maxLen) (hbytes:(n+mm)*bytes≤140737488355328):∃A c' w',(execOp a.eval o).run P w = .ok (.value (.slice A (n+mm) c')) w'∧SRel w0 S t' (HH.set k (.own (.slice A (n+mm) c') e sz (n+mm) (cells++cells2))) a w':=by
 obtain ⟨h02,xs,h2,h3,h4⟩:=hr.hs _ (List.mem_of_getElem? hH)
 obtain ⟨it,hi,hz0,hz1,hz2⟩:∃it,P.info? e=some it∧it.zero=some z∧it.size=sz∧it.bytes=bytes:=by
  have h0:=i.he
  cases hi:P.info? e with
  | none=>rw[hi] at h0;cases h0
  | some it =>
   rw[hi] at h0
   simp only[Option.map_some,Option.some.injEq,Prod.mk.injEq] at h0
   exact ⟨it,rfl,h0.2.1,h0.1,h0.2.2⟩
 have hone:∀u,u∈news→u.oneCell'=true:=fun u hu=>by
  obtain ⟨j,hj,rfl⟩:=List.mem_iff_getElem.1 hu
  have hj':j<cells2.length:=by omega
  have:=(hv j _ (List.getElem?_eq_getElem hj')).one (List.all_eq_true.1 h1 _ (List.getElem_mem hj'))
  rwa [List.getD_eq_getElem?_getD,List.getElem?_eq_getElem hj] at this
 obtain ⟨v',w',h9,h10,h11,h12⟩:=qoZ (P:=P) w 0 ty o.type e it z sz bytes i.h hi hz0 hz1 hz2 i.s i.p v n xs h2 w.heap.size Ad mm c news hs hone h63 hbytes (Nat.zero_le _)
 obtain ⟨A',c',rfl⟩:=qs3 h10
 refine ⟨A',c',w',?_,?_⟩
 ·unfold execOp
  rw[ho]
  simp only[resolve,invoke,builtin,Sem.run_bind,Sem.run_pure,Result.andThen_ok,List.map_toArray,List.map_cons,List.map_nil,hx,hy,h9]
 ·refine hr.owned k _ (.slice A' (n+mm) c') e sz (n+mm) (cells++cells2) (xs++news) hH trivial h10 ((Kp.grown h11).mono fun x hx _=>hx) (fun b hb=>h12.imp (fun e=>e.symm.trans hb) fun e=>by have e':=e.symm.trans hb;injection e' with e';exact e'.symm) (by simp[h3,hn]) fun j d hj=>?_
  rw[List.getD_eq_getElem?_getD]
  rcases Nat.lt_or_ge j cells.length with hlt | hge
  ·rw[List.getElem?_append_left hlt] at hj
   rw[List.getElem?_append_left (by omega),← List.getD_eq_getElem?_getD]
   exact h4 j d hj
  ·rw[List.getElem?_append_right hge] at hj
   rw[List.getElem?_append_right (by omega),h3,← List.getD_eq_getElem?_getD]
   exact hv _ d hj
theorem qlc(t:Ty)(l:List t.den):(l.map t.enc).flatten.all AV.one=true:=by
 rw[List.all_eq_true]
 intro d hd
 obtain ⟨row,hr,hd⟩:=List.mem_flatten.1 hd
 obtain ⟨x,_,rfl⟩:=List.mem_map.1 hr
 exact List.all_eq_true.1 (t.one_enc x) d hd
theorem Kl.moved{H:List DO}{id k:Nat}{t:Ty}{e:TypeId}{l:List t.den}{o o':DO}(hn:qcI H id=true)(hk:hget H k = .row false t e l):Kl H (hput (hput H k o) id o') :=
 (Kl.put (by rw[hk];rfl)).trans (.put (by
  rw[qq,if_neg fun h=>?_,(qbC hn).1];· rfl
  ·have:=(qbC hn).1
   rw[← h.1,hk] at this;cases this))
theorem DR.moved{HO:List DO}{T:List DV}{id k:Nat}{v:Value}{t:Ty}{te te':TypeId}{l l':List t.den}(hn:qcI HO id=true)(hk:hget HO k = .row false t te' l)
  (hr:SRel w0 S (qa (gOf m HO) T) ((hes m HO).set k (.own v te t.sz l'.length (l'.map t.enc).flatten)) a w) :
  SRel w0 S (qa (gOf (upd m id v) (hput (hput HO k (.dead t.sz)) id (.row false t te l'))) T) (hes (upd m id v) (hput (hput HO k (.dead t.sz)) id (.row false t te l'))) a w:=by
 obtain ⟨h1,h2⟩:=qbC hn
 have hkl:=qbN (H:=HO) (k:=k) (by rw[hk];exact nofun)
 have hne:k≠id:=fun e=>by subst e;rw[hk] at h1;cases h1
 have hid:(hes m HO)[id]?=some he0:=by rw[q8,if_pos h2,h1];rfl
 have e0:(hes m HO).set k (.own v te t.sz l'.length (l'.map t.enc).flatten)=((hes m HO).set k (.own v te t.sz l'.length (l'.map t.enc).flatten)).set id he0:=by
  apply List.ext_getElem?
  intro i
  rw[List.getElem?_set (i:=id)]
  by_cases hi:id=i
  ·subst hi
   rw[if_pos rfl,List.length_set,qj,if_pos h2,List.getElem?_set,if_neg hne,hid]
  ·rw[if_neg hi]
 rw[e0] at hr
 have hr2:=hr.perm (qyq _ k id _ _ hne (by rw[qj];exact hkl) (by rw[qj];exact h2))
 have hgk:∀j,hget (hput (hput HO k (.dead t.sz)) id (.row false t te l')) j=if id=j then .row false t te l' else if k=j then .dead t.sz else hget HO j:=fun j=>by
  rw[qq,qq,qcD]
  by_cases hj:id=j
  ·rw[if_pos ⟨hj,h2⟩,if_pos hj]
  ·rw[if_neg (fun h=>hj h.1),if_neg hj]
   by_cases hj2:k=j
   ·rw[if_pos ⟨hj2,hkl⟩,if_pos hj2]
   ·rw[if_neg (fun h=>hj2 h.1),if_neg hj2]
 have hg:Gle w (Al w0 S (hes (upd m id v) (hput (hput HO k (.dead t.sz)) id (.row false t te l')))) (gOf m HO) (gOf (upd m id v) (hput (hput HO k (.dead t.sz)) id (.row false t te l'))):=fun j=>by
  by_cases hj:j=id
  ·subst hj;left;unfold gOf;rw[h1];rfl
  ·right;left
   unfold gOf
   rw[hgk,if_neg (fun h=>hj h.symm),qgu m v hj]
   by_cases hj2:k=j
   ·subst hj2;rw[if_pos rfl,hk];rfl
   ·rw[if_neg hj2]
 refine DR.regle hr2 (by rw[qcD,qcD,List.length_set,List.length_set,qj]) hg fun j e' hj hlt=>?_
 rw[qcD,qcD] at hlt
 rw[hgk]
 rw[List.getElem?_set] at hj
 by_cases hj1:id=j
 ·subst hj1
  rw[if_pos rfl,List.length_set,qj,if_pos h2] at hj
  injection hj with hj
  subst hj
  rw[if_pos rfl,qen]
  exact ⟨.inr ⟨trivial,fun b hb=>hb⟩,fun hA hok=>HE.ok_mono hok fun b _ hb=>hA b hb⟩
 ·rw[if_neg hj1] at hj
  rw[if_neg hj1]
  rw[List.getElem?_set] at hj
  by_cases hj2:k=j
  ·subst hj2
   rw[if_pos rfl]
   exact ⟨.inl qeL,fun _ _=>qpy⟩
  ·rw[if_neg hj2,q8,if_pos hlt] at hj
   injection hj with hj
   subst hj
   rw[if_neg hj2,qgu m v (fun h=>hj1 h.symm)]
   exact ⟨.inr ⟨qbm _,fun b hb=>qbx hb⟩,fun hA=>(qlb hA hg _ _).2⟩
theorem qwe{id:Nat}{o:Oper}{ty:TypeId}{x y:Operand}{dx dy:DV}{r:SR}(ho:o.op = .call ⟨.builtin .append,#[x,y],#[ty,ty]⟩)(hx:evD st.T x=dx)(hy:evD st.T y=dy)(h:(qkJ B id st.H ty dx dy).Is r):StepW P o st ⟨qt st.T o.dst r.v,r.H⟩:=by
 unfold qkJ at h
 split at h
 ·rename_i e he hn
  obtain ⟨l2,hv,h2⟩:=PT.seq_is _ h
  clear h
  obtain ⟨l1,hb,h3⟩:=PT.seq_is _ h2
  clear h2
  obtain ⟨_,g1,h4⟩:=h3
  cases h4
  have g1:=Nat.le_of_ble_eq_true (qd5 g1)
  obtain ⟨te,sz,ag,bytes,z,tt,zero,ok,hsz,hbb,hns,hz,cap,hc⟩:=e
  simp only at hv hb ⊢
  subst hsz
  have hlen:∀n:Nat,n=l1.1.length→n+l2.1.length≤maxLen∧(n+l2.1.length)*bytes≤140737488355328:=fun n hn=>by
   subst hn
   have g2:=hc.2
   exact ⟨by unfold maxLen;simp only at g1;omega,Nat.le_trans (Nat.mul_le_mul_right _ g1) hc.1⟩
  have hyo:y∈opl o.op:=by rw[ho];simp[opl]
  have hxo:x∈opl o.op:=by rw[ho];simp[opl]
  have e2:∀(g:Nat→Option Cn) (v:Value),AV.putO (qa g st.T) o.dst (.val v)=qa g (qt st.T o.dst (.val v)):=fun g v=>by rw[qcX];rfl
  unfold qmU at hb
  split at hb
  ·cases hb
   simp only at hlen ⊢
   refine StepW.ef (.put (by rw[(qbC hn).1];rfl)) fun w0 S m a w hr=>?_
   intro a w t' ht hs
   have hyE:Enc w (Al w0 S (hes m st.H)) (a.eval y) (conc (gOf m st.H) dy):=by
    have:=hs.evq ht hyo rfl
    rwa [qP hy] at this
   obtain ⟨Ad,c,news,s1,s2,s3,s4⟩:=qmY hs hv hyE
   have hxE:a.eval x = .slice none 0 0:=by
    have:=hs.evq ht hxo rfl
    rw[qP hx] at this
    exact this.val_eq
   have hs':=hs.ownNil te tt.sz
   have hsub:∀b,Al w0 S (hes m st.H) b→Al w0 S (.own (.slice none 0 0) te tt.sz 0 []::hes m st.H) b:=fun b hb=>⟨hb.1,hb.2.1,fun e' he' hb'=>by
    rcases List.mem_cons.1 he' with rfl | he'
    ·cases hb'
    ·exact hb.2.2 e' he' hb'⟩
   obtain ⟨h63,hby⟩:=hlen 0 rfl
   obtain ⟨A,c',w',r1,r2⟩:=qsI (k:=0) (cells:=[]) (cells2:=(l2.1.map tt.enc).flatten) ok ho hs' rfl hxE s1 s2 s3 (fun i d hi=>(s4 i d hi).mono fun b _ hb=>hsub b hb) (qlc tt l2.1) h63 hby
   refine ⟨_,w',r1,.val (.slice A (0+l2.1.length) c'),_,r2.put o.dst (.val _),upd m id (.slice A (0+l2.1.length) c'),qg4 hn,qgH hr.2.1 (.inl ⟨_,_,_,rfl⟩),fun a w hq=>?_⟩
   have e1:conc (gOf (upd m id (.slice A (0+l2.1.length) c')) (hput st.H id (.row false tt te ([]++l2.1)))) (.ref id) = .val (.slice A (0+l2.1.length) c'):=by
    simp only[conc,qhU (qbC hn).2];rfl
   rw[e1,e2]
   rw[e2] at hq
   refine DR.made hq hn trivial (fun g' b' hb=>hb) fun g' A A' hA hg hok=>?_
   have hok':=HE.ok_mono hok fun b _ hb=>hA b hb
   simp only[heOf,List.nil_append] at hok' ⊢
   rw[Nat.zero_add] at hok' ⊢
   exact hok'
  ·rename_i k
   split at hb
   ·rename_i t' e' l hk
    split at hb
    ·rename_i hbe
     have hbe:e'=te:=by simpa using hbe
     subst hbe
     obtain ⟨l',q1,q2⟩:=PT.seq_is _ hb
     obtain ⟨ee,rfl⟩:=qem (qfe q1)
     cases q2
     subst ee
     clear q1
     simp only at hlen ⊢
     refine StepW.ef (Kl.moved hn hk) fun w0 S m a w hr=>?_
     intro a w t2 ht hs
     have hyE:Enc w (Al w0 S (hes m st.H)) (a.eval y) (conc (gOf m st.H) dy):=by
      have:=hs.evq ht hyo rfl
      rwa [qP hy] at this
     obtain ⟨Ad,c,news,s1,s2,s3,s4⟩:=qmY hs hv hyE
     have hrf:refA (gOf m st.H k) = .val (m k):=by unfold gOf;rw[hk];rfl
     have hxE:a.eval x=m k:=by
      have:=hs.evq ht hxo rfl
      rw[qP hx] at this
      simp only[conc,hrf] at this
      exact this.val_eq
     have hg:=qg3 (m:=m) hk nofun
     obtain ⟨h63,hby⟩:=hlen l.length rfl
     obtain ⟨A,c',w',r1,r2⟩:=qsI (k:=k) (cells:=(l.map t'.enc).flatten) (cells2:=(l2.1.map t'.enc).flatten) ok ho hs hg hxE s1 s2 s3 s4 (qlc t' l2.1) h63 hby
     refine ⟨_,w',r1,.val (.slice A (l.length+l2.1.length) c'),_,r2.put o.dst (.val _),upd m id (.slice A (l.length+l2.1.length) c'),qg4 hn,?_,fun a w hq=>?_⟩
     ·refine qgH (fun j hj=>hr.2.1 j fun e=>?_) (.inl ⟨_,_,_,rfl⟩)
      rw[qq] at hj
      split at hj
      ·rename_i h1;obtain ⟨rfl,_⟩:=h1;rw[hk] at e;cases e
      ·exact hj e
     ·have e1:conc (gOf (upd m id (.slice A (l.length+l2.1.length) c')) (hput (hput st.H k (.dead t'.sz)) id (.row false t' e' (l++l2.1)))) (.ref id) = .val (.slice A (l.length+l2.1.length) c'):=by
       simp only[conc,qhU (show id<(hput st.H k (.dead t'.sz)).length by rw[qcD];exact (qbC hn).2)];rfl
      rw[e1,e2]
      rw[e2,← List.flatten_append,← List.map_append,← List.length_append] at hq
      have:=DR.moved (te':=e') hn hk hq
      rw[List.length_append] at this
      exact this
    ·exact hb.elim
   ·exact hb.elim
  ·rename_i k q
   split at hb
   ·rename_i t' e' l hk
    split at hb
    ·rename_i hbe
     have hbe:e'=te:=by simpa using hbe
     subst hbe
     obtain ⟨_,g2,hb⟩:=hb
     obtain ⟨l',q1,q2⟩:=PT.seq_is _ hb
     clear hb
     obtain ⟨ee,rfl⟩:=qem (qfe q1)
     cases q2
     subst ee
     clear q1
     have g2:=Nat.le_of_ble_eq_true (qd5 g2)
     have htl:(l.take q).length=q:=by rw[List.length_take];omega
     simp only at hlen ⊢
     refine StepW.ef (Kl.moved hn hk) fun w0 S m a w hr=>?_
     intro a w t2 ht hs
     have hyE:Enc w (Al w0 S (hes m st.H)) (a.eval y) (conc (gOf m st.H) dy):=by
      have:=hs.evq ht hyo rfl
      rwa [qP hy] at this
     obtain ⟨Ad,c,news,s1,s2,s3,s4⟩:=qmY hs hv hyE
     have hg:=qg3 (m:=m) hk nofun
     have hkl:k<(hes m st.H).length:=(List.getElem?_eq_some_iff.1 hg).1
     obtain ⟨hgr,hrf,hcase⟩:=hr.rowAt hk
     have hxx:=hs.evq ht hxo rfl
     rw[qP hx] at hxx
     obtain ⟨h63,hby⟩:=hlen q htl.symm
     obtain ⟨v0,hv0,hs2⟩:∃v0,a.eval x=v0∧SRel w0 S t2 ((hes m st.H).set k (.own v0 e' t'.sz q ((l.take q).map t'.enc).flatten)) a w:=by
      rcases hcase with ⟨hm,rfl⟩ | ⟨b,c0,hm,hc1,hc2,_⟩
      ·have hq0:q=0:=by simpa using g2
       subst hq0
       refine ⟨m k,?_,?_⟩
       ·have:subA 0 0 (gOf m st.H k) = .val (m k):=by unfold gOf;rw[hk,hm];rfl
        simp only[conc,this] at hxx
        exact hxx.val_eq
       ·have e0:(hes m st.H).set k (.own (m k) e' t'.sz 0 ((([]:List t'.den).take 0).map t'.enc).flatten)=hes m st.H:=by
         apply List.ext_getElem?
         intro i
         rw[List.getElem?_set]
         by_cases hi:k=i
         ·subst hi;rw[if_pos rfl,if_pos hkl,hg];rfl
         ·rw[if_neg hi]
        rw[e0];exact hs
      ·refine ⟨.slice (some ⟨b,0,none⟩) q c0,?_,?_⟩
       ·have:subA 0 q (gOf m st.H k) = .val (.slice (some ⟨b,0,none⟩) q c0):=by
         unfold gOf;rw[hk,hm]
         simp only[DO.cn,subA,Nat.zero_mul,Nat.add_zero,ite_self,Nat.sub_zero]
        simp only[conc,this] at hxx
        exact hxx.val_eq
       ·rw[hm] at hgr
        have:=hs.shrink k hgr g2 (fun _=>nofun)
        rw[qmX] at this
        exact this
     have hsub:∀b,Al w0 S (hes m st.H) b→Al w0 S ((hes m st.H).set k (.own v0 e' t'.sz q ((l.take q).map t'.enc).flatten)) b:=fun b hb=>⟨hb.1,hb.2.1,fun e1 he1 hb1=>by
      rcases List.mem_or_eq_of_mem_set he1 with h5 | h5
      ·exact hb.2.2 e1 h5 hb1
      ·subst h5
       rcases hcase with ⟨hm,rfl⟩ | ⟨b',c0,hm,hc1,hc2,_⟩
       ·have:subA 0 q (gOf m st.H k) = .val (.slice none q (0-0)):=by unfold gOf;rw[hk,hm];rfl
        simp only[conc,this] at hxx
        rw[← hv0,hxx.val_eq] at hb1
        cases hb1
       ·have:subA 0 q (gOf m st.H k) = .val (.slice (some ⟨b',0,none⟩) q c0):=by
         unfold gOf;rw[hk,hm]
         simp only[DO.cn,subA,Nat.zero_mul,Nat.add_zero,ite_self,Nat.sub_zero]
        simp only[conc,this] at hxx
        rw[← hv0,hxx.val_eq] at hb1
        rw[hm] at hgr
        exact hb.2.2 _ (List.mem_of_getElem? hgr) hb1⟩
     obtain ⟨A,c',w',r1,r2⟩:=qsI (k:=k) (cells:=((l.take q).map t'.enc).flatten) (cells2:=(l2.1.map t'.enc).flatten) ok ho hs2 (by rw[List.getElem?_set,if_pos rfl,if_pos hkl]) hv0 s1 s2 s3 (fun i d hi=>(s4 i d hi).mono fun b _ hb=>hsub b hb) (qlc t' l2.1) h63 hby
     rw[List.set_set] at r2
     refine ⟨_,w',r1,.val (.slice A (q+l2.1.length) c'),_,r2.put o.dst (.val _),upd m id (.slice A (q+l2.1.length) c'),qg4 hn,?_,fun a w hq=>?_⟩
     ·refine qgH (fun j hj=>hr.2.1 j fun e=>?_) (.inl ⟨_,_,_,rfl⟩)
      rw[qq] at hj
      split at hj
      ·rename_i h1;obtain ⟨rfl,_⟩:=h1;rw[hk] at e;cases e
      ·exact hj e
     ·have e1:conc (gOf (upd m id (.slice A (q+l2.1.length) c')) (hput (hput st.H k (.dead t'.sz)) id (.row false t' e' (l.take q++l2.1)))) (.ref id) = .val (.slice A (q+l2.1.length) c'):=by
       simp only[conc,qhU (show id<(hput st.H k (.dead t'.sz)).length by rw[qcD];exact (qbC hn).2)];rfl
      rw[e1,e2]
      have e3:q+l2.1.length=(l.take q++l2.1).length:=by rw[List.length_append,htl]
      rw[e2,← List.flatten_append,← List.map_append,e3] at hq
      rw[e3]
      exact DR.moved (te':=e') hn hk hq
    ·exact hb.elim
   ·exact hb.elim
  ·exact hb.elim
 ·exact h.elim
end
section
variable {P:Program} {w0:Bs} {S:Nat→Prop} {B:Tab P} {a:Act} {w:World} {m:Nat→Value} {st:St}
theorem qsJ{t:Ty}{d:DV}{x:t.den}{g:Nat→Option Cn}{A:Nat→Prop}{u:Value}(h:decK t d=some x)(hu:Enc w A u (conc g d)):u=t.val1 x:=by
 unfold decK at h
 split at h
 ·split at h
  ·rename_i l hag
   have e1:=ql4 h
   simp only[conc] at hu
   rw[e1,qpA] at hu
   obtain ⟨xs,e2,hn,hk⟩:=qpB hu
   have e3:xs=t.encV x:=by
    apply List.ext_getElem?
    intro i
    rw[List.length_map] at hn
    rcases Nat.lt_or_ge i (t.encV x).length with hi | hi
    ·have:=(hk i (.val (t.encV x)[i]) (by rw[List.getElem?_map,List.getElem?_eq_getElem hi];rfl)).val_eq
     rw[List.getD_eq_getElem?_getD,List.getElem?_eq_getElem (by omega),Option.getD_some] at this
     rw[List.getElem?_eq_getElem (by omega),List.getElem?_eq_getElem hi,this]
    ·rw[List.getElem?_eq_none (by omega),List.getElem?_eq_none hi]
   rw[e2,e3]
   cases t with
   | u=>rfl
   | pr a b=>rfl
   | _=>cases hag
  ·cases h
 ·rename_i v
  split at h
  ·cases h
  ·rename_i hag
   have e1:=ql4 h
   have hu':Enc w A u (.val v):=hu
   rw[hu'.val_eq]
   cases t with
   | i k=>simp only[Ty.encV,List.map_cons,List.map_nil,List.cons.injEq,DV.val.injEq,and_true] at e1;exact e1
   | b=>simp only[Ty.encV,List.map_cons,List.map_nil,List.cons.injEq,DV.val.injEq,and_true] at e1;exact e1
   | s=>simp only[Ty.encV,List.map_cons,List.map_nil,List.cons.injEq,DV.val.injEq,and_true] at e1;exact e1
   | sl t=>simp[Ty.encV] at e1
   | pt t=>simp[Ty.encV] at e1
   | u=>cases hag
   | pr a b=>cases hag
 ·cases h
theorem qkM{ty:TypeId}{e:MpE P ty}{H:List DO}{d:DV}{k:Nat}{z:Bool}{l:List (e.kt.den×e.et.den)}(h:getM e H d=some (k,z,l)):d = .mp k∧hget H k = .map z e.kt e.et l:=by
 unfold getM at h
 split at h
 ·rename_i q
  split at h
  ·rename_i z' kt et l' hk
   cases hq:asM e.kt e.et kt et l' with
   | none=>rw[hq] at h;cases h
   | some y =>
    rw[hq] at h
    injection h with h
    obtain ⟨rfl,h2⟩:=Prod.mk.inj h
    obtain ⟨rfl,rfl⟩:=Prod.mk.inj h2
    obtain ⟨ee,hy⟩:=qem hq
    injection ee with e1 e2
    subst e1 e2
    subst hy
    exact ⟨rfl,hk⟩
  ·cases h
 ·cases h
theorem qqX{id:Nat}{o:Oper}{ty:TypeId}{q:Option Operand}{r:SR}(ho:o.op = .makeMap ty q)(hq:q=none∨∃x k n,q=some x∧evD st.T x = .val (.int k n))(h:(qio B id st.H ty).Is r):StepW P o st ⟨qt st.T o.dst r.v,r.H⟩:=by
 unfold qio at h
 split at h
 ·rename_i e he hn
  cases h
  refine StepW.ef (.put (by rw[(qbC hn).1];rfl)) fun w0 S m a w hr=>?_
  intro a w t' ht hs
  rw[ho] at ht
  have hrun:(execOp a.eval o).run P w = .ok (.value (.map (some w.heap.size))) (w.alloc (.map #[] 0)):=by
   unfold execOp
   rw[ho]
   rcases hq with rfl | ⟨x,k,n,rfl,hx⟩
   ·rfl
   ·have h1:=hs.evq ht (x:=x) (by simp[opl]) rfl
    rw[qP hx] at h1
    have h2:a.eval x = .int k n:=Enc.val_eq h1
    simp only[Option.map_some,Instr.makeMap,h2,Sem.run_bind,run_underlying e.under,Result.andThen_ok]
    rfl
  refine ⟨_,_,hrun,.val (.map (some w.heap.size)),.obj w.heap.size (MpIs e.kt e.et [])::hes m st.H,?_,upd m id (.pointer (some ⟨w.heap.size,0,none⟩)),qg4 hn,qgH hr.2.1 (.inr ⟨_,rfl⟩),fun a' w' hs'=>?_⟩
  ·refine (hs.newE (.obj w.heap.size (MpIs e.kt e.et [])) ((Ext.refl w).alloc _) trivial (fun b hb=>Nat.le_of_eq hb) fun hsub=>⟨qk9 hs.ext,⟨_,World.alloc_heap_new w _,[],trivial,rfl⟩,qtc⟩).put o.dst (.val _)
  ·have e1:conc (gOf (upd m id (.pointer (some ⟨w.heap.size,0,none⟩))) (hput st.H id (.map false e.kt e.et []))) (.mp id) = .val (.map (some w.heap.size)):=by
    simp only[conc,qhU (qbC hn).2];rfl
   have e2:∀g,AV.putO (qa g st.T) o.dst (.val (.map (some w.heap.size)))=qa g (qt st.T o.dst (.val (.map (some w.heap.size)))):=fun g=>by rw[qcX];rfl
   rw[e1,e2]
   rw[e2] at hs'
   exact DR.made hs' hn trivial (fun g' b' hb=>hb) fun g' A A' hA hg hok=>qud (v:=.pointer (some ⟨w.heap.size,0,none⟩)) (l:=[]) hA hok
 ·exact h.elim
theorem qw3{t:List AV}{H:List HE}{b k:Nat}{kt et:Ty}{l:List (kt.den×et.den)}(hr:SRel w0 S t H a w)(hk:H[k]?=some (.obj b (MpIs kt et l))):∃lv,MpR w (Al w0 S H) kt et l lv∧w.heap[b]?=some (qfd kt lv):=by
 obtain ⟨_,⟨o,h1,lv,h2,h3⟩,_⟩:=hr.hs _ (List.mem_of_getElem? hk)
 exact ⟨lv,h2,by rw[h1,h3]⟩
theorem qyr{t:List AV}{H:List HE}{b k:Nat}{kt et:Ty}{l l':List (kt.den×et.den)}{lv lv':List (kt.den×Value)}(hr:SRel w0 S t H a w)(hk:H[k]?=some (.obj b (MpIs kt et l)))(hb:w.heap[b]?=some (qfd kt lv))(hR:MpR w (Al w0 S H) kt et l' lv') :
  SRel w0 S t (H.set k (.obj b (MpIs kt et l'))) a {w with heap:=w.heap.setIfInBounds b (qfd kt lv')}:=by
 have hlt:b<w.heap.size:=(Array.getElem?_eq_some_iff.1 hb).1
 refine hr.turn k _ _ hk trivial (Kp.mono (Kp.grown (grownBy_putObj' w b (qfd kt lv'))) fun x hx _=>by injection hx) trivial (fun c hc=>.inl hc) fun hmv=>⟨(HE.ok_lt (hr.hs _ (List.mem_of_getElem? hk)) b rfl).1,⟨_,World.putObj_heap_same hlt,lv',?_,rfl⟩,qtc⟩
 refine hR.imp fun v d hv=>hv.moveC (by simp) fun c hc hcl=>⟨fun o u hu=>?_,(hmv c hc hcl).2⟩
 have h1:=(hmv c hc hcl).1
 rw[← hu]
 unfold World.cell?
 simp only at h1 ⊢
 rw[h1]
theorem qsK{o:Oper}{k:Nat}{z:Bool}{kt et:Ty}{l l':List (kt.den×et.den)}{dv:DV}(hk:hget st.H k = .map z kt et l)
  (h:∀(m:Nat→Value) (A:Nat→Prop) (a:Act) (w:World) (b:Nat) (lv:List (kt.den×Value)),MpR w A kt et l lv→w.heap[b]?=some (qfd kt lv)→(∀x,x∈opl o.op→Enc w A (a.eval x) (conc (gOf m st.H) (evD st.T x)))→(∀x,x∈opl o.op→evD st.T x = .mp k→a.eval x = .map (some b)) →
   ∃n lv',MpR w A kt et l' lv'∧(execOp a.eval o).run P w = .ok n {w with heap:=w.heap.setIfInBounds b (qfd kt lv')}∧(match n with | .value u=>∀g A w,Enc w A u (conc g dv) | .skip=>dv = .val undef | _=>False)) :
  StepW P o st ⟨qt st.T o.dst dv,hput st.H k (.map z kt et l')⟩:=by
 have hcn:∀v,(DO.map z kt et l').cn v=(hget st.H k).cn v:=fun v=>by rw[hk];rfl
 refine StepW.ef (Kl.map hk) fun w0 S m a w hr=>?_
 obtain ⟨b,hb2,hb3,hb4⟩:=hr.mapAt hk
 intro a w t' ht hs
 have hev:∀x,x∈opl o.op→Enc w (Al w0 S (hes m st.H)) (a.eval x) (conc (gOf m st.H) (evD st.T x)):=fun x hx=>by
  have:=hs.evq ht hx rfl
  rwa [qfU] at this
 obtain ⟨lv,hR,hbk⟩:=qw3 hs hb3
 obtain ⟨n,lv',hR',h1,h2⟩:=h m _ a w b lv hR hbk hev fun x hx hd=>by
  have:=hev x hx
  rw[hd] at this
  simp only[conc,hb4] at this
  exact this.val_eq
 have hsane:Sane m (hput st.H k (.map z kt et l')):=fun j hj=>hr.2.1 j fun e=>by
  rw[qq] at hj
  split at hj
  ·rename_i h1;obtain ⟨rfl,_⟩:=h1;rw[hk] at e;cases e
  ·exact hj e
 have hturn:=qyr (l':=l') hs hb3 hbk hR'
 have e0:(hes m st.H).set k (.obj b (MpIs kt et l'))=hes m (hput st.H k (.map z kt et l')):=by
  rw[qjG hcn]
  have:heOf (gOf m st.H) (m k) (.map z kt et l') = .obj b (MpIs kt et l'):=by
   show heM (m k) kt et l'=_
   rw[hb2];rfl
  rw[this]
 rw[e0] at hturn
 have hgg:=qgI (m:=m) hcn
 refine ⟨n,_,h1,?_⟩
 cases n<;>simp only at h2 ⊢
 case value u =>
  exact ⟨conc (gOf m st.H) dv,_,hturn.put o.dst (h2 _ _ _),m,mle.refl _ _,hsane,fun a' w' hs'=>by rw[hgg];exact hs'⟩
 case skip =>
  subst h2
  exact ⟨_,hturn.put o.dst (.val _),m,mle.refl _ _,hsane,fun a' w' hs'=>by rw[hgg];exact hs'⟩
theorem qwf{o:Oper}{ty:TypeId}{ok:Bool}{x y:Operand}{d key:DV}{r:SR}(ho:o.op = .lookup ty x y ok)(hx:evD st.T x=d)(hy:evD st.T y=key)(h:(qgn B st.H ty ok d key).Is r):StepW P o st ⟨qt st.T o.dst r.v,r.H⟩:=by
 unfold qgn at h
 split at h
 ·rename_i e he
  split at h
  ·rename_i k z l q h1 h2
   cases h
   obtain ⟨rfl,hk⟩:=qkM h1
   refine StepW.ay fun w0 S m a w hr=>?_
   obtain ⟨b,hb2,hb3,hb4⟩:=hr.mapAt hk
   refine AY.of fun p w hE hH hX=>?_
   obtain ⟨lv,hR,hb⟩:∃lv,MpR w (Al w0 S (hes m st.H)) e.kt e.et l lv∧w.heap[b]?=some (qfd e.kt lv):=by
    obtain ⟨_,⟨o,h1,lv,h2,h3⟩,_⟩:=hH _ (List.mem_of_getElem? hb3)
    exact ⟨lv,h2,by rw[h1,h3]⟩
   have g1:=hX x (by rw[ho];simp[opl])
   have g2:=hX y (by rw[ho];simp[opl])
   rw[qP hx] at g1
   rw[qP hy] at g2
   simp only[conc,hb4] at g1
   have g1:=g1.val_eq
   have g2:=qsJ h2 g2
   have hrun:=e.lookup_run hb q ok
   refine ⟨_,w,by unfold execOp;rw[ho];simp only[g1,g2,Sem.run_bind,hrun,Result.andThen_ok,Sem.run_pure];rfl,Ext.refl w,?_⟩
   have hv:=hR.val (x:=q) (e.hz w (Al w0 S (hes m st.H)))
   cases ok with
   | false=>simp only[cond,qkL];exact hv
   | true =>
    simp only[cond,conc,qa,if_true,qkL]
    refine .tup _ _ rfl fun i d hi=>?_
    match i,hi with
    | 0,hi=>injection hi with hi;subst hi;exact hv
    | 1,hi=>injection hi with hi;subst hi;rw[← hR.has];exact .val _
    | n+2,hi=>cases hi
  ·exact h.elim
 ·exact h.elim
theorem qw4{o:Oper}{ty:TypeId}{x y:Operand}{d key:DV}{r:SR}(ho:o.op = .mapEntry ty x y)(hx:evD st.T x=d)(hy:evD st.T y=key)(h:(qj9 B st.H ty d key).Is r):StepW P o st ⟨qt st.T o.dst r.v,r.H⟩:=by
 unfold qj9 at h
 split at h
 ·rename_i e he
  split at h
  ·rename_i k z l q h1 h2 hpl
   cases h
   obtain ⟨rfl,hk⟩:=qkM h1
   refine qsK hk fun m A a w b lv hR hb hev hm=>?_
   have g1:=hm x (by rw[ho];simp[opl]) hx
   have g2:=hev y (by rw[ho];simp[opl])
   rw[hy] at g2
   have g2:=qsJ h2 g2
   have hrun:=e.entry_run hb q
   have hv:=qwT hpl (hR.val (x:=q) (e.hz w A))
   have hi:=hR.ix (x:=q)
   rw[hv,hi] at hrun
   refine ⟨_,_,hR.ins (x:=q) (e.hz w A),by unfold execOp;rw[ho];simp only[g1,g2,Sem.run_bind,hrun,Result.andThen_ok,Sem.run_pure];rfl,fun g A w=>?_⟩
   simp only[conc,qa]
   refine .tup _ _ rfl fun i d hi=>?_
   match i,hi with
   | 0,hi=>injection hi with hi;subst hi;exact .val _
   | 1,hi=>injection hi with hi;subst hi;exact .val _
   | n+2,hi=>cases hi
  ·exact h.elim
 ·exact h.elim
theorem qw5{o:Oper}{ty:TypeId}{x y s:Operand}{d v:DV}{kk:IntKind}{n:Int}{r:SR}(ho:o.op = .entryStore ty x s y)(hx:evD st.T x=d)(hs:evD st.T s = .val (.int kk n))(hy:evD st.T y=v)(h:(qnH B st.H ty d n v).Is r):StepW P o st ⟨qt st.T o.dst r.v,r.H⟩:=by
 unfold qnH at h
 split at h
 ·rename_i e he
  split at h
  ·rename_i q H1 F1 h2
   split at h
   ·rename_i k z l h1
    obtain ⟨j,hj,_,hlt,h⟩:=h
    cases h
    have hlt:j<l.length:=Nat.le_of_ble_eq_true (qd5 hlt)
    obtain ⟨rfl,_⟩:=qeK hj
    obtain ⟨rfl,hk⟩:=qkM h1
    obtain ⟨hf,hw⟩:=qnK h2
    refine StepW.fz (T:=st.T) (H:=st.H) hf (qsK (st:=⟨st.T,H1⟩) hk fun m A a w b lv hR hb hev hm=>?_)
    have g1:=hm x (by rw[ho];simp[opl]) hx
    have g2:=hev y (by rw[ho];simp[opl])
    have g3:=hev s (by rw[ho];simp[opl])
    simp only at g2 g3
    rw[hy] at g2
    rw[hs] at g3
    have g2:=hw m H1 (Fz.refl _) w A _ g2
    have g3:a.eval s = .int kk j:=Enc.val_eq g3
    have hrun:=e.store_run hb (k:=kk) (n:=j) (by rw[hR.len];exact hlt) (a.eval y)
    exact ⟨_,_,hR.set j g2,by unfold execOp;rw[ho];simp only[g1,g3,Sem.run_bind,hrun,Result.andThen_ok,Sem.run_pure];rfl,rfl⟩
   ·exact h.elim
  ·exact h.elim
 ·exact h.elim
theorem qtg{o:Oper}{ty:TypeId}{x s y:Operand}{d key v:DV}{r:SR}(ho:o.op = .mapUpdate ty x s y∨o.op = .insert ty x s y)(hx:evD st.T x=d)(hs:evD st.T s=key)(hy:evD st.T y=v)(h:(qla B st.H ty d key v).Is r):StepW P o st ⟨qt st.T o.dst r.v,r.H⟩:=by
 rcases ho with ho | ho
 all_goals
  unfold qla at h
  split at h
  ·rename_i e he
   split at h
   ·rename_i q2 H1 F1 h3
    split at h
    ·rename_i k z l q h1 h2
     cases h
     obtain ⟨rfl,hk⟩:=qkM h1
     obtain ⟨hf,hw⟩:=qnK h3
     refine StepW.fz (T:=st.T) (H:=st.H) hf (qsK (st:=⟨st.T,H1⟩) hk fun m A a w b lv hR hb hev hm=>?_)
     have g1:=hm x (by rw[ho];simp[opl]) hx
     have g2:=hev s (by rw[ho];simp[opl])
     have g3:=hev y (by rw[ho];simp[opl])
     simp only at g2 g3
     rw[hs] at g2
     rw[hy] at g3
     have g2:=qsJ h2 g2
     have g3:=hw m H1 (Fz.refl _) w A _ g3
     have hrun:=e.update_run hb q (a.eval y)
     exact ⟨_,_,hR.put (x:=q) g3,by unfold execOp;rw[ho];simp only[g1,g2,Sem.run_bind,hrun,Result.andThen_ok,Sem.run_pure];rfl,rfl⟩
    ·exact h.elim
   ·exact h.elim
  ·exact h.elim
end
section
variable {P:Program} {w0:Bs} {S:Nat→Prop} {B:Tab P} {a:Act} {w:World} {m:Nat→Value} {st:St}
theorem qpC{α:Type}(p q r s:List α)(h:q.length=s.length):qk (p++q++r) p.length s=p++s++r:=by
 unfold qk
 have e:(p++(q++r)).drop (p.length+s.length)=r:=by rw[← List.append_assoc,List.drop_left' (by rw[List.length_append,h])]
 rw[List.append_assoc,List.take_left' rfl,e,List.append_assoc]
theorem qvd{t:Ty}{l:List t.den}{lo n:Nat}{z:t.den}(h:lo+n≤l.length):((l.take lo++List.replicate n z++l.drop (lo+n)).map t.enc).flatten=qk (l.map t.enc).flatten (lo*t.sz) ((List.replicate n z).map t.enc).flatten:=by
 have h1:(l.map t.enc).flatten=((l.take lo).map t.enc).flatten++(((l.drop lo).take n).map t.enc).flatten++((l.drop (lo+n)).map t.enc).flatten:=by
  rw[← List.flatten_append,← List.flatten_append,← List.map_append,← List.map_append,← List.drop_drop,List.append_assoc,List.take_append_drop,List.take_append_drop]
 rw[h1]
 have h2:lo*t.sz=((l.take lo).map t.enc).flatten.length:=by rw[qbb,List.length_take,Nat.min_eq_left (by omega)]
 rw[h2,qpC _ _ _ _ (by rw[qbb,qbb,List.length_replicate,List.length_take,List.length_drop,Nat.min_eq_left (by omega)])]
 simp
theorem Ty.val_zero{t:TypeId}(e:SlE P t):TyAt P e.e e.sz e.ag e.z:=by
 have h:=e.ok.he
 refine ⟨?_,e.ok.g⟩
 cases hi:P.info? e.e with
 | none=>rw[hi] at h;cases h
 | some it =>
  rw[hi] at h
  simp only[Option.map_some,Option.some.injEq,Prod.mk.injEq] at h
  simp[h.1,h.2.1]
theorem EF.clear{o:Oper}{KK:AV→List HE→Prop}{x:Operand}{ty:TypeId}{H:List HE}{t:List AV}{b lo n c len:Nat}(e:SlE P ty)(k cc:Nat)(cs:List AV)(ho:o.op = .call ⟨.builtin .clear,#[x],#[ty]⟩)(hx:evO t x = .val (.slice (some ⟨b,lo*e.ty.sz,none⟩) n c))(hn:0<n)
  (hH:H[k]?=some (.own (.slice (some ⟨b,0,none⟩) len cc) e.e e.ty.sz len cs)) (hl:lo*e.ty.sz+n*e.ty.sz≤cs.length)
  (h:KK (.val (.tuple #[])) (H.set k (.own (.slice (some ⟨b,0,none⟩) len cc) e.e e.ty.sz len (qk cs (lo*e.ty.sz) ((List.replicate n e.zero).map e.ty.enc).flatten)))):EF P w0 S o t H KK:=by
 intro a w t' ht hr
 rw[ho] at ht
 have hex:=(hr.evq ht (x:=x) (by simp[opl]) hx).val_eq
 obtain ⟨h4,xs,⟨h5,h5'⟩,h6,h7⟩:=hr.hs _ (List.mem_of_getElem? hH)
 obtain ⟨us,hus⟩:∃us,us=(Builtin.zeroCells e.z.cells n).toList:=⟨_,rfl⟩
 have hzs:e.z.cells.size=e.ty.sz:=by rw[e.hs];exact e.ok.s
 have hp:0<e.ty.sz:=by rw[e.hs];exact e.ok.p
 have hul:us.length=n*e.ty.sz:=by rw[hus];simp[Builtin.zeroCells,hzs]
 have huat:∀i,i<n*e.ty.sz→us.getD i undef=e.z.cells.getD (i % e.ty.sz) undef:=fun i hi=>by
  have hm:i % e.ty.sz<e.ty.sz:=Nat.mod_lt _ hp
  rw[List.getD_eq_getElem?_getD,hus]
  simp only[Builtin.zeroCells,Array.toList_map,Array.toList_range,List.getElem?_map,hzs]
  rw[List.getElem?_range hi]
  simp only[Option.map_some,Option.getD_some]
  rw[Array.getD_eq_getD_getElem?,Array.getElem?_eq_getElem (by rw[hzs];exact hm)]
  simp[getElem!_def,Array.getElem?_eq_getElem (show i % e.ty.sz<e.z.cells.size by rw[hzs];exact hm)]
 have hdl:((List.replicate n e.zero).map e.ty.enc).flatten.length=n*e.ty.sz:=by rw[qbb,List.length_replicate]
 have henc:∀i d,((List.replicate n e.zero).map e.ty.enc).flatten[i]?=some d→Enc w (Al w0 S H) (us.getD i undef) d:=fun i d hi=>by
  have hlt:=qbK hi
  rw[hdl] at hlt
  obtain ⟨_,row,h5,h6⟩:=qmc (qeM e.ty _) hi
  rw[List.getElem?_map] at h5
  cases hq:(List.replicate n e.zero)[i/e.ty.sz]? with
  | none=>rw[hq] at h5;cases h5
  | some q =>
   rw[hq] at h5
   injection h5 with h5
   have:q=e.zero:=List.eq_of_mem_replicate (List.mem_of_getElem? hq)
   subst this
   rw[← h5] at h6
   rw[huat i hlt]
   exact e.hz w _ _ d h6
 have hone:∀u,u∈us→u.oneCell'=true:=fun u hu=>by
  obtain ⟨j,hj,rfl⟩:=List.mem_iff_getElem.1 hu
  have hj':j<((List.replicate n e.zero).map e.ty.enc).flatten.length:=by rw[hdl,← hul];exact hj
  have h8:=(henc j _ (List.getElem?_eq_getElem hj')).one (List.all_eq_true.1 (qlc e.ty _) _ (List.getElem_mem hj'))
  rwa [List.getD_eq_getElem?_getD,List.getElem?_eq_getElem hj,Option.getD_some] at h8
 rcases h5' with ⟨h51,_⟩ | ⟨g,cap,cur,h51,h52,h53,h54,h55,h56,h57⟩
 ·injection h51 with h51;cases h51
 injection h51 with h51 _ h58
 injection h51 with h51
 injection h51 with h51
 subst h51 h58
 have hcl:cs.length≤cur.toList.length:=by rw[← h6,← h57];simp;omega
 have hB:Blk w b e.e cur.toList:=by unfold Blk;simpa using h53
 obtain ⟨w',h8,h9,h10⟩:=qd4 (P:=P) b e.e (lo*e.ty.sz) us 0 w cur.toList hB (by omega) hone
 have hxs:qk xs (lo*e.ty.sz) us=(qk cur.toList (lo*e.ty.sz) us).take (len*e.ty.sz):=by
  rw[qnj (by omega) (by have:=congrArg List.length h57;simp at this ⊢;omega),h57]
 refine ⟨.value (.tuple #[]),w',?_,.val (.tuple #[]),H.set k (.own (.slice (some ⟨b,0,none⟩) len cc) e.e e.ty.sz len (qk cs (lo*e.ty.sz) ((List.replicate n e.zero).map e.ty.enc).flatten)),?_,h⟩
 ·unfold execOp
  rw[ho]
  have hz:=(Ty.val_zero e).zero w
  have hrun:(Builtin.clear_ #[ty] o.type #[.slice (some ⟨b,lo*e.ty.sz,none⟩) n c]).run P w = .ok (.tuple #[]) w':=by
   obtain ⟨n,rfl⟩:∃q,n=q+1:=⟨n-1,by omega⟩
   have e1:(e.z.cells:Array Value)=(match e.z with | .agg cs=>cs | v=>#[v]):=by cases e.z<;>rfl
   unfold Builtin.clear_
   simp only[List.getElem?_toArray,List.getElem?_cons_zero,Sem.run_bind,run_underlying e.ok.h,Result.andThen_ok,hz,← hus,h8,Sem.run_pure]
  simp only[resolve,invoke,builtin,Sem.run_bind,Sem.run_pure,Result.andThen_ok,List.map_toArray,List.map_cons,List.map_nil,hex,hrun]
 ·refine (hr.owned k _ (.slice (some ⟨b,0,none⟩) len cc) e.e e.ty.sz len _ (qk xs (lo*e.ty.sz) us) hH trivial ?_ ((Kp.grown h10).mono fun x hx _=>hx) (fun b' hb=>.inl hb) ?_ ?_).put o.dst (.val _)
  ·refine ⟨by rw[qA (by omega)];exact h5,.inr ⟨b,cc,(qk cur.toList (lo*e.ty.sz) us).toArray,rfl,Nat.zero_le _,?_,h54,h55,?_,by rw[hxs]⟩⟩
   ·have h9':w'.heap[b]?=_:=h9
    rw[h9',Nat.add_zero]
   ·have:=qA (l:=cur.toList) (us:=us) (o:=lo*e.ty.sz) (by omega)
    simp only[List.size_toArray,this,Array.length_toList,h56]
  ·rw[qA (by omega),qA (by omega),h6]
  ·refine qhT h6 (by omega) (by omega) h7 henc
theorem qw6{o:Oper}{ty:TypeId}{x:Operand}{d:DV}{r:SR}(ho:o.op = .call ⟨.builtin .clear,#[x],#[ty]⟩)(hx:evD st.T x=d)(h:(qnI B st.H ty d).Is r):StepW P o st ⟨qt st.T o.dst r.v,r.H⟩:=by
 unfold qnI at h
 split at h
 ·rename_i e he
  split at h
  ·rename_i k lo n
   split at h
   ·rename_i z t te l hk
    split at h
    ·rename_i zs q1 q2
     obtain ⟨_,g1,h⟩:=h
     cases h
     have g1:=Nat.le_of_ble_eq_true (qd5 g1)
     have q2:te=e.e:=by simpa using q2
     obtain ⟨ee,rfl⟩:=qem q1
     subst ee q2
     clear q1
     simp only
     have hcn:∀v,(DO.row z e.ty e.e (l.take lo++List.replicate n e.zero++l.drop (lo+n))).cn v=(hget st.H k).cn v:=fun v=>by rw[hk];rfl
     refine StepW.ef (Kl.row hk) fun w0 S m a w hr=>?_
     obtain ⟨hg,hrf,hcase⟩:=hr.rowAt hk
     have hsane:Sane m (hput st.H k (.row z e.ty e.e (l.take lo++List.replicate n e.zero++l.drop (lo+n)))):=fun j hj=>hr.2.1 j fun e=>by
      rw[qq] at hj
      split at hj
      ·rename_i h1;obtain ⟨rfl,_⟩:=h1;rw[hk] at e;cases e
      ·exact hj e
     have e2:∀g,AV.putO (qa g st.T) o.dst (.val (.tuple #[]))=qa g (qt st.T o.dst (.val (.tuple #[]))):=fun g=>by rw[qcX];rfl
     have hlen:(l.take lo++List.replicate n e.zero++l.drop (lo+n)).length=l.length:=by simp;omega
     rcases Nat.eq_zero_or_pos n with rfl | hn
     ·have el:l.take lo++List.replicate 0 e.zero++l.drop (lo+0)=l:=by simp
      rw[el] at hsane hcn ⊢
      intro a w t' ht hs
      have hxe:∃A c,a.eval x = .slice A 0 c:=by
       have h1:=hs.evq ht (x:=x) (by rw[ho];simp[opl]) rfl
       rw[qP hx] at h1
       simp only[conc] at h1
       rcases qlK lo 0 (gOf m st.H k) with h2 | ⟨A,c,h2⟩
       ·rw[h2] at h1;exact (qka h1).elim
       ·rw[h2] at h1;exact ⟨A,c,h1.val_eq⟩
      obtain ⟨A,c,hxe⟩:=hxe
      have hrun:(Builtin.clear_ #[ty] o.type #[.slice A 0 c]).run P w = .ok (.tuple #[]) w:=by
       unfold Builtin.clear_
       simp only[List.getElem?_toArray,List.getElem?_cons_zero,Sem.run_bind,run_underlying e.ok.h,Result.andThen_ok,Sem.run_pure]
       cases A<;>rfl
      have hgg:=qgI (m:=m) hcn
      have e0:hes m (hput st.H k (.row z e.ty e.e l))=hes m st.H:=by
       rw[qjG hcn]
       apply List.ext_getElem?
       intro i
       rw[List.getElem?_set]
       by_cases hi:k=i
       ·subst hi
        rw[if_pos rfl,if_pos (List.getElem?_eq_some_iff.1 hg).1,hg]
        rfl
       ·rw[if_neg hi]
      refine ⟨.value (.tuple #[]),w,?_,.val (.tuple #[]),hes m st.H,hs.put o.dst (.val _),m,mle.refl _ _,hsane,fun a' w' hs'=>?_⟩
      ·unfold execOp
       rw[ho]
       simp only[resolve,invoke,builtin,Sem.run_bind,Sem.run_pure,Result.andThen_ok,List.map_toArray,List.map_cons,List.map_nil,hxe,hrun]
      ·rw[hgg,e0];exact hs'
     ·rcases hcase with ⟨hm,rfl⟩ | ⟨b,c,hm,hc1,hc2,_⟩
      ·simp at g1;omega
      have hsub:subA lo n (gOf m st.H k) = .val (.slice (some ⟨b,lo*e.ty.sz,none⟩) n (c-lo)):=by
       unfold gOf
       rw[hk,hm]
       simp only[DO.cn,subA,Nat.zero_add]
       rw[if_neg (by omega)]
      rw[hm] at hg
      refine EF.clear (lo:=lo) (n:=n) (c:=c-lo) e k c (l.map e.ty.enc).flatten ho (by rw[qP hx];simp only[conc,hsub]) hn hg (by rw[qbb,← Nat.add_mul];exact Nat.mul_le_mul_right _ g1) ⟨m,mle.refl _ _,hsane,fun a' w' hs'=>?_⟩
      have hgg:=qgI (m:=m) hcn
      rw[hgg,qjG hcn]
      have e5:heOf (gOf m st.H) (m k) (.row z e.ty e.e (l.take lo++List.replicate n e.zero++l.drop (lo+n))) = .own (.slice (some ⟨b,0,none⟩) l.length c) e.e e.ty.sz l.length (qk (l.map e.ty.enc).flatten (lo*e.ty.sz) ((List.replicate n e.zero).map e.ty.enc).flatten):=by
       show HE.own (m k) e.e e.ty.sz _ _=_
       rw[hlen,qvd g1,hm]
      rw[e5]
      exact hs'
    ·exact h.elim
   ·exact h.elim
  ·exact h.elim
 ·exact h.elim
theorem StepW.post{o:Oper}{st1 st2:St}(h:StepW P o st st1)(hk:Kl st1.H st2.H)(hn:∀j,hget st.H j≠.new→hget st1.H j≠.new)(h2:∀(w0:Bs) (S:Nat→Prop) (m:Nat→Value) (a:Act) (w:World),DR w0 S m st1 a w→∃m',mle m m' st1.H∧DR w0 S m' st2 a w):StepW P o st st2:=by
 refine ⟨h.1.trans hk,fun w0 S F hF m a w hr K Q hK=>h.2 w0 S F hF m a w hr K Q fun m1 a1 w1 hm hd hdf=>?_⟩
 obtain ⟨m2,q1,q2⟩:=h2 w0 S m1 a1 w1 hd
 exact hK m2 a1 w1 (fun j hj=>(q1 j (hn j hj)).trans (hm j hj)) q2 hdf
def qdz(id:Nat)(H:List DO):DV→DV×List DO
 | .sub k 0 n=>match hget H k with
  | .row false t e l=>match qcI H id&&Nat.ble n l.length with
   | true=>(.ref id,hput (hput H k (.dead t.sz)) id (.row false t e (l.take n)))
   | false=>(.sub k 0 n,H)
  | _=>(.sub k 0 n,H)
 | d=>(d,H)
theorem quh(id:Nat)(H:List DO)(d:DV):Kl H (qdz id H d).2:=by
 unfold qdz
 split
 ·split
  ·rename_i hk
   split
   ·rename_i hb
    rw[Bool.and_eq_true] at hb
    exact Kl.moved hb.1 hk
   ·exact Kl.refl _
  ·exact Kl.refl _
 ·exact Kl.refl _
theorem qui{T:List DV}{H:List DO}{id:Nat}{i:Option Tmp}{d:DV}(hr:DR w0 S m ⟨qt T i d,H⟩ a w):∃m',mle m m' H∧DR w0 S m' ⟨qt T i (qdz id H d).1,(qdz id H d).2⟩ a w∧∀b,(∃k,(heOf (gOf m' (qdz id H d).2) (m' k) (hget (qdz id H d).2 k)).owns b)→∃k,(heOf (gOf m H) (m k) (hget H k)).owns b:=by
 unfold qdz
 split
 ·rename_i k n
  split
  ·rename_i t e l hk
   split
   ·rename_i hb
    rw[Bool.and_eq_true] at hb
    obtain ⟨hn,hle⟩:=hb
    have hle:=Nat.le_of_ble_eq_true hle
    obtain ⟨hgr,hrf,hcase⟩:=hr.rowAt hk
    have hkl:k<(hes m H).length:=(List.getElem?_eq_some_iff.1 hgr).1
    have htl:(l.take n).length=n:=by rw[List.length_take];omega
    obtain ⟨v0,hv0,hvs,hs2⟩:∃v0,subA 0 n (gOf m H k) = .val v0∧((∃A n c,v0 = .slice A n c)∧v0.ownBlock=(m k).ownBlock)∧SRel w0 S (qa (gOf m H) (qt T i (.sub k 0 n))) ((hes m H).set k (.own v0 e t.sz (l.take n).length ((l.take n).map t.enc).flatten)) a w:=by
     rcases hcase with ⟨hm,rfl⟩ | ⟨b,c0,hm,hc1,hc2,_⟩
     ·have hq0:n=0:=by simpa using hle
      subst hq0
      have e1:subA 0 0 (gOf m H k) = .val (m k):=by unfold gOf;rw[hk,hm];rfl
      refine ⟨m k,e1,⟨⟨_,_,_,hm⟩,rfl⟩,?_⟩
      have e0:(hes m H).set k (.own (m k) e t.sz (([]:List t.den).take 0).length ((([]:List t.den).take 0).map t.enc).flatten)=hes m H:=by
       apply List.ext_getElem?
       intro j
       rw[List.getElem?_set]
       by_cases hi:k=j
       ·subst hi;rw[if_pos rfl,if_pos hkl,hgr];rfl
       ·rw[if_neg hi]
      rw[e0];exact hr.2.2
     ·have e1:subA 0 n (gOf m H k) = .val (.slice (some ⟨b,0,none⟩) n c0):=by
       unfold gOf;rw[hk,hm]
       simp only[DO.cn,subA,Nat.zero_mul,Nat.add_zero,ite_self,Nat.sub_zero]
      refine ⟨_,e1,⟨⟨_,_,_,rfl⟩,by rw[hm];rfl⟩,?_⟩
      rw[hm] at hgr
      have:=hr.2.2.shrink k hgr hle (fun _=>nofun)
      rw[qmX] at this
      rw[htl]
      exact this
    have hmv:=DR.moved (te':=e) hn hk hs2
    have hidl:id<(hput H k (.dead t.sz)).length:=by rw[qcD];exact (qbC hn).2
    refine ⟨upd m id v0,qg4 hn,⟨hr.1.step (qg4 hn) (Kl.moved hn hk),qgH (fun j hj=>hr.2.1 j fun e=>?_) (.inl hvs.1),?_⟩,fun b ⟨j,hj⟩=>?_⟩
    ·rw[qq] at hj
     split at hj
     ·rename_i h1;obtain ⟨rfl,_⟩:=h1;rw[show hget H k=_ from hk] at e;cases e
     ·exact hj e
    ·have e1:conc (gOf (upd m id v0) (hput (hput H k (.dead t.sz)) id (.row false t e (l.take n)))) (.ref id) = .val v0:=by
      simp only[conc,qhU hidl];rfl
     have hne:k≠id:=fun e=>by subst e;rw[(qbC hn).1] at hk;cases hk
     have e2:conc (gOf (upd m id v0) (hput (hput H k (.dead t.sz)) id (.row false t e (l.take n)))) (.sub k 0 n) = .val v0:=by
      simp only[conc]
      rw[qvE hne]
      rw[← hv0]
      unfold gOf
      rw[qq,if_pos ⟨rfl,by rw[← qj m];exact hkl⟩,hk];rfl
     rw[qcX,e2] at hmv
     show SRel w0 S (qa _ (qt T i (.ref id))) _ a w
     rw[qcX,e1]
     exact hmv
    ·have hkl2:k<H.length:=by rw[← qj m];exact hkl
     rw[qq,qq,qcD] at hj
     by_cases h1:id=j
     ·subst h1
      rw[if_pos ⟨rfl,(qbC hn).2⟩,qen] at hj
      refine ⟨k,?_⟩
      rw[hk]
      have hj':v0.ownBlock=some b:=hj
      show (m k).ownBlock=some b
      rw[← hvs.2];exact hj'
     ·rw[if_neg (fun h=>h1 h.1)] at hj
      by_cases h2:k=j
      ·subst h2
       rw[if_pos ⟨rfl,hkl2⟩] at hj
       exact (qeL b hj).elim
      ·rw[if_neg (fun h=>h2 h.1),qgu _ _ (fun h=>h1 h.symm)] at hj
       exact ⟨j,qbx hj⟩
   ·exact ⟨m,mle.refl _ _,hr,fun b h=>h⟩
  ·exact ⟨m,mle.refl _ _,hr,fun b h=>h⟩
 ·exact ⟨m,mle.refl _ _,hr,fun b h=>h⟩
end
section
variable {P:Program} {w0:Bs} {S:Nat→Prop} {B:Tab P} {a:Act} {w:World} {m:Nat→Value} {st:St}
theorem qys{id:Nat}{o:Oper}{ty tn:TypeId}{x y:Operand}{dx dy:DV}{r:SR}(ho:o.op = .call ⟨.builtin .append,#[x,y],#[ty,tn]⟩)(hx:evD st.T x=dx)(hy:evD st.T y=dy)(h:(qop B id st.H ty tn dx dy).Is r):StepW P o st ⟨qt st.T o.dst r.v,r.H⟩:=by
 unfold qop at h
 split at h
 ·rename_i e q he hq hn
  split at h
  ·rename_i kk n
   obtain ⟨k,hk,_,hpos,h⟩:=h
   cases h
   have hpos:0<k:=Nat.le_of_ble_eq_true (qd5 hpos)
   obtain ⟨rfl,hk2⟩:=qeK hk
   have hkn:=q.2
   obtain ⟨te,sz,ag,bytes,z,tt,zero,ok,hsz,hb,hns,hz⟩:=e
   simp only
   obtain ⟨it,hi,hz0,hz1,hz2⟩:∃it,P.info? te=some it∧it.zero=some z∧it.size=sz∧it.bytes=bytes:=by
    have h0:=ok.he
    cases hi:P.info? te with
    | none=>rw[hi] at h0;cases h0
    | some it =>
     rw[hi] at h0
     simp only[Option.map_some,Option.some.injEq,Prod.mk.injEq] at h0
     exact ⟨it,rfl,h0.2.1,h0.1,h0.2.2⟩
   refine StepW.ef (.put (by rw[(qbC hn).1];rfl)) fun w0 S m a w hr=>?_
   intro a w t' ht hs
   rw[ho] at ht
   have hex:=hs.evq ht (x:=x) (by simp[opl]) rfl
   have hey:=hs.evq ht (x:=y) (by simp[opl]) rfl
   rw[qP hx] at hex
   rw[qP hy] at hey
   have hex:a.eval x = .slice none 0 0:=Enc.val_eq hex
   have hey:a.eval y = .int kk k:=Enc.val_eq hey
   have hbb:k*it.bytes≤281474976710656:=by rw[hz2];exact Nat.le_trans (Nat.mul_le_mul hk2 hb) (by decide)
   have hrun:=Go.Lib.run_append_nil_zeros (P:=P) w ty tn o.type te it z kk q.1 ok.h hkn.h hi hz0 k hpos (by rw[hz1];exact ok.p) (by omega) hbb
   have hge:=grownCap_ge w k 0 te
   have hcm:grownCap w k 0 te≤maxLen:=grownCap_le_maxLen w k 0 te (by unfold maxLen;omega)
   have hzs:z.cells.size=sz:=ok.s
   obtain ⟨us,hus⟩:∃us,us=(Builtin.zeroCells z.cells k).toList:=⟨_,rfl⟩
   have hul:us.length=k*tt.sz:=by rw[hus];simp[Builtin.zeroCells,hzs,hsz]
   have hp:0<tt.sz:=by rw[hsz];exact ok.p
   have huat:∀i,i<k*tt.sz→us.getD i undef=z.cells.getD (i % tt.sz) undef:=fun i hi=>by
    have hm:i % tt.sz<tt.sz:=Nat.mod_lt _ hp
    rw[List.getD_eq_getElem?_getD,hus]
    simp only[Builtin.zeroCells,Array.toList_map,Array.toList_range,List.getElem?_map,hzs,← hsz]
    rw[List.getElem?_range hi]
    simp only[Option.map_some,Option.getD_some]
    rw[Array.getD_eq_getD_getElem?,Array.getElem?_eq_getElem (by rw[hzs,← hsz];exact hm)]
    simp[getElem!_def,Array.getElem?_eq_getElem (show i % tt.sz<z.cells.size by rw[hzs,← hsz];exact hm)]
   have henc:∀(w:World) (A:Nat→Prop) i d,((List.replicate k zero).map tt.enc).flatten[i]?=some d→Enc w A (us.getD i undef) d:=fun w A i d hi=>by
    have hlt:=qbK hi
    rw[qbb,List.length_replicate] at hlt
    obtain ⟨_,row,h5,h6⟩:=qmc (qeM tt _) hi
    rw[List.getElem?_map] at h5
    cases hq:(List.replicate k zero)[i/tt.sz]? with
    | none=>rw[hq] at h5;cases h5
    | some q =>
     rw[hq] at h5
     injection h5 with h5
     have:q=zero:=List.eq_of_mem_replicate (List.mem_of_getElem? hq)
     subst this
     rw[← h5] at h6
     rw[huat i hlt]
     exact hz w _ _ d h6
   obtain ⟨w',hw'⟩:∃w',w'=w.drew.alloc (.cells (Builtin.zeroCells z.cells k++Builtin.zeroCells z.cells (grownCap w k 0 te-k)) te):=⟨_,rfl⟩
   have hxt:Ext w w':=by rw[hw'];exact (Ext.refl w).drew.alloc _
   have hown:w'.ownsRow 0 te tt.sz (.slice (some ⟨w.heap.size,0,none⟩) k (grownCap w k 0 te)) k us:=by
    refine ⟨hul,.inr ⟨w.heap.size,_,_,rfl,Nat.zero_le _,by rw[hw'];exact heap_alloc_new w.drew _,hge,hcm,?_,?_⟩⟩
    ·simp only[Array.size_append,size_zeroCells,hzs,hsz,← Nat.add_mul]
     congr 1
     omega
    ·simp only[Array.toList_append,← hus]
     rw[← hul]
     exact List.take_left
   obtain ⟨v0,hv0⟩:∃v0:Value,v0 = .slice (some ⟨w.heap.size,0,none⟩) k (grownCap w k 0 te):=⟨_,rfl⟩
   refine ⟨.value v0,w',?_,.val v0,.own v0 te tt.sz k ((List.replicate k zero).map tt.enc).flatten::hes m st.H,?_,upd m id v0,qg4 hn,qgH hr.2.1 (.inl ⟨_,_,_,hv0⟩),fun a' w2 hs'=>?_⟩
   ·unfold execOp
    rw[ho,hw',hv0]
    simp only[resolve,invoke,builtin,Sem.run_bind,Sem.run_pure,Result.andThen_ok,List.map_toArray,List.map_cons,List.map_nil,hex,hey,hrun]
   ·refine (hs.newE (.own v0 te tt.sz k ((List.replicate k zero).map tt.enc).flatten) hxt trivial (fun b hb=>?_) fun hsub=>⟨fun b hb=>?_,us,by rw[hv0];exact hown,by rw[qbb,List.length_replicate,hul],fun i d hi=>henc _ _ i d hi⟩).put o.dst (.val _)
    ·rw[hv0] at hb;injection hb with hb;exact Nat.le_of_eq hb
    ·rw[hv0] at hb;injection hb with hb;rw[← hb];exact qk9 hs.ext
   ·have e1:conc (gOf (upd m id v0) (hput st.H id (.row false tt te (List.replicate k zero)))) (.ref id) = .val v0:=by
     simp only[conc,qhU (qbC hn).2];rfl
    have e2:∀g,AV.putO (qa g st.T) o.dst (.val v0)=qa g (qt st.T o.dst (.val v0)):=fun g=>by rw[qcX];rfl
    rw[e1,e2]
    rw[e2] at hs'
    refine DR.made hs' hn trivial (fun g' b' hb=>hb) fun g' A A' hA hg hok=>?_
    have hok':=HE.ok_mono hok fun b _ hb=>hA b hb
    show (HE.own v0 te tt.sz (List.replicate k zero).length ((List.replicate k zero).map tt.enc).flatten).ok _ _ _
    rw[List.length_replicate]
    exact hok'
  ·exact h.elim
 ·exact h.elim
end
section
variable {P:Program} {w0:Bs} {S:Nat→Prop} {B:Tab P} {a:Act} {w:World} {m:Nat→Value} {st:St}
theorem qw7{t:Ty}{l zs:List t.den}{lo:Nat}(h:lo+zs.length≤l.length):((l.take lo++zs++l.drop (lo+zs.length)).map t.enc).flatten=qk (l.map t.enc).flatten (lo*t.sz) (zs.map t.enc).flatten:=by
 have h1:(l.map t.enc).flatten=((l.take lo).map t.enc).flatten++(((l.drop lo).take zs.length).map t.enc).flatten++((l.drop (lo+zs.length)).map t.enc).flatten:=by
  rw[← List.flatten_append,← List.flatten_append,← List.map_append,← List.map_append,← List.drop_drop,List.append_assoc,List.take_append_drop,List.take_append_drop]
 rw[h1]
 have h2:lo*t.sz=((l.take lo).map t.enc).flatten.length:=by rw[qbb,List.length_take,Nat.min_eq_left (by omega)]
 rw[h2,qpC _ _ _ _ (by rw[qbb,qbb,List.length_take,List.length_drop,Nat.min_eq_left (by omega)])]
 simp
theorem EF.copy{o:Oper}{KK:AV→List HE→Prop}{x y:Operand}{ty tz:TypeId}{H:List HE}{t:List AV}{b lo n c len:Nat}(e:SlE P ty){vs:List e.ty.den}(hz1:e.ty.sz=1)(k cc:Nat)(te:TypeId)(cs:List AV)(dy:AV)(ho:o.op = .call ⟨.builtin .copy,#[x,y],#[ty,tz]⟩)(hx:evO t x = .val (.slice (some ⟨b,lo,none⟩) n c))(hy:evO t y=dy)
  (hsrc:∀(a:Act) (w:World) (t':List AV),SRel w0 S t' H a w→∀u,Enc w (Al w0 S H) u dy→Src w (Al w0 S H) e.ty u vs) (hv:0<vs.length)
  (hH:H[k]?=some (.own (.slice (some ⟨b,0,none⟩) len cc) te e.ty.sz len cs)) (hl:lo+n≤cs.length)
  (h:KK (.val (.int .i64 (min vs.length n:Nat))) (H.set k (.own (.slice (some ⟨b,0,none⟩) len cc) te e.ty.sz len (qk cs lo ((vs.take n).map e.ty.enc).flatten)))):EF P w0 S o t H KK:=by
 intro a w t' ht hr
 rw[ho] at ht
 have hex:=(hr.evq ht (x:=x) (by simp[opl]) hx).val_eq
 obtain ⟨Ad,c2,news,hey,⟨hs1,hs2⟩,hs3,hs4⟩:=hsrc a w t' hr _ (hr.evq ht (x:=y) (by simp[opl]) hy)
 obtain ⟨b2,off,rfl,hs5,hs6⟩:=hs2 hv
 rw[hz1,Nat.mul_one] at hs1
 obtain ⟨h4,xs,⟨h5,h5'⟩,h6,h7⟩:=hr.hs _ (List.mem_of_getElem? hH)
 obtain ⟨us,hus⟩:∃us,us=news.take n:=⟨_,rfl⟩
 have hul:us.length=min vs.length n:=by rw[hus,List.length_take,hs1];exact Nat.min_comm _ _
 have hfl:(vs.map e.ty.enc).flatten.take n=((vs.take n).map e.ty.enc).flatten:=by
  have:=qmX e.ty vs n
  rw[hz1,Nat.mul_one] at this
  exact this
 have hdl:((vs.take n).map e.ty.enc).flatten.length=us.length:=by rw[qbb,hz1,Nat.mul_one,List.length_take,hul];exact Nat.min_comm _ _
 have henc:∀i d,((vs.take n).map e.ty.enc).flatten[i]?=some d→Enc w (Al w0 S H) (us.getD i undef) d:=fun i d hi=>by
  rw[← hfl,List.getElem?_take] at hi
  split at hi
  ·rename_i hin
   have:=hs4 i d hi
   rw[List.getD_eq_getElem?_getD] at this ⊢
   rw[hus,List.getElem?_take,if_pos hin]
   exact this
  ·cases hi
 have hone:∀u,u∈us→u.oneCell'=true:=fun u hu=>by
  obtain ⟨j,hj,rfl⟩:=List.mem_iff_getElem.1 hu
  have hj':j<((vs.take n).map e.ty.enc).flatten.length:=by rw[hdl];exact hj
  have h8:=(henc j _ (List.getElem?_eq_getElem hj')).one (List.all_eq_true.1 (qlc e.ty _) _ (List.getElem_mem hj'))
  rwa [List.getD_eq_getElem?_getD,List.getElem?_eq_getElem hj,Option.getD_some] at h8
 rcases h5' with ⟨h51,_⟩ | ⟨g,cap,cur,h51,h52,h53,h54,h55,h56,h57⟩
 ·injection h51 with h51;cases h51
 injection h51 with h51 _ h58
 injection h51 with h51
 injection h51 with h51
 subst h51 h58
 rw[hz1,Nat.mul_one] at h57
 have hcl:cs.length≤cur.toList.length:=by rw[← h6,← h57];simp;omega
 have hB:Blk w b te cur.toList:=by unfold Blk;simpa using h53
 obtain ⟨w',h8,h9,h10⟩:=qd4 (P:=P) b te lo us 0 w cur.toList hB (by omega) hone
 have hxl:xs.length=cs.length:=h6
 have hx2:xs.length≤len:=by rw[← h57,List.length_take];omega
 have hsz:len≤cur.toList.length:=by
  have h56':=h56
  rw[hz1] at h56'
  simp only[Array.length_toList]
  omega
 have hxs:qk xs lo us=(qk cur.toList lo us).take len:=by
  rw[qnj (by omega) hsz,h57]
 refine ⟨.value (.int .i64 (min vs.length n:Nat)),w',?_,.val (.int .i64 (min vs.length n:Nat)),H.set k (.own (.slice (some ⟨b,0,none⟩) len cc) te e.ty.sz len (qk cs lo ((vs.take n).map e.ty.enc).flatten)),?_,h⟩
 ·have hload:=run_loadCells_list (P:=P) w ⟨b2,off,none⟩ us fun j v hj=>by
   have hadd:(⟨b2,off,none⟩:Addr).add j=⟨b2,off+j,none⟩:=by unfold Addr.add;split<;>simp_all
   rw[hadd]
   rw[hus,List.getElem?_take] at hj
   split at hj
   ·exact hs6 j v hj
   ·cases hj
  have hrun:(Builtin.copy_ #[ty,tz] o.type #[.slice (some ⟨b,lo,none⟩) n c,.slice (some ⟨b2,off,none⟩) vs.length c2]).run P w = .ok (.int .i64 (min vs.length n:Nat)) w':=by
   have hss:=e.ok.he
   cases hq:P.info? e.e with
   | none=>rw[hq] at hss;cases hss
   | some it =>
    rw[hq] at hss
    simp only[Option.map_some,Option.some.injEq,Prod.mk.injEq] at hss
    have hi:it.size=1:=by rw[hss.1,← e.hs,hz1]
    have hmin:Nat.min vs.length n=us.length:=hul.symm
    have e2:(sizeOf e.e).run P w = .ok 1 w:=by simp[sizeOf,typeInfo,hq,hi]
    have e3:(Builtin.lenOf (.slice (some ⟨b2,off,none⟩) vs.length c2)).run P w = .ok vs.length w:=rfl
    have e4:(Builtin.firstCells 1 (vs.length.min n) (.slice (some ⟨b2,off,none⟩) vs.length c2)).run P w = .ok us.toArray w:=by
     show (loadCells ⟨b2,off,none⟩ (vs.length.min n*1)).run P w=_
     rw[Nat.mul_one,hmin]
     exact hload
    unfold Builtin.copy_
    simp only[List.getElem?_toArray,List.getElem?_cons_zero,List.getElem?_cons_succ,Sem.run_bind,run_underlying e.ok.h,Result.andThen_ok,Sem.run_pure,e3,e2,e4,h8]
    rfl
  unfold execOp
  rw[ho]
  simp only[resolve,invoke,builtin,Sem.run_bind,Sem.run_pure,Result.andThen_ok,List.map_toArray,List.map_cons,List.map_nil,hex,hey,hrun]
 ·refine (hr.owned k _ (.slice (some ⟨b,0,none⟩) len cc) te e.ty.sz len _ (qk xs lo us) hH trivial ?_ ((Kp.grown h10).mono fun x hx _=>hx) (fun b' hb=>.inl hb) ?_ ?_).put o.dst (.val _)
  ·refine ⟨by rw[qA (by omega)];exact h5,.inr ⟨b,cc,(qk cur.toList lo us).toArray,rfl,Nat.zero_le _,?_,h54,h55,?_,by rw[hz1,Nat.mul_one,hxs]⟩⟩
   ·have h9':w'.heap[b]?=_:=h9
    rw[h9',Nat.add_zero]
   ·have:=qA (l:=cur.toList) (us:=us) (o:=lo) (by omega)
    simp only[List.size_toArray,this,Array.length_toList,h56]
  ·rw[qA (by omega),qA (by omega),h6]
  ·refine qhT h6 (by omega) (by omega) h7 henc
theorem qve{α:Type}{l vs:List α}{lo n:Nat}(h:min vs.length n=0):cpL l lo n vs=l:=by
 have h1:vs.take n=[]:=List.eq_nil_of_length_eq_zero (by rw[List.length_take];omega)
 unfold cpL
 rw[h,h1,Nat.add_zero,List.append_nil,List.take_append_drop]
theorem qzV{α:Type}{l vs:List α}{lo n:Nat}(h:lo+n≤l.length):(cpL l lo n vs).length=l.length:=by
 unfold cpL
 simp only[List.length_append,List.length_take,List.length_drop]
 omega
theorem qth{o:Oper}{ty tz te:TypeId}{x y:Operand}{d s:DV}(e:SlE P ty)(hz1:e.ty.sz=1){v:List e.ty.den×List Nat}(hv:(qk1 e.ty st.H s).Is v){k lo n:Nat}{z:Bool}{l:List e.ty.den}(hk:hget st.H k = .row z e.ty te l)(hle:lo+n≤l.length)
  (hd:∀{w0:Bs} {S:Nat→Prop} {m:Nat→Value} {a:Act} {w:World},DR w0 S m st a w→conc (gOf m st.H) d=botA∨∃A c,conc (gOf m st.H) d = .val (.slice A n c)∧∀b c0,m k = .slice (some ⟨b,0,none⟩) l.length c0→l.length≤c0→0<n→A=some ⟨b,lo,none⟩)
  (ho:o.op = .call ⟨.builtin .copy,#[x,y],#[ty,tz]⟩) (hx:evD st.T x=d) (hy:evD st.T y=s):StepW P o st ⟨qt st.T o.dst (.val (.int .i64 (cpN v.1 n))),hput st.H k (.row z e.ty te (cpL l lo n v.1))⟩:=by
 have hcn:∀u,(DO.row z e.ty te (cpL l lo n v.1)).cn u=(hget st.H k).cn u:=fun u=>by rw[hk];rfl
 refine StepW.ef (Kl.row hk) fun w0 S m a w hr=>?_
 obtain ⟨hg,hrf,hcase⟩:=hr.rowAt hk
 have hsane:Sane m (hput st.H k (.row z e.ty te (cpL l lo n v.1))):=fun j hj=>hr.2.1 j fun e=>by
  rw[qq] at hj
  split at hj
  ·rename_i h1;obtain ⟨rfl,_⟩:=h1;rw[hk] at e;cases e
  ·exact hj e
 have hgg:=qgI (m:=m) hcn
 have hvs:∀(a:Act) (w:World) (t':List AV),SRel w0 S t' (hes m st.H) a w→∀u,Enc w (Al w0 S (hes m st.H)) u (conc (gOf m st.H) s)→Src w (Al w0 S (hes m st.H)) e.ty u v.1:=fun a w t' hs u hu=>qmY hs hv hu
 by_cases h0:min v.1.length n=0
 ·intro a w t' ht hs
  have hxe:∃A c,a.eval x = .slice A n c:=by
   have h1:=hs.evq ht (x:=x) (by rw[ho];simp[opl]) rfl
   rw[qP hx] at h1
   rcases hd hr with h2 | ⟨A,c,h2,_⟩
   ·rw[h2] at h1;exact (qka h1).elim
   ·rw[h2] at h1;exact ⟨A,c,h1.val_eq⟩
  obtain ⟨A,c,hxe⟩:=hxe
  obtain ⟨Ad,c2,news,hye,_⟩:=hvs a w t' hs _ (by
   have h1:=hs.evq ht (x:=y) (by rw[ho];simp[opl]) rfl
   rw[qP hy] at h1
   exact h1)
  have hrun:(Builtin.copy_ #[ty,tz] o.type #[.slice A n c,.slice Ad v.1.length c2]).run P w = .ok (goInt 0) w:=by
   have hss:=e.ok.he
   refine run_copy_none (P:=P) w ty tz o.type e.e A Ad n c v.1.length c2 e.ok.h ?_ h0
   cases hq:P.info? e.e with
   | none=>rw[hq] at hss;cases hss
   | some it =>
    rw[hq] at hss
    simp only[Option.map_some,Option.some.injEq,Prod.mk.injEq] at hss
    simp only[Option.map_some,Option.some.injEq]
    rw[hss.1,← e.hs,hz1]
  have e0:hes m (hput st.H k (.row z e.ty te (cpL l lo n v.1)))=hes m st.H:=by
   rw[qjG hcn,qve h0]
   apply List.ext_getElem?
   intro i
   rw[List.getElem?_set]
   by_cases hi:k=i
   ·subst hi
    rw[if_pos rfl,if_pos (List.getElem?_eq_some_iff.1 hg).1,hg]
    rfl
   ·rw[if_neg hi]
  refine ⟨.value (goInt 0),w,?_,.val (goInt 0),hes m st.H,hs.put o.dst (.val _),m,mle.refl _ _,hsane,fun a' w' hs'=>?_⟩
  ·unfold execOp
   rw[ho]
   simp only[resolve,invoke,builtin,Sem.run_bind,Sem.run_pure,Result.andThen_ok,List.map_toArray,List.map_cons,List.map_nil,hxe,hye,hrun]
  ·rw[hgg,e0]
   have:(cpN v.1 n)=0:=h0
   rw[this]
   exact hs'
 ·rcases hcase with ⟨hm,rfl⟩ | ⟨b,c0,hm,hc1,hc2,_⟩
  ·simp at hle;omega
  rcases hd hr with h2 | ⟨A,c,h2,h3⟩
  ·intro a w t' ht hs
   have h1:=hs.evq ht (x:=x) (by rw[ho];simp[opl]) rfl
   rw[qP hx,h2] at h1
   exact (qka h1).elim
  rw[h3 b c0 hm hc1 (by omega)] at h2
  rw[hm] at hg
  refine EF.copy (vs:=v.1) (n:=n) e hz1 k c0 te (l.map e.ty.enc).flatten (conc (gOf m st.H) s) ho (by rw[qP hx];exact h2) (qP hy _) hvs (by omega) hg (by rw[qbb,hz1,Nat.mul_one];exact hle) ⟨m,mle.refl _ _,hsane,fun a' w' hs'=>?_⟩
  rw[hgg,qjG hcn]
  have hlen:=qzV (vs:=v.1) hle
  have htl:(v.1.take n).length=min v.1.length n:=by rw[List.length_take];exact Nat.min_comm _ _
  have e5:heOf (gOf m st.H) (m k) (.row z e.ty te (cpL l lo n v.1)) = .own (.slice (some ⟨b,0,none⟩) l.length c0) te e.ty.sz l.length (qk (l.map e.ty.enc).flatten lo ((v.1.take n).map e.ty.enc).flatten):=by
   show HE.own (m k) te e.ty.sz _ _=_
   have hp:=qw7 (l:=l) (zs:=v.1.take n) (lo:=lo) (by rw[htl];omega)
   rw[hz1,Nat.mul_one,htl] at hp
   rw[hlen,hm,hz1]
   show HE.own _ te 1 _ ((cpL l lo n v.1).map e.ty.enc).flatten=_
   unfold cpL
   rw[hp]
  rw[e5]
  have:(conc (gOf m st.H) (.val (.int .i64 (cpN v.1 n)))) = .val (.int .i64 (min v.1.length n:Nat)):=rfl
  rw[this]
  exact hs'
theorem qyt{o:Oper}{ty tz:TypeId}{x y:Operand}{d s:DV}{r:SR}(ho:o.op = .call ⟨.builtin .copy,#[x,y],#[ty,tz]⟩)(hx:evD st.T x=d)(hy:evD st.T y=s)(h:(qqn B st.H ty d s).Is r):StepW P o st ⟨qt st.T o.dst r.v,r.H⟩:=by
 unfold qqn at h
 split at h
 ·rename_i e he
  split at h
  ·rename_i hz
   have hz1:e.ty.sz=1:=by simpa using hz
   obtain ⟨v,hv,h⟩:=PT.seq_is _ h
   split at h
   ·rename_i k _
    split at h
    ·rename_i z t te l hk
     obtain ⟨vs,h1,h2⟩:=PT.seq_is _ h
     cases h2
     obtain ⟨ee,h3⟩:=qem (qfe h1)
     subst ee
     cases h3
     refine qth (lo:=0) e hz1 hv hk (by omega) (fun hr=>.inr ?_) ho hx hy
     obtain ⟨_,hrf,hcase⟩:=hr.rowAt hk
     rcases hcase with ⟨hm,rfl⟩ | ⟨b,c0,hm,hc1,_⟩
     ·exact ⟨none,0,by simp only[conc,hrf,hm];rfl,fun b c0 h _=>by rw[hm] at h;cases h⟩
     ·exact ⟨some ⟨b,0,none⟩,c0,by simp only[conc,hrf,hm],fun b' c' h _ _=>by rw[hm] at h;cases h;rfl⟩
    ·exact h.elim
   ·rename_i k lo n _
    split at h
    ·rename_i z t te l hk
     obtain ⟨vs,h1,u,hu,h2⟩:=PT.seq_is _ h
     cases h2
     obtain ⟨ee,h3⟩:=qem (qfe h1)
     subst ee
     cases h3
     have hle:=Nat.le_of_ble_eq_true (qd5 hu)
     refine qth (lo:=lo) e hz1 hv hk hle (fun {w0 S m a w} hr=>?_) ho hx hy
     rcases qlK lo n (gOf m st.H k) with h2 | ⟨A,c,h2⟩
     ·exact .inl h2
     ·refine .inr ⟨A,c,h2,fun b c0 hm hc hn=>?_⟩
      unfold gOf at h2
      rw[hk,hm] at h2
      simp only[DO.cn,subA,Nat.zero_add] at h2
      rw[if_neg (by omega),hz1,Nat.mul_one] at h2
      injection h2 with h2
      injection h2 with h2
      exact h2.symm
    ·exact h.elim
   ·exact h.elim
  ·exact h.elim
 ·exact h.elim
end
end Go.Proofs.YtfnflenkeljkiaaGreat
