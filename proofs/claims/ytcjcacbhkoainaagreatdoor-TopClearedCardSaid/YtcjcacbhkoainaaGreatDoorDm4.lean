/- Reading code by computing: elements copied over. Nothing here speaks of the program. -/
import Derived.Test.YtcjcacbhkoainaaGreatDoorNb
import Derived.Laws.IdiomCopy
set_option linter.constructorNameAsVariable false
set_option linter.unusedSimpArgs false
set_option linter.unusedVariables false
set_option linter.unusedSectionVars false
namespace Go.Proofs.YtcjcacbhkoainaaGreatDoor
open Go Go.Proofs Go.RowKit
set_option maxHeartbeats 2000000
section
variable {P:Program} {w0:Bs} {S:Nat→Prop} {B:Tab P} {a:Act} {w:World} {m:Nat→Value} {st:St}
theorem qEO{t:Ty}{l zs:List t.den}{lo:Nat}(h:lo+zs.length≤l.length):((l.take lo++zs++l.drop (lo+zs.length)).map t.enc).flatten=ql (l.map t.enc).flatten (lo*t.sz) (zs.map t.enc).flatten:=by
 have h1:(l.map t.enc).flatten=((l.take lo).map t.enc).flatten++(((l.drop lo).take zs.length).map t.enc).flatten++((l.drop (lo+zs.length)).map t.enc).flatten:=by
  rw[← List.flatten_append,← List.flatten_append,← List.map_append,← List.map_append,← List.drop_drop,List.append_assoc,List.take_append_drop,List.take_append_drop]
 rw[h1]
 have h2:lo*t.sz=((l.take lo).map t.enc).flatten.length:=by rw[qbq,List.length_take,Nat.min_eq_left (by omega)]
 rw[h2,qvD _ _ _ _ (by rw[qbq,qbq,List.length_take,List.length_drop,Nat.min_eq_left (by omega)])]
 simp
theorem EF.copy{o:Oper}{KK:AV→List HE→Prop}{x y:Operand}{ty tz:TypeId}{H:List HE}{t:List AV}{b lo n c len:Nat}(e:SlE P ty){vs:List e.ty.den}(hz1:e.ty.sz=1)(k cc:Nat)(te:TypeId)(cs:List AV)(dy:AV)(ho:o.op = .call ⟨.builtin .copy,#[x,y],#[ty,tz]⟩)(hx:evO t x = .val (.slice (some ⟨b,lo,none⟩) n c))(hy:evO t y=dy)
  (hsrc:∀(a:Act) (w:World) (t':List AV),SRel w0 S t' H a w→∀u,Enc w (Al w0 S H) u dy→Src w (Al w0 S H) e.ty u vs) (hv:0<vs.length)
  (hH:H[k]?=some (.own (.slice (some ⟨b,0,none⟩) len cc) te e.ty.sz len cs)) (hl:lo+n≤cs.length)
  (h:KK (.val (.int .i64 (min vs.length n:Nat))) (H.set k (.own (.slice (some ⟨b,0,none⟩) len cc) te e.ty.sz len (ql cs lo ((vs.take n).map e.ty.enc).flatten)))):EF P w0 S o t H KK:=by
 intro a w t' ht hr
 rw[ho] at ht
 have hex:=(hr.evq ht (x:=x) (by simp[opl]) hx).val_eq
 obtain ⟨Ad,c2,news,hey,⟨hs1,hs2⟩,hs3,hs4⟩:=hsrc a w t' hr _ (hr.evq ht (x:=y) (by simp[opl]) hy)
 obtain ⟨b2,off,rfl,hs5,hs6⟩:=hs2 hv
 rw[hz1,Nat.mul_one] at hs1
 obtain ⟨h4,xs,⟨h5,h5'⟩,h6,h7⟩:=hr.hs _ (List.mem_of_getElem? hH)
 obtain ⟨us,hus⟩:∃us,us=news.take n:=⟨_,rfl⟩
 have hul:us.length=min vs.length n:=by rw[hus,List.length_take,hs1];exact Nat.min_comm _ _
 have hfl:(vs.map e.ty.enc).flatten.take n=((vs.take n).map e.ty.enc).flatten:=by
  have:=qsD e.ty vs n
  rw[hz1,Nat.mul_one] at this
  exact this
 have hdl:((vs.take n).map e.ty.enc).flatten.length=us.length:=by rw[qbq,hz1,Nat.mul_one,List.length_take,hul];exact Nat.min_comm _ _
 have henc:∀i d,((vs.take n).map e.ty.enc).flatten[i]?=some d→Enc w (Al w0 S H) (us.getD i undef) d:=fun i d hi=>by
  rw[← hfl,List.getElem?_take] at hi
  split at hi
  ·rename_i hin
   have:=hs4 i d hi
   rw[List.getD_eq_getElem?_getD] at this ⊢
   rw[hus,List.getElem?_take,if_pos hin]
   exact this
  ·cases hi
 have hone:∀u,u∈us→u.oneCell'=true:=fun u hu=>by
  obtain ⟨j,hj,rfl⟩:=List.mem_iff_getElem.1 hu
  have hj':j<((vs.take n).map e.ty.enc).flatten.length:=by rw[hdl];exact hj
  have h8:=(henc j _ (List.getElem?_eq_getElem hj')).one (List.all_eq_true.1 (qqp e.ty _) _ (List.getElem_mem hj'))
  rwa [List.getD_eq_getElem?_getD,List.getElem?_eq_getElem hj,Option.getD_some] at h8
 rcases h5' with ⟨h51,_⟩ | ⟨g,cap,cur,h51,h52,h53,h54,h55,h56,h57⟩
 ·injection h51 with h51;cases h51
 injection h51 with h51 _ h58
 injection h51 with h51
 injection h51 with h51
 subst h51 h58
 rw[hz1,Nat.mul_one] at h57
 have hcl:cs.length≤cur.toList.length:=by rw[← h6,← h57];simp;omega
 have hB:Blk w b te cur.toList:=by unfold Blk;simpa using h53
 obtain ⟨w',h8,h9,h10⟩:=qgk (P:=P) b te lo us 0 w cur.toList hB (by omega) hone
 have hxl:xs.length=cs.length:=h6
 have hx2:xs.length≤len:=by rw[← h57,List.length_take];omega
 have hsz:len≤cur.toList.length:=by
  have h56':=h56
  rw[hz1] at h56'
  simp only[Array.length_toList]
  omega
 have hxs:ql xs lo us=(ql cur.toList lo us).take len:=by
  rw[qs4 (by omega) hsz,h57]
 refine ⟨.value (.int .i64 (min vs.length n:Nat)),w',?_,.val (.int .i64 (min vs.length n:Nat)),H.set k (.own (.slice (some ⟨b,0,none⟩) len cc) te e.ty.sz len (ql cs lo ((vs.take n).map e.ty.enc).flatten)),?_,h⟩
 ·have hload:=run_loadCells_list (P:=P) w ⟨b2,off,none⟩ us fun j v hj=>by
   have hadd:(⟨b2,off,none⟩:Addr).add j=⟨b2,off+j,none⟩:=by unfold Addr.add;split<;>simp_all
   rw[hadd]
   rw[hus,List.getElem?_take] at hj
   split at hj
   ·exact hs6 j v hj
   ·cases hj
  have hrun:(Builtin.copy_ #[ty,tz] o.type #[.slice (some ⟨b,lo,none⟩) n c,.slice (some ⟨b2,off,none⟩) vs.length c2]).run P w = .ok (.int .i64 (min vs.length n:Nat)) w':=by
   have hss:=e.ok.he
   cases hq:P.info? e.e with
   | none=>rw[hq] at hss;cases hss
   | some it =>
    rw[hq] at hss
    simp only[Option.map_some,Option.some.injEq,Prod.mk.injEq] at hss
    have hi:it.size=1:=by rw[hss.1,← e.hs,hz1]
    have hmin:Nat.min vs.length n=us.length:=hul.symm
    have e2:(sizeOf e.e).run P w = .ok 1 w:=by simp[sizeOf,typeInfo,hq,hi]
    have e3:(Builtin.lenOf (.slice (some ⟨b2,off,none⟩) vs.length c2)).run P w = .ok vs.length w:=rfl
    have e4:(Builtin.firstCells 1 (vs.length.min n) (.slice (some ⟨b2,off,none⟩) vs.length c2)).run P w = .ok us.toArray w:=by
     show (loadCells ⟨b2,off,none⟩ (vs.length.min n*1)).run P w=_
     rw[Nat.mul_one,hmin]
     exact hload
    unfold Builtin.copy_
    simp only[List.getElem?_toArray,List.getElem?_cons_zero,List.getElem?_cons_succ,Sem.run_bind,run_underlying e.ok.h,Result.andThen_ok,Sem.run_pure,e3,e2,e4,h8]
    rfl
  unfold execOp
  rw[ho]
  simp only[resolve,invoke,builtin,Sem.run_bind,Sem.run_pure,Result.andThen_ok,List.map_toArray,List.map_cons,List.map_nil,hex,hey,hrun]
 ·refine (hr.owned k _ (.slice (some ⟨b,0,none⟩) len cc) te e.ty.sz len _ (ql xs lo us) hH trivial ?_ ((Kp.grown h10).mono fun x hx _=>hx) (fun b' hb=>.inl hb) ?_ ?_).put o.dst (.val _)
  ·refine ⟨by rw[q8 (by omega)];exact h5,.inr ⟨b,cc,(ql cur.toList lo us).toArray,rfl,Nat.zero_le _,?_,h54,h55,?_,by rw[hz1,Nat.mul_one,hxs]⟩⟩
   ·have h9':w'.heap[b]?=_:=h9
    rw[h9',Nat.add_zero]
   ·have:=q8 (l:=cur.toList) (us:=us) (o:=lo) (by omega)
    simp only[List.size_toArray,this,Array.length_toList,h56]
  ·rw[q8 (by omega),q8 (by omega),h6]
  ·refine ql2 h6 (by omega) (by omega) h7 henc
theorem qCh{α:Type}{l vs:List α}{lo n:Nat}(h:min vs.length n=0):cpL l lo n vs=l:=by
 have h1:vs.take n=[]:=List.eq_nil_of_length_eq_zero (by rw[List.length_take];omega)
 unfold cpL
 rw[h,h1,Nat.add_zero,List.append_nil,List.take_append_drop]
theorem qIq{α:Type}{l vs:List α}{lo n:Nat}(h:lo+n≤l.length):(cpL l lo n vs).length=l.length:=by
 unfold cpL
 simp only[List.length_append,List.length_take,List.length_drop]
 omega
theorem qzU{o:Oper}{ty tz te:TypeId}{x y:Operand}{d s:DV}(e:SlE P ty)(hz1:e.ty.sz=1){v:List e.ty.den×List Nat}(hv:(qqe e.ty st.H s).Is v){k lo n:Nat}{z:Bool}{l:List e.ty.den}(hk:hget st.H k = .row z e.ty te l)(hle:lo+n≤l.length)
  (hd:∀{w0:Bs} {S:Nat→Prop} {m:Nat→Value} {a:Act} {w:World},DR w0 S m st a w→conc (gOf m st.H) d=botA∨∃A c,conc (gOf m st.H) d = .val (.slice A n c)∧∀b c0,m k = .slice (some ⟨b,0,none⟩) l.length c0→l.length≤c0→0<n→A=some ⟨b,lo,none⟩)
  (ho:o.op = .call ⟨.builtin .copy,#[x,y],#[ty,tz]⟩) (hx:evD st.T x=d) (hy:evD st.T y=s):StepW P o st ⟨qL st.T o.dst (.val (.int .i64 (cpN v.1 n))),hput st.H k (.row z e.ty te (cpL l lo n v.1))⟩:=by
 have hcn:∀u,(DO.row z e.ty te (cpL l lo n v.1)).cn u=(hget st.H k).cn u:=fun u=>by rw[hk];rfl
 refine StepW.ef (Kl.row hk) fun w0 S m a w hr=>?_
 obtain ⟨hg,hrf,hcase⟩:=hr.rowAt hk
 have hsane:Sane m (hput st.H k (.row z e.ty te (cpL l lo n v.1))):=fun j hj=>hr.2.1 j fun e=>by
  rw[qH] at hj
  split at hj
  ·rename_i h1;obtain ⟨rfl,_⟩:=h1;rw[hk] at e;cases e
  ·exact hj e
 have hgg:=qkm (m:=m) hcn
 have hvs:∀(a:Act) (w:World) (t':List AV),SRel w0 S t' (hes m st.H) a w→∀u,Enc w (Al w0 S (hes m st.H)) u (conc (gOf m st.H) s)→Src w (Al w0 S (hes m st.H)) e.ty u v.1:=fun a w t' hs u hu=>qsE hs hv hu
 by_cases h0:min v.1.length n=0
 ·intro a w t' ht hs
  have hxe:∃A c,a.eval x = .slice A n c:=by
   have h1:=hs.evq ht (x:=x) (by rw[ho];simp[opl]) rfl
   rw[qbe hx] at h1
   rcases hd hr with h2 | ⟨A,c,h2,_⟩
   ·rw[h2] at h1;exact (qoK h1).elim
   ·rw[h2] at h1;exact ⟨A,c,h1.val_eq⟩
  obtain ⟨A,c,hxe⟩:=hxe
  obtain ⟨Ad,c2,news,hye,_⟩:=hvs a w t' hs _ (by
   have h1:=hs.evq ht (x:=y) (by rw[ho];simp[opl]) rfl
   rw[qbe hy] at h1
   exact h1)
  have hrun:(Builtin.copy_ #[ty,tz] o.type #[.slice A n c,.slice Ad v.1.length c2]).run P w = .ok (goInt 0) w:=by
   have hss:=e.ok.he
   refine run_copy_none (P:=P) w ty tz o.type e.e A Ad n c v.1.length c2 e.ok.h ?_ h0
   cases hq:P.info? e.e with
   | none=>rw[hq] at hss;cases hss
   | some it =>
    rw[hq] at hss
    simp only[Option.map_some,Option.some.injEq,Prod.mk.injEq] at hss
    simp only[Option.map_some,Option.some.injEq]
    rw[hss.1,← e.hs,hz1]
  have e0:hes m (hput st.H k (.row z e.ty te (cpL l lo n v.1)))=hes m st.H:=by
   rw[qoh hcn,qCh h0]
   apply List.ext_getElem?
   intro i
   rw[List.getElem?_set]
   by_cases hi:k=i
   ·subst hi
    rw[if_pos rfl,if_pos (List.getElem?_eq_some_iff.1 hg).1,hg]
    rfl
   ·rw[if_neg hi]
  refine ⟨.value (goInt 0),w,?_,.val (goInt 0),hes m st.H,hs.put o.dst (.val _),m,mle.refl _ _,hsane,fun a' w' hs'=>?_⟩
  ·unfold execOp
   rw[ho]
   simp only[resolve,invoke,builtin,Sem.run_bind,Sem.run_pure,Result.andThen_ok,List.map_toArray,List.map_cons,List.map_nil,hxe,hye,hrun]
  ·rw[hgg,e0]
   have:(cpN v.1 n)=0:=h0
   rw[this]
   exact hs'
 ·rcases hcase with ⟨hm,rfl⟩ | ⟨b,c0,hm,hc1,hc2,_⟩
  ·simp at hle;omega
  rcases hd hr with h2 | ⟨A,c,h2,h3⟩
  ·intro a w t' ht hs
   have h1:=hs.evq ht (x:=x) (by rw[ho];simp[opl]) rfl
   rw[qbe hx,h2] at h1
   exact (qoK h1).elim
  rw[h3 b c0 hm hc1 (by omega)] at h2
  rw[hm] at hg
  refine EF.copy (vs:=v.1) (n:=n) e hz1 k c0 te (l.map e.ty.enc).flatten (conc (gOf m st.H) s) ho (by rw[qbe hx];exact h2) (qbe hy _) hvs (by omega) hg (by rw[qbq,hz1,Nat.mul_one];exact hle) ⟨m,mle.refl _ _,hsane,fun a' w' hs'=>?_⟩
  rw[hgg,qoh hcn]
  have hlen:=qIq (vs:=v.1) hle
  have htl:(v.1.take n).length=min v.1.length n:=by rw[List.length_take];exact Nat.min_comm _ _
  have e5:heOf (gOf m st.H) (m k) (.row z e.ty te (cpL l lo n v.1)) = .own (.slice (some ⟨b,0,none⟩) l.length c0) te e.ty.sz l.length (ql (l.map e.ty.enc).flatten lo ((v.1.take n).map e.ty.enc).flatten):=by
   show HE.own (m k) te e.ty.sz _ _=_
   have hp:=qEO (l:=l) (zs:=v.1.take n) (lo:=lo) (by rw[htl];omega)
   rw[hz1,Nat.mul_one,htl] at hp
   rw[hlen,hm,hz1]
   show HE.own _ te 1 _ ((cpL l lo n v.1).map e.ty.enc).flatten=_
   unfold cpL
   rw[hp]
  rw[e5]
  have:(conc (gOf m st.H) (.val (.int .i64 (cpN v.1 n)))) = .val (.int .i64 (min v.1.length n:Nat)):=rfl
  rw[this]
  exact hs'
theorem qGC{o:Oper}{ty tz:TypeId}{x y:Operand}{d s:DV}{r:SR}(ho:o.op = .call ⟨.builtin .copy,#[x,y],#[ty,tz]⟩)(hx:evD st.T x=d)(hy:evD st.T y=s)(h:(qwv B st.H ty d s).Is r):StepW P o st ⟨qL st.T o.dst r.v,r.H⟩:=by
 unfold qwv at h
 split at h
 ·rename_i e he
  split at h
  ·rename_i hz
   have hz1:e.ty.sz=1:=by simpa using hz
   obtain ⟨v,hv,h⟩:=PT.seq_is _ h
   split at h
   ·rename_i k _
    split at h
    ·rename_i z t te l hk
     obtain ⟨vs,h1,h2⟩:=PT.seq_is _ h
     cases h2
     obtain ⟨ee,h3⟩:=qgK (qh6 h1)
     subst ee
     cases h3
     refine qzU (lo:=0) e hz1 hv hk (by omega) (fun hr=>.inr ?_) ho hx hy
     obtain ⟨_,hrf,hcase⟩:=hr.rowAt hk
     rcases hcase with ⟨hm,rfl⟩ | ⟨b,c0,hm,hc1,_⟩
     ·exact ⟨none,0,by simp only[conc,hrf,hm];rfl,fun b c0 h _=>by rw[hm] at h;cases h⟩
     ·exact ⟨some ⟨b,0,none⟩,c0,by simp only[conc,hrf,hm],fun b' c' h _ _=>by rw[hm] at h;cases h;rfl⟩
    ·exact h.elim
   ·rename_i k lo n _
    split at h
    ·rename_i z t te l hk
     obtain ⟨vs,h1,u,hu,h2⟩:=PT.seq_is _ h
     cases h2
     obtain ⟨ee,h3⟩:=qgK (qh6 h1)
     subst ee
     cases h3
     have hle:=Nat.le_of_ble_eq_true (qgl hu)
     refine qzU (lo:=lo) e hz1 hv hk hle (fun {w0 S m a w} hr=>?_) ho hx hy
     rcases qre lo n (gOf m st.H k) with h2 | ⟨A,c,h2⟩
     ·exact .inl h2
     ·refine .inr ⟨A,c,h2,fun b c0 hm hc hn=>?_⟩
      unfold gOf at h2
      rw[hk,hm] at h2
      simp only[DO.cn,subA,Nat.zero_add] at h2
      rw[if_neg (by omega),hz1,Nat.mul_one] at h2
      injection h2 with h2
      injection h2 with h2
      exact h2.symm
    ·exact h.elim
   ·exact h.elim
  ·exact h.elim
 ·exact h.elim
end
end Go.Proofs.YtcjcacbhkoainaaGreatDoor
