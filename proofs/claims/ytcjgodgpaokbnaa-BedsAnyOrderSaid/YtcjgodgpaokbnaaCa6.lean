/- The law BedsAnyOrder answers true at every input, and its arguments read afterwards as they read qDc.
   Conditions: none beyond the row's own; no bound on the arguments' size. -/
import Derived.Test.YtcjgodgpaokbnaaDy6
import Derived.Test.YtcjgodgpaokbnaaDr1
set_option linter.constructorNameAsVariable false
set_option linter.unusedSimpArgs false
set_option linter.unusedVariables false
set_option linter.unusedSectionVars false
namespace Go.Proofs.Ytcjgodgpaokbnaa
open Go Go.Proofs Go.RowKit Go.Shelf
set_option maxHeartbeats 1000000
set_option maxRecDepth 20000
open Go.ChangeShapes Go.WideShapes Go.ChangeAt Go.Deep
namespace BedsAnyOrder
theorem pc_m(n:Nat)(A:qR qgV):(qqr n).M A=qi5 n A:=by kernel_rfl
theorem pc(n:Nat)(a0:T24.den)(a1:List T30.den)(a2:List T3.den)(h:qi5 n (a0,(a1,(a2,())))=some (true,())):PC Try.prog 6 [.agg (T24.enc a0),.sl T30.sz (a1.map T30.enc),.sl T3.sz (a2.map T3.enc)] (.val (.bool true)):=Ct.pc (qqr n) (show qR qgV from (a0,(a1,(a2,())))) (true,()) ((pc_m n _).trans h) (by kernel_rfl) (by kernel_rfl) (by kernel_rfl)
theorem contract(H:Type)(enc:TypeId×Value→H)(W:World)(base:Nat)(args:Array Value)(ds gs:List (DataW H))(qDc:List MemPlace)
  (hval:∀(j:Nat) t v,Try.f6.params[j]?=some t→args[j]?=some v→Value.okWide Try.prog W .any base t v)
  (hW:DataW.Whole enc Try.prog Try.f6.params.toList Rows.bedsAnyOrderSpec.vars false W args.toList ds gs qDc) :
  Calls Try.prog 6 args W fun e W'=>∃v,e = .returned v∧Rows.bedsAnyOrderSpec.post enc Try.prog Try.f6 false true false false W args v W':=by
 have hW':=hW
 obtain ⟨p,q,hA0,hV,rfl,hfz,hnd⟩:=hW
 have hA:DataW.TrodAll enc Try.prog W 0 (fun _=>true) true Try.f6.params.toList args.toList ds p:=hA0
 rw[Try.params6] at hA hval
 obtain ⟨v0,vs0,d0,ds0,p0,q0,hargs,rfl,rfl,h0,r0⟩:=trodAll_cons hA
 obtain ⟨v1,vs1,d1,ds1,p1,q1,rfl,rfl,rfl,h1,r1⟩:=trodAll_cons r0
 obtain ⟨v2,vs2,d2,ds2,p2,q2,rfl,rfl,rfl,h2,r2⟩:=trodAll_cons r1
 obtain ⟨rfl,rfl,rfl⟩:=trodAll_nil r2
 obtain rfl:args = #[v0,v1,v2]:=by cases args;simp_all
 obtain ⟨rfl,rfl⟩:=trodVars_none hV
 obtain ⟨x0,e0,s0⟩:=qHl (n:=8) (shs:=T24.sh) Try.underlying24 (by kernel_rfl) (hval 0 24 v0 rfl rfl) h0
 obtain ⟨x1,e1,s1⟩:=qDW (n:=8) (l:=T30.sh) Try.underlying25 (by kernel_rfl) (hval 1 25 v1 rfl rfl) h1
 obtain ⟨x2,e2,s2⟩:=qDW (n:=8) (l:=T3.sh) Try.underlying32 (by kernel_rfl) (hval 2 32 v2 rfl rfl) h2
 clear hA0
 have hlt:∀x∈p0++(p1++(p2++[]))++[],x.block<W.heap.size:=fun x hx=>by simpa using hW'.lt x hx
 have walk:Calls Try.prog 6 #[v0,v1,v2] W fun e w'=>e = .returned (.bool true)∧Ext W w':=by
  obtain ⟨a0,rfl⟩:=Ty.of_sh T24 _ s0
  obtain ⟨a1,rfl⟩:=Ty.rows_of T30 s1
  rw[Ty.sh_len] at e1
  have l1:a1.length≤9223372036854775807:=by have:=enc_len e1;rwa [List.length_map] at this
  obtain ⟨a2,rfl⟩:=Ty.rows_of T3 s2
  rw[Ty.sh_len] at e2
  have l2:a2.length≤9223372036854775807:=by have:=enc_len e2;rwa [List.length_map] at this
  obtain ⟨n,hn⟩:∃n,a1.length+a2.length+9000000≤n:=⟨_,Nat.le_refl _⟩
  exact (pc n a0 a1 a2 (qOa n a0 a1 a2 l1 l2 (Nat.le_trans (Nat.add_le_add_left (by decide) _) hn))).said rfl (qOd e0 e1 e2)
 refine walk.mono fun e W' ⟨he,hb⟩=>?_
 subst he
 have keep:∀{t:TypeId} {v:Value} {d:DataW H} {ps:List MemPlace},Try.prog.readableRec t=true→t<Try.prog.types.size→DataW.Trod enc Try.prog W 0 (fun _=>true) true t v d ps→(∀x∈ps,x.block<W.heap.size)→DataW.Trod enc Try.prog W' 0 (fun b=>decide (b<W.heap.size)) true t v d ps :=
  fun h1 h2 h3 h4=>Below.trod qMA h1 h2 h3 hb h4
 exact ⟨_,rfl,⟨_,_,_,[],_,[],hW',trodAll_cons_mk (shut_bool Try.underlying4 _) trodAll_mk0,
  (trodAll_cons_mk (keep (by kernel_rfl) (of_decide_eq_true (by kernel_rfl)) h0 (fun x hx=>hlt x (by simp[hx]))) (trodAll_cons_mk (keep (by kernel_rfl) (of_decide_eq_true (by kernel_rfl)) h1 (fun x hx=>hlt x (by simp[hx]))) (trodAll_cons_mk (keep (by kernel_rfl) (of_decide_eq_true (by kernel_rfl)) h2 (fun x hx=>hlt x (by simp[hx]))) trodAll_mk0))),
  rfl,hb.frame _,fun h=>by cases h⟩⟩
theorem reads(os:Os){H:Type}(enc:TypeId×Value→H):∃places,DataW.whole enc Try.prog ((qDf os).forCall (fun _ _=>0) ⟨#[],#[(.agg #[.slice none 0 0,.int .i64 0]),.slice none 0 0,.slice none 0 0],[]⟩).memory Try.f6.params.toList Rows.bedsAnyOrderSpec.vars false #[(.agg #[.slice none 0 0,.int .i64 0]),.slice none 0 0,.slice none 0 0].toList 8=some ([.agg [.nil,.lit (.int .i64 0)],.nil,.nil],[],places) :=
 ⟨[],by kernel_rfl⟩
theorem met(os:Os):laidMet Try.prog Rows.bedsAnyOrderRow.laid ((qDf os).forCall (fun _ _=>0) ⟨#[],#[(.agg #[.slice none 0 0,.int .i64 0]),.slice none 0 0,.slice none 0 0],[]⟩).memory:=laidMet_of_run' 8 (by kernel_rfl) (by kernel_rfl)
set_option maxRecDepth 100000 in
theorem lifted(os:Os)(started:os.Started)(H:Type)(enc:TypeId×Value→H)(F:Stop.Interp) :
  ReturnsInHanded {} Try.checked os 6 .any ((OpenSpec.ofChange Rows.bedsAnyOrderSpec).preRow enc Try.prog Try.f6 Rows.bedsAnyOrderRow.domain false Rows.bedsAnyOrderRow.laid) (((OpenSpec.ofChange Rows.bedsAnyOrderSpec).at F).post enc Try.prog Try.f6 false true false false):=by
 obtain ⟨places,hx⟩:=reads os enc
 refine returnsInHanded_of_row (C:=Try.checked) (s:=OpenSpec.ofChange Rows.bedsAnyOrderSpec) ownK started (by kernel_rfl) Try.func6
  (witness_row_at (enc:=enc) (C:=Try.checked) false (qDf os) #[(.agg #[.slice none 0 0,.int .i64 0]),.slice none 0 0,.slice none 0 0] rfl (by kernel_rfl) (by kernel_rfl) (by kernel_rfl)
   (OpenSpec.preRow_of_cond 8 hx (by kernel_rfl) (fun k hk=>by cases hk) (by kernel_rfl) (met os))) ?_
 intro W base args ds gs qDc hval hW _ _ _ _ _ _
 exact contract H enc W base args ds gs qDc hval hW
theorem said:Rows.BedsAnyOrderSaid :=
 OpenClaim.holds_of_cond 6 Try.f6 rfl rfl rfl rfl rfl rfl rfl ⟨rfl,rfl,rfl,rfl,rfl⟩ rfl rfl rfl rfl rfl (by kernel_rfl) Try.func6 (by kernel_rfl)
  (of_decide_eq_true (by kernel_rfl)) (by unfold Func.isWrapper;first | (rw[if_pos (by decide +kernel)];kernel_rfl) | (rw[if_neg (by decide +kernel)];exact ⟨rfl,rfl⟩))
  (fun os started H enc _ F=>by rw[OpenClaim.pre_eq_preRow];exact lifted os started H enc F)
end BedsAnyOrder
end Go.Proofs.Ytcjgodgpaokbnaa
