/- The law TopGuided answers true at every input, and its arguments read afterwards as they read before.
   Conditions: none beyond the row's own; no bound on the arguments' size. -/
import Derived.Test.YtfnflenkeljkiaaGreatDg4
import Derived.Test.YtfnflenkeljkiaaGreatDr1
set_option linter.constructorNameAsVariable false
set_option linter.unusedSimpArgs false
set_option linter.unusedVariables false
set_option linter.unusedSectionVars false
namespace Go.Proofs.YtfnflenkeljkiaaGreat
open Go Go.Proofs Go.RowKit Go.Shelf
set_option maxHeartbeats 1000000
set_option maxRecDepth 20000
open Go.ChangeShapes Go.WideShapes Go.ChangeAt Go.Deep
namespace TopGuided
theorem pc_m(n:Nat)(A:qeo (qdR n).ars):(qdR n).M A=qe0 n A:=by kernel_rfl
theorem pc(n:Nat)(a0:T29.den)(a1:T32.den)(a2:T34.den)(h:qe0 n (a0,(a1,(a2,())))=some (true,())):PC Tryz.prog 3 [.agg (T29.enc a0),.agg (T32.enc a1),.agg (T34.enc a2)] (.val (.bool true)):=Ct.pc (qdR n) (show qeo (qdR n).ars from (a0,(a1,(a2,())))) (true,()) ((pc_m n _).trans h) (by kernel_rfl) (by kernel_rfl) (by kernel_rfl)
theorem contract(H:Type)(enc:TypeId×Value→H)(W:World)(base:Nat)(args:Array Value)(ds gs:List (DataW H))(before:List MemPlace)
  (hval:∀(j:Nat) t v,Tryz.f3.params[j]?=some t→args[j]?=some v→Value.okWide Tryz.prog W .any base t v)
  (hW:DataW.Whole enc Tryz.prog Tryz.f3.params.toList Rows.topGuidedSpec.vars false W args.toList ds gs before)
  (hsz:(DataW.weightsEach Tryz.prog (Tryz.f3.params.toList++(OpenSpec.ofChange Rows.topGuidedSpec).bare.plain.varTypes Tryz.prog) (ds++gs)).all (·≤reachBytes)=true) :
  Calls Tryz.prog 3 args W fun e W'=>∃v,e = .returned v∧Rows.topGuidedSpec.post enc Tryz.prog Tryz.f3 false true false false W args v W':=by
 have hW':=hW
 obtain ⟨p,q,hA0,hV,rfl,hfz,hnd⟩:=hW
 have hA:DataW.TrodAll enc Tryz.prog W 0 (fun _=>true) true Tryz.f3.params.toList args.toList ds p:=hA0
 have hwt:∀(j:Nat) t d,Tryz.f3.params.toList[j]?=some t→ds[j]?=some d→∀q∈d.weights Tryz.prog t,q≤reachBytes:=fun j t d k1 k2 q hq =>
  of_decide_eq_true (List.all_eq_true.1 hsz q (DataW.weights_mem_each (by rw[List.getElem?_append_left (List.getElem?_eq_some_iff.1 k1).1];exact k1) (by rw[List.getElem?_append_left (List.getElem?_eq_some_iff.1 k2).1];exact k2) q hq))
 clear hsz
 rw[Tryz.params3] at hA hval hwt
 obtain ⟨v0,vs0,d0,ds0,p0,q0,hargs,rfl,rfl,h0,r0⟩:=trodAll_cons hA
 obtain ⟨v1,vs1,d1,ds1,p1,q1,rfl,rfl,rfl,h1,r1⟩:=trodAll_cons r0
 obtain ⟨v2,vs2,d2,ds2,p2,q2,rfl,rfl,rfl,h2,r2⟩:=trodAll_cons r1
 obtain ⟨rfl,rfl,rfl⟩:=trodAll_nil r2
 obtain rfl:args = #[v0,v1,v2]:=by cases args;simp_all
 obtain ⟨rfl,rfl⟩:=trodVars_none hV
 obtain ⟨x0,e0,s0⟩:=ql9 (n:=8) (shs:=T29.sh) Tryz.underlying29 (by kernel_rfl) (hval 0 29 v0 rfl rfl) h0 (hwt 0 29 d0 rfl rfl)
 obtain ⟨x1,e1,s1⟩:=ql9 (n:=8) (shs:=T32.sh) Tryz.underlying32 (by kernel_rfl) (hval 1 32 v1 rfl rfl) h1 (hwt 1 32 d1 rfl rfl)
 obtain ⟨x2,e2,s2⟩:=ql9 (n:=8) (shs:=T34.sh) Tryz.underlying34 (by kernel_rfl) (hval 2 34 v2 rfl rfl) h2 (hwt 2 34 d2 rfl rfl)
 clear hA0
 have hlt:∀x∈p0++(p1++(p2++[]))++[],x.block<W.heap.size:=fun x hx=>by simpa using hW'.lt x hx
 have walk:Calls Tryz.prog 3 #[v0,v1,v2] W fun e w'=>e = .returned (.bool true)∧Ext W w':=by
  obtain ⟨a0,rfl,z0⟩:=Ty.of_sh T29 _ s0
  obtain ⟨a1,rfl,z1⟩:=Ty.of_sh T32 _ s1
  obtain ⟨a2,rfl,z2⟩:=Ty.of_sh T34 _ s2
  obtain ⟨n,hn⟩:∃n,9000000≤n:=⟨_,Nat.le_refl _⟩
  exact (pc n a0 a1 a2 (qvb n a0 a1 a2 (Nat.le_trans (Nat.le_trans (by decide) (Nat.le_add_left 9000000 _)) hn))).said gl0 rfl (qA1 e0 e1 e2)
 refine walk.mono fun e W' ⟨he,hb⟩=>?_
 subst he
 have keep:∀{t:TypeId} {v:Value} {d:DataW H} {ps:List MemPlace},Tryz.prog.readableRec t=true→t<Tryz.prog.types.size→DataW.Trod enc Tryz.prog W 0 (fun _=>true) true t v d ps→(∀x∈ps,x.block<W.heap.size)→DataW.Trod enc Tryz.prog W' 0 (fun b=>decide (b<W.heap.size)) true t v d ps :=
  fun h1 h2 h3 h4=>Below.trod qzu h1 h2 h3 hb h4
 exact ⟨_,rfl,⟨_,_,_,[],_,[],hW',trodAll_cons_mk (shut_bool Tryz.underlying4 _) trodAll_mk0,
  (trodAll_cons_mk (keep (by kernel_rfl) (of_decide_eq_true (by kernel_rfl)) h0 (fun x hx=>hlt x (by simp[hx]))) (trodAll_cons_mk (keep (by kernel_rfl) (of_decide_eq_true (by kernel_rfl)) h1 (fun x hx=>hlt x (by simp[hx]))) (trodAll_cons_mk (keep (by kernel_rfl) (of_decide_eq_true (by kernel_rfl)) h2 (fun x hx=>hlt x (by simp[hx]))) trodAll_mk0))),
  rfl,hb.frame _,fun h=>by cases h⟩⟩
theorem reads(os:Os){H:Type}(enc:TypeId×Value→H):∃places,DataW.whole enc Tryz.prog ((qqf os).forCall (fun _ _=>0) ⟨#[],#[(.agg #[.int .i64 0,.int .i64 0,.int .i64 0,.slice none 0 0,.slice none 0 0,.int .i64 0,.int .i64 0,.int .i64 0,.slice none 0 0,.slice none 0 0]),(.agg #[.int .i64 0,.slice none 0 0]),(.agg #[.int .i64 0,.int .i64 0,.int .i64 0])],[]⟩).memory Tryz.f3.params.toList Rows.topGuidedSpec.vars false #[(.agg #[.int .i64 0,.int .i64 0,.int .i64 0,.slice none 0 0,.slice none 0 0,.int .i64 0,.int .i64 0,.int .i64 0,.slice none 0 0,.slice none 0 0]),(.agg #[.int .i64 0,.slice none 0 0]),(.agg #[.int .i64 0,.int .i64 0,.int .i64 0])].toList 8=some ([.agg [.lit (.int .i64 0),.lit (.int .i64 0),.lit (.int .i64 0),.nil,.nil,.agg [.lit (.int .i64 0),.lit (.int .i64 0),.lit (.int .i64 0),.nil],.nil],.agg [.lit (.int .i64 0),.nil],.agg [.lit (.int .i64 0),.lit (.int .i64 0),.lit (.int .i64 0)]],[],places) :=
 ⟨[],by kernel_rfl⟩
theorem met(os:Os):laidMet Tryz.prog Rows.topGuidedRow.laid ((qqf os).forCall (fun _ _=>0) ⟨#[],#[(.agg #[.int .i64 0,.int .i64 0,.int .i64 0,.slice none 0 0,.slice none 0 0,.int .i64 0,.int .i64 0,.int .i64 0,.slice none 0 0,.slice none 0 0]),(.agg #[.int .i64 0,.slice none 0 0]),(.agg #[.int .i64 0,.int .i64 0,.int .i64 0])],[]⟩).memory:=laidMet_of_run' 8 (by kernel_rfl) (by kernel_rfl)
set_option maxRecDepth 100000 in
theorem lifted(os:Os)(started:os.Started)(H:Type)(enc:TypeId×Value→H)(F:Stop.Interp) :
  ReturnsInHanded {} Tryz.checked os 3 .any ((OpenSpec.ofChange Rows.topGuidedSpec).preRow enc Tryz.prog Tryz.f3 Rows.topGuidedRow.domain false Rows.topGuidedRow.laid) (((OpenSpec.ofChange Rows.topGuidedSpec).at F).post enc Tryz.prog Tryz.f3 false true false false):=by
 obtain ⟨places,hx⟩:=reads os enc
 refine returnsInHanded_of_row (C:=Tryz.checked) (s:=OpenSpec.ofChange Rows.topGuidedSpec) ownK started (by kernel_rfl) Tryz.func3
  (witness_row_at (enc:=enc) (C:=Tryz.checked) false (qqf os) #[(.agg #[.int .i64 0,.int .i64 0,.int .i64 0,.slice none 0 0,.slice none 0 0,.int .i64 0,.int .i64 0,.int .i64 0,.slice none 0 0,.slice none 0 0]),(.agg #[.int .i64 0,.slice none 0 0]),(.agg #[.int .i64 0,.int .i64 0,.int .i64 0])] rfl (by kernel_rfl) (by kernel_rfl) (by kernel_rfl)
   (OpenSpec.preRow_of_cond 8 hx (by kernel_rfl) (fun k hk=>by cases hk) (by kernel_rfl) (met os))) ?_
 intro W base args ds gs before hval hW _ _ hsz _ _ _
 exact contract H enc W base args ds gs before hval hW hsz
theorem said:Rows.TopGuidedSaid :=
 OpenClaim.holds_of_cond 3 Tryz.f3 rfl rfl rfl rfl rfl rfl rfl ⟨rfl,rfl,rfl,rfl,rfl⟩ rfl rfl rfl rfl rfl (by kernel_rfl) Tryz.func3 (by kernel_rfl)
  (of_decide_eq_true (by kernel_rfl)) (by unfold Func.isWrapper;first | (rw[if_pos (by decide +kernel)];kernel_rfl) | (rw[if_neg (by decide +kernel)];exact ⟨rfl,rfl⟩))
  (fun os started H enc _ F=>by rw[OpenClaim.pre_eq_preRow];exact lifted os started H enc F)
end TopGuided
end Go.Proofs.YtfnflenkeljkiaaGreat
