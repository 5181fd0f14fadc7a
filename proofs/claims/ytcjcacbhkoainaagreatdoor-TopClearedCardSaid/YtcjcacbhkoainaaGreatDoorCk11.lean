/- The law TopCleared answers true at every input, and its arguments read afterwards as they read qt6.
   Conditions: none beyond the row's own; no bound on the arguments' size. -/
import Derived.Test.YtcjcacbhkoainaaGreatDoorDk17
import Derived.Test.YtcjcacbhkoainaaGreatDoorDc13
import Derived.Test.YtcjcacbhkoainaaGreatDoorDr1
import Derived.Test.YtcjcacbhkoainaaGreatDoorDrz
import Derived.Test.YtcjcacbhkoainaaGreatDoorCards
import Derived.Test.YtcjcacbhkoainaaGreatDoorTie
set_option linter.constructorNameAsVariable false
set_option linter.unusedSimpArgs false
set_option linter.unusedVariables false
set_option linter.unusedSectionVars false
namespace Go.Proofs.YtcjcacbhkoainaaGreatDoor
open Go Go.Proofs Go.RowKit Go.Shelf
set_option maxHeartbeats 1000000
set_option maxRecDepth 20000
open Go.ChangeShapes Go.WideShapes Go.ChangeAt Go.Deep
namespace TopCleared
theorem pc_m(n:Nat)(A:qhj (qfu n).ars):(qfu n).M A=qhi n A:=by kernel_rfl
theorem pc(n:Nat)(a0:T41.den)(h:qhi n (a0,())=some (true,())):PC Tryz.prog 6 [.agg (T41.enc a0)] (.val (.bool true)):=Ct.pc (qfu n) (show qhj (qfu n).ars from (a0,())) (true,()) ((pc_m n _).trans h) (by kernel_rfl) (by kernel_rfl) (by kernel_rfl)
theorem contract(H:Type)(enc:TypeId×Value→H)(W:World)(base:Nat)(args:Array Value)(ds gs:List (DataW H))(qt6:List MemPlace)
  (hval:∀(j:Nat) t v,Tryz.f6.params[j]?=some t→args[j]?=some v→Value.okWide Tryz.prog W .any base t v)
  (hW:DataW.Whole enc Tryz.prog Tryz.f6.params.toList Rows.topClearedSpec.vars false W args.toList ds gs qt6)
  (hsz:(DataW.weightsEach Tryz.prog (Tryz.f6.params.toList++(OpenSpec.ofChange Rows.topClearedSpec).bare.plain.varTypes Tryz.prog) (ds++gs)).all (·≤reachBytes)=true) (hL:laidMetH Tryz.prog Rows.topClearedRow.laid W) :
  Calls Tryz.prog 6 args W fun e W'=>∃v,e = .returned v∧Rows.topClearedSpec.post enc Tryz.prog Tryz.f6 false true false false W args v W':=by
 have hW':=hW
 obtain ⟨p,q,hA0,hV,rfl,hfz,hnd⟩:=hW
 have hA:DataW.TrodAll enc Tryz.prog W 0 (fun _=>true) true Tryz.f6.params.toList args.toList ds p:=hA0
 have hwt:∀(j:Nat) t d,Tryz.f6.params.toList[j]?=some t→ds[j]?=some d→∀q∈d.weights Tryz.prog t,q≤reachBytes:=fun j t d k1 k2 q hq =>
  of_decide_eq_true (List.all_eq_true.1 hsz q (DataW.weights_mem_each (by rw[List.getElem?_append_left (List.getElem?_eq_some_iff.1 k1).1];exact k1) (by rw[List.getElem?_append_left (List.getElem?_eq_some_iff.1 k2).1];exact k2) q hq))
 clear hsz
 rw[Tryz.params6] at hA hval hwt
 obtain ⟨v0,vs0,d0,ds0,p0,q0,hargs,rfl,rfl,h0,r0⟩:=trodAll_cons hA
 obtain ⟨rfl,rfl,rfl⟩:=trodAll_nil r0
 obtain rfl:args = #[v0]:=by cases args;simp_all
 obtain ⟨rfl,rfl⟩:=trodVars_none hV
 obtain ⟨x0,e0,s0⟩:=qAW (n:=8) (shs:=T41.sh) Tryz.underlying41 (by kernel_rfl) (hval 0 41 v0 rfl rfl) h0 (hwt 0 41 d0 rfl rfl)
 clear hA0
 have hlt:∀x∈p0++[]++[],x.block<W.heap.size:=fun x hx=>by simpa using hW'.lt x hx
 have walk:Calls Tryz.prog 6 #[v0] W fun e w'=>e = .returned (.bool true)∧Ext W w':=by
  obtain ⟨a0,rfl,z0⟩:=Ty.of_sh T41 _ s0
  obtain ⟨n,hn⟩:∃n,a0.2.1.length+a0.2.2.2.2.1.length+9000000≤n:=⟨_,Nat.le_refl _⟩
  exact (pc n a0 (qEl n a0 (qDu a0 z0).1 (qDu a0 z0).2 (Nat.le_trans (Nat.add_le_add_left (by decide) _) hn))).said (glOf hL) rfl (qKk e0)
 refine walk.mono fun e W' ⟨he,hb⟩=>?_
 subst he
 have keep:∀{t:TypeId} {v:Value} {d:DataW H} {ps:List MemPlace},Tryz.prog.readableRec t=true→t<Tryz.prog.types.size→DataW.Trod enc Tryz.prog W 0 (fun _=>true) true t v d ps→(∀x∈ps,x.block<W.heap.size)→DataW.Trod enc Tryz.prog W' 0 (fun b=>decide (b<W.heap.size)) true t v d ps :=
  fun h1 h2 h3 h4=>Below.trod qHP h1 h2 h3 hb h4
 exact ⟨_,rfl,⟨_,_,_,[],_,[],hW',trodAll_cons_mk (shut_bool Tryz.underlying4 _) trodAll_mk0,
  (trodAll_cons_mk (keep (by kernel_rfl) (of_decide_eq_true (by kernel_rfl)) h0 (fun x hx=>hlt x (by simp[hx]))) trodAll_mk0),
  rfl,hb.frame _,fun h=>by cases h⟩⟩
theorem reads(os:Os){H:Type}(enc:TypeId×Value→H):∃places,DataW.whole enc Tryz.prog ((qwp os).forCall (fun _ _=>0) ⟨#[],#[(.agg #[.slice none 0 0,.int .i64 0,.slice none 0 0,.int .i64 0,.slice none 0 0,.slice none 0 0,.slice none 0 0,.slice none 0 0,.slice none 0 0,.int .i64 0,.int .i64 0,.int .i64 0,.int .i64 0])],[]⟩).memory Tryz.f6.params.toList Rows.topClearedSpec.vars false #[(.agg #[.slice none 0 0,.int .i64 0,.slice none 0 0,.int .i64 0,.slice none 0 0,.slice none 0 0,.slice none 0 0,.slice none 0 0,.slice none 0 0,.int .i64 0,.int .i64 0,.int .i64 0,.int .i64 0])].toList 8=some ([.agg [.agg [.nil,.lit (.int .i64 0)],.nil,.lit (.int .i64 0),.nil,.nil,.nil,.nil,.nil,.lit (.int .i64 0),.lit (.int .i64 0),.lit (.int .i64 0),.lit (.int .i64 0)]],[],places) :=
 ⟨[],by kernel_rfl⟩
theorem met(os:Os):laidMet Tryz.prog Rows.topClearedRow.laid ((qwp os).forCall (fun _ _=>0) ⟨#[],#[(.agg #[.slice none 0 0,.int .i64 0,.slice none 0 0,.int .i64 0,.slice none 0 0,.slice none 0 0,.slice none 0 0,.slice none 0 0,.slice none 0 0,.int .i64 0,.int .i64 0,.int .i64 0,.int .i64 0])],[]⟩).memory:=laidMet_of_run' 8 (by kernel_rfl) (by kernel_rfl)
set_option maxRecDepth 100000 in
theorem lifted(os:Os)(started:os.Started)(H:Type)(enc:TypeId×Value→H)(F:Stop.Interp) :
  ReturnsInHanded {} Tryz.checked os 6 .any ((OpenSpec.ofChange Rows.topClearedSpec).preRow enc Tryz.prog Tryz.f6 Rows.topClearedRow.domain false Rows.topClearedRow.laid) (((OpenSpec.ofChange Rows.topClearedSpec).at F).post enc Tryz.prog Tryz.f6 false true false false):=by
 obtain ⟨places,hx⟩:=reads os enc
 refine returnsInHanded_of_row (C:=Tryz.checked) (s:=OpenSpec.ofChange Rows.topClearedSpec) ownK started (by kernel_rfl) Tryz.func6
  (witness_row_at (enc:=enc) (C:=Tryz.checked) false (qwp os) #[(.agg #[.slice none 0 0,.int .i64 0,.slice none 0 0,.int .i64 0,.slice none 0 0,.slice none 0 0,.slice none 0 0,.slice none 0 0,.slice none 0 0,.int .i64 0,.int .i64 0,.int .i64 0,.int .i64 0])] rfl (by kernel_rfl) (by kernel_rfl) (by kernel_rfl)
   (OpenSpec.preRow_of_cond 8 hx (by kernel_rfl) (fun k hk=>by cases hk) (by kernel_rfl) (met os))) ?_
 intro W base args ds gs qt6 hval hW _ _ hsz hL _ _
 exact contract H enc W base args ds gs qt6 hval hW hsz hL
theorem said:Rows.TopClearedSaid :=
 OpenClaim.holds_of_cond 6 Tryz.f6 rfl rfl rfl rfl rfl rfl rfl ⟨rfl,rfl,rfl,rfl,rfl⟩ rfl rfl rfl rfl rfl (by kernel_rfl) Tryz.func6 (by kernel_rfl)
  (of_decide_eq_true (by kernel_rfl)) (by unfold Func.isWrapper;first | (rw[if_pos (by decide +kernel)];kernel_rfl) | (rw[if_neg (by decide +kernel)];exact ⟨rfl,rfl⟩))
  (fun os started H enc _ F=>by rw[OpenClaim.pre_eq_preRow];exact lifted os started H enc F)
theorem plain(f:FuncId)(fn:Func)(hf:Tryz.pinned.checked.prog.funcNamed "bivouac/bivouactop.TopCleared" = some f)(hfn:Tryz.pinned.checked.prog.funcs[f]?=some fn) :
  false=Tryz.pinned.checked.prog.looks []∧∀(j:Nat) t,fn.params[j]?=some t→Tryz.pinned.checked.prog.wantsStandIn t=false:=by
 obtain rfl:f=6:=Option.some.inj ((show Tryz.prog.funcNamed "bivouac/bivouactop.TopCleared" = some 6 by kernel_rfl).symm.trans hf) |>.symm
 obtain rfl:fn=Tryz.f6:=(Option.some.inj (Tryz.func6.symm.trans hfn)).symm
 refine ⟨by kernel_rfl,fun j t ht=>?_⟩
 rw[Tryz.params6] at ht
 have h:t=41:=by
  have:=Array.mem_of_getElem? ht
  simpa using this
 subst h
 ·exact (show Tryz.prog.wantsStandIn 41=false by kernel_rfl)
theorem card:Rows.TopClearedCardSaid :=
 Claim7.holds_tied_plain_at .later [] _ _ _ _ said (fun _ h=>by cases h) (by kernel_rfl) (fun _ h=>by cases h) topCleared_row_tie rfl ⟨rfl,rfl⟩ (by kernel_rfl) rfl plain (by kernel_rfl)
end TopCleared
end Go.Proofs.YtcjcacbhkoainaaGreatDoor
