/- The law ClubsSettled answers true at every input, and its arguments read afterwards as they read qim.
   Conditions: none beyond the row's own; no bound on the arguments' size. -/
import Derived.Test.YtcjcacbhkoainaaGreatDoorDv20
import Derived.Test.YtcjcacbhkoainaaGreatDoorDc13
import Derived.Test.YtcjcacbhkoainaaGreatDoorDr1
import Derived.Test.YtcjcacbhkoainaaGreatDoorDrz
import Derived.Test.YtcjcacbhkoainaaGreatDoorCards
import Derived.Test.YtcjcacbhkoainaaGreatDoorTie
set_option linter.constructorNameAsVariable false
set_option linter.unusedSimpArgs false
set_option linter.unusedVariables false
set_option linter.unusedSectionVars false
namespace Go.Proofs.YtcjcacbhkoainaaGreatDoor
open Go Go.Proofs Go.RowKit Go.Shelf
set_option maxHeartbeats 1000000
set_option maxRecDepth 20000
open Go.ChangeShapes Go.WideShapes Go.ChangeAt Go.Deep
namespace ClubsSettled
theorem pc_m(n:Nat)(A:qdz (qce n).ars):(qce n).M A=qdm n A:=by kernel_rfl
theorem pc(n:Nat)(a0:List T3.den)(a1:List T67.den)(h:qdm n (a0,(a1,()))=some (true,())):PC Tryz.prog 4 [.sl T3.sz (a0.map T3.enc),.sl T67.sz (a1.map T67.enc)] (.val (.bool true)):=Ct.pc (qce n) (show qdz (qce n).ars from (a0,(a1,()))) (true,()) ((pc_m n _).trans h) (by kernel_rfl) (by kernel_rfl) (by kernel_rfl)
theorem contract(H:Type)(enc:TypeId×Value→H)(W:World)(base:Nat)(args:Array Value)(ds gs:List (DataW H))(qim:List MemPlace)
  (hval:∀(j:Nat) t v,Tryz.f4.params[j]?=some t→args[j]?=some v→Value.okWide Tryz.prog W .any base t v)
  (hW:DataW.Whole enc Tryz.prog Tryz.f4.params.toList Rows.clubsSettledSpec.vars false W args.toList ds gs qim)
  (hsz:(DataW.weightsEach Tryz.prog (Tryz.f4.params.toList++(OpenSpec.ofChange Rows.clubsSettledSpec).bare.plain.varTypes Tryz.prog) (ds++gs)).all (·≤reachBytes)=true) (hL:laidMetH Tryz.prog Rows.clubsSettledRow.laid W) :
  Calls Tryz.prog 4 args W fun e W'=>∃v,e = .returned v∧Rows.clubsSettledSpec.post enc Tryz.prog Tryz.f4 false true false false W args v W':=by
 have hW':=hW
 obtain ⟨p,q,hA0,hV,rfl,hfz,hnd⟩:=hW
 have hA:DataW.TrodAll enc Tryz.prog W 0 (fun _=>true) true Tryz.f4.params.toList args.toList ds p:=hA0
 have hwt:∀(j:Nat) t d,Tryz.f4.params.toList[j]?=some t→ds[j]?=some d→∀q∈d.weights Tryz.prog t,q≤reachBytes:=fun j t d k1 k2 q hq =>
  of_decide_eq_true (List.all_eq_true.1 hsz q (DataW.weights_mem_each (by rw[List.getElem?_append_left (List.getElem?_eq_some_iff.1 k1).1];exact k1) (by rw[List.getElem?_append_left (List.getElem?_eq_some_iff.1 k2).1];exact k2) q hq))
 clear hsz
 rw[Tryz.params4] at hA hval hwt
 obtain ⟨v0,vs0,d0,ds0,p0,q0,hargs,rfl,rfl,h0,r0⟩:=trodAll_cons hA
 obtain ⟨v1,vs1,d1,ds1,p1,q1,rfl,rfl,rfl,h1,r1⟩:=trodAll_cons r0
 obtain ⟨rfl,rfl,rfl⟩:=trodAll_nil r1
 obtain rfl:args = #[v0,v1]:=by cases args;simp_all
 obtain ⟨rfl,rfl⟩:=trodVars_none hV
 obtain ⟨x0,e0,b0,s0⟩:=qmu (n:=8) (l:=T3.sh) Tryz.underlying22 (by kernel_rfl) (hval 0 22 v0 rfl rfl) h0 (hwt 0 22 d0 rfl rfl)
 obtain ⟨x1,e1,b1,s1⟩:=qmu (n:=8) (l:=T67.sh) Tryz.underlying27 (by kernel_rfl) (hval 1 27 v1 rfl rfl) h1 (hwt 1 27 d1 rfl rfl)
 clear hA0
 have hlt:∀x∈p0++(p1++[])++[],x.block<W.heap.size:=fun x hx=>by simpa using hW'.lt x hx
 have walk:Calls Tryz.prog 4 #[v0,v1] W fun e w'=>e = .returned (.bool true)∧Ext W w':=by
  obtain ⟨a0,rfl,z0⟩:=Ty.rows_of T3 b0 s0
  rw[Ty.sh_len] at e0
  have l0:a0.length≤9223372036854775807:=by have:=enc_len e0;rwa [List.length_map] at this
  obtain ⟨a1,rfl,z1⟩:=Ty.rows_of T67 b1 s1
  rw[Ty.sh_len] at e1
  have l1:a1.length≤9223372036854775807:=by have:=enc_len e1;rwa [List.length_map] at this
  obtain ⟨n,hn⟩:∃n,a0.length+a1.length+9000000≤n:=⟨_,Nat.le_refl _⟩
  exact (pc n a0 a1 (qvl n a0 a1 (Nat.le_trans (Nat.le_trans (by decide) (Nat.le_add_left 9000000 _)) hn))).said (glOf hL) rfl (qzl e0 e1)
 refine walk.mono fun e W' ⟨he,hb⟩=>?_
 subst he
 have keep:∀{t:TypeId} {v:Value} {d:DataW H} {ps:List MemPlace},Tryz.prog.readableRec t=true→t<Tryz.prog.types.size→DataW.Trod enc Tryz.prog W 0 (fun _=>true) true t v d ps→(∀x∈ps,x.block<W.heap.size)→DataW.Trod enc Tryz.prog W' 0 (fun b=>decide (b<W.heap.size)) true t v d ps :=
  fun h1 h2 h3 h4=>Below.trod qtN h1 h2 h3 hb h4
 exact ⟨_,rfl,⟨_,_,_,[],_,[],hW',trodAll_cons_mk (shut_bool Tryz.underlying4 _) trodAll_mk0,
  (trodAll_cons_mk (keep (by kernel_rfl) (of_decide_eq_true (by kernel_rfl)) h0 (fun x hx=>hlt x (by simp[hx]))) (trodAll_cons_mk (keep (by kernel_rfl) (of_decide_eq_true (by kernel_rfl)) h1 (fun x hx=>hlt x (by simp[hx]))) trodAll_mk0)),
  rfl,hb.frame _,fun h=>by cases h⟩⟩
theorem reads(os:Os){H:Type}(enc:TypeId×Value→H):∃places,DataW.whole enc Tryz.prog ((qjg os).forCall (fun _ _=>0) ⟨#[],#[.slice none 0 0,.slice none 0 0],[]⟩).memory Tryz.f4.params.toList Rows.clubsSettledSpec.vars false #[.slice none 0 0,.slice none 0 0].toList 8=some ([.nil,.nil],[],places) :=
 ⟨[],by kernel_rfl⟩
theorem met(os:Os):laidMet Tryz.prog Rows.clubsSettledRow.laid ((qjg os).forCall (fun _ _=>0) ⟨#[],#[.slice none 0 0,.slice none 0 0],[]⟩).memory:=laidMet_of_run' 8 (by kernel_rfl) (by kernel_rfl)
set_option maxRecDepth 100000 in
theorem lifted(os:Os)(started:os.Started)(H:Type)(enc:TypeId×Value→H)(F:Stop.Interp) :
  ReturnsInHanded {} Tryz.checked os 4 .any ((OpenSpec.ofChange Rows.clubsSettledSpec).preRow enc Tryz.prog Tryz.f4 Rows.clubsSettledRow.domain false Rows.clubsSettledRow.laid) (((OpenSpec.ofChange Rows.clubsSettledSpec).at F).post enc Tryz.prog Tryz.f4 false true false false):=by
 obtain ⟨places,hx⟩:=reads os enc
 refine returnsInHanded_of_row (C:=Tryz.checked) (s:=OpenSpec.ofChange Rows.clubsSettledSpec) ownK started (by kernel_rfl) Tryz.func4
  (witness_row_at (enc:=enc) (C:=Tryz.checked) false (qjg os) #[.slice none 0 0,.slice none 0 0] rfl (by kernel_rfl) (by kernel_rfl) (by kernel_rfl)
   (OpenSpec.preRow_of_cond 8 hx (by kernel_rfl) (fun k hk=>by cases hk) (by kernel_rfl) (met os))) ?_
 intro W base args ds gs qim hval hW _ _ hsz hL _ _
 exact contract H enc W base args ds gs qim hval hW hsz hL
theorem said:Rows.ClubsSettledSaid :=
 OpenClaim.holds_of_cond 4 Tryz.f4 rfl rfl rfl rfl rfl rfl rfl ⟨rfl,rfl,rfl,rfl,rfl⟩ rfl rfl rfl rfl rfl (by kernel_rfl) Tryz.func4 (by kernel_rfl)
  (of_decide_eq_true (by kernel_rfl)) (by unfold Func.isWrapper;first | (rw[if_pos (by decide +kernel)];kernel_rfl) | (rw[if_neg (by decide +kernel)];exact ⟨rfl,rfl⟩))
  (fun os started H enc _ F=>by rw[OpenClaim.pre_eq_preRow];exact lifted os started H enc F)
theorem plain(f:FuncId)(fn:Func)(hf:Tryz.pinned.checked.prog.funcNamed "bivouac/bivouaclaw11.ClubsSettled" = some f)(hfn:Tryz.pinned.checked.prog.funcs[f]?=some fn) :
  false=Tryz.pinned.checked.prog.looks []∧∀(j:Nat) t,fn.params[j]?=some t→Tryz.pinned.checked.prog.wantsStandIn t=false:=by
 obtain rfl:f=4:=Option.some.inj ((show Tryz.prog.funcNamed "bivouac/bivouaclaw11.ClubsSettled" = some 4 by kernel_rfl).symm.trans hf) |>.symm
 obtain rfl:fn=Tryz.f4:=(Option.some.inj (Tryz.func4.symm.trans hfn)).symm
 refine ⟨by kernel_rfl,fun j t ht=>?_⟩
 rw[Tryz.params4] at ht
 have h:t=22∨t=27:=by
  have:=Array.mem_of_getElem? ht
  simpa using this
 rcases h with rfl | rfl
 ·exact (show Tryz.prog.wantsStandIn 22=false by kernel_rfl)
 ·exact (show Tryz.prog.wantsStandIn 27=false by kernel_rfl)
theorem card:Rows.ClubsSettledCardSaid :=
 Claim7.holds_tied_plain_at .later [] _ _ _ _ said (fun _ h=>by cases h) (by kernel_rfl) (fun _ h=>by cases h) clubsSettled_row_tie rfl ⟨rfl,rfl⟩ (by kernel_rfl) rfl plain (by kernel_rfl)
end ClubsSettled
end Go.Proofs.YtcjcacbhkoainaaGreatDoor
