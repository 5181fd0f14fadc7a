/- The law RopesLed answers true at every input, and its arguments read afterwards as they read before.
   Conditions: none beyond the row's own; no bound on the arguments' size. -/
import Derived.Test.YtbdockhccdkdiaaDt8
import Derived.Test.YtbdockhccdkdiaaDr1
set_option linter.constructorNameAsVariable false
set_option linter.unusedSimpArgs false
set_option linter.unusedVariables false
set_option linter.unusedSectionVars false
namespace Go.Proofs.Ytbdockhccdkdiaa
open Go Go.Proofs Go.RowKit Go.Shelf
set_option maxHeartbeats 1000000
set_option maxRecDepth 20000
open Go.ChangeShapes Go.WideShapes Go.ChangeAt Go.Deep
namespace RopesLed
theorem pc_m(n:Nat)(A:qeE (qdh n).ars):(qdh n).M A=qeo n A:=by kernel_rfl
theorem pc(n:Nat)(a0:T47.den)(a1:List T3.den)(a2:List T3.den)(h:qeo n (a0,(a1,(a2,())))=some (true,())):PC Try.prog 5 [.agg (T47.enc a0),.sl T3.sz (a1.map T3.enc),.sl T3.sz (a2.map T3.enc)] (.val (.bool true)):=Ct.pc (qdh n) (show qeE (qdh n).ars from (a0,(a1,(a2,())))) (true,()) ((pc_m n _).trans h) (by kernel_rfl) (by kernel_rfl) (by kernel_rfl)
theorem contract(H:Type)(enc:TypeId×Value→H)(W:World)(base:Nat)(args:Array Value)(ds gs:List (DataW H))(before:List MemPlace)
  (hval:∀(j:Nat) t v,Try.f5.params[j]?=some t→args[j]?=some v→Value.okWide Try.prog W .any base t v)
  (hW:DataW.Whole enc Try.prog Try.f5.params.toList Rows.ropesLedSpec.vars false W args.toList ds gs before)
  (hsz:(DataW.weightsEach Try.prog (Try.f5.params.toList++(OpenSpec.ofChange Rows.ropesLedSpec).bare.plain.varTypes Try.prog) (ds++gs)).all (·≤reachBytes)=true) :
  Calls Try.prog 5 args W fun e W'=>∃v,e = .returned v∧Rows.ropesLedSpec.post enc Try.prog Try.f5 false true false false W args v W':=by
 have hW':=hW
 obtain ⟨p,q,hA0,hV,rfl,hfz,hnd⟩:=hW
 have hA:DataW.TrodAll enc Try.prog W 0 (fun _=>true) true Try.f5.params.toList args.toList ds p:=hA0
 have hwt:∀(j:Nat) t d,Try.f5.params.toList[j]?=some t→ds[j]?=some d→∀q∈d.weights Try.prog t,q≤reachBytes:=fun j t d k1 k2 q hq =>
  of_decide_eq_true (List.all_eq_true.1 hsz q (DataW.weights_mem_each (by rw[List.getElem?_append_left (List.getElem?_eq_some_iff.1 k1).1];exact k1) (by rw[List.getElem?_append_left (List.getElem?_eq_some_iff.1 k2).1];exact k2) q hq))
 clear hsz
 rw[Try.params5] at hA hval hwt
 obtain ⟨v0,vs0,d0,ds0,p0,q0,hargs,rfl,rfl,h0,r0⟩:=trodAll_cons hA
 obtain ⟨v1,vs1,d1,ds1,p1,q1,rfl,rfl,rfl,h1,r1⟩:=trodAll_cons r0
 obtain ⟨v2,vs2,d2,ds2,p2,q2,rfl,rfl,rfl,h2,r2⟩:=trodAll_cons r1
 obtain ⟨rfl,rfl,rfl⟩:=trodAll_nil r2
 obtain rfl:args = #[v0,v1,v2]:=by cases args;simp_all
 obtain ⟨rfl,rfl⟩:=trodVars_none hV
 obtain ⟨x0,e0,s0⟩:=qsH (n:=8) (shs:=T47.sh) Try.underlying47 (by kernel_rfl) (hval 0 47 v0 rfl rfl) h0 (hwt 0 47 d0 rfl rfl)
 obtain ⟨x1,e1,b1,s1⟩:=qpH (n:=8) (l:=T3.sh) Try.underlying23 (by kernel_rfl) (hval 1 23 v1 rfl rfl) h1 (hwt 1 23 d1 rfl rfl)
 obtain ⟨x2,e2,b2,s2⟩:=qpH (n:=8) (l:=T3.sh) Try.underlying23 (by kernel_rfl) (hval 2 23 v2 rfl rfl) h2 (hwt 2 23 d2 rfl rfl)
 clear hA0
 have hlt:∀x∈p0++(p1++(p2++[]))++[],x.block<W.heap.size:=fun x hx=>by simpa using hW'.lt x hx
 have walk:Calls Try.prog 5 #[v0,v1,v2] W fun e w'=>e = .returned (.bool true)∧Ext W w':=by
  obtain ⟨a0,rfl,z0⟩:=Ty.of_sh T47 _ s0
  obtain ⟨a1,rfl,z1⟩:=Ty.rows_of T3 b1 s1
  rw[Ty.sh_len] at e1
  have l1:a1.length≤9223372036854775807:=by have:=enc_len e1;rwa [List.length_map] at this
  obtain ⟨a2,rfl,z2⟩:=Ty.rows_of T3 b2 s2
  rw[Ty.sh_len] at e2
  have l2:a2.length≤9223372036854775807:=by have:=enc_len e2;rwa [List.length_map] at this
  obtain ⟨n,hn⟩:∃n,a1.length+a2.length+9000000≤n:=⟨_,Nat.le_refl _⟩
  exact (pc n a0 a1 a2 (qt2 n a0 a1 a2 (Nat.le_trans (Nat.le_trans (by decide) (Nat.le_add_left 9000000 _)) hn))).said gl0 rfl (qyZ e0 e1 e2)
 refine walk.mono fun e W' ⟨he,hb⟩=>?_
 subst he
 have keep:∀{t:TypeId} {v:Value} {d:DataW H} {ps:List MemPlace},Try.prog.readableRec t=true→t<Try.prog.types.size→DataW.Trod enc Try.prog W 0 (fun _=>true) true t v d ps→(∀x∈ps,x.block<W.heap.size)→DataW.Trod enc Try.prog W' 0 (fun b=>decide (b<W.heap.size)) true t v d ps :=
  fun h1 h2 h3 h4=>Below.trod qxC h1 h2 h3 hb h4
 exact ⟨_,rfl,⟨_,_,_,[],_,[],hW',trodAll_cons_mk (shut_bool Try.underlying4 _) trodAll_mk0,
  (trodAll_cons_mk (keep (by kernel_rfl) (of_decide_eq_true (by kernel_rfl)) h0 (fun x hx=>hlt x (by simp[hx]))) (trodAll_cons_mk (keep (by kernel_rfl) (of_decide_eq_true (by kernel_rfl)) h1 (fun x hx=>hlt x (by simp[hx]))) (trodAll_cons_mk (keep (by kernel_rfl) (of_decide_eq_true (by kernel_rfl)) h2 (fun x hx=>hlt x (by simp[hx]))) trodAll_mk0))),
  rfl,hb.frame _,fun h=>by cases h⟩⟩
theorem reads(os:Os){H:Type}(enc:TypeId×Value→H):∃places,DataW.whole enc Try.prog ((qpf os).forCall (fun _ _=>0) ⟨#[],#[(.agg #[.int .i64 0,.int .i64 0,.int .i64 0,.slice none 0 0,.slice none 0 0,.int .i64 0,.int .i64 0,.int .i64 0,.slice none 0 0,.slice none 0 0]),.slice none 0 0,.slice none 0 0],[]⟩).memory Try.f5.params.toList Rows.ropesLedSpec.vars false #[(.agg #[.int .i64 0,.int .i64 0,.int .i64 0,.slice none 0 0,.slice none 0 0,.int .i64 0,.int .i64 0,.int .i64 0,.slice none 0 0,.slice none 0 0]),.slice none 0 0,.slice none 0 0].toList 8=some ([.agg [.lit (.int .i64 0),.lit (.int .i64 0),.lit (.int .i64 0),.nil,.nil,.agg [.lit (.int .i64 0),.lit (.int .i64 0),.lit (.int .i64 0),.nil],.nil],.nil,.nil],[],places) :=
 ⟨[],by kernel_rfl⟩
theorem met(os:Os):laidMet Try.prog Rows.ropesLedRow.laid ((qpf os).forCall (fun _ _=>0) ⟨#[],#[(.agg #[.int .i64 0,.int .i64 0,.int .i64 0,.slice none 0 0,.slice none 0 0,.int .i64 0,.int .i64 0,.int .i64 0,.slice none 0 0,.slice none 0 0]),.slice none 0 0,.slice none 0 0],[]⟩).memory:=laidMet_of_run' 8 (by kernel_rfl) (by kernel_rfl)
set_option maxRecDepth 100000 in
theorem lifted(os:Os)(started:os.Started)(H:Type)(enc:TypeId×Value→H)(F:Stop.Interp) :
  ReturnsInHanded {} Try.checked os 5 .any ((OpenSpec.ofChange Rows.ropesLedSpec).preRow enc Try.prog Try.f5 Rows.ropesLedRow.domain false Rows.ropesLedRow.laid) (((OpenSpec.ofChange Rows.ropesLedSpec).at F).post enc Try.prog Try.f5 false true false false):=by
 obtain ⟨places,hx⟩:=reads os enc
 refine returnsInHanded_of_row (C:=Try.checked) (s:=OpenSpec.ofChange Rows.ropesLedSpec) ownK started (by kernel_rfl) Try.func5
  (witness_row_at (enc:=enc) (C:=Try.checked) false (qpf os) #[(.agg #[.int .i64 0,.int .i64 0,.int .i64 0,.slice none 0 0,.slice none 0 0,.int .i64 0,.int .i64 0,.int .i64 0,.slice none 0 0,.slice none 0 0]),.slice none 0 0,.slice none 0 0] rfl (by kernel_rfl) (by kernel_rfl) (by kernel_rfl)
   (OpenSpec.preRow_of_cond 8 hx (by kernel_rfl) (fun k hk=>by cases hk) (by kernel_rfl) (met os))) ?_
 intro W base args ds gs before hval hW _ _ hsz _ _ _
 exact contract H enc W base args ds gs before hval hW hsz
theorem said:Rows.RopesLedSaid :=
 OpenClaim.holds_of_cond 5 Try.f5 rfl rfl rfl rfl rfl rfl rfl ⟨rfl,rfl,rfl,rfl,rfl⟩ rfl rfl rfl rfl rfl (by kernel_rfl) Try.func5 (by kernel_rfl)
  (of_decide_eq_true (by kernel_rfl)) (by unfold Func.isWrapper;first | (rw[if_pos (by decide +kernel)];kernel_rfl) | (rw[if_neg (by decide +kernel)];exact ⟨rfl,rfl⟩))
  (fun os started H enc _ F=>by rw[OpenClaim.pre_eq_preRow];exact lifted os started H enc F)
end RopesLed
end Go.Proofs.Ytbdockhccdkdiaa
