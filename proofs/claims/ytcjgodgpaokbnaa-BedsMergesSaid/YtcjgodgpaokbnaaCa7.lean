/- The law BedsMerges answers true at every input, and its arguments read afterwards as they read qEr.
   Conditions: none beyond the row's own; no bound on the arguments' size. -/
import Derived.Test.YtcjgodgpaokbnaaDy7
import Derived.Test.YtcjgodgpaokbnaaDr2
import Derived.Test.YtcjgodgpaokbnaaDr1
set_option linter.constructorNameAsVariable false
set_option linter.unusedSimpArgs false
set_option linter.unusedVariables false
set_option linter.unusedSectionVars false
namespace Go.Proofs.Ytcjgodgpaokbnaa
open Go Go.Proofs Go.RowKit Go.Shelf
set_option maxHeartbeats 1000000
set_option maxRecDepth 20000
open Go.ChangeShapes Go.WideShapes Go.ChangeAt Go.Deep
namespace BedsMerges
theorem pc_m(n:Nat)(A:qQ qhW):(qsv n).M A=qj1 n A:=by kernel_rfl
theorem pc(n:Nat)(a0:T24.den)(a1:List T30.den)(a2:List T30.den)(h:qj1 n (a0,(a1,(a2,())))=some (true,())):PC Try.prog 7 [.agg (T24.enc a0),.sl T30.sz (a1.map T30.enc),.sl T30.sz (a2.map T30.enc)] (.val (.bool true)):=Ct.pc (qsv n) (show qQ qhW from (a0,(a1,(a2,())))) (true,()) ((pc_m n _).trans h) (by kernel_rfl) (by kernel_rfl) (by kernel_rfl)
theorem contract(H:Type)(enc:TypeId×Value→H)(W:World)(base:Nat)(args:Array Value)(ds gs:List (DataW H))(qEr:List MemPlace)
  (hval:∀(j:Nat) t v,Try.f7.params[j]?=some t→args[j]?=some v→Value.okWide Try.prog W .any base t v)
  (hW:DataW.Whole enc Try.prog Try.f7.params.toList Rows.bedsMergesSpec.vars false W args.toList ds gs qEr)
  (hsz:(DataW.weightsEach Try.prog (Try.f7.params.toList++(OpenSpec.ofChange Rows.bedsMergesSpec).bare.plain.varTypes Try.prog) (ds++gs)).all (·≤reachBytes)=true) :
  Calls Try.prog 7 args W fun e W'=>∃v,e = .returned v∧Rows.bedsMergesSpec.post enc Try.prog Try.f7 false true false false W args v W':=by
 have hW':=hW
 obtain ⟨p,q,hA0,hV,rfl,hfz,hnd⟩:=hW
 have hA:DataW.TrodAll enc Try.prog W 0 (fun _=>true) true Try.f7.params.toList args.toList ds p:=hA0
 have hwt:∀(j:Nat) t d,Try.f7.params.toList[j]?=some t→ds[j]?=some d→∀q∈d.weights Try.prog t,q≤reachBytes:=fun j t d k1 k2 q hq =>
  of_decide_eq_true (List.all_eq_true.1 hsz q (DataW.weights_mem_each (by rw[List.getElem?_append_left (List.getElem?_eq_some_iff.1 k1).1];exact k1) (by rw[List.getElem?_append_left (List.getElem?_eq_some_iff.1 k2).1];exact k2) q hq))
 clear hsz
 rw[Try.params7] at hA hval hwt
 obtain ⟨v0,vs0,d0,ds0,p0,q0,hargs,rfl,rfl,h0,r0⟩:=trodAll_cons hA
 obtain ⟨v1,vs1,d1,ds1,p1,q1,rfl,rfl,rfl,h1,r1⟩:=trodAll_cons r0
 obtain ⟨v2,vs2,d2,ds2,p2,q2,rfl,rfl,rfl,h2,r2⟩:=trodAll_cons r1
 obtain ⟨rfl,rfl,rfl⟩:=trodAll_nil r2
 obtain rfl:args = #[v0,v1,v2]:=by cases args;simp_all
 obtain ⟨rfl,rfl⟩:=trodVars_none hV
 obtain ⟨x0,e0,s0⟩:=qIT (n:=8) (shs:=T24.sh) Try.underlying24 (by kernel_rfl) (hval 0 24 v0 rfl rfl) h0 (hwt 0 24 d0 rfl rfl)
 obtain ⟨x1,e1,b1,s1⟩:=qFf (n:=8) (l:=T30.sh) Try.underlying25 (by kernel_rfl) (hval 1 25 v1 rfl rfl) h1 (hwt 1 25 d1 rfl rfl)
 obtain ⟨x2,e2,b2,s2⟩:=qFf (n:=8) (l:=T30.sh) Try.underlying25 (by kernel_rfl) (hval 2 25 v2 rfl rfl) h2 (hwt 2 25 d2 rfl rfl)
 clear hA0
 have hlt:∀x∈p0++(p1++(p2++[]))++[],x.block<W.heap.size:=fun x hx=>by simpa using hW'.lt x hx
 have walk:Calls Try.prog 7 #[v0,v1,v2] W fun e w'=>e = .returned (.bool true)∧Ext W w':=by
  obtain ⟨a0,rfl,z0⟩:=Ty.of_sh T24 _ s0
  obtain ⟨a1,rfl,z1⟩:=Ty.rows_of T30 b1 s1
  rw[Ty.sh_len] at e1
  have l1:a1.length≤9223372036854775807:=by have:=enc_len e1;rwa [List.length_map] at this
  obtain ⟨a2,rfl,z2⟩:=Ty.rows_of T30 b2 s2
  rw[Ty.sh_len] at e2
  have l2:a2.length≤9223372036854775807:=by have:=enc_len e2;rwa [List.length_map] at this
  obtain ⟨n,hn⟩:∃n,a1.length+a2.length+9000000≤n:=⟨_,Nat.le_refl _⟩
  exact (pc n a0 a1 a2 (qMX n a0 a1 a2 l1 l2 (fun m hm=>qJ6 (z1.2 m hm).2.2.2.2.1) (fun m hm=>qJ6 (z2.2 m hm).2.2.2.2.1) (Nat.le_trans (Nat.add_le_add_left (by decide) _) hn))).said gl0 rfl (qPY e0 e1 e2)
 refine walk.mono fun e W' ⟨he,hb⟩=>?_
 subst he
 have keep:∀{t:TypeId} {v:Value} {d:DataW H} {ps:List MemPlace},Try.prog.readableRec t=true→t<Try.prog.types.size→DataW.Trod enc Try.prog W 0 (fun _=>true) true t v d ps→(∀x∈ps,x.block<W.heap.size)→DataW.Trod enc Try.prog W' 0 (fun b=>decide (b<W.heap.size)) true t v d ps :=
  fun h1 h2 h3 h4=>Below.trod qOg h1 h2 h3 hb h4
 exact ⟨_,rfl,⟨_,_,_,[],_,[],hW',trodAll_cons_mk (shut_bool Try.underlying4 _) trodAll_mk0,
  (trodAll_cons_mk (keep (by kernel_rfl) (of_decide_eq_true (by kernel_rfl)) h0 (fun x hx=>hlt x (by simp[hx]))) (trodAll_cons_mk (keep (by kernel_rfl) (of_decide_eq_true (by kernel_rfl)) h1 (fun x hx=>hlt x (by simp[hx]))) (trodAll_cons_mk (keep (by kernel_rfl) (of_decide_eq_true (by kernel_rfl)) h2 (fun x hx=>hlt x (by simp[hx]))) trodAll_mk0))),
  rfl,hb.frame _,fun h=>by cases h⟩⟩
theorem reads(os:Os){H:Type}(enc:TypeId×Value→H):∃places,DataW.whole enc Try.prog ((qEv os).forCall (fun _ _=>0) ⟨#[],#[(.agg #[.slice none 0 0,.int .i64 0]),.slice none 0 0,.slice none 0 0],[]⟩).memory Try.f7.params.toList Rows.bedsMergesSpec.vars false #[(.agg #[.slice none 0 0,.int .i64 0]),.slice none 0 0,.slice none 0 0].toList 8=some ([.agg [.nil,.lit (.int .i64 0)],.nil,.nil],[],places) :=
 ⟨[],by kernel_rfl⟩
theorem met(os:Os):laidMet Try.prog Rows.bedsMergesRow.laid ((qEv os).forCall (fun _ _=>0) ⟨#[],#[(.agg #[.slice none 0 0,.int .i64 0]),.slice none 0 0,.slice none 0 0],[]⟩).memory:=laidMet_of_run' 8 (by kernel_rfl) (by kernel_rfl)
set_option maxRecDepth 100000 in
theorem lifted(os:Os)(started:os.Started)(H:Type)(enc:TypeId×Value→H)(F:Stop.Interp) :
  ReturnsInHanded {} Try.checked os 7 .any ((OpenSpec.ofChange Rows.bedsMergesSpec).preRow enc Try.prog Try.f7 Rows.bedsMergesRow.domain false Rows.bedsMergesRow.laid) (((OpenSpec.ofChange Rows.bedsMergesSpec).at F).post enc Try.prog Try.f7 false true false false):=by
 obtain ⟨places,hx⟩:=reads os enc
 refine returnsInHanded_of_row (C:=Try.checked) (s:=OpenSpec.ofChange Rows.bedsMergesSpec) ownK started (by kernel_rfl) Try.func7
  (witness_row_at (enc:=enc) (C:=Try.checked) false (qEv os) #[(.agg #[.slice none 0 0,.int .i64 0]),.slice none 0 0,.slice none 0 0] rfl (by kernel_rfl) (by kernel_rfl) (by kernel_rfl)
   (OpenSpec.preRow_of_cond 8 hx (by kernel_rfl) (fun k hk=>by cases hk) (by kernel_rfl) (met os))) ?_
 intro W base args ds gs qEr hval hW _ _ hsz _ _ _
 exact contract H enc W base args ds gs qEr hval hW hsz
theorem said:Rows.BedsMergesSaid :=
 OpenClaim.holds_of_cond 7 Try.f7 rfl rfl rfl rfl rfl rfl rfl ⟨rfl,rfl,rfl,rfl,rfl⟩ rfl rfl rfl rfl rfl (by kernel_rfl) Try.func7 (by kernel_rfl)
  (of_decide_eq_true (by kernel_rfl)) (by unfold Func.isWrapper;first | (rw[if_pos (by decide +kernel)];kernel_rfl) | (rw[if_neg (by decide +kernel)];exact ⟨rfl,rfl⟩))
  (fun os started H enc _ F=>by rw[OpenClaim.pre_eq_preRow];exact lifted os started H enc F)
end BedsMerges
end Go.Proofs.Ytcjgodgpaokbnaa
