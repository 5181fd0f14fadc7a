/- The law RopesOlder of layer 9 (ropes) answers true at every input, and its arguments read afterwards as they read before.
   Conditions: none beyond the row's own; no bound on the arguments' size. -/
import Derived.Test.YtchinfamepolkaaRcd0
import Derived.Test.YtchinfamepolkaaRps27
namespace Go.Proofs.Ytchinfamepolkaa
set_option linter.unusedSimpArgs false
set_option linter.unusedVariables false
set_option linter.unusedSectionVars false
open Go Go.Proofs Go.RowKit Go.Shelf
set_option maxHeartbeats 1000000
set_option maxRecDepth 20000
open Go.ChangeShapes Go.WideShapes Go.ChangeAt Go.Deep
namespace RopesOlder
theorem contract (H : Type) (enc : TypeId × Value → H) (W : World) (base : Nat) (args : Array Value) (ds gs : List (DataW H)) (before : List MemPlace)
    (hval : ∀ (j : Nat) t v, Try.f8.params[j]? = some t → args[j]? = some v → Value.okWide Try.prog W .any base t v)
    (hW : DataW.Whole enc Try.prog Try.f8.params.toList Rows.ropesOlderSpec.vars false W args.toList ds gs before) :
    Calls Try.prog 8 args W fun e W' => ∃ v, e = .returned v ∧ Rows.ropesOlderSpec.post enc Try.prog Try.f8 false true false false W args v W' := by
  have hW' := hW
  obtain ⟨p, q, hA0, hV, rfl, hfz, hnd⟩ := hW
  have hA : DataW.TrodAll enc Try.prog W 0 (fun _ => true) true Try.f8.params.toList args.toList ds p := hA0
  rw [Try.params8] at hA hval
  obtain ⟨v0, vs0, d0, ds0, p0, q0, hargs, rfl, rfl, h0, r0⟩ := trodAll_cons hA
  obtain ⟨v1, vs1, d1, ds1, p1, q1, rfl, rfl, rfl, h1, r1⟩ := trodAll_cons r0
  obtain ⟨v2, vs2, d2, ds2, p2, q2, rfl, rfl, rfl, h2, r2⟩ := trodAll_cons r1
  obtain ⟨rfl, rfl, rfl⟩ := trodAll_nil r2
  obtain rfl : args = #[v0, v1, v2] := by cases args; simp_all
  obtain ⟨rfl, rfl⟩ := trodVars_none hV
  obtain ⟨x0, e0, s0⟩ := reads_struct (n := 8) (shs := modelSh) Try.underlying24 (by kernel_rfl) (hval 0 24 v0 rfl rfl) h0
  obtain ⟨x1, e1, s1⟩ := reads_struct (n := 8) (shs := ropeSh) Try.underlying27 (by kernel_rfl) (hval 1 27 v1 rfl rfl) h1
  obtain ⟨x2, e2, s2⟩ := reads_struct (n := 8) (shs := [.i, .i, .i, .i, .i, .i]) Try.underlying81 (by kernel_rfl) (hval 2 81 v2 rfl rfl) h2
  clear hA0
  have hlt : ∀ x ∈ p0 ++ (p1 ++ (p2 ++ [])) ++ [], x.block < W.heap.size := fun x hx => by simpa using hW'.lt x hx
  have walk : Calls Try.prog 8 #[v0, v1, v2] W fun e w' => e = .returned (.bool true) ∧ Ext W w' := by
    obtain ⟨M, rfl⟩ := model_of s0
    obtain ⟨R, rfl⟩ := rope_of s1
    obtain ⟨_, _, rfl, h0, h⟩ := s2.cons
    obtain ⟨_, _, rfl, h1, h⟩ := h.cons
    obtain ⟨_, _, rfl, h2, h⟩ := h.cons
    obtain ⟨_, _, rfl, h3, h⟩ := h.cons
    obtain ⟨_, _, rfl, h4, h⟩ := h.cons
    obtain ⟨_, _, rfl, h5, h⟩ := h.cons
    obtain rfl := h.nil
    obtain ⟨n0, rfl⟩ := h0.int'
    obtain ⟨m1, rfl⟩ := h1.int'
    obtain ⟨m2, rfl⟩ := h2.int'
    obtain ⟨m3, rfl⟩ := h3.int'
    obtain ⟨m4, rfl⟩ := h4.int'
    obtain ⟨m5, rfl⟩ := h5.int'
    exact (ropesOlder_a M R n0 ⟨m1, m2, m3, m4, m5⟩).said rfl (args3 e0 e1 e2)
  refine walk.mono fun e W' ⟨he, hb⟩ => ?_
  subst he
  have keep : ∀ {t : TypeId} {v : Value} {d : DataW H} {ps : List MemPlace}, Try.prog.readableRec t = true → t < Try.prog.types.size → DataW.Trod enc Try.prog W 0 (fun _ => true) true t v d ps → (∀ x ∈ ps, x.block < W.heap.size) → DataW.Trod enc Try.prog W' 0 (fun b => decide (b < W.heap.size)) true t v d ps :=
    fun h1 h2 h3 h4 => Below.trod laidOutK h1 h2 h3 hb h4
  exact ⟨_, rfl, ⟨_, _, _, [], _, [], hW', trodAll_cons_mk (shut_bool Try.underlying4 _) trodAll_mk0,
    (trodAll_cons_mk (keep (by kernel_rfl) (of_decide_eq_true (by kernel_rfl)) h0 (fun x hx => hlt x (by simp [hx]))) (trodAll_cons_mk (keep (by kernel_rfl) (of_decide_eq_true (by kernel_rfl)) h1 (fun x hx => hlt x (by simp [hx]))) (trodAll_cons_mk (keep (by kernel_rfl) (of_decide_eq_true (by kernel_rfl)) h2 (fun x hx => hlt x (by simp [hx]))) trodAll_mk0))),
    rfl, hb.frame _, fun h => by cases h⟩⟩

theorem reads (os : Os) {H : Type} (enc : TypeId × Value → H) : ∃ places, DataW.whole enc Try.prog ((baseWorld os).forCall (fun _ _ => 0) ⟨#[], #[m00, m00, (.agg #[.int .i64 0, .int .i64 0, .int .i64 0, .int .i64 0, .int .i64 0, .int .i64 0])], []⟩).memory Try.f8.params.toList Rows.ropesOlderSpec.vars false #[m00, m00, (.agg #[.int .i64 0, .int .i64 0, .int .i64 0, .int .i64 0, .int .i64 0, .int .i64 0])].toList 8 = some ([.agg [.lit (.int .i64 0), .lit (.int .i64 0), .lit (.int .i64 0), .nil], .agg [.lit (.int .i64 0), .lit (.int .i64 0), .lit (.int .i64 0), .nil], .agg [.lit (.int .i64 0), .agg [.lit (.int .i64 0), .agg [.lit (.int .i64 0), .lit (.int .i64 0)], .agg [.lit (.int .i64 0), .lit (.int .i64 0)]]]], [], places) :=
  ⟨[], by kernel_rfl⟩
theorem met (os : Os) : laidMet Try.prog Rows.ropesOlderRow.laid ((baseWorld os).forCall (fun _ _ => 0) ⟨#[], #[m00, m00, (.agg #[.int .i64 0, .int .i64 0, .int .i64 0, .int .i64 0, .int .i64 0, .int .i64 0])], []⟩).memory := laidMet_of_run' 8 (by kernel_rfl) (by kernel_rfl)

set_option maxRecDepth 100000 in
theorem lifted (os : Os) (started : os.Started) (H : Type) (enc : TypeId × Value → H) (F : Stop.Interp) :
    ReturnsInHanded {} Try.checked os 8 .any ((OpenSpec.ofChange Rows.ropesOlderSpec).preRow enc Try.prog Try.f8 Rows.ropesOlderRow.domain false Rows.ropesOlderRow.laid) (((OpenSpec.ofChange Rows.ropesOlderSpec).at F).post enc Try.prog Try.f8 false true false false) := by
  obtain ⟨places, hx⟩ := reads os enc
  refine returnsInHanded_of_row (C := Try.checked) (s := OpenSpec.ofChange Rows.ropesOlderSpec) ownK started (by kernel_rfl) Try.func8
    (witness_row_at (enc := enc) (C := Try.checked) false (baseWorld os) #[m00, m00, (.agg #[.int .i64 0, .int .i64 0, .int .i64 0, .int .i64 0, .int .i64 0, .int .i64 0])] rfl (by kernel_rfl) (by kernel_rfl) (by kernel_rfl)
      (OpenSpec.preRow_of_cond 8 hx (by kernel_rfl) (fun k hk => by cases hk) (by kernel_rfl) (met os))) ?_
  intro W base args ds gs before hval hW _ _ _ _ _ _
  exact contract H enc W base args ds gs before hval hW

theorem said : Rows.RopesOlderSaid :=
  OpenClaim.holds_of_cond 8 Try.f8 rfl rfl rfl rfl rfl rfl rfl ⟨rfl, rfl, rfl, rfl, rfl⟩ rfl rfl rfl rfl rfl (by kernel_rfl) Try.func8 (by kernel_rfl)
    (of_decide_eq_true (by kernel_rfl)) (by unfold Func.isWrapper; first | (rw [if_pos (by decide +kernel)]; kernel_rfl) | (rw [if_neg (by decide +kernel)]; exact ⟨rfl, rfl⟩))
    (fun os started H enc _ F => by rw [OpenClaim.pre_eq_preRow]; exact lifted os started H enc F)
end RopesOlder
end Go.Proofs.Ytchinfamepolkaa
