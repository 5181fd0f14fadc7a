/- The law BedsDecides answers true at every input, and its arguments read afterwards as they read qAW.
   Conditions: none beyond the row's own; no bound on the arguments' size. -/
import Derived.Test.YtcjgodgpaokbnaaGreatPd
import Derived.Test.YtcjgodgpaokbnaaGreatDr1
namespace Go.Proofs.YtcjgodgpaokbnaaGreat
set_option linter.constructorNameAsVariable false
set_option linter.unusedSimpArgs false
set_option linter.unusedVariables false
set_option linter.unusedSectionVars false
open Go Go.Proofs Go.RowKit Go.Shelf
set_option maxHeartbeats 1000000
set_option maxRecDepth 20000
open Go.ChangeShapes Go.WideShapes Go.ChangeAt Go.Deep
namespace BedsDecides
theorem pc_m (n : Nat) (A : qp qdZ) : (qmY n).M A = qfB n A := by kernel_rfl
theorem pc (n : Nat) (a0 : T24.den) (a1 : List T59.den) (a2 : T27.den) (h : qfB n (a0, (a1, (a2, ()))) = some (true, ())) : PC Tryz.prog 3 [.agg (T24.enc a0), .sl T59.sz (a1.map T59.enc), .agg (T27.enc a2)] (.val (.bool true)) := Ct.pc (qmY n) (show qp qdZ from (a0, (a1, (a2, ())))) (true, ()) ((pc_m n _).trans h) (by kernel_rfl) (by kernel_rfl) (by kernel_rfl)
theorem contract (H : Type) (enc : TypeId × Value → H) (W : World) (base : Nat) (args : Array Value) (ds gs : List (DataW H)) (qAW : List MemPlace)
    (hval : ∀ (j : Nat) t v, Tryz.f3.params[j]? = some t → args[j]? = some v → Value.okWide Tryz.prog W .any base t v)
    (hW : DataW.Whole enc Tryz.prog Tryz.f3.params.toList Rows.bedsDecidesSpec.vars false W args.toList ds gs qAW) :
    Calls Tryz.prog 3 args W fun e W' => ∃ v, e = .returned v ∧ Rows.bedsDecidesSpec.post enc Tryz.prog Tryz.f3 false true false false W args v W' := by
  have hW' := hW
  obtain ⟨p, q, hA0, hV, rfl, hfz, hnd⟩ := hW
  have hA : DataW.TrodAll enc Tryz.prog W 0 (fun _ => true) true Tryz.f3.params.toList args.toList ds p := hA0
  rw [Tryz.params3] at hA hval
  obtain ⟨v0, vs0, d0, ds0, p0, q0, hargs, rfl, rfl, h0, r0⟩ := trodAll_cons hA
  obtain ⟨v1, vs1, d1, ds1, p1, q1, rfl, rfl, rfl, h1, r1⟩ := trodAll_cons r0
  obtain ⟨v2, vs2, d2, ds2, p2, q2, rfl, rfl, rfl, h2, r2⟩ := trodAll_cons r1
  obtain ⟨rfl, rfl, rfl⟩ := trodAll_nil r2
  obtain rfl : args = #[v0, v1, v2] := by cases args; simp_all
  obtain ⟨rfl, rfl⟩ := trodVars_none hV
  obtain ⟨x0, e0, s0⟩ := qz4 (n := 8) (shs := T24.sh) Tryz.underlying24 (by kernel_rfl) (hval 0 24 v0 rfl rfl) h0
  obtain ⟨x1, e1, s1⟩ := qGo (n := 8) (l := T59.sh) Tryz.underlying25 (by kernel_rfl) (hval 1 25 v1 rfl rfl) h1
  obtain ⟨x2, e2, s2⟩ := qz4 (n := 8) (shs := T27.sh) Tryz.underlying27 (by kernel_rfl) (hval 2 27 v2 rfl rfl) h2
  clear hA0
  have hlt : ∀ x ∈ p0 ++ (p1 ++ (p2 ++ [])) ++ [], x.block < W.heap.size := fun x hx => by simpa using hW'.lt x hx
  have walk : Calls Tryz.prog 3 #[v0, v1, v2] W fun e w' => e = .returned (.bool true) ∧ Ext W w' := by
    obtain ⟨a0, rfl⟩ := Ty.of_sh T24 _ s0
    obtain ⟨a1, rfl⟩ := Ty.rows_of T59 s1
    rw [Ty.sh_len] at e1
    have l1 : a1.length ≤ 9223372036854775807 := by have := enc_len e1; rwa [List.length_map] at this
    obtain ⟨a2, rfl⟩ := Ty.of_sh T27 _ s2
    obtain ⟨n, hn⟩ : ∃ n, a1.length + 9000000 ≤ n := ⟨_, Nat.le_refl _⟩
    exact (pc n a0 a1 a2 (qH2 n a0 a1 a2 l1 (Nat.le_trans (Nat.add_le_add_left (by decide) _) hn))).said rfl (qL1 e0 e1 e2)
  refine walk.mono fun e W' ⟨he, hb⟩ => ?_
  subst he
  have keep : ∀ {t : TypeId} {v : Value} {d : DataW H} {ps : List MemPlace}, Tryz.prog.readableRec t = true → t < Tryz.prog.types.size → DataW.Trod enc Tryz.prog W 0 (fun _ => true) true t v d ps → (∀ x ∈ ps, x.block < W.heap.size) → DataW.Trod enc Tryz.prog W' 0 (fun b => decide (b < W.heap.size)) true t v d ps :=
    fun h1 h2 h3 h4 => Below.trod qKv h1 h2 h3 hb h4
  exact ⟨_, rfl, ⟨_, _, _, [], _, [], hW', trodAll_cons_mk (shut_bool Tryz.underlying4 _) trodAll_mk0,
    (trodAll_cons_mk (keep (by kernel_rfl) (of_decide_eq_true (by kernel_rfl)) h0 (fun x hx => hlt x (by simp [hx]))) (trodAll_cons_mk (keep (by kernel_rfl) (of_decide_eq_true (by kernel_rfl)) h1 (fun x hx => hlt x (by simp [hx]))) (trodAll_cons_mk (keep (by kernel_rfl) (of_decide_eq_true (by kernel_rfl)) h2 (fun x hx => hlt x (by simp [hx]))) trodAll_mk0))),
    rfl, hb.frame _, fun h => by cases h⟩⟩

theorem reads (os : Os) {H : Type} (enc : TypeId × Value → H) : ∃ places, DataW.whole enc Tryz.prog ((qAZ os).forCall (fun _ _ => 0) ⟨#[], #[(.agg #[.slice none 0 0, .int .i64 0]), .slice none 0 0, (.agg #[.int .i64 0, .int .i64 0, .int .i64 0, .int .i64 0])], []⟩).memory Tryz.f3.params.toList Rows.bedsDecidesSpec.vars false #[(.agg #[.slice none 0 0, .int .i64 0]), .slice none 0 0, (.agg #[.int .i64 0, .int .i64 0, .int .i64 0, .int .i64 0])].toList 8 = some ([.agg [.nil, .lit (.int .i64 0)], .nil, .agg [.lit (.int .i64 0), .lit (.int .i64 0), .lit (.int .i64 0), .lit (.int .i64 0)]], [], places) :=
  ⟨[], by kernel_rfl⟩
theorem met (os : Os) : laidMet Tryz.prog Rows.bedsDecidesRow.laid ((qAZ os).forCall (fun _ _ => 0) ⟨#[], #[(.agg #[.slice none 0 0, .int .i64 0]), .slice none 0 0, (.agg #[.int .i64 0, .int .i64 0, .int .i64 0, .int .i64 0])], []⟩).memory := laidMet_of_run' 8 (by kernel_rfl) (by kernel_rfl)

set_option maxRecDepth 100000 in
theorem lifted (os : Os) (started : os.Started) (H : Type) (enc : TypeId × Value → H) (F : Stop.Interp) :
    ReturnsInHanded {} Tryz.checked os 3 .any ((OpenSpec.ofChange Rows.bedsDecidesSpec).preRow enc Tryz.prog Tryz.f3 Rows.bedsDecidesRow.domain false Rows.bedsDecidesRow.laid) (((OpenSpec.ofChange Rows.bedsDecidesSpec).at F).post enc Tryz.prog Tryz.f3 false true false false) := by
  obtain ⟨places, hx⟩ := reads os enc
  refine returnsInHanded_of_row (C := Tryz.checked) (s := OpenSpec.ofChange Rows.bedsDecidesSpec) ownK started (by kernel_rfl) Tryz.func3
    (witness_row_at (enc := enc) (C := Tryz.checked) false (qAZ os) #[(.agg #[.slice none 0 0, .int .i64 0]), .slice none 0 0, (.agg #[.int .i64 0, .int .i64 0, .int .i64 0, .int .i64 0])] rfl (by kernel_rfl) (by kernel_rfl) (by kernel_rfl)
      (OpenSpec.preRow_of_cond 8 hx (by kernel_rfl) (fun k hk => by cases hk) (by kernel_rfl) (met os))) ?_
  intro W base args ds gs qAW hval hW _ _ _ _ _ _
  exact contract H enc W base args ds gs qAW hval hW

theorem said : Rows.BedsDecidesSaid :=
  OpenClaim.holds_of_cond 3 Tryz.f3 rfl rfl rfl rfl rfl rfl rfl ⟨rfl, rfl, rfl, rfl, rfl⟩ rfl rfl rfl rfl rfl (by kernel_rfl) Tryz.func3 (by kernel_rfl)
    (of_decide_eq_true (by kernel_rfl)) (by unfold Func.isWrapper; first | (rw [if_pos (by decide +kernel)]; kernel_rfl) | (rw [if_neg (by decide +kernel)]; exact ⟨rfl, rfl⟩))
    (fun os started H enc _ F => by rw [OpenClaim.pre_eq_preRow]; exact lifted os started H enc F)
end BedsDecides
end Go.Proofs.YtcjgodgpaokbnaaGreat
