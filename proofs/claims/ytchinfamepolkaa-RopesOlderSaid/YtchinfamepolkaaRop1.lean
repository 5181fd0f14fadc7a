/- Ropes: within, ordered, models that are valid, harm. -/
import Derived.Test.YtchinfamepolkaaKp
import Derived.Test.YtchinfamepolkaaKa
import Derived.Test.YtchinfamepolkaaProg
namespace Go.Proofs.Ytchinfamepolkaa
set_option linter.unusedSimpArgs false
set_option linter.unusedVariables false
set_option linter.unusedSectionVars false
open Go Go.Proofs Go.RowKit Go.Shelf
set_option maxHeartbeats 1000000
set_option maxRecDepth 20000

theorem within_is (n lo hi : Int) {b : Bool} (h : withinB n lo hi = b) (w : World) : Calls Try.prog 51 #[.int .i64 n, .int .i64 lo, .int .i64 hi] w fun e w' => e = .returned (.bool b) ∧ w = w' := by
  subst h
  by_cases h1 : lo ≤ n
  · have d1 : decide (lo ≤ n) = true := decide_eq_true h1
    have H := Lib.hid (show withinB n lo hi = decide (n ≤ hi) by unfold withinB; simp [h1])
    go_enter Try.func51, Try.ntmps51
    go_wp2
    go_ret
    exact ⟨ret_bool H.out.symm, rfl⟩
  · have d1 : decide (lo ≤ n) = false := decide_eq_false h1
    have H := Lib.hid (show withinB n lo hi = false by unfold withinB; simp [h1])
    clear h1
    go_enter Try.func51, Try.ntmps51
    go_wp2
    go_ret
    exact ⟨ret_bool H.out.symm, rfl⟩
theorem within_any (n lo hi : Int) (w : World) : Calls Try.prog 51 #[.int .i64 n, .int .i64 lo, .int .i64 hi] w fun e w' => e = .returned (.bool (withinB n lo hi)) ∧ w = w' := within_is n lo hi rfl w
theorem ordered_any (a b lo hi : Int) (w : World) : Calls Try.prog 83 #[.agg #[.int .i64 a, .int .i64 b], .int .i64 lo, .int .i64 hi] w fun e w' => e = .returned (.bool (orderedB a b lo hi)) ∧ Ext w w' := by
  by_cases h1 : lo ≤ a
  · have d1 : decide (lo ≤ a) = true := decide_eq_true h1
    by_cases h2 : a ≤ b
    · have d2 : decide (a ≤ b) = true := decide_eq_true h2
      have H := Lib.hid (show orderedB a b lo hi = decide (b ≤ hi) by unfold orderedB; simp [h1, h2])
      go_enter Try.func83, Try.ntmps83
      go_wp2
      go_ret
      exact ⟨ret_bool H.out.symm, by (repeat (first | (with_reducible exact Ext.refl _) | (with_reducible assumption) | (with_reducible refine Ext.alloc ?_ _) | (with_reducible refine Ext.trans ?_ (by with_reducible assumption)) | (with_reducible refine Ext.drew ?_) | (with_reducible refine Ext.setCell ?_ (by simp <;> omega) _)))⟩
    · have d2 : decide (a ≤ b) = false := decide_eq_false h2
      have H := Lib.hid (show orderedB a b lo hi = false by unfold orderedB; simp [h2])
      clear h2
      go_enter Try.func83, Try.ntmps83
      go_wp2
      go_ret
      exact ⟨ret_bool H.out.symm, by (repeat (first | (with_reducible exact Ext.refl _) | (with_reducible assumption) | (with_reducible refine Ext.alloc ?_ _) | (with_reducible refine Ext.trans ?_ (by with_reducible assumption)) | (with_reducible refine Ext.drew ?_) | (with_reducible refine Ext.setCell ?_ (by simp <;> omega) _)))⟩
  · have d1 : decide (lo ≤ a) = false := decide_eq_false h1
    have H := Lib.hid (show orderedB a b lo hi = false by unfold orderedB; simp [h1])
    clear h1
    go_enter Try.func83, Try.ntmps83
    go_wp2
    go_ret
    exact ⟨ret_bool H.out.symm, by (repeat (first | (with_reducible exact Ext.refl _) | (with_reducible assumption) | (with_reducible refine Ext.alloc ?_ _) | (with_reducible refine Ext.trans ?_ (by with_reducible assumption)) | (with_reducible refine Ext.drew ?_) | (with_reducible refine Ext.setCell ?_ (by simp <;> omega) _)))⟩
theorem ordered_is (a b lo hi : Int) {v : Bool} (h : orderedB a b lo hi = v) (w : World) : Calls Try.prog 83 #[.agg #[.int .i64 a, .int .i64 b], .int .i64 lo, .int .i64 hi] w fun e w' => e = .returned (.bool v) ∧ Ext w w' := h ▸ ordered_any a b lo hi w

theorem isModel_any (A : Option Addr) (c : Nat) (M : Model) (w : World) (hl : M.wears.length ≤ 1000000) (hs : SlOf wearC 2 w w.heap.size A M.wears) :
    Calls Try.prog 63 #[modelV A c M] w fun e w' => e = .returned (.bool (isModelB M)) ∧ Ext w w' := by
  go_enter Try.func63, Try.ntmps63
  go_wp2_with fail
  obtain ⟨w2, hw2⟩ : ∃ w2, w.alloc (.cells #[.int .i64 M.shelf, .int .i64 M.use, .int .i64 M.bears, .slice A M.wears.length c] 24) = w2 := ⟨_, rfl⟩
  have hb2 : Ext w w2 := by rw [← hw2]; (repeat (first | (with_reducible exact Ext.refl _) | (with_reducible assumption) | (with_reducible refine Ext.alloc ?_ _) | (with_reducible refine Ext.trans ?_ (by with_reducible assumption)) | (with_reducible refine Ext.drew ?_) | (with_reducible refine Ext.setCell ?_ (by simp <;> omega) _)))
  have f0 : w2.cell? ⟨w.heap.size, 0, none⟩ = some (.int .i64 M.shelf) := by rw [← hw2]; clear hw2; go_simp
  have f1 : w2.cell? ⟨w.heap.size, 1, none⟩ = some (.int .i64 M.use) := by rw [← hw2]; clear hw2; go_simp
  have f2 : w2.cell? ⟨w.heap.size, 2, none⟩ = some (.int .i64 M.bears) := by rw [← hw2]; clear hw2; go_simp
  have f3 : w2.cell? ⟨w.heap.size, 3, none⟩ = some (.slice A M.wears.length c) := by rw [← hw2]; clear hw2; go_simp
  have fz : w.heap.size < w2.heap.size := by rw [← hw2]; simp
  have HB2 := Lib.hid hb2
  clear hb2
  go_loopg [3, 4, 10] M.wears.length (fun gk f d i wr => ∃ k : Nat, k + gk = M.wears.length ∧ i = .int .i64 k ∧ f = .int .i64 (prevF M.wears k) ∧ d = .int .i64 (prevD M.wears k) ∧ wearsTo M.wears k = true ∧ Ext w2 wr)
  case atStart => exact ⟨0, by omega, rfl, rfl, rfl, rfl, by rw [← hw2]; exact Ext.refl _⟩
  case round =>
    obtain ⟨k, hk, rfl, rfl, rfl, hok, hb⟩ := hrel
    have HK : k ≤ M.wears.length := by omega
    have HKG := Lib.hid hk
    have HB := Lib.hid hb
    have HOK := Lib.hid hok
    have hpb := prev_bd HK hok
    replace f0 := ((bcell hb).1 _ 0 fz).trans f0
    replace f1 := ((bcell hb).1 _ 1 fz).trans f1
    replace f2 := ((bcell hb).1 _ 2 fz).trans f2
    replace f3 := ((bcell hb).1 _ 3 fz).trans f3
    have hz := hb.size
    replace fz := Nat.lt_of_lt_of_le fz hz
    clear hk hb hok hw2
    by_cases hlt : k < M.wears.length
    · obtain ⟨b, off, rfl, hbl, hc⟩ := (hs.below (HB2.out.trans HB.out) (Nat.le_refl _)).at_ wearC_len hlt
      have c0 := hc 0 _ (by omega) rfl
      have c1 := hc 1 _ (by omega) rfl
      clear hc
      simp only [Nat.add_zero] at c0
      have HW := Lib.hid (wearOk_is M.wears k hlt)
      have HP1 := Lib.hid (prevF_succ M.wears k hlt)
      have HP2 := Lib.hid (prevD_succ M.wears k hlt)
      have HT := Lib.hid (wearsTo_succ M.wears k)
      generalize M.wears[k] = x at *
      cases h1 : withinB x.factor (prevF M.wears k + 1) 200
      · have H1 := Lib.hid h1
        have HR := Lib.hid (show isModelB M = false by
          have h : wearsTo M.wears M.wears.length = false := by
            cases h : wearsTo M.wears M.wears.length
            · rfl
            · have := wearsTo_mono (k := k + 1) (by omega) h
              rw [HT.out, HW.out, h1] at this
              simp at this
          unfold isModelB; rw [h]; rfl)
        clear h1
        go_wp2_with fail
        refine (within_is _ _ _ H1.out _).mono ?_
        rintro e w3 ⟨rfl, rfl⟩
        go_wp2_with fail
        go_ret
        exact ⟨ret_bool HR.out.symm, HB2.out.trans (HB.out.alloc _)⟩
      · cases h2 : withinB x.damage (prevD M.wears k) 100
        · have H1 := Lib.hid h1
          have H2 := Lib.hid h2
          have HR := Lib.hid (show isModelB M = false by
            have h : wearsTo M.wears M.wears.length = false := by
              cases h : wearsTo M.wears M.wears.length
              · rfl
              · have := wearsTo_mono (k := k + 1) (by omega) h
                rw [HT.out, HW.out, h1, h2] at this
                simp at this
            unfold isModelB; rw [h]; rfl)
          clear h1 h2
          go_wp2_with fail
          refine (within_is _ _ _ H1.out _).mono ?_
          rintro e w3 ⟨rfl, rfl⟩
          go_wp2_with fail
          refine (within_is _ _ _ H2.out _).mono ?_
          rintro e w3 ⟨rfl, rfl⟩
          go_wp2_with fail
          go_ret
          exact ⟨ret_bool HR.out.symm, HB2.out.trans (HB.out.alloc _)⟩
        · have H1 := Lib.hid h1
          have H2 := Lib.hid h2
          have HT1 := Lib.hid (show wearsTo M.wears (k + 1) = true by rw [HT.out, HW.out, h1, h2, HOK.out]; rfl)
          clear h1 h2
          go_wp2_with fail
          refine (within_is _ _ _ H1.out _).mono ?_
          rintro e w3 ⟨rfl, rfl⟩
          go_wp2_with fail
          refine (within_is _ _ _ H2.out _).mono ?_
          rintro e w3 ⟨rfl, rfl⟩
          go_wp2_with fail
          (refine wp_region_ext (by kernel_rfl) (by kernel_rfl) (fun hX => ?_); (repeat (go_big_quiet_step (fail))); refine wpQuiet_nil ?_; rintro w4 ⟨⟨_, hb4⟩, rfl⟩; (try dsimp only))
          go_wp2_with fail
          go_roundg (gk - 1)
          case measure => have := HKG.out; omega
          case rel => exact ⟨k + 1, by have := HKG.out; omega, by go_num, by rw [HP1.out], by rw [HP2.out], HT1.out, (HB.out.alloc _).trans hb4⟩
    · obtain rfl : k = M.wears.length := by omega
      cases h1 : withinB M.shelf 1 10000
      · have H1 := Lib.hid h1
        have HR := Lib.hid (show isModelB M = false by unfold isModelB; rw [h1]; simp)
        clear h1
        go_wp2_with fail
        refine (within_is _ _ _ H1.out _).mono ?_
        rintro e w3 ⟨rfl, rfl⟩
        go_wp2_with fail
        go_ret
        exact ⟨ret_bool HR.out.symm, HB2.out.trans HB.out⟩
      cases h2 : withinB M.use 1 10000
      · have H1 := Lib.hid h1
        have H2 := Lib.hid h2
        have HR := Lib.hid (show isModelB M = false by unfold isModelB; rw [h2]; simp)
        clear h1 h2
        go_wp2_with fail
        refine (within_is _ _ _ H1.out _).mono ?_
        rintro e w3 ⟨rfl, rfl⟩
        go_wp2_with fail
        refine (within_is _ _ _ H2.out _).mono ?_
        rintro e w3 ⟨rfl, rfl⟩
        go_wp2_with fail
        go_ret
        exact ⟨ret_bool HR.out.symm, HB2.out.trans HB.out⟩
      cases h3 : withinB M.bears 0 100
      · have H1 := Lib.hid h1
        have H2 := Lib.hid h2
        have H3 := Lib.hid h3
        have HR := Lib.hid (show isModelB M = false by unfold isModelB; rw [h3]; simp)
        clear h1 h2 h3
        go_wp2_with fail
        refine (within_is _ _ _ H1.out _).mono ?_
        rintro e w3 ⟨rfl, rfl⟩
        go_wp2_with fail
        refine (within_is _ _ _ H2.out _).mono ?_
        rintro e w3 ⟨rfl, rfl⟩
        go_wp2_with fail
        refine (within_is _ _ _ H3.out _).mono ?_
        rintro e w3 ⟨rfl, rfl⟩
        go_wp2_with fail
        go_ret
        exact ⟨ret_bool HR.out.symm, HB2.out.trans HB.out⟩
      have H1 := Lib.hid h1
      have H2 := Lib.hid h2
      have H3 := Lib.hid h3
      have HR := Lib.hid (show isModelB M = decide ((M.wears.length : Int) ≤ 6) by unfold isModelB; rw [h1, h2, h3, HOK.out, Bool.eq_iff_iff]; simp; omega)
      clear h1 h2 h3
      go_wp2_with fail
      refine (within_is _ _ _ H1.out _).mono ?_
      rintro e w3 ⟨rfl, rfl⟩
      go_wp2_with fail
      refine (within_is _ _ _ H2.out _).mono ?_
      rintro e w3 ⟨rfl, rfl⟩
      go_wp2_with fail
      refine (within_is _ _ _ H3.out _).mono ?_
      rintro e w3 ⟨rfl, rfl⟩
      go_wp2_with fail
      go_ret
      exact ⟨ret_bool (by rw [HR.out]), HB2.out.trans HB.out⟩
end Go.Proofs.Ytchinfamepolkaa
