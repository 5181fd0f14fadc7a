/- Ropes: slices.Repeat of one number. -/
import Derived.Test.YtchinfamepolkaaRop16
import Derived.Laws.CopyOwn
import Derived.Deep.RegionLaw
import Derived.Deep.RegionHeld3
namespace Go.Proofs.Ytchinfamepolkaa
set_option linter.unusedSimpArgs false
set_option linter.unusedVariables false
set_option linter.unusedSectionVars false
open Go Go.Proofs Go.RowKit Go.Shelf
set_option maxHeartbeats 1000000
set_option maxRecDepth 20000

theorem mul64_one (n : Nat) (w : World) (hn : n ≤ 4) : Calls Try.prog 123 #[.int .u64 1, .int .u64 (n : Int)] w fun e w' => e = .returned (.tuple #[.int .u64 0, .int .u64 (n : Int)]) ∧ w = w' := by
  have h : n = 0 ∨ n = 1 ∨ n = 2 ∨ n = 3 ∨ n = 4 := by omega
  rcases h with rfl | rfl | rfl | rfl | rfl
  all_goals
    go_enter Try.func123, Try.ntmps123
    go_wp2_with fail
    go_ret2
    exact ⟨by kernel_rfl, rfl⟩
theorem mul_one (n : Nat) (w : World) (hn : n ≤ 4) : Calls Try.prog 120 #[.int .u64 1, .int .u64 (n : Int)] w fun e w' => e = .returned (.tuple #[.int .u64 0, .int .u64 (n : Int)]) ∧ w = w' := by
  go_enter Try.func120, Try.ntmps120
  go_wp2_with (go_at_call 123; refine (mul64_one n _ hn).mono ?_; rintro e w1 ⟨rfl, rfl⟩)
  go_ret2
  exact ⟨rfl, rfl⟩
def repL (m n : Nat) (x : Int) : List Value := List.replicate m (.int .i64 x) ++ List.replicate (n - m) (.int .i64 0)
theorem repL_len (m n : Nat) (x : Int) (h : m ≤ n) : (repL m n x).length = n := by simp [repL]; omega
theorem repL_splice (m k n : Nat) (x : Int) (h : m + k ≤ n) : Go.splice (repL m n x) m (List.replicate k (.int .i64 x)) = repL (m + k) n x := by
  unfold Go.splice repL
  rw [List.take_left' (by simp), List.length_replicate, List.drop_append, List.length_replicate, List.drop_of_length_le (by simp), List.nil_append, Nat.add_sub_cancel_left, List.drop_replicate, ← List.append_assoc, List.replicate_append_replicate, show n - m - k = n - (m + k) by omega]
theorem repeatO_any (g0 o0 c n : Nat) (x : Int) (w : World) (hn : n ≤ 4) (hx : w.cell? ⟨g0, o0, none⟩ = some (.int .i64 x)) :
    Calls Try.prog 114 #[.slice (some ⟨g0, o0, none⟩) 1 c, .int .i64 (n : Int)] w fun e w' => ∃ g, e = .returned (.slice (some ⟨g, 0, none⟩) n n) ∧ w.heap.size ≤ g ∧ Blk w' g 3 (List.replicate n (.int .i64 x)) ∧ Ext w w' := by
  obtain ⟨i0, hi, hz0, hz1, hz2⟩ := info_parts int_info
  have z0 := World.block_lt_of_cell? w _ hx
  simp only at z0
  have hbt : (i0.bytes : Int) * (n : Int) ≤ 281474976710656 := by rw [hz2]; omega
  have hmk := Go.run_makeSlice (P := Try.prog) w 28 3 i0 (.int .i64 0) Try.underlying28 hi hz0 .i64 .i64 n n (by omega) (by omega) (by rw [hz1]; omega) hbt (by omega)
  rw [hz1, Int.toNat_natCast, show (Value.cells (.int .i64 0)) = #[.int .i64 0] from rfl, show Go.madeCells #[.int .i64 0] (n * 1) = (List.replicate n (Value.int .i64 0)).toArray by rw [← toList_made1]] at hmk
  have HMK := Lib.hid hmk
  clear hmk hbt
  have HB1 := Lib.hid (Blk.new w 3 (List.replicate n (Value.int .i64 0)) rfl)
  have HE1 := Lib.hid ((Ext.refl w).alloc (.cells (List.replicate n (Value.int .i64 0)).toArray 3))
  obtain ⟨w1, hw1⟩ : ∃ w1, w.alloc (.cells (List.replicate n (Value.int .i64 0)).toArray 3) = w1 := ⟨_, rfl⟩
  rw [hw1] at HMK HB1 HE1
  clear hw1 hz0 hz1 hz2
  obtain ⟨BX, hBX⟩ : ∃ BX, w.heap.size = BX := ⟨_, rfl⟩
  rw [hBX] at HMK HB1
  have k0 : (0 : Int) ≤ (n : Int) := by omega
  have k1 : (n : Int) ≤ 9223372036854775807 := by omega
  have k2 : IntKind.u64.wrap (n : Int) = (n : Int) := by rw [IntKind.wrap_u64]; omega
  have k3 : IntKind.i64.wrap (n : Int) = (n : Int) := by rw [IntKind.wrap_i64]; omega
  have k4 : ¬ (n : Int) < 0 := by omega
  have k5 : ¬ (9223372036854775807 : Int) < (n : Int) := by omega
  have HSRC := Lib.hid (show ∀ (j : Nat) (v : Value), (List.replicate (Nat.min 1 n) (Value.int .i64 x))[j]? = some v → w1.cell? ((⟨g0, o0, none⟩ : Addr).add j) = some v by
    intro j v hj
    rw [List.getElem?_replicate] at hj
    split at hj
    · next hlt =>
      injection hj with hj
      subst hj
      obtain rfl : j = 0 := by
        have : Nat.min 1 n ≤ 1 := Nat.min_le_left _ _
        omega
      show w1.cell? ⟨g0, o0, none⟩ = _
      exact ((bcell HE1.out).1 _ o0 z0).trans hx
    · cases hj)
  have HLEN := Lib.hid (show (List.replicate (Nat.min 1 n) (Value.int .i64 x)).length = Nat.min 1 n from List.length_replicate)
  have HFIT := Lib.hid (show 0 + (List.replicate (Nat.min 1 n) (Value.int .i64 x)).length ≤ (List.replicate n (Value.int .i64 0)).length by
    rw [List.length_replicate, List.length_replicate, Nat.zero_add]; exact Nat.min_le_right _ _)
  have HONE := Lib.hid (show ∀ v ∈ List.replicate (Nat.min 1 n) (Value.int .i64 x), v.oneCell' = true by
    intro v hv
    rw [List.eq_of_mem_replicate hv]
    rfl)
  have HE1' : Go.RowKit.Below BX w w1 := by rw [← hBX]; exact HE1.out
  go_enter Try.func114, Try.ntmps114
  go_wp2_with (go_at_call 120; refine (mul_one n _ hn).mono ?_; rintro e wx ⟨rfl, rfl⟩)
  rw [HMK.out]
  go_wp2_with ((with_reducible show wpList _ _ _ _ _ _); refine Go.wpList_copy_splice (o := ⟨some 33, _, _, _, _, _⟩) rfl _ _ 28 28 rfl 3 Try.underlying28 (by kernel_rfl) (some ⟨BX, 0, none⟩) (some ⟨g0, o0, none⟩) n n 1 c rfl rfl BX 0 (List.replicate n (.int .i64 0)) 3 HB1.out (List.replicate (Nat.min 1 n) (.int .i64 x)) HLEN.out (fun _ => ⟨rfl, _, rfl, HSRC.out⟩) HFIT.out HONE.out BX w HE1' (Nat.le_refl _) ?_; intro w4 hg4 hb4)
  have HG4 := Lib.hid (show Blk w4 BX 3 (repL (Nat.min 1 n) n x) by
    have h := hg4.out
    rw [show List.replicate n (Value.int .i64 0) = repL 0 n x by simp [repL], repL_splice 0 (Nat.min 1 n) n x (by rw [Nat.zero_add]; exact Nat.min_le_right _ _), Nat.zero_add] at h
    exact h)
  have HB4 := Lib.hid hb4
  clear hg4 hb4 HLEN HFIT HONE HSRC HMK HB1 HE1
  go_loopg [8] n (fun gk i wr => ∃ m : Nat, (n = 0 ∨ 1 ≤ m) ∧ m ≤ n ∧ n - m ≤ gk ∧ i = .int .i64 m ∧ Blk wr BX 3 (repL m n x) ∧ Below BX w wr)
  case atStart =>
    have h1 : Nat.min 1 n ≤ n := Nat.min_le_right _ _
    have h2 : n = 0 ∨ 1 ≤ Nat.min 1 n := by
      rcases Nat.eq_zero_or_pos n with h | h
      · exact .inl h
      · exact .inr (Nat.le_min.2 ⟨Nat.le_refl _, h⟩)
    exact ⟨Nat.min 1 n, h2, h1, by omega, by simp, HG4.out, HB4.out⟩
  case round =>
    obtain ⟨m, h1, h2, h3, rfl, hbk, hb⟩ := hrel
    have H1 := Lib.hid h1
    have H3 := Lib.hid h3
    have HBK := Lib.hid hbk
    have HB := Lib.hid hb
    clear h1 h3 hbk hb
    have m0 : (0 : Int) ≤ (m : Int) := by omega
    have m1 : (m : Int) ≤ (n : Int) := by omega
    have m2 : IntKind.i64.wrap (m : Int) = (m : Int) := by rw [IntKind.wrap_i64]; omega
    by_cases hlt : m < n
    · have l1 : (m : Int) < (n : Int) := by omega
      have HLEN := Lib.hid (show (List.replicate (Nat.min m (n - m)) (Value.int .i64 x)).length = Nat.min m (n - m) from List.length_replicate)
      have hmn : ¬ n = m := by omega
      have HFIT := Lib.hid (show m + (List.replicate (Nat.min m (n - m)) (Value.int .i64 x)).length ≤ (repL m n x).length by
        rw [List.length_replicate, repL_len m n x h2]
        have : Nat.min m (n - m) ≤ n - m := Nat.min_le_right _ _
        omega)
      have HONE := Lib.hid (show ∀ v ∈ List.replicate (Nat.min m (n - m)) (Value.int .i64 x), v.oneCell' = true by
        intro v hv
        rw [List.eq_of_mem_replicate hv]
        rfl)
      have HSRC := Lib.hid (show ∀ (j : Nat) (v : Value), (List.replicate (Nat.min m (n - m)) (Value.int .i64 x))[j]? = some v → wr.drew.cell? ((⟨BX, 0, none⟩ : Addr).add j) = some v by
        intro j v hj
        rw [List.getElem?_replicate] at hj
        split at hj
        · next hlt2 =>
          have : Nat.min m (n - m) ≤ m := Nat.min_le_left _ _
          rw [show (⟨BX, 0, none⟩ : Addr).add j = ⟨BX, j, none⟩ by simp [Addr.add]; omega]
          refine ((bcell ((Ext.refl wr).drew)).1 BX j HBK.out.lt).trans ?_
          rw [HBK.out.cell, ← hj]
          unfold repL
          rw [List.getElem?_append_left (by simp; omega), List.getElem?_replicate, if_pos (by omega)]
        · cases hj)
      go_wp2_with fail
      go_region_held3 (fun w' => True)
        (trivial)
        ((refine Go.step_copy_splice (o := ⟨some 45, _, _, _, _, _⟩) rfl _ _ 28 28 rfl 3 Try.underlying28 (by kernel_rfl) (some ⟨BX, m, none⟩) (some ⟨BX, 0, none⟩) (n - m) (n - m) m n rfl rfl BX m (repL m n x) 3 HBK.out (List.replicate (Nat.min m (n - m)) (.int .i64 x)) HLEN.out (fun _ => ⟨rfl, _, rfl, HSRC.out⟩) HFIT.out HONE.out BX w HB.out.drew (Nat.le_refl _) ?_; intro w5 hg5 hb5))
      have HG5 := Lib.hid (show Blk w5 BX 3 (repL (m + Nat.min m (n - m)) n x) by
        have h := hg5.out
        rw [repL_splice m _ n x (by have : Nat.min m (n - m) ≤ n - m := Nat.min_le_right _ _; omega)] at h
        exact h)
      have hmin1 : Nat.min m (n - m) ≤ n - m := Nat.min_le_right _ _
      have hmin2 : 1 ≤ Nat.min m (n - m) := Nat.le_min.2 ⟨by have := H1.out; omega, by omega⟩
      have HMIN := Lib.hid (⟨hmin1, hmin2⟩ : Nat.min m (n - m) ≤ n - m ∧ 1 ≤ Nat.min m (n - m))
      clear hmin1 hmin2
      go_wp2_with fail
      go_roundg (n - (m + Nat.min m (n - m)))
      case measure => have := HMIN.out; have := H3.out; omega
      case rel => exact ⟨m + Nat.min m (n - m), .inr (by have := HMIN.out; omega), by have := HMIN.out; omega, by omega, by have := HMIN.out; rw [show IntKind.i64.wrap ((m : Int) + ((Nat.min m (n - m) : Nat) : Int)) = ((m + Nat.min m (n - m) : Nat) : Int) by rw [IntKind.wrap_i64]; omega], HG5.out, hb5⟩
    · obtain rfl : m = n := by omega
      go_wp2_with fail
      go_ret
      exact ⟨BX, rfl, by omega, by have h := HBK.out; unfold repL at h; rw [Nat.sub_self] at h; simpa using h, by have h := HB.out; rw [← hBX] at h; exact h⟩
end Go.Proofs.Ytchinfamepolkaa
