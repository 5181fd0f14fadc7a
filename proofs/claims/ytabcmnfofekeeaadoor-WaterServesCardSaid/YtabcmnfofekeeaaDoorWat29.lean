import Derived.Test.YtabcmnfofekeeaaDoorWat25
namespace Go.Proofs.YtabcmnfofekeeaaDoor
open Go Go.Proofs Go.RowKit Go.Shelf
set_option maxHeartbeats 1000000
set_option maxRecDepth 20000

/-! ### Sum -/
def setTo (s k : Nat) : List Nat := (List.range k).filter fun i => s.testBit i
theorem setTo_el (s : Nat) : setTo s 8 = el s := rfl
theorem setTo_succ (s k : Nat) : setTo s (k + 1) = setTo s k ++ (if s.testBit k then [k] else []) := by
  unfold setTo
  rw [List.range_succ, List.filter_append]
  cases h : s.testBit k <;> simp [h]
theorem setTo_len (s k : Nat) : (setTo s k).length ≤ k := by
  unfold setTo; have := List.length_filter_le (fun i => s.testBit i) (List.range k); simpa using this
theorem sumSet_succ (f : Nat → Int) (s k : Nat) : sumOf f (setTo s (k + 1)) = sumOf f (setTo s k) + (if s.testBit k then f k else 0) := by
  rw [setTo_succ]
  unfold sumOf
  cases s.testBit k <;> simp
theorem sumSet_more (f : Nat → Int) (n s : Nat) (hf : ∀ i, n ≤ i → f i = 0) (d : Nat) : sumOf f (setTo s (n + d)) = sumOf f (setTo s n) := by
  induction d with
  | zero => rfl
  | succ d ih =>
    rw [← Nat.add_assoc, sumSet_succ, ih, hf (n + d) (by omega)]
    simp
theorem lo_out (l : List Spring) (i : Nat) (h : l.length ≤ i) : loOf l i = 0 := by unfold loOf; rw [List.getElem?_eq_none h]; rfl
theorem fuel_out (l : List Spring) (i : Nat) (h : l.length ≤ i) : fuelOf l i = 0 := by unfold fuelOf; rw [List.getElem?_eq_none h]; rfl
theorem sum_all (f : Nat → Int) (n s : Nat) (hn : n ≤ 8) (hf : ∀ i, n ≤ i → f i = 0) : sumOf f (setTo s n) = sumOf f (el s) := by
  rw [← setTo_el, show 8 = n + (8 - n) by omega, sumSet_more f n s hf]

theorem sum_any (As Am : Option Addr) (cs cm : Nat) (W : Water) (s : Nat) (w : World) (hl : W.springs.length ≤ 8) (hs : s < 256) (hok : SprOk W.springs) (hin : SlOf sprC 3 w w.heap.size As W.springs) :
    Calls Tryd.prog 21 #[wvW As Am cs cm W, .int .i64 (s : Nat)] w fun e w' => e = .returned (.tuple #[.int .i64 (sumOf (loOf W.springs) (el s)), .int .i64 (sumOf (fuelOf W.springs) (el s))]) ∧ Ext w w' := by
  have E1 := Lib.hid (sum_all (loOf W.springs) W.springs.length s hl (lo_out _))
  have E2 := Lib.hid (sum_all (fuelOf W.springs) W.springs.length s hl (fuel_out _))
  go_enter Tryd.func21, Tryd.ntmps21
  go_wp2_with fail
  go_loopg [4, 5, 6] W.springs.length (fun gk a b i wr => ∃ k : Nat, k + gk = W.springs.length ∧ i = .int .i64 k ∧ a = .int .i64 (sumOf (loOf W.springs) (setTo s k)) ∧ b = .int .i64 (sumOf (fuelOf W.springs) (setTo s k)) ∧ wr = w.alloc (.cells #[.slice As W.springs.length cs, .int .i64 W.most, .int .i64 W.misses, .int .i64 W.alarms, .slice Am W.samples.length cm] 25))
  case atStart => exact ⟨0, by omega, rfl, rfl, rfl, rfl⟩
  case round =>
    obtain ⟨k, hk, rfl, rfl, rfl, rfl⟩ := hrel
    have HK : k ≤ W.springs.length := by omega
    have HKG := Lib.hid hk
    clear hk
    by_cases hlt : k < W.springs.length
    · obtain ⟨b, off, rfl, hbl, hc⟩ := hin.at_ sprC_len hlt
      have c0 := hc 0 _ (by omega) rfl
      have c2 := hc 2 _ (by omega) rfl
      clear hc
      simp only [Nat.add_zero] at c0
      have hsl := setTo_len s k
      have b1 := sumOf_le (loOf W.springs) (lo_bd hok) (setTo s k)
      have b2 := sumOf_le (fuelOf W.springs) (fuel_bd hok) (setTo s k)
      have hk0 := hok W.springs[k] (List.getElem_mem hlt)
      have hL : loOf W.springs k = W.springs[k].lo := by unfold loOf; rw [List.getElem?_eq_getElem hlt]; rfl
      have hF : fuelOf W.springs k = W.springs[k].fuel := by unfold fuelOf; rw [List.getElem?_eq_getElem hlt]; rfl
      have S1 := Lib.hid (sumSet_succ (loOf W.springs) s k)
      have S2 := Lib.hid (sumSet_succ (fuelOf W.springs) s k)
      have HB := bit_num s k (by omega)
      have HL := Lib.hid hL
      have HF := Lib.hid hF
      clear hL hF
      generalize hx : sumOf (loOf W.springs) (setTo s k) = x at *
      generalize hy : sumOf (fuelOf W.springs) (setTo s k) = y at *
      have HX := Lib.hid hx
      have HY := Lib.hid hy
      clear hx hy
      have hmod : s / 2 ^ k % 2 = 0 ∨ s / 2 ^ k % 2 = 1 := by omega
      rcases hmod with hm | hm
      · have ht : s.testBit k = false := by rw [Nat.testBit_eq_decide_div_mod_eq, hm]; rfl
        rw [hm] at HB
        have Z1 := Lib.hid (show sumOf (loOf W.springs) (setTo s (k + 1)) = x by rw [S1.out, ht]; simp)
        have Z2 := Lib.hid (show sumOf (fuelOf W.springs) (setTo s (k + 1)) = y by rw [S2.out, ht]; simp)
        clear hm ht
        go_wp2_with fail
        go_roundg (gk - 1)
        case measure => have := HKG.out; omega
        case rel => exact ⟨k + 1, by have := HKG.out; omega, by go_num, val_int Z1.out.symm, val_int Z2.out.symm, rfl⟩
      · have ht : s.testBit k = true := by rw [Nat.testBit_eq_decide_div_mod_eq, hm]; rfl
        rw [hm] at HB
        have Z1 := Lib.hid (show sumOf (loOf W.springs) (setTo s (k + 1)) = x + W.springs[k].lo by rw [S1.out, ht, HL.out]; simp)
        have Z2 := Lib.hid (show sumOf (fuelOf W.springs) (setTo s (k + 1)) = y + W.springs[k].fuel by rw [S2.out, ht, HF.out]; simp)
        clear hm ht
        go_wp2_with fail
        go_roundg (gk - 1)
        case measure => have := HKG.out; omega
        case rel => exact ⟨k + 1, by have := HKG.out; omega, by go_num, val_int Z1.out.symm, val_int Z2.out.symm, rfl⟩
    · obtain rfl : k = W.springs.length := by omega
      go_wp2_with fail
      go_ret2
      exact ⟨by rw [← E1.out, ← E2.out]; rfl, by (repeat (first | (with_reducible exact Ext.refl _) | (with_reducible assumption) | (with_reducible refine Ext.alloc ?_ _) | (with_reducible refine Ext.trans ?_ (by with_reducible assumption)) | (with_reducible refine Ext.drew ?_) | (with_reducible refine Ext.setCell ?_ (by simp <;> omega) _)))⟩
end Go.Proofs.YtabcmnfofekeeaaDoor
