import Derived.Test.YtabcmnfofekeeaaDoorWat34
namespace Go.Proofs.YtabcmnfofekeeaaDoor
open Go Go.Proofs Go.RowKit Go.Shelf
set_option maxHeartbeats 1000000
set_option maxRecDepth 20000
/-! ### Best -/
def nOf (l : List Nat) (m : Nat) : Nat := max (cleanN l m) (l.length - cleanN l m)
def bestTo (l : List Nat) : Nat → Nat × Nat
  | 0 => (0, l.length + 1)
  | k + 1 => if nOf l (k + 1) < (bestTo l k).2 then (k + 1, nOf l (k + 1)) else bestTo l k
theorem nOf_le (l : List Nat) (m : Nat) : nOf l m ≤ l.length := by unfold nOf; have := cleanN_le l m; omega
theorem bestTo_le (l : List Nat) (k : Nat) : (bestTo l k).1 ≤ k ∧ (bestTo l k).2 ≤ l.length + 1 := by
  induction k with
  | zero => exact ⟨Nat.le_refl _, Nat.le_refl _⟩
  | succ k ih =>
    unfold bestTo
    split
    · have := nOf_le l (k + 1); exact ⟨Nat.le_refl _, by omega⟩
    · exact ⟨by omega, ih.2⟩
theorem best_err (As Am : Option Addr) (cs cm : Nat) (W : Water) (w : World) (hin : WaterIn w As Am W) (hE : openE W true ≠ 0) :
    Calls Tryd.prog 23 #[wvW As Am cs cm W] w fun e w' => e = .returned (.tuple #[.int .i64 0, .int .i64 0, .int .i64 (openE W true)]) ∧ Ext w w' := by
  have hE2 : (openE W true != 0) = true := by simpa using hE
  go_enter Tryd.func23, Tryd.ntmps23
  go_wp2_with fail
  refine (open_err_nil _ _ _ _ W _ (hin.ext (by (repeat (first | (with_reducible exact Ext.refl _) | (with_reducible assumption) | (with_reducible refine Ext.alloc ?_ _) | (with_reducible refine Ext.trans ?_ (by with_reducible assumption)) | (with_reducible refine Ext.drew ?_) | (with_reducible refine Ext.setCell ?_ (by simp <;> omega) _))))) hE).mono ?_
  rintro e w1 ⟨fv, rfl, ⟨As', Am', n', cs', m', cm', a', b', c', rfl⟩, hb1⟩
  go_wp2_with fail
  go_ret3
  exact ⟨rfl, by (repeat (first | (with_reducible exact Ext.refl _) | (with_reducible assumption) | (with_reducible refine Ext.alloc ?_ _) | (with_reducible refine Ext.trans ?_ (by with_reducible assumption)) | (with_reducible refine Ext.drew ?_) | (with_reducible refine Ext.setCell ?_ (by simp <;> omega) _)))⟩
theorem best_ok (As Am : Option Addr) (cs cm : Nat) (W : Water) (w : World) (hin : WaterIn w As Am W) (hE : openE W true = 0) :
    Calls Tryd.prog 23 #[wvW As Am cs cm W] w fun e w' => e = .returned (.tuple #[.int .i64 ((bestTo (truthsW W) (fullN W)).1 : Nat), .int .i64 ((bestTo (truthsW W) (fullN W)).2 : Nat), .int .i64 0]) ∧ Ext w w' := by
  obtain ⟨hv, _, hne⟩ := open_zero hE
  have hlen := truthsW_len hv
  have hn := valid_len hv
  have hfl := fullN_lt hn.2
  have HM := Lib.hid (fun t ht => truthsW_mem hv (t := t) ht)
  have HE := Lib.hid hE
  have HV := Lib.hid hv
  clear hE hv hne
  go_enter Tryd.func23, Tryd.ntmps23
  go_wp2_with fail
  refine (open_ok_nil _ _ _ _ W _ (hin.ext (by (repeat (first | (with_reducible exact Ext.refl _) | (with_reducible assumption) | (with_reducible refine Ext.alloc ?_ _) | (with_reducible refine Ext.trans ?_ (by with_reducible assumption)) | (with_reducible refine Ext.drew ?_) | (with_reducible refine Ext.setCell ?_ (by simp <;> omega) _))))) HE.out).mono ?_
  rintro e wo ⟨A, c, rfl, h1, hb1⟩
  have hs := sl_nats h1
  have hwo : Ext w wo := by (repeat (first | (with_reducible exact Ext.refl _) | (with_reducible assumption) | (with_reducible refine Ext.alloc ?_ _) | (with_reducible refine Ext.trans ?_ (by with_reducible assumption)) | (with_reducible refine Ext.drew ?_) | (with_reducible refine Ext.setCell ?_ (by simp <;> omega) _)))
  clear h1 hb1
  go_wp2_with fail
  obtain ⟨w2, hw2⟩ : ∃ w2, wo.alloc (.cells #[.slice As W.springs.length cs, .int .i64 W.most, .int .i64 W.misses, .int .i64 W.alarms, .slice Am W.samples.length cm] 69) = w2 := ⟨_, rfl⟩
  have hb2 : Ext w w2 := by rw [← hw2]; (repeat (first | (with_reducible exact Ext.refl _) | (with_reducible assumption) | (with_reducible refine Ext.alloc ?_ _) | (with_reducible refine Ext.trans ?_ (by with_reducible assumption)) | (with_reducible refine Ext.drew ?_) | (with_reducible refine Ext.setCell ?_ (by simp <;> omega) _)))
  have hs2 : SlOf natC 1 w2 w2.heap.size A (truthsW W) := by rw [← hw2]; exact (hs.below (B' := wo.heap.size) (by (repeat (first | (with_reducible exact Ext.refl _) | (with_reducible assumption) | (with_reducible refine Ext.alloc ?_ _) | (with_reducible refine Ext.trans ?_ (by with_reducible assumption)) | (with_reducible refine Ext.drew ?_) | (with_reducible refine Ext.setCell ?_ (by simp <;> omega) _)))) (Nat.le_refl _)).more (by simp)
  have f0 : w2.cell? ⟨wo.heap.size, 0, none⟩ = some (.slice As W.springs.length cs) := by rw [← hw2]; clear hw2; go_simp
  have f1 : w2.cell? ⟨wo.heap.size, 1, none⟩ = some (.int .i64 W.most) := by rw [← hw2]; clear hw2; go_simp
  have f2 : w2.cell? ⟨wo.heap.size, 2, none⟩ = some (.int .i64 W.misses) := by rw [← hw2]; clear hw2; go_simp
  have f3 : w2.cell? ⟨wo.heap.size, 3, none⟩ = some (.int .i64 W.alarms) := by rw [← hw2]; clear hw2; go_simp
  have f4 : w2.cell? ⟨wo.heap.size, 4, none⟩ = some (.slice Am W.samples.length cm) := by rw [← hw2]; clear hw2; go_simp
  have hz : wo.heap.size < w2.heap.size := by rw [← hw2]; simp
  have HW2 := Lib.hid hb2
  generalize wo.heap.size = Bo at *
  clear hb2 hs hwo
  go_loopg [2, 3, 7] (fullN W) (fun gk a b i wr => ∃ m : Nat, 1 ≤ m ∧ m + gk = fullN W + 1 ∧ i = .int .u64 (m : Int) ∧ a = .int .i64 ((bestTo (truthsW W) (m - 1)).1 : Nat) ∧ b = .int .i64 ((bestTo (truthsW W) (m - 1)).2 : Nat) ∧ Ext w2 wr)
  case atStart => exact ⟨1, by omega, by omega, rfl, rfl, by simp [bestTo], by rw [← hw2]; exact Ext.refl _⟩
  case round =>
    obtain ⟨m, hm1, hk, rfl, rfl, rfl, hb3⟩ := hrel
    have HKG := Lib.hid hk
    have HB := Lib.hid hb3
    have HK : m ≤ fullN W + 1 := by omega
    have hs3 := (hs2.below hb3 (Nat.le_refl _)).more (Below.size hb3)
    (replace f0 := ((bcell hb3).1 _ 0 hz).trans f0; replace f1 := ((bcell hb3).1 _ 1 hz).trans f1; replace f2 := ((bcell hb3).1 _ 2 hz).trans f2; replace f3 := ((bcell hb3).1 _ 3 hz).trans f3; replace f4 := ((bcell hb3).1 _ 4 hz).trans f4; replace hz := Nat.lt_of_lt_of_le hz (Below.size hb3))
    clear hk hb3 hw2
    have hbl := bestTo_le (truthsW W) (m - 1)
    have hcl := cleanN_le (truthsW W) m
    have HD := Lib.hid (show bestTo (truthsW W) m = if nOf (truthsW W) m < (bestTo (truthsW W) (m - 1)).2 then (m, nOf (truthsW W) m) else bestTo (truthsW W) (m - 1) by obtain ⟨j, rfl⟩ : ∃ j, m = j + 1 := ⟨m - 1, by omega⟩; rfl)
    have HN := Lib.hid (show nOf (truthsW W) m = max (cleanN (truthsW W) m) ((truthsW W).length - cleanN (truthsW W) m) from rfl)
    generalize hbt : bestTo (truthsW W) (m - 1) = bt at *
    obtain ⟨bm, bl⟩ := bt
    dsimp only at hbl HD ⊢
    have HBT := Lib.hid hbt
    clear hbt
    by_cases hlt : m ≤ fullN W
    · have hk1 : m ≤ 2 ^ W.springs.length - 1 := hlt
      go_wp2_with fail
      refine (springs_any _ _ _ _ _ _ _ _ _ _ hn.2).mono ?_
      rintro e w4 ⟨rfl, hb4⟩
      (replace f0 := ((bcell hb4).1 _ 0 hz).trans f0; replace f1 := ((bcell hb4).1 _ 1 hz).trans f1; replace f2 := ((bcell hb4).1 _ 2 hz).trans f2; replace f3 := ((bcell hb4).1 _ 3 hz).trans f3; replace f4 := ((bcell hb4).1 _ 4 hz).trans f4; replace hz := Nat.lt_of_lt_of_le hz (Below.size hb4))
      have hs4 := (hs3.below hb4 (Nat.le_refl _)).more (Below.size hb4)
      have HB4 := Lib.hid (HB.out.trans hb4)
      clear hb4 hs3
      go_wp2_with fail
      refine (clean_any _ _ (truthsW W) m _ (by omega) HM.out (by omega) hs4).mono ?_
      rintro e w5 ⟨rfl, rfl⟩
      generalize cleanN (truthsW W) m = cn at *
      have hsz0 : (((truthsW W).length - cn : Nat) : Int) = ((truthsW W).length : Int) - (cn : Int) := by omega
      have HSZ := Lib.hid hsz0
      by_cases h1 : cn < (truthsW W).length - cn
      · have y1 : (cn : Int) < ((truthsW W).length : Int) - (cn : Int) := by omega
        have hmx : max cn ((truthsW W).length - cn) = (truthsW W).length - cn := by omega
        rw [hmx] at HN
        by_cases h2 : (truthsW W).length - cn < bl
        · have HR := Lib.hid (show bestTo (truthsW W) m = (m, (truthsW W).length - cn) by rw [HD.out, HN.out, if_pos h2])
          have y2 : decide (((truthsW W).length : Int) - (cn : Int) < (bl : Int)) = true := decide_eq_true (by omega)
          clear hmx hsz0 h1 h2
          go_wp2_with fail
          go_roundg (gk - 1)
          case measure => have := HKG.out; omega
          case rel => exact ⟨m + 1, by omega, by have := HKG.out; omega, by go_num, by rw [Nat.add_sub_cancel, HR.out], by rw [Nat.add_sub_cancel, HR.out]; exact val_int HSZ.out.symm, HB4.out⟩
        · have HR := Lib.hid (show bestTo (truthsW W) m = (bm, bl) by rw [HD.out, HN.out, if_neg h2])
          have y2 : decide (((truthsW W).length : Int) - (cn : Int) < (bl : Int)) = false := decide_eq_false (by omega)
          clear hmx hsz0 h1 h2
          go_wp2_with fail
          go_roundg (gk - 1)
          case measure => have := HKG.out; omega
          case rel => exact ⟨m + 1, by omega, by have := HKG.out; omega, by go_num, by rw [Nat.add_sub_cancel, HR.out], by rw [Nat.add_sub_cancel, HR.out], HB4.out⟩
      · have y1 : ((truthsW W).length : Int) - (cn : Int) ≤ (cn : Int) := by omega
        have y1' : ¬ (cn : Int) < ((truthsW W).length : Int) - (cn : Int) := by omega
        have hmx : max cn ((truthsW W).length - cn) = cn := by omega
        rw [hmx] at HN
        by_cases h2 : cn < bl
        · have HR := Lib.hid (show bestTo (truthsW W) m = (m, cn) by rw [HD.out, HN.out, if_pos h2])
          have y2 : decide ((cn : Int) < (bl : Int)) = true := decide_eq_true (by omega)
          have y3 : decide (cn < bl) = true := decide_eq_true (by omega)
          clear hmx hsz0 h1 h2
          go_wp2_with fail
          go_roundg (gk - 1)
          case measure => have := HKG.out; omega
          case rel => exact ⟨m + 1, by omega, by have := HKG.out; omega, by go_num, by rw [Nat.add_sub_cancel, HR.out], by rw [Nat.add_sub_cancel, HR.out], HB4.out⟩
        · have HR := Lib.hid (show bestTo (truthsW W) m = (bm, bl) by rw [HD.out, HN.out, if_neg h2])
          have y2 : decide ((cn : Int) < (bl : Int)) = false := decide_eq_false (by omega)
          have y3 : decide (cn < bl) = false := decide_eq_false (by omega)
          clear hmx hsz0 h1 h2
          go_wp2_with fail
          go_roundg (gk - 1)
          case measure => have := HKG.out; omega
          case rel => exact ⟨m + 1, by omega, by have := HKG.out; omega, by go_num, by rw [Nat.add_sub_cancel, HR.out], by rw [Nat.add_sub_cancel, HR.out], HB4.out⟩
    · obtain rfl : m = fullN W + 1 := by omega
      rw [Nat.add_sub_cancel] at HBT
      have hk1 : ¬ fullN W + 1 ≤ 2 ^ W.springs.length - 1 := by have : fullN W = 2 ^ W.springs.length - 1 := rfl; omega
      go_wp2_with fail
      refine (springs_any _ _ _ _ _ _ _ _ _ _ hn.2).mono ?_
      rintro e w4 ⟨rfl, hb4⟩
      go_wp2_with fail
      go_ret3
      exact ⟨by rw [HBT.out]; rfl, (HW2.out.trans HB.out).trans hb4⟩
end Go.Proofs.YtabcmnfofekeeaaDoor
