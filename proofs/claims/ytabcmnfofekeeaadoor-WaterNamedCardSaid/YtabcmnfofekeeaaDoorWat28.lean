import Derived.Test.YtabcmnfofekeeaaDoorWat25
namespace Go.Proofs.YtabcmnfofekeeaaDoor
open Go Go.Proofs Go.RowKit Go.Shelf
set_option maxHeartbeats 1000000
set_option maxRecDepth 20000

/-! ### the reference's truths -/
theorem possI_lt (n k : Nat) (most misses alarms : Int) (l : List Sample) (hk : k < 2 ^ n) : possI n most misses alarms l (k : Int) = possN most misses alarms l k := by
  rw [possI_nat, withinB_mk, Bool.true_and]
  have e : ((2 ^ n : Nat) : Int) = 2 ^ n := by simp
  omega
theorem refTruths_any (As Am A : Option Addr) (n cs m cm c : Nat) (most misses alarms : Int) (l : List Sample) (w : World) (hn : n ≤ 8) (hl : l.length ≤ 1073741824) (hs : SlOf samC 2 w w.heap.size A l) :
    Calls Tryd.prog 61 #[wv As Am n cs m cm most misses alarms, .slice A l.length c] w fun e w' => ∃ A' c', e = .returned (.slice A' (truthsTo (2 ^ n) most misses alarms l).length c') ∧ SlOf natI 1 w' w'.heap.size A' (truthsTo (2 ^ n) most misses alarms l) ∧ Ext w w' := by
  have hn30 : n ≤ 30 := by omega
  have hp8 := pow_le8 hn
  have hp0 := pow_pos2 n
  have hfc : ((2 ^ n - 1 : Nat) : Int) = 2 ^ n - 1 := by rw [Int.ofNat_sub (Nat.pow_pos (by omega))]; simp
  obtain ⟨i0, hi, hz0, hz1, hz2⟩ := info_parts int_info
  have HFC := Lib.hid hfc
  have HS := Lib.hid hs
  clear hfc hs
  go_enter Tryd.func61, Tryd.ntmps61
  go_wp2_with fail
  obtain ⟨w2, hw2⟩ : ∃ w2, w.alloc (.cells #[.slice As n cs, .int .i64 most, .int .i64 misses, .int .i64 alarms, .slice Am m cm] 25) = w2 := ⟨_, rfl⟩
  have hb2 : Ext w w2 := by rw [← hw2]; (repeat (first | (with_reducible exact Ext.refl _) | (with_reducible assumption) | (with_reducible refine Ext.alloc ?_ _) | (with_reducible refine Ext.trans ?_ (by with_reducible assumption)) | (with_reducible refine Ext.drew ?_) | (with_reducible refine Ext.setCell ?_ (by simp <;> omega) _)))
  have f0 : w2.cell? ⟨w.heap.size, 0, none⟩ = some (.slice As n cs) := by rw [← hw2]; clear hw2; go_simp
  have f1 : w2.cell? ⟨w.heap.size, 1, none⟩ = some (.int .i64 most) := by rw [← hw2]; clear hw2; go_simp
  have f2 : w2.cell? ⟨w.heap.size, 2, none⟩ = some (.int .i64 misses) := by rw [← hw2]; clear hw2; go_simp
  have f3 : w2.cell? ⟨w.heap.size, 3, none⟩ = some (.int .i64 alarms) := by rw [← hw2]; clear hw2; go_simp
  have f4 : w2.cell? ⟨w.heap.size, 4, none⟩ = some (.slice Am m cm) := by rw [← hw2]; clear hw2; go_simp
  have hz : w.heap.size < w2.heap.size := by rw [← hw2]; simp
  have HB2 := Lib.hid hb2
  clear hb2
  go_loopg [5, 6] (2 ^ n) (fun gk v i wr => ∃ k : Nat, k + gk = 2 ^ n ∧ i = .int .i64 k ∧ wr.ownsRow w2.heap.size 3 1 v (truthsTo k most misses alarms l).length (i64s (truthsTo k most misses alarms l)) ∧ Ext w2 wr)
  case atStart => exact ⟨0, by omega, rfl, World.ownsRow_nil _ _ _ _, by rw [← hw2]; exact Ext.refl _⟩
  case round =>
    obtain ⟨k, hk, rfl, hown, hb3⟩ := hrel
    have HK : k ≤ 2 ^ n := by omega
    have HKG := Lib.hid hk
    have HB := Lib.hid hb3
    have HO := Lib.hid hown
    have hlT : (truthsTo k most misses alarms l).length ≤ k := by unfold truthsTo; have := List.length_filter_le (possN most misses alarms l) (List.range k); simpa using this
    have HT := Lib.hid (truthsTo_succ k most misses alarms l)
    have HP := Lib.hid (possI_lt n k most misses alarms l)
    (replace f0 := ((bcell hb3).1 _ 0 hz).trans f0; replace f1 := ((bcell hb3).1 _ 1 hz).trans f1; replace f2 := ((bcell hb3).1 _ 2 hz).trans f2; replace f3 := ((bcell hb3).1 _ 3 hz).trans f3; replace f4 := ((bcell hb3).1 _ 4 hz).trans f4; replace hz := Nat.lt_of_lt_of_le hz (Below.size hb3))
    clear hk hb3 hw2 hown
    by_cases hlt : k < 2 ^ n
    · go_wp2_with fail
      go_at_call 19
      refine (all_any _ _ _ _ _ _ _ _ _ _ hn30).mono ?_
      rintro e w4 ⟨rfl, hb4⟩
      rw [← HFC.out]
      have HO4 := Lib.hid (own_ext HO.out hb4)
      have HB4 := Lib.hid (HB.out.trans hb4)
      (replace f0 := ((bcell hb4).1 _ 0 hz).trans f0; replace f1 := ((bcell hb4).1 _ 1 hz).trans f1; replace f2 := ((bcell hb4).1 _ 2 hz).trans f2; replace f3 := ((bcell hb4).1 _ 3 hz).trans f3; replace f4 := ((bcell hb4).1 _ 4 hz).trans f4; replace hz := Nat.lt_of_lt_of_le hz (Below.size hb4))
      clear hb4
      go_wp2_with fail
      go_at_call 25
      refine (possible_any _ _ _ _ _ _ _ _ _ _ _ l (k : Int) _ hn30 hl ((HS.out.below (HB2.out.trans HB4.out) (Nat.le_refl _)).more (Below.size (HB2.out.trans HB4.out)))).mono ?_
      rintro e w5 ⟨rfl, hb5⟩
      rw [HP.out hlt]
      have HO5 := Lib.hid (own_ext HO4.out hb5)
      have HB5 := Lib.hid (HB4.out.trans hb5)
      (replace f0 := ((bcell hb5).1 _ 0 hz).trans f0; replace f1 := ((bcell hb5).1 _ 1 hz).trans f1; replace f2 := ((bcell hb5).1 _ 2 hz).trans f2; replace f3 := ((bcell hb5).1 _ 3 hz).trans f3; replace f4 := ((bcell hb5).1 _ 4 hz).trans f4; replace hz := Nat.lt_of_lt_of_le hz (Below.size hb5))
      have hz5 := Below.size HB5.out
      clear hb5
      cases hp : possN most misses alarms l k
      · have HQ := Lib.hid (show truthsTo (k + 1) most misses alarms l = truthsTo k most misses alarms l by rw [HT.out, hp]; simp)
        clear hp
        go_wp2_with fail
        go_roundg (gk - 1)
        case measure => have := HKG.out; omega
        case rel => exact ⟨k + 1, by have := HKG.out; omega, by go_num, by rw [HQ.out]; exact HO5.out, HB5.out⟩
      · have HQ := Lib.hid (show truthsTo (k + 1) most misses alarms l = truthsTo k most misses alarms l ++ [k] by rw [HT.out, hp]; simp)
        clear hp
        go_wp2_with (at_builtin; refine wpList_append_own _ rfl _ _ 32 rfl w2.heap.size 3 i0 (.int .i64 0) 1 8 Tryd.underlying32 hi hz0 hz1 hz2 rfl (by decide) _ _ _ rfl (HO5.out.alloc _) ⟨w5.heap.size, 0, none⟩ 1 1 [.int .i64 (k : Int)] rfl rfl (cell_one_new _ _ _) (by simp [Value.oneCell']) (by unfold maxLen; omega) (by omega) (by simp; omega) ?_; intro v' w6 hown6 hg6 _)
        have hb6 : Ext w2 w6 := (HB5.out.alloc _).grown hg6 (own_block HO5.out)
        have HB6 := Lib.hid hb6
        have HO6 := Lib.hid hown6
        clear hown6 hg6 hb6
        go_wp2_with fail
        go_roundg (gk - 1)
        case measure => have := HKG.out; omega
        case rel => exact ⟨k + 1, by have := HKG.out; omega, by go_num, by rw [HQ.out, i64s_snoc]; simpa using HO6.out, HB6.out⟩
    · obtain rfl : k = 2 ^ n := by omega
      have hk1 : ¬ 2 ^ n ≤ 2 ^ n - 1 := by omega
      have hk2 : ¬ (2 : Int) ^ n ≤ ((2 ^ n - 1 : Nat) : Int) := by
        have e : ((2 ^ n : Nat) : Int) = 2 ^ n := by simp
        omega
      go_wp2_with fail
      go_at_call 19
      refine (all_any _ _ _ _ _ _ _ _ _ _ hn30).mono ?_
      rintro e w4 ⟨rfl, hb4⟩
      rw [← HFC.out]
      obtain ⟨A2, c2, rfl, hf, hsl, _⟩ := own_form HO.out
      have hsl4 := (hsl.below hb4 (Nat.le_refl _)).more (Below.size hb4)
      have hE4 : Ext w w4 := (HB2.out.trans HB.out).trans hb4
      clear hb4
      go_wp2_with fail
      go_ret
      exact ⟨A2, c2, rfl, sl_ints hsl4, hE4⟩

/-! ### the reference's Truths -/
theorem refT_err (As Am : Option Addr) (cs cm : Nat) (W : Water) (w : World) (hin : WaterIn w As Am W) (hn : W.springs.length ≤ 30) (hm : W.samples.length ≤ 1000000) (hE : openE W true ≠ 0) :
    Calls Tryd.prog 29 #[wvW As Am cs cm W] w fun e w' => e = .returned (.tuple #[.slice none 0 0, .int .i64 (openE W true)]) ∧ Ext w w' := by
  have HIN := Lib.hid hin
  clear hin
  cases hv : validB W
  · have HC := Lib.hid (show checkI W = 40 by simp [checkI, hv])
    rw [show openE W true = 40 by simp [openE, hv]]
    clear hE hv
    go_enter Tryd.func29, Tryd.ntmps29
    go_wp2_with fail
    refine (refCheck_any _ _ _ _ W _ (HIN.out.ext (by (repeat (first | (with_reducible exact Ext.refl _) | (with_reducible assumption) | (with_reducible refine Ext.alloc ?_ _) | (with_reducible refine Ext.trans ?_ (by with_reducible assumption)) | (with_reducible refine Ext.drew ?_) | (with_reducible refine Ext.setCell ?_ (by simp <;> omega) _))))) hn hm).mono ?_
    rintro e w1 ⟨rfl, hb1⟩
    rw [HC.out]
    go_wp2_with fail
    go_ret2
    exact ⟨rfl, by (repeat (first | (with_reducible exact Ext.refl _) | (with_reducible assumption) | (with_reducible refine Ext.alloc ?_ _) | (with_reducible refine Ext.trans ?_ (by with_reducible assumption)) | (with_reducible refine Ext.drew ?_) | (with_reducible refine Ext.setCell ?_ (by simp <;> omega) _)))⟩
  · have hne : truthsW W = [] := by
      simp only [openE, hv] at hE
      by_cases h : truthsW W = []
      · exact h
      · simp [h] at hE
    have HC := Lib.hid (show checkI W = 0 by simp [checkI, hv])
    have hn8 := (valid_len hv).2
    rw [show openE W true = 3 by simp [openE, hv, hne]]
    have HNE := Lib.hid hne
    clear hE hv hne
    go_enter Tryd.func29, Tryd.ntmps29
    go_wp2_with fail
    refine (refCheck_any _ _ _ _ W _ (HIN.out.ext (by (repeat (first | (with_reducible exact Ext.refl _) | (with_reducible assumption) | (with_reducible refine Ext.alloc ?_ _) | (with_reducible refine Ext.trans ?_ (by with_reducible assumption)) | (with_reducible refine Ext.drew ?_) | (with_reducible refine Ext.setCell ?_ (by simp <;> omega) _))))) hn hm).mono ?_
    rintro e w1 ⟨rfl, hb1⟩
    rw [HC.out]
    (have f0 := ((bcell hb1).1 w.heap.size 0 (by simp)).trans (show _ = some (.slice As W.springs.length cs) by go_simp); have f1 := ((bcell hb1).1 w.heap.size 1 (by simp)).trans (show _ = some (.int .i64 W.most) by go_simp); have f2 := ((bcell hb1).1 w.heap.size 2 (by simp)).trans (show _ = some (.int .i64 W.misses) by go_simp); have f3 := ((bcell hb1).1 w.heap.size 3 (by simp)).trans (show _ = some (.int .i64 W.alarms) by go_simp); have f4 := ((bcell hb1).1 w.heap.size 4 (by simp)).trans (show _ = some (.slice Am W.samples.length cm) by go_simp); have hz := Nat.lt_of_lt_of_le (show w.heap.size < (w.alloc _).heap.size by simp) (Below.size hb1))
    have hw1 : Ext w w1 := by (repeat (first | (with_reducible exact Ext.refl _) | (with_reducible assumption) | (with_reducible refine Ext.alloc ?_ _) | (with_reducible refine Ext.trans ?_ (by with_reducible assumption)) | (with_reducible refine Ext.drew ?_) | (with_reducible refine Ext.setCell ?_ (by simp <;> omega) _)))
    clear hb1
    go_wp2_with fail
    refine (refTruths_any _ _ _ _ _ _ _ _ _ _ _ W.samples _ hn8 HIN.out.2.2.2 (HIN.out.ext hw1).2.1).mono ?_
    rintro e w2 ⟨A, c, rfl, hsl, hb2⟩
    clear hsl
    rw [show truthsTo (2 ^ W.springs.length) W.most W.misses W.alarms W.samples = [] from HNE.out]
    go_wp2_with fail
    go_ret2
    exact ⟨rfl, by (repeat (first | (with_reducible exact Ext.refl _) | (with_reducible assumption) | (with_reducible refine Ext.alloc ?_ _) | (with_reducible refine Ext.trans ?_ (by with_reducible assumption)) | (with_reducible refine Ext.drew ?_) | (with_reducible refine Ext.setCell ?_ (by simp <;> omega) _)))⟩
theorem refT_ok (As Am : Option Addr) (cs cm : Nat) (W : Water) (w : World) (hin : WaterIn w As Am W) (hm : W.samples.length ≤ 1000000) (hE : openE W true = 0) :
    Calls Tryd.prog 29 #[wvW As Am cs cm W] w fun e w' => ∃ A c, e = .returned (.tuple #[.slice A (truthsW W).length c, .int .i64 0]) ∧ SlOf natI 1 w' w'.heap.size A (truthsW W) ∧ Ext w w' := by
  obtain ⟨hv, _, hne⟩ := open_zero hE
  have hlen := truthsW_len hv
  have HIN := Lib.hid hin
  have HC := Lib.hid (show checkI W = 0 by simp [checkI, hv])
  have hn8 := (valid_len hv).2
  have hn30 : W.springs.length ≤ 30 := by omega
  have hpos : 0 < (truthsW W).length := List.length_pos_iff.2 hne
  have h0 : (((truthsW W).length : Int) == 0) = false := by simp; omega
  clear hin hE hv hne
  go_enter Tryd.func29, Tryd.ntmps29
  go_wp2_with fail
  refine (refCheck_any _ _ _ _ W _ (HIN.out.ext (by (repeat (first | (with_reducible exact Ext.refl _) | (with_reducible assumption) | (with_reducible refine Ext.alloc ?_ _) | (with_reducible refine Ext.trans ?_ (by with_reducible assumption)) | (with_reducible refine Ext.drew ?_) | (with_reducible refine Ext.setCell ?_ (by simp <;> omega) _))))) hn30 hm).mono ?_
  rintro e w1 ⟨rfl, hb1⟩
  rw [HC.out]
  (have f0 := ((bcell hb1).1 w.heap.size 0 (by simp)).trans (show _ = some (.slice As W.springs.length cs) by go_simp); have f1 := ((bcell hb1).1 w.heap.size 1 (by simp)).trans (show _ = some (.int .i64 W.most) by go_simp); have f2 := ((bcell hb1).1 w.heap.size 2 (by simp)).trans (show _ = some (.int .i64 W.misses) by go_simp); have f3 := ((bcell hb1).1 w.heap.size 3 (by simp)).trans (show _ = some (.int .i64 W.alarms) by go_simp); have f4 := ((bcell hb1).1 w.heap.size 4 (by simp)).trans (show _ = some (.slice Am W.samples.length cm) by go_simp); have hz := Nat.lt_of_lt_of_le (show w.heap.size < (w.alloc _).heap.size by simp) (Below.size hb1))
  have hw1 : Ext w w1 := by (repeat (first | (with_reducible exact Ext.refl _) | (with_reducible assumption) | (with_reducible refine Ext.alloc ?_ _) | (with_reducible refine Ext.trans ?_ (by with_reducible assumption)) | (with_reducible refine Ext.drew ?_) | (with_reducible refine Ext.setCell ?_ (by simp <;> omega) _)))
  clear hb1
  go_wp2_with fail
  refine (refTruths_any _ _ _ _ _ _ _ _ _ _ _ W.samples _ hn8 HIN.out.2.2.2 (HIN.out.ext hw1).2.1).mono ?_
  rintro e w2 ⟨A, c, rfl, hsl, hb2⟩
  rw [show truthsTo (2 ^ W.springs.length) W.most W.misses W.alarms W.samples = truthsW W from rfl] at hsl ⊢
  go_wp2_with fail
  go_ret2
  exact ⟨A, c, rfl, hsl, by (repeat (first | (with_reducible exact Ext.refl _) | (with_reducible assumption) | (with_reducible refine Ext.alloc ?_ _) | (with_reducible refine Ext.trans ?_ (by with_reducible assumption)) | (with_reducible refine Ext.drew ?_) | (with_reducible refine Ext.setCell ?_ (by simp <;> omega) _)))⟩

/-! ### the reference's Clean -/
def sureTo (F : Nat) (l : List Nat) : Nat := l.foldl (fun s t => s &&& diffN F t) F
def mayTo (F : Nat) (l : List Nat) : Nat := l.foldl (fun s t => s ||| diffN F t) 0
theorem sureTo_succ (F : Nat) (l : List Nat) (k : Nat) (h : k < l.length) : sureTo F (l.take (k + 1)) = sureTo F (l.take k) &&& diffN F l[k] := by
  rw [List.take_succ_eq_append_getElem h]; unfold sureTo; rw [List.foldl_append]; rfl
theorem mayTo_succ (F : Nat) (l : List Nat) (k : Nat) (h : k < l.length) : mayTo F (l.take (k + 1)) = mayTo F (l.take k) ||| diffN F l[k] := by
  rw [List.take_succ_eq_append_getElem h]; unfold mayTo; rw [List.foldl_append]; rfl
theorem sureTo_bit (F : Nat) (l : List Nat) (i : Nat) : (sureTo F l).testBit i = true ↔ F.testBit i = true ∧ ∀ t ∈ l, t.testBit i = false := by
  have key : ∀ (l : List Nat) (s : Nat), (l.foldl (fun s t => s &&& diffN F t) s).testBit i = true ↔ s.testBit i = true ∧ ∀ t ∈ l, F.testBit i = true ∧ t.testBit i = false := by
    intro l
    induction l with
    | nil => intro s; simp
    | cons a l ih => intro s; rw [List.foldl_cons, ih]; simp [Nat.testBit_and, diffN_bit, and_assoc]
  unfold sureTo
  rw [key]
  exact ⟨fun ⟨a, b⟩ => ⟨a, fun t ht => (b t ht).2⟩, fun ⟨a, b⟩ => ⟨a, fun t ht => ⟨a, b t ht⟩⟩⟩
theorem mayTo_bit (F : Nat) (l : List Nat) (i : Nat) : (mayTo F l).testBit i = true ↔ ∃ t ∈ l, F.testBit i = true ∧ t.testBit i = false := by
  have key : ∀ (l : List Nat) (s : Nat), (l.foldl (fun s t => s ||| diffN F t) s).testBit i = true ↔ s.testBit i = true ∨ ∃ t ∈ l, F.testBit i = true ∧ t.testBit i = false := by
    intro l
    induction l with
    | nil => intro s; simp
    | cons a l ih => intro s; rw [List.foldl_cons, ih]; simp [Nat.testBit_or, diffN_bit, or_assoc]
  unfold mayTo
  rw [key]; simp
theorem sure_is (W : Water) : sureTo (fullN W) (truthsW W) = pureN W := by
  apply Nat.eq_of_testBit_eq
  intro i
  rw [Bool.eq_iff_iff, sureTo_bit, pure_bit, full_bit]
  simp
theorem may_is (W : Water) (hn : W.springs.length ≤ 8) : mayTo (fullN W) (truthsW W) = mayN W := by
  apply Nat.eq_of_testBit_eq
  intro i
  rw [Bool.eq_iff_iff, mayTo_bit, may_bit W hn, full_bit]
  simp only [decide_eq_true_eq]
  exact ⟨fun ⟨t, a, b, c⟩ => ⟨b, t, a, c⟩, fun ⟨b, t, a, c⟩ => ⟨t, a, b, c⟩⟩
theorem sureTo_lt {F : Nat} (hF : F < 256) (l : List Nat) : sureTo F l < 256 := by
  have key : ∀ (l : List Nat) (s : Nat), s < 256 → l.foldl (fun s t => s &&& diffN F t) s < 256 := by
    intro l
    induction l with
    | nil => intro s h; exact h
    | cons a l ih => intro s h; exact ih _ (Nat.lt_of_le_of_lt Nat.and_le_left h)
  exact key l F hF
theorem mayTo_lt {F : Nat} (hF : F < 256) (l : List Nat) : mayTo F l < 256 := by
  have key : ∀ (l : List Nat) (s : Nat), s < 256 → l.foldl (fun s t => s ||| diffN F t) s < 256 := by
    intro l
    induction l with
    | nil => intro s h; exact h
    | cons a l ih => intro s h; exact ih _ (Nat.or_lt_two_pow (n := 8) h (diffN_lt hF))
  exact key l 0 (by omega)
theorem refClean_err (As Am : Option Addr) (cs cm : Nat) (W : Water) (w : World) (hin : WaterIn w As Am W) (hn : W.springs.length ≤ 30) (hm : W.samples.length ≤ 1000000) (hE : openE W true ≠ 0) :
    Calls Tryd.prog 31 #[wvW As Am cs cm W] w fun e w' => e = .returned (.tuple #[.int .i64 0, .int .i64 0, .int .i64 (openE W true)]) ∧ Ext w w' := by
  have hE2 : (openE W true != 0) = true := by simpa using hE
  go_enter Tryd.func31, Tryd.ntmps31
  go_wp2_with fail
  refine (refT_err _ _ _ _ W _ (hin.ext (by (repeat (first | (with_reducible exact Ext.refl _) | (with_reducible assumption) | (with_reducible refine Ext.alloc ?_ _) | (with_reducible refine Ext.trans ?_ (by with_reducible assumption)) | (with_reducible refine Ext.drew ?_) | (with_reducible refine Ext.setCell ?_ (by simp <;> omega) _))))) hn hm hE).mono ?_
  rintro e w1 ⟨rfl, hb1⟩
  go_wp2_with fail
  go_ret3
  exact ⟨rfl, by (repeat (first | (with_reducible exact Ext.refl _) | (with_reducible assumption) | (with_reducible refine Ext.alloc ?_ _) | (with_reducible refine Ext.trans ?_ (by with_reducible assumption)) | (with_reducible refine Ext.drew ?_) | (with_reducible refine Ext.setCell ?_ (by simp <;> omega) _)))⟩
theorem refClean_ok (As Am : Option Addr) (cs cm : Nat) (W : Water) (w : World) (hin : WaterIn w As Am W) (hm : W.samples.length ≤ 1000000) (hE : openE W true = 0) :
    Calls Tryd.prog 31 #[wvW As Am cs cm W] w fun e w' => e = .returned (.tuple #[.int .i64 (pureN W), .int .i64 (mayN W), .int .i64 0]) ∧ Ext w w' := by
  obtain ⟨hv, _, hne⟩ := open_zero hE
  have hlen := truthsW_len hv
  have hn8 := (valid_len hv).2
  have hn30 : W.springs.length ≤ 30 := by omega
  have HV := Lib.hid hv
  have HIN := Lib.hid hin
  have HE := Lib.hid hE
  have hfl := fullN_lt hn8
  clear hin hE hv hne
  go_enter Tryd.func31, Tryd.ntmps31
  go_wp2_with fail
  refine (refT_ok _ _ _ _ W _ (HIN.out.ext (by (repeat (first | (with_reducible exact Ext.refl _) | (with_reducible assumption) | (with_reducible refine Ext.alloc ?_ _) | (with_reducible refine Ext.trans ?_ (by with_reducible assumption)) | (with_reducible refine Ext.drew ?_) | (with_reducible refine Ext.setCell ?_ (by simp <;> omega) _))))) hm HE.out).mono ?_
  rintro e w1 ⟨A, c, rfl, hsl, hb1⟩
  (have f0 := ((bcell hb1).1 w.heap.size 0 (by simp)).trans (show _ = some (.slice As W.springs.length cs) by go_simp); have f1 := ((bcell hb1).1 w.heap.size 1 (by simp)).trans (show _ = some (.int .i64 W.most) by go_simp); have f2 := ((bcell hb1).1 w.heap.size 2 (by simp)).trans (show _ = some (.int .i64 W.misses) by go_simp); have f3 := ((bcell hb1).1 w.heap.size 3 (by simp)).trans (show _ = some (.int .i64 W.alarms) by go_simp); have f4 := ((bcell hb1).1 w.heap.size 4 (by simp)).trans (show _ = some (.slice Am W.samples.length cm) by go_simp); have hz := Nat.lt_of_lt_of_le (show w.heap.size < (w.alloc _).heap.size by simp) (Below.size hb1))
  have HW1 := Lib.hid (show Ext w w1 by (repeat (first | (with_reducible exact Ext.refl _) | (with_reducible assumption) | (with_reducible refine Ext.alloc ?_ _) | (with_reducible refine Ext.trans ?_ (by with_reducible assumption)) | (with_reducible refine Ext.drew ?_) | (with_reducible refine Ext.setCell ?_ (by simp <;> omega) _))))
  clear hb1
  go_wp2_with fail
  refine (allW_any _ _ _ _ W _ hn30).mono ?_
  rintro e w2 ⟨rfl, hb2⟩
  (replace f0 := ((bcell hb2).1 _ 0 hz).trans f0; replace f1 := ((bcell hb2).1 _ 1 hz).trans f1; replace f2 := ((bcell hb2).1 _ 2 hz).trans f2; replace f3 := ((bcell hb2).1 _ 3 hz).trans f3; replace f4 := ((bcell hb2).1 _ 4 hz).trans f4; replace hz := Nat.lt_of_lt_of_le hz (Below.size hb2))
  have hsl2 := (hsl.below hb2 (Nat.le_refl _)).more (Below.size hb2)
  have HW2 := Lib.hid (HW1.out.trans hb2)
  clear hb2 hsl
  go_wp2_with fail
  go_loopg [2, 3, 6] (truthsW W).length (fun gk a b i wr => ∃ k : Nat, k + gk = (truthsW W).length ∧ i = .int .i64 k ∧ a = .int .i64 (sureTo (fullN W) ((truthsW W).take k) : Nat) ∧ b = .int .i64 (mayTo (fullN W) ((truthsW W).take k) : Nat) ∧ Ext w2 wr)
  case atStart => exact ⟨0, by omega, rfl, rfl, rfl, Ext.refl _⟩
  case round =>
    obtain ⟨k, hk, rfl, rfl, rfl, hb3⟩ := hrel
    have HK : k ≤ (truthsW W).length := by omega
    have HKG := Lib.hid hk
    have HB := Lib.hid hb3
    (replace f0 := ((bcell hb3).1 _ 0 hz).trans f0; replace f1 := ((bcell hb3).1 _ 1 hz).trans f1; replace f2 := ((bcell hb3).1 _ 2 hz).trans f2; replace f3 := ((bcell hb3).1 _ 3 hz).trans f3; replace f4 := ((bcell hb3).1 _ 4 hz).trans f4; replace hz := Nat.lt_of_lt_of_le hz (Below.size hb3))
    have hsz := hb3.size
    clear hk hb3
    have s8 := sureTo_lt hfl ((truthsW W).take k)
    have m8 := mayTo_lt hfl ((truthsW W).take k)
    by_cases hlt : k < (truthsW W).length
    · obtain ⟨b, off, rfl, hbl, hc⟩ := (hsl2.below HB.out (Nat.le_refl _)).at_ natI_len hlt
      have c0 := hc 0 _ (by omega) rfl
      clear hc
      simp only [Nat.add_zero, Nat.mul_one] at c0
      have hbz : b < wr.heap.size := by omega
      have hx := truthsW_mem HV.out (List.getElem_mem hlt)
      have HS1 := Lib.hid (sureTo_succ (fullN W) _ _ hlt)
      have HS2 := Lib.hid (mayTo_succ (fullN W) _ _ hlt)
      generalize (truthsW W)[k] = x at *
      have hd := diffN_lt (b := x) hfl
      have e1 := i64_andNot_is (fullN W) x hfl hx
      have e2 := i64_and_nat (sureTo (fullN W) ((truthsW W).take k)) (diffN (fullN W) x) (by omega) (by omega)
      have e3 := i64_or_nat (mayTo (fullN W) ((truthsW W).take k)) (diffN (fullN W) x) (by omega) (by omega)
      rw [← HS1.out] at e2
      rw [← HS2.out] at e3
      go_wp2_with fail
      (refine wp_region_ext (by kernel_rfl) (by kernel_rfl) (fun hX => ?_); (repeat (go_big_quiet_step ((go_at_call 19; exact quiet_ext (allW_any _ _ _ _ W _ hn30))))); refine wpQuiet_nil ?_; rintro w1 ⟨⟨_, hb1⟩, rfl⟩; (try dsimp only))
      go_wp2_with fail
      go_roundg (gk - 1)
      case measure => have := HKG.out; omega
      case rel => exact ⟨k + 1, by have := HKG.out; omega, by go_num, rfl, rfl, HB.out.trans hb1⟩
    · obtain rfl : k = (truthsW W).length := by omega
      have HF1 := Lib.hid (sure_is W)
      have HF2 := Lib.hid (may_is W hn8)
      rw [List.take_length]
      rw [HF1.out, HF2.out]
      go_wp2_with fail
      go_ret3
      exact ⟨rfl, HW2.out.trans HB.out⟩

/-! ### the reference's Pure -/
theorem refPure_err (As Am : Option Addr) (cs cm : Nat) (W : Water) (mix : Int) (w : World) (hin : WaterIn w As Am W) (hn : W.springs.length ≤ 30) (hm : W.samples.length ≤ 1000000) (hE : openE W (withinB mix 1 (2 ^ W.springs.length - 1)) ≠ 0) :
    Calls Tryd.prog 32 #[wvW As Am cs cm W, .int .i64 mix] w fun e w' => e = .returned (.tuple #[.bool false, .bool false, .int .i64 (openE W (withinB mix 1 (2 ^ W.springs.length - 1)))]) ∧ Ext w w' := by
  have HIN := Lib.hid hin
  clear hin
  cases hv : validB W
  · have HC := Lib.hid (show checkI W = 40 by simp [checkI, hv])
    rw [show openE W (withinB mix 1 (2 ^ W.springs.length - 1)) = 40 by simp [openE, hv]]
    clear hE hv
    go_enter Tryd.func32, Tryd.ntmps32
    go_wp2_with fail
    refine (refCheck_any _ _ _ _ W _ (HIN.out.ext (by (repeat (first | (with_reducible exact Ext.refl _) | (with_reducible assumption) | (with_reducible refine Ext.alloc ?_ _) | (with_reducible refine Ext.trans ?_ (by with_reducible assumption)) | (with_reducible refine Ext.drew ?_) | (with_reducible refine Ext.setCell ?_ (by simp <;> omega) _))))) hn hm).mono ?_
    rintro e w1 ⟨rfl, hb1⟩
    rw [HC.out]
    go_wp2_with fail
    go_ret3
    exact ⟨rfl, by (repeat (first | (with_reducible exact Ext.refl _) | (with_reducible assumption) | (with_reducible refine Ext.alloc ?_ _) | (with_reducible refine Ext.trans ?_ (by with_reducible assumption)) | (with_reducible refine Ext.drew ?_) | (with_reducible refine Ext.setCell ?_ (by simp <;> omega) _)))⟩
  have HC := Lib.hid (show checkI W = 0 by simp [checkI, hv])
  cases hx : withinB mix 1 (2 ^ W.springs.length - 1)
  · have HX := Lib.hid hx
    rw [show openE W false = 1 by simp [openE, hv]]
    clear hE hv hx
    go_enter Tryd.func32, Tryd.ntmps32
    go_wp2_with fail
    refine (refCheck_any _ _ _ _ W _ (HIN.out.ext (by (repeat (first | (with_reducible exact Ext.refl _) | (with_reducible assumption) | (with_reducible refine Ext.alloc ?_ _) | (with_reducible refine Ext.trans ?_ (by with_reducible assumption)) | (with_reducible refine Ext.drew ?_) | (with_reducible refine Ext.setCell ?_ (by simp <;> omega) _))))) hn hm).mono ?_
    rintro e w1 ⟨rfl, hb1⟩
    rw [HC.out]
    (have f0 := ((bcell hb1).1 w.heap.size 0 (by simp)).trans (show _ = some (.slice As W.springs.length cs) by go_simp); have f1 := ((bcell hb1).1 w.heap.size 1 (by simp)).trans (show _ = some (.int .i64 W.most) by go_simp); have f2 := ((bcell hb1).1 w.heap.size 2 (by simp)).trans (show _ = some (.int .i64 W.misses) by go_simp); have f3 := ((bcell hb1).1 w.heap.size 3 (by simp)).trans (show _ = some (.int .i64 W.alarms) by go_simp); have f4 := ((bcell hb1).1 w.heap.size 4 (by simp)).trans (show _ = some (.slice Am W.samples.length cm) by go_simp); have hz := Nat.lt_of_lt_of_le (show w.heap.size < (w.alloc _).heap.size by simp) (Below.size hb1))
    have hw1 : Ext w w1 := by (repeat (first | (with_reducible exact Ext.refl _) | (with_reducible assumption) | (with_reducible refine Ext.alloc ?_ _) | (with_reducible refine Ext.trans ?_ (by with_reducible assumption)) | (with_reducible refine Ext.drew ?_) | (with_reducible refine Ext.setCell ?_ (by simp <;> omega) _)))
    clear hb1
    go_wp2_with fail
    refine (isMix_is _ _ _ _ _ _ _ _ _ _ _ hn HX.out).mono ?_
    rintro e w2 ⟨rfl, hb2⟩
    go_wp2_with fail
    go_ret3
    exact ⟨rfl, by (repeat (first | (with_reducible exact Ext.refl _) | (with_reducible assumption) | (with_reducible refine Ext.alloc ?_ _) | (with_reducible refine Ext.trans ?_ (by with_reducible assumption)) | (with_reducible refine Ext.drew ?_) | (with_reducible refine Ext.setCell ?_ (by simp <;> omega) _)))⟩
  have HX := Lib.hid hx
  have hE2 : openE W true ≠ 0 := by rw [hx] at hE; exact hE
  have hE3 : (openE W true != 0) = true := by simpa using hE2
  clear hE hv hx
  go_enter Tryd.func32, Tryd.ntmps32
  go_wp2_with fail
  refine (refCheck_any _ _ _ _ W _ (HIN.out.ext (by (repeat (first | (with_reducible exact Ext.refl _) | (with_reducible assumption) | (with_reducible refine Ext.alloc ?_ _) | (with_reducible refine Ext.trans ?_ (by with_reducible assumption)) | (with_reducible refine Ext.drew ?_) | (with_reducible refine Ext.setCell ?_ (by simp <;> omega) _))))) hn hm).mono ?_
  rintro e w1 ⟨rfl, hb1⟩
  rw [HC.out]
  (have f0 := ((bcell hb1).1 w.heap.size 0 (by simp)).trans (show _ = some (.slice As W.springs.length cs) by go_simp); have f1 := ((bcell hb1).1 w.heap.size 1 (by simp)).trans (show _ = some (.int .i64 W.most) by go_simp); have f2 := ((bcell hb1).1 w.heap.size 2 (by simp)).trans (show _ = some (.int .i64 W.misses) by go_simp); have f3 := ((bcell hb1).1 w.heap.size 3 (by simp)).trans (show _ = some (.int .i64 W.alarms) by go_simp); have f4 := ((bcell hb1).1 w.heap.size 4 (by simp)).trans (show _ = some (.slice Am W.samples.length cm) by go_simp); have hz := Nat.lt_of_lt_of_le (show w.heap.size < (w.alloc _).heap.size by simp) (Below.size hb1))
  have hw1 : Ext w w1 := by (repeat (first | (with_reducible exact Ext.refl _) | (with_reducible assumption) | (with_reducible refine Ext.alloc ?_ _) | (with_reducible refine Ext.trans ?_ (by with_reducible assumption)) | (with_reducible refine Ext.drew ?_) | (with_reducible refine Ext.setCell ?_ (by simp <;> omega) _)))
  clear hb1
  go_wp2_with fail
  refine (isMix_is _ _ _ _ _ _ _ _ _ _ _ hn HX.out).mono ?_
  rintro e w2 ⟨rfl, hb2⟩
  (replace f0 := ((bcell hb2).1 _ 0 hz).trans f0; replace f1 := ((bcell hb2).1 _ 1 hz).trans f1; replace f2 := ((bcell hb2).1 _ 2 hz).trans f2; replace f3 := ((bcell hb2).1 _ 3 hz).trans f3; replace f4 := ((bcell hb2).1 _ 4 hz).trans f4; replace hz := Nat.lt_of_lt_of_le hz (Below.size hb2))
  have hw2 : Ext w w2 := by (repeat (first | (with_reducible exact Ext.refl _) | (with_reducible assumption) | (with_reducible refine Ext.alloc ?_ _) | (with_reducible refine Ext.trans ?_ (by with_reducible assumption)) | (with_reducible refine Ext.drew ?_) | (with_reducible refine Ext.setCell ?_ (by simp <;> omega) _)))
  clear hb2 hw1
  go_wp2_with fail
  refine (refT_err _ _ _ _ W _ (HIN.out.ext hw2) hn hm hE2).mono ?_
  rintro e w3 ⟨rfl, hb3⟩
  go_wp2_with fail
  go_ret3
  exact ⟨rfl, by (repeat (first | (with_reducible exact Ext.refl _) | (with_reducible assumption) | (with_reducible refine Ext.alloc ?_ _) | (with_reducible refine Ext.trans ?_ (by with_reducible assumption)) | (with_reducible refine Ext.drew ?_) | (with_reducible refine Ext.setCell ?_ (by simp <;> omega) _)))⟩
def pureTo (l : List Nat) (m : Nat) : Bool := l.all fun t => t &&& m == 0
def somePure (l : List Nat) (m : Nat) : Bool := l.any fun t => t &&& m == 0
theorem pureTo_succ (l : List Nat) (m k : Nat) (h : k < l.length) : pureTo (l.take (k + 1)) m = (pureTo (l.take k) m && (l[k] &&& m == 0)) := by
  rw [List.take_succ_eq_append_getElem h]; unfold pureTo; rw [List.all_append]; simp
theorem somePure_succ (l : List Nat) (m k : Nat) (h : k < l.length) : somePure (l.take (k + 1)) m = (somePure (l.take k) m || (l[k] &&& m == 0)) := by
  rw [List.take_succ_eq_append_getElem h]; unfold somePure; rw [List.any_append]; simp
theorem pureTo_is (l : List Nat) (m : Nat) : pureTo l m = ((cleanN l m : Int) == (l.length : Int)) := by
  rw [Bool.eq_iff_iff]
  unfold pureTo cleanN
  rw [List.all_eq_true, beq_iff_eq]
  rw [show ((List.countP (fun t => t &&& m == 0) l : Int) = (l.length : Int)) ↔ List.countP (fun t => t &&& m == 0) l = l.length by omega]
  exact List.countP_eq_length.symm
theorem somePure_is (l : List Nat) (m : Nat) : somePure l m = decide (0 < cleanN l m) := by
  rw [Bool.eq_iff_iff]
  unfold somePure cleanN
  rw [List.any_eq_true, decide_eq_true_eq]
  exact List.countP_pos_iff.symm
theorem refPure_ok (As Am : Option Addr) (cs cm : Nat) (W : Water) (m : Nat) (w : World) (hin : WaterIn w As Am W) (hm : W.samples.length ≤ 1000000) (hE : openE W true = 0) (hm1 : 1 ≤ m) (hm2 : m ≤ 2 ^ W.springs.length - 1) :
    Calls Tryd.prog 32 #[wvW As Am cs cm W, .int .i64 (m : Int)] w fun e w' => e = .returned (.tuple #[.bool ((cleanN (truthsW W) m : Int) == ((truthsW W).length : Int)), .bool (decide (0 < cleanN (truthsW W) m)), .int .i64 0]) ∧ Ext w w' := by
  obtain ⟨hv, _, hne⟩ := open_zero hE
  have hlen := truthsW_len hv
  have hn8 := (valid_len hv).2
  have hn30 : W.springs.length ≤ 30 := by omega
  have hp8 := pow_le8 hn8
  have HX := Lib.hid (show withinB (m : Int) 1 (2 ^ W.springs.length - 1) = true by
    have e : ((2 ^ W.springs.length : Nat) : Int) = 2 ^ W.springs.length := by simp
    exact withinB_mk ⟨by omega, by omega⟩)
  have HC := Lib.hid (show checkI W = 0 by simp [checkI, hv])
  have HV := Lib.hid hv
  have HIN := Lib.hid hin
  have HE := Lib.hid hE
  have hm8 : m < 256 := by omega
  clear hin hE hv hne
  rw [← pureTo_is, ← somePure_is]
  go_enter Tryd.func32, Tryd.ntmps32
  go_wp2_with fail
  refine (refCheck_any _ _ _ _ W _ (HIN.out.ext (by (repeat (first | (with_reducible exact Ext.refl _) | (with_reducible assumption) | (with_reducible refine Ext.alloc ?_ _) | (with_reducible refine Ext.trans ?_ (by with_reducible assumption)) | (with_reducible refine Ext.drew ?_) | (with_reducible refine Ext.setCell ?_ (by simp <;> omega) _))))) hn30 hm).mono ?_
  rintro e w1 ⟨rfl, hb1⟩
  rw [HC.out]
  (have f0 := ((bcell hb1).1 w.heap.size 0 (by simp)).trans (show _ = some (.slice As W.springs.length cs) by go_simp); have f1 := ((bcell hb1).1 w.heap.size 1 (by simp)).trans (show _ = some (.int .i64 W.most) by go_simp); have f2 := ((bcell hb1).1 w.heap.size 2 (by simp)).trans (show _ = some (.int .i64 W.misses) by go_simp); have f3 := ((bcell hb1).1 w.heap.size 3 (by simp)).trans (show _ = some (.int .i64 W.alarms) by go_simp); have f4 := ((bcell hb1).1 w.heap.size 4 (by simp)).trans (show _ = some (.slice Am W.samples.length cm) by go_simp); have hz := Nat.lt_of_lt_of_le (show w.heap.size < (w.alloc _).heap.size by simp) (Below.size hb1))
  have hw1 : Ext w w1 := by (repeat (first | (with_reducible exact Ext.refl _) | (with_reducible assumption) | (with_reducible refine Ext.alloc ?_ _) | (with_reducible refine Ext.trans ?_ (by with_reducible assumption)) | (with_reducible refine Ext.drew ?_) | (with_reducible refine Ext.setCell ?_ (by simp <;> omega) _)))
  clear hb1
  go_wp2_with fail
  refine (isMix_is _ _ _ _ _ _ _ _ _ _ _ hn30 HX.out).mono ?_
  rintro e w2 ⟨rfl, hb2⟩
  (replace f0 := ((bcell hb2).1 _ 0 hz).trans f0; replace f1 := ((bcell hb2).1 _ 1 hz).trans f1; replace f2 := ((bcell hb2).1 _ 2 hz).trans f2; replace f3 := ((bcell hb2).1 _ 3 hz).trans f3; replace f4 := ((bcell hb2).1 _ 4 hz).trans f4; replace hz := Nat.lt_of_lt_of_le hz (Below.size hb2))
  have hw2 : Ext w w2 := by (repeat (first | (with_reducible exact Ext.refl _) | (with_reducible assumption) | (with_reducible refine Ext.alloc ?_ _) | (with_reducible refine Ext.trans ?_ (by with_reducible assumption)) | (with_reducible refine Ext.drew ?_) | (with_reducible refine Ext.setCell ?_ (by simp <;> omega) _)))
  clear hb2 hw1
  go_wp2_with fail
  refine (refT_ok _ _ _ _ W _ (HIN.out.ext hw2) hm HE.out).mono ?_
  rintro e w3 ⟨A, c, rfl, hsl, hb3⟩
  have HW3 := Lib.hid (show Ext w w3 by (repeat (first | (with_reducible exact Ext.refl _) | (with_reducible assumption) | (with_reducible refine Ext.alloc ?_ _) | (with_reducible refine Ext.trans ?_ (by with_reducible assumption)) | (with_reducible refine Ext.drew ?_) | (with_reducible refine Ext.setCell ?_ (by simp <;> omega) _))))
  clear hb3 hw2 f0 f1 f2 f3 f4
  go_wp2_with fail
  go_loopg [4, 5, 8] (truthsW W).length (fun gk a b i wr => ∃ k : Nat, k + gk = (truthsW W).length ∧ i = .int .i64 k ∧ a = .bool (pureTo ((truthsW W).take k) m) ∧ b = .bool (somePure ((truthsW W).take k) m) ∧ w3 = wr)
  case atStart => exact ⟨0, by omega, rfl, rfl, rfl, rfl⟩
  case round =>
    obtain ⟨k, hk, rfl, rfl, rfl, rfl⟩ := hrel
    have HK : k ≤ (truthsW W).length := by omega
    have HKG := Lib.hid hk
    clear hk
    by_cases hlt : k < (truthsW W).length
    · obtain ⟨b, off, rfl, hbl, hc⟩ := hsl.at_ natI_len hlt
      have c0 := hc 0 _ (by omega) rfl
      clear hc
      simp only [Nat.add_zero, Nat.mul_one] at c0
      have hx := truthsW_mem HV.out (List.getElem_mem hlt)
      have HS1 := Lib.hid (pureTo_succ _ m _ hlt)
      have HS2 := Lib.hid (somePure_succ _ m _ hlt)
      generalize (truthsW W)[k] = x at *
      have e1 := i64_and_nat x m (by omega) (by omega)
      have e2 : (((x &&& m : Nat) : Int) == 0) = (x &&& m == 0) := by rw [Bool.eq_iff_iff]; simp
      generalize (x &&& m == 0) = g at *
      generalize hp : pureTo ((truthsW W).take k) m = p at *
      generalize hq : somePure ((truthsW W).take k) m = q at *
      clear hp hq
      cases g <;> cases p <;> cases q
      all_goals
        go_wp2_with fail
        go_roundg (gk - 1)
        case measure => have := HKG.out; omega
        case rel => exact ⟨k + 1, by have := HKG.out; omega, by go_num, by rw [HS1.out]; rfl, by rw [HS2.out]; rfl, rfl⟩
    · obtain rfl : k = (truthsW W).length := by omega
      rw [List.take_length]
      go_wp2_with fail
      go_ret3
      exact ⟨rfl, HW3.out⟩
end Go.Proofs.YtabcmnfofekeeaaDoor
