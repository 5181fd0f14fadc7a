/- The law WaterBest of layer 4 (water) answers true at every input, and its arguments read afterwards as they read before.
   Conditions: the row's own: the two tables of the package of bit operations hold what the program's text lays in them (the card ties that to the text); no bound on the arguments' size. -/
import Derived.Test.YtabcmnfofekeeaaDoorWat33
import Derived.Test.YtabcmnfofekeeaaDoorWat35
import Derived.Test.YtabcmnfofekeeaaDoorWat38
namespace Go.Proofs.YtabcmnfofekeeaaDoor
open Go Go.Proofs Go.RowKit Go.Shelf
set_option maxHeartbeats 1000000
set_option maxRecDepth 20000
open Go.ChangeShapes Go.WideShapes Go.ChangeAt

/-! ### plain facts for WaterBest -/
theorem clL_len (l : List Nat) (m : Nat) : (clL l m).length = cleanN l m := by unfold clL cleanN; rw [List.countP_eq_length_filter]
theorem foL_len (l : List Nat) (m : Nat) : (foL l m).length = l.length - cleanN l m := by
  have h : (clL l m).length + (foL l m).length = l.length := by
    unfold clL foL
    induction l with
    | nil => rfl
    | cons a l ih =>
      simp only [List.filter_cons]
      cases h : (a &&& m == 0)
      · simp; omega
      · simp; omega
  rw [clL_len] at h
  omega
theorem best_law (l : List Nat) (K : Nat) (hK : 1 ≤ K) : 1 ≤ (bestTo l K).1 ∧ (bestTo l K).1 ≤ K ∧ nOf l (bestTo l K).1 = (bestTo l K).2 ∧
    ∀ m, 1 ≤ m → m ≤ K → (bestTo l K).2 < nOf l m ∨ (nOf l m = (bestTo l K).2 ∧ (bestTo l K).1 ≤ m) := by
  induction K with
  | zero => omega
  | succ k ih =>
    have hd : bestTo l (k + 1) = if nOf l (k + 1) < (bestTo l k).2 then (k + 1, nOf l (k + 1)) else bestTo l k := rfl
    by_cases h0 : k = 0
    · subst h0
      have e : bestTo l 1 = (1, nOf l 1) := by
        rw [hd, if_pos]
        have := nOf_le l 1
        show nOf l 1 < l.length + 1
        omega
      rw [e]
      refine ⟨by simp, by simp, rfl, fun m h1 h2 => .inr ?_⟩
      obtain rfl : m = 1 := by omega
      exact ⟨rfl, by simp⟩
    · obtain ⟨i1, i2, i3, i4⟩ := ih (by omega)
      rw [hd]
      split
      · next hlt =>
        refine ⟨by simp, by simp, rfl, fun m h1 h2 => ?_⟩
        dsimp only
        by_cases hm : m = k + 1
        · subst hm; exact .inr ⟨rfl, Nat.le_refl _⟩
        · rcases i4 m h1 (by omega) with h | h <;> exact .inl (by omega)
      · next hge =>
        refine ⟨i1, by omega, i3, fun m h1 h2 => ?_⟩
        by_cases hm : m = k + 1
        · subst hm
          rcases Nat.lt_or_ge (bestTo l k).2 (nOf l (k + 1)) with h | h
          · exact .inl h
          · exact .inr ⟨by omega, by omega⟩
        · exact i4 m h1 (by omega)
theorem max_len (l : List Nat) (m : Nat) : (if ((clL l m).length : Int) < ((foL l m).length : Int) then ((foL l m).length : Int) else ((clL l m).length : Int)) = (nOf l m : Int) := by
  rw [clL_len, foL_len]
  unfold nOf
  split <;> omega
/-! ### the law -/
def bestA (W : Water) : Int := if openE W true = 0 then ((bestTo (truthsW W) (fullN W)).1 : Int) else 0
def bestB (W : Water) : Int := if openE W true = 0 then ((bestTo (truthsW W) (fullN W)).2 : Int) else 0
theorem best_u (As Am : Option Addr) (cs cm : Nat) (W : Water) (w : World) (hin : WaterIn w As Am W) :
    Calls Tryd.prog 23 #[wvW As Am cs cm W] w fun e w' => e = .returned (.tuple #[.int .i64 (bestA W), .int .i64 (bestB W), .int .i64 (openE W true)]) ∧ Ext w w' := by
  by_cases hE : openE W true = 0
  · rw [bestA, bestB, if_pos hE, if_pos hE, hE]
    exact best_ok _ _ _ _ W w hin hE
  · rw [bestA, bestB, if_neg hE, if_neg hE]
    exact best_err _ _ _ _ W w hin hE
theorem isMixW (As Am : Option Addr) (cs cm : Nat) (W : Water) (x : Int) (w : World) (hn : W.springs.length ≤ 30) {v : Bool} (hv : withinB x 1 (2 ^ W.springs.length - 1) = v) :
    Calls Tryd.prog 22 #[wvW As Am cs cm W, .int .i64 x] w fun e w' => e = .returned (.bool v) ∧ Ext w w' := isMix_is _ _ _ _ _ _ _ _ _ _ _ hn hv
theorem bestLaw_any (As Am : Option Addr) (cs cm : Nat) (W : Water) (mix : Int) (w : World) (hin : WaterIn w As Am W) (ht : TabIn w) :
    Calls Tryd.prog 5 #[wvW As Am cs cm W, .int .i64 mix] w fun e w' => e = .returned (.bool true) ∧ Ext w w' := by
  have HIN := Lib.hid hin
  have HT := Lib.hid ht
  clear hin ht
  cases hv : (!farB W && validB W)
  · have HV := Lib.hid hv
    clear hv
    go_enter Tryd.func5, Tryd.ntmps5
    go_wp2_with fail
    refine (valid_v _ _ _ _ W _ (HIN.out.ext (by (repeat (first | (with_reducible exact Ext.refl _) | (with_reducible assumption) | (with_reducible refine Ext.alloc ?_ _) | (with_reducible refine Ext.trans ?_ (by with_reducible assumption)) | (with_reducible refine Ext.drew ?_) | (with_reducible refine Ext.setCell ?_ (by simp <;> omega) _))))) HV.out).mono ?_
    rintro e w1 ⟨rfl, hb1⟩
    go_wp2_with fail
    refine (works_any _ (HT.out.ext (by (repeat (first | (with_reducible exact Ext.refl _) | (with_reducible assumption) | (with_reducible refine Ext.alloc ?_ _) | (with_reducible refine Ext.trans ?_ (by with_reducible assumption)) | (with_reducible refine Ext.drew ?_) | (with_reducible refine Ext.setCell ?_ (by simp <;> omega) _)))))).mono ?_
    rintro e w2 ⟨rfl, hb2⟩
    go_wp2_with fail
    go_ret
    exact ⟨rfl, by (repeat (first | (with_reducible exact Ext.refl _) | (with_reducible assumption) | (with_reducible refine Ext.alloc ?_ _) | (with_reducible refine Ext.trans ?_ (by with_reducible assumption)) | (with_reducible refine Ext.drew ?_) | (with_reducible refine Ext.setCell ?_ (by simp <;> omega) _)))⟩
  have hvb : validB W = true := by simp only [Bool.and_eq_true] at hv; exact hv.2
  have hn := valid_len hvb
  have hn30 : W.springs.length ≤ 30 := by omega
  have HV := Lib.hid hv
  have HVB := Lib.hid hvb
  clear hv hvb
  cases hx : withinB mix 1 (2 ^ W.springs.length - 1)
  · have HX := Lib.hid hx
    clear hx
    go_enter Tryd.func5, Tryd.ntmps5
    go_wp2_with fail
    refine (valid_v _ _ _ _ W _ (HIN.out.ext (by (repeat (first | (with_reducible exact Ext.refl _) | (with_reducible assumption) | (with_reducible refine Ext.alloc ?_ _) | (with_reducible refine Ext.trans ?_ (by with_reducible assumption)) | (with_reducible refine Ext.drew ?_) | (with_reducible refine Ext.setCell ?_ (by simp <;> omega) _))))) HV.out).mono ?_
    rintro e w1 ⟨rfl, hb1⟩
    (have f0 := ((bcell hb1).1 w.heap.size 0 (by simp)).trans (show _ = some (.slice As W.springs.length cs) by go_simp); have f1 := ((bcell hb1).1 w.heap.size 1 (by simp)).trans (show _ = some (.int .i64 W.most) by go_simp); have f2 := ((bcell hb1).1 w.heap.size 2 (by simp)).trans (show _ = some (.int .i64 W.misses) by go_simp); have f3 := ((bcell hb1).1 w.heap.size 3 (by simp)).trans (show _ = some (.int .i64 W.alarms) by go_simp); have f4 := ((bcell hb1).1 w.heap.size 4 (by simp)).trans (show _ = some (.slice Am W.samples.length cm) by go_simp); have hz := Nat.lt_of_lt_of_le (show w.heap.size < (w.alloc _).heap.size by simp) (Below.size hb1))
    go_wp2_with fail
    refine (isMixW _ _ _ _ W mix _ hn30 HX.out).mono ?_
    rintro e w2 ⟨rfl, hb2⟩
    go_wp2_with fail
    refine (works_any _ (HT.out.ext (by (repeat (first | (with_reducible exact Ext.refl _) | (with_reducible assumption) | (with_reducible refine Ext.alloc ?_ _) | (with_reducible refine Ext.trans ?_ (by with_reducible assumption)) | (with_reducible refine Ext.drew ?_) | (with_reducible refine Ext.setCell ?_ (by simp <;> omega) _)))))).mono ?_
    rintro e w3 ⟨rfl, hb3⟩
    go_wp2_with fail
    go_ret
    exact ⟨rfl, by (repeat (first | (with_reducible exact Ext.refl _) | (with_reducible assumption) | (with_reducible refine Ext.alloc ?_ _) | (with_reducible refine Ext.trans ?_ (by with_reducible assumption)) | (with_reducible refine Ext.drew ?_) | (with_reducible refine Ext.setCell ?_ (by simp <;> omega) _)))⟩
  have HX := Lib.hid hx
  have hw := withinB_true hx
  have e2 : ((2 ^ W.springs.length : Nat) : Int) = 2 ^ W.springs.length := by simp
  obtain ⟨m, rfl⟩ := Int.eq_ofNat_of_zero_le (show 0 ≤ mix by omega)
  have hp0 := pow_pos2 W.springs.length
  have hp8 := pow_le8 hn.2
  have hm1 : 1 ≤ m := by omega
  have hm2 : m ≤ fullN W := by unfold fullN; omega
  have hfl := fullN_lt hn.2
  clear hx hw e2
  have hE03 := openE_03 HVB.out
  by_cases hE : openE W true = 0
  rotate_left
  · have hE3 : openE W true = 3 := hE03.resolve_left hE
    have HE3 := Lib.hid hE3
    have HB := Lib.hid (show bestA W = 0 ∧ bestB W = 0 by unfold bestA bestB; exact ⟨if_neg hE, if_neg hE⟩)
    clear hE hE3 hE03
    go_enter Tryd.func5, Tryd.ntmps5
    go_wp2_with fail
    refine (valid_v _ _ _ _ W _ (HIN.out.ext (by (repeat (first | (with_reducible exact Ext.refl _) | (with_reducible assumption) | (with_reducible refine Ext.alloc ?_ _) | (with_reducible refine Ext.trans ?_ (by with_reducible assumption)) | (with_reducible refine Ext.drew ?_) | (with_reducible refine Ext.setCell ?_ (by simp <;> omega) _))))) HV.out).mono ?_
    rintro e w1 ⟨rfl, hb1⟩
    (have f0 := ((bcell hb1).1 w.heap.size 0 (by simp)).trans (show _ = some (.slice As W.springs.length cs) by go_simp); have f1 := ((bcell hb1).1 w.heap.size 1 (by simp)).trans (show _ = some (.int .i64 W.most) by go_simp); have f2 := ((bcell hb1).1 w.heap.size 2 (by simp)).trans (show _ = some (.int .i64 W.misses) by go_simp); have f3 := ((bcell hb1).1 w.heap.size 3 (by simp)).trans (show _ = some (.int .i64 W.alarms) by go_simp); have f4 := ((bcell hb1).1 w.heap.size 4 (by simp)).trans (show _ = some (.slice Am W.samples.length cm) by go_simp); have hz := Nat.lt_of_lt_of_le (show w.heap.size < (w.alloc _).heap.size by simp) (Below.size hb1))
    have HW1 := Lib.hid (show Ext w w1 by (repeat (first | (with_reducible exact Ext.refl _) | (with_reducible assumption) | (with_reducible refine Ext.alloc ?_ _) | (with_reducible refine Ext.trans ?_ (by with_reducible assumption)) | (with_reducible refine Ext.drew ?_) | (with_reducible refine Ext.setCell ?_ (by simp <;> omega) _))))
    clear hb1
    go_wp2_with fail
    refine (isMixW _ _ _ _ W _ _ hn30 HX.out).mono ?_
    rintro e w2 ⟨rfl, hb2⟩
    (replace f0 := ((bcell hb2).1 _ 0 hz).trans f0; replace f1 := ((bcell hb2).1 _ 1 hz).trans f1; replace f2 := ((bcell hb2).1 _ 2 hz).trans f2; replace f3 := ((bcell hb2).1 _ 3 hz).trans f3; replace f4 := ((bcell hb2).1 _ 4 hz).trans f4; replace hz := Nat.lt_of_lt_of_le hz (Below.size hb2))
    have HW2 := Lib.hid (HW1.out.trans hb2)
    clear hb2
    go_wp2_with fail
    refine (truths_u _ _ _ _ W _ (HIN.out.ext HW2.out)).mono ?_
    rintro e w3 ⟨A3, c3, rfl, hs3, hb3⟩
    rw [HE3.out]
    (replace f0 := ((bcell hb3).1 _ 0 hz).trans f0; replace f1 := ((bcell hb3).1 _ 1 hz).trans f1; replace f2 := ((bcell hb3).1 _ 2 hz).trans f2; replace f3 := ((bcell hb3).1 _ 3 hz).trans f3; replace f4 := ((bcell hb3).1 _ 4 hz).trans f4; replace hz := Nat.lt_of_lt_of_le hz (Below.size hb3))
    have HW3 := Lib.hid (HW2.out.trans hb3)
    clear hb3
    go_wp2_with fail
    refine (best_u _ _ _ _ W _ (HIN.out.ext HW3.out)).mono ?_
    rintro e w4 ⟨rfl, hb4⟩
    rw [HE3.out]
    have HW4 := Lib.hid (HW3.out.trans hb4)
    clear hb4
    go_wp2_with fail
    refine (works_any _ (HT.out.ext HW4.out)).mono ?_
    rintro e w5 ⟨rfl, hb5⟩
    go_wp2_with fail
    go_ret
    exact ⟨rfl, HW4.out.trans hb5⟩
  have hlaw := best_law (truthsW W) (fullN W) (by omega)
  have HL := Lib.hid (show truthsL W = truthsW W by unfold truthsL; rw [if_pos hE])
  have HB := Lib.hid (show bestA W = ((bestTo (truthsW W) (fullN W)).1 : Int) ∧ bestB W = ((bestTo (truthsW W) (fullN W)).2 : Int) by unfold bestA bestB; exact ⟨if_pos hE, if_pos hE⟩)
  have hlen := truthsW_len HVB.out
  have HE := Lib.hid hE
  have HM := Lib.hid (fun t ht => truthsW_mem HVB.out (t := t) ht)
  obtain ⟨q1, q2, q3, q4⟩ := hlaw
  have q5 := q4 m hm1 hm2
  generalize hbt : bestTo (truthsW W) (fullN W) = bt at *
  obtain ⟨b, left⟩ := bt
  dsimp only at q1 q2 q3 q5 HB
  have mx1 := max_len (truthsW W) b
  have mx2 := max_len (truthsW W) m
  rw [q3] at mx1
  have hb8 : b < 256 := by omega
  have HBX := Lib.hid (show withinB (b : Int) 1 (2 ^ W.springs.length - 1) = true by
    have e2 : ((2 ^ W.springs.length : Nat) : Int) = 2 ^ W.springs.length := by simp
    have : fullN W = 2 ^ W.springs.length - 1 := rfl
    exact withinB_mk ⟨by omega, by omega⟩)
  clear hE hE03 hbt q4 q3
  go_enter Tryd.func5, Tryd.ntmps5
  go_wp2_with fail
  refine (valid_v _ _ _ _ W _ (HIN.out.ext (by (repeat (first | (with_reducible exact Ext.refl _) | (with_reducible assumption) | (with_reducible refine Ext.alloc ?_ _) | (with_reducible refine Ext.trans ?_ (by with_reducible assumption)) | (with_reducible refine Ext.drew ?_) | (with_reducible refine Ext.setCell ?_ (by simp <;> omega) _))))) HV.out).mono ?_
  rintro e w1 ⟨rfl, hb1⟩
  (have f0 := ((bcell hb1).1 w.heap.size 0 (by simp)).trans (show _ = some (.slice As W.springs.length cs) by go_simp); have f1 := ((bcell hb1).1 w.heap.size 1 (by simp)).trans (show _ = some (.int .i64 W.most) by go_simp); have f2 := ((bcell hb1).1 w.heap.size 2 (by simp)).trans (show _ = some (.int .i64 W.misses) by go_simp); have f3 := ((bcell hb1).1 w.heap.size 3 (by simp)).trans (show _ = some (.int .i64 W.alarms) by go_simp); have f4 := ((bcell hb1).1 w.heap.size 4 (by simp)).trans (show _ = some (.slice Am W.samples.length cm) by go_simp); have hz := Nat.lt_of_lt_of_le (show w.heap.size < (w.alloc _).heap.size by simp) (Below.size hb1))
  have HW1 := Lib.hid (show Ext w w1 by (repeat (first | (with_reducible exact Ext.refl _) | (with_reducible assumption) | (with_reducible refine Ext.alloc ?_ _) | (with_reducible refine Ext.trans ?_ (by with_reducible assumption)) | (with_reducible refine Ext.drew ?_) | (with_reducible refine Ext.setCell ?_ (by simp <;> omega) _))))
  clear hb1
  go_wp2_with fail
  refine (isMixW _ _ _ _ W _ _ hn30 HX.out).mono ?_
  rintro e w2 ⟨rfl, hb2⟩
  (replace f0 := ((bcell hb2).1 _ 0 hz).trans f0; replace f1 := ((bcell hb2).1 _ 1 hz).trans f1; replace f2 := ((bcell hb2).1 _ 2 hz).trans f2; replace f3 := ((bcell hb2).1 _ 3 hz).trans f3; replace f4 := ((bcell hb2).1 _ 4 hz).trans f4; replace hz := Nat.lt_of_lt_of_le hz (Below.size hb2))
  have HW2 := Lib.hid (HW1.out.trans hb2)
  clear hb2
  go_wp2_with fail
  refine (truths_u _ _ _ _ W _ (HIN.out.ext HW2.out)).mono ?_
  rintro e w3 ⟨A3, c3, rfl, hs3, hb3⟩
  rw [HE.out]
  rw [HL.out] at hs3 ⊢
  (replace f0 := ((bcell hb3).1 _ 0 hz).trans f0; replace f1 := ((bcell hb3).1 _ 1 hz).trans f1; replace f2 := ((bcell hb3).1 _ 2 hz).trans f2; replace f3 := ((bcell hb3).1 _ 3 hz).trans f3; replace f4 := ((bcell hb3).1 _ 4 hz).trans f4; replace hz := Nat.lt_of_lt_of_le hz (Below.size hb3))
  have HW3 := Lib.hid (HW2.out.trans hb3)
  clear hb3
  go_wp2_with fail
  refine (best_u _ _ _ _ W _ (HIN.out.ext HW3.out)).mono ?_
  rintro e w4 ⟨rfl, hb4⟩
  rw [HE.out, HB.out.1, HB.out.2]
  (replace f0 := ((bcell hb4).1 _ 0 hz).trans f0; replace f1 := ((bcell hb4).1 _ 1 hz).trans f1; replace f2 := ((bcell hb4).1 _ 2 hz).trans f2; replace f3 := ((bcell hb4).1 _ 3 hz).trans f3; replace f4 := ((bcell hb4).1 _ 4 hz).trans f4; replace hz := Nat.lt_of_lt_of_le hz (Below.size hb4))
  have hs4 := (hs3.below hb4 (Nat.le_refl _)).more (Below.size hb4)
  have HW4 := Lib.hid (HW3.out.trans hb4)
  clear hb4 hs3
  go_wp2_with fail
  refine (isMixW _ _ _ _ W _ _ hn30 HBX.out).mono ?_
  rintro e w5 ⟨rfl, hb5⟩
  have hs5 := (hs4.below hb5 (Nat.le_refl _)).more (Below.size hb5)
  have HW5 := Lib.hid (HW4.out.trans hb5)
  clear hb5 hs4 f0 f1 f2 f3 f4
  have hx32 : ∀ t ∈ truthsW W, t < 4294967296 := fun t ht => by have := HM.out t ht; omega
  have HX32 := Lib.hid hx32
  clear hx32
  go_wp2_with fail
  refine (split_any _ _ (truthsW W) b _ (by omega) HX32.out (by omega) hs5).mono ?_
  rintro e w6 ⟨A6, c6, B6, d6, rfl, hs6, hs6', hb6⟩
  have hs7 := (hs5.below hb6 (Nat.le_refl _)).more (Below.size hb6)
  have HW6 := Lib.hid (HW5.out.trans hb6)
  clear hb6 hs5 hs6 hs6'
  go_wp2_with fail
  refine (split_any _ _ (truthsW W) m _ (by omega) HX32.out (by omega) hs7).mono ?_
  rintro e w7 ⟨A7, c7, B7, d7, rfl, hs8, hs8', hb7⟩
  have HW7 := Lib.hid (HW6.out.trans hb7)
  clear hb7 hs7 hs8 hs8'
  generalize (clL (truthsW W) b).length = n1 at *
  generalize (foL (truthsW W) b).length = n2 at *
  generalize (clL (truthsW W) m).length = n3 at *
  generalize (foL (truthsW W) m).length = n4 at *
  generalize nOf (truthsW W) m = nm at *
  split at mx1 <;> split at mx2 <;> rcases q5 with q5 | ⟨q5, q6⟩
  all_goals
    first | (have t1 : ((n2 : Int) == (left : Int)) = true := by rw [beq_iff_eq]; exact mx1) | (have t1 : ((n1 : Int) == (left : Int)) = true := by rw [beq_iff_eq]; exact mx1)
    first | (have t2 : (left : Int) < (n4 : Int) := by rw [mx2]; omega) | (have t2 : (left : Int) < (n3 : Int) := by rw [mx2]; omega) | (have t2 : ((n4 : Int) == (left : Int)) = true := by rw [beq_iff_eq, mx2]; omega) | (have t2 : ((n3 : Int) == (left : Int)) = true := by rw [beq_iff_eq, mx2]; omega)
    first | (have t3 : ¬ (left : Int) < (n4 : Int) := by rw [mx2]; omega) | (have t3 : ¬ (left : Int) < (n3 : Int) := by rw [mx2]; omega) | skip
    first | (have t4 : (b : Int) ≤ (m : Int) := by omega) | skip
    first | (have t5 : (n2 : Int) ≤ (n1 : Int) := by omega) | (have t5 : (n1 : Int) < (n2 : Int) := by omega)
    first | (have t6 : (n4 : Int) ≤ (n3 : Int) := by omega) | (have t6 : (n3 : Int) < (n4 : Int) := by omega)
    clear mx1 mx2 q5
    go_wp2_with fail
    refine (works_any _ (HT.out.ext HW7.out)).mono ?_
    rintro e w8 ⟨rfl, hb8⟩
    go_wp2_with fail
    go_ret
    exact ⟨rfl, HW7.out.trans hb8⟩
theorem bestLaw_far (As Am : Option Addr) (cs cm : Nat) (W : Water) (mix : Int) (w : World) (hf : farB W = true) (ht : TabIn w) :
    Calls Tryd.prog 5 #[wvW As Am cs cm W, .int .i64 mix] w fun e w' => e = .returned (.bool true) ∧ Ext w w' := by
  have HT := Lib.hid ht
  clear ht
  go_enter Tryd.func5, Tryd.ntmps5
  go_wp2_with fail
  refine (valid_far _ _ _ _ W _ hf).mono ?_
  rintro e w1 ⟨rfl, hb1⟩
  go_wp2_with fail
  refine (works_any _ (HT.out.ext (by (repeat (first | (with_reducible exact Ext.refl _) | (with_reducible assumption) | (with_reducible refine Ext.alloc ?_ _) | (with_reducible refine Ext.trans ?_ (by with_reducible assumption)) | (with_reducible refine Ext.drew ?_) | (with_reducible refine Ext.setCell ?_ (by simp <;> omega) _)))))).mono ?_
  rintro e w2 ⟨rfl, hb2⟩
  go_wp2_with fail
  go_ret
  exact ⟨rfl, by (repeat (first | (with_reducible exact Ext.refl _) | (with_reducible assumption) | (with_reducible refine Ext.alloc ?_ _) | (with_reducible refine Ext.trans ?_ (by with_reducible assumption)) | (with_reducible refine Ext.drew ?_) | (with_reducible refine Ext.setCell ?_ (by simp <;> omega) _)))⟩

namespace WaterBest
theorem contract (H : Type) (enc : TypeId × Value → H) (W : World) (base : Nat) (args : Array Value) (ds gs : List (DataW H)) (before : List MemPlace)
    (hval : ∀ (j : Nat) t v, Tryd.f5.params[j]? = some t → args[j]? = some v → Value.okWide Tryd.prog W .any base t v)
    (hW : DataW.Whole enc Tryd.prog Tryd.f5.params.toList Rows.waterBestSpec.vars false W args.toList ds gs before) (hL : laidMetH Tryd.prog Rows.waterBestRow.laid W) :
    Calls Tryd.prog 5 args W fun e W' => ∃ v, e = .returned v ∧ Rows.waterBestSpec.post enc Tryd.prog Tryd.f5 false true false false W args v W' := by
  have hW' := hW
  obtain ⟨p, q, hA0, hV, rfl, hfz, hnd⟩ := hW
  have hA : DataW.TrodAll enc Tryd.prog W 0 (fun _ => true) true Tryd.f5.params.toList args.toList ds p := hA0
  rw [Tryd.params5] at hA hval
  obtain ⟨v0, vs0, d0, ds0, p0, q0, hargs, rfl, rfl, h0, r0⟩ := trodAll_cons hA
  obtain ⟨v1, vs1, d1, ds1, p1, q1, rfl, rfl, rfl, h1, r1⟩ := trodAll_cons r0
  obtain ⟨rfl, rfl, rfl⟩ := trodAll_nil r1
  obtain rfl : args = #[v0, v1] := by cases args; simp_all
  obtain ⟨rfl, rfl⟩ := trodVars_none hV
  obtain ⟨n1, rfl, _, rfl, _⟩ := open_int Tryd.underlying3 (hval 1 3 v1 rfl rfl) h1
  obtain ⟨As, Am, cs, cm, Wt, rfl, hs1, hs2⟩ := water_reads (hval 0 25 v0 rfl rfl) h0
  clear hA0
  have hlt : ∀ x ∈ p0 ++ ([] ++ []) ++ [], x.block < W.heap.size := fun x hx => by simpa using hW'.lt x hx
  have ht := tabIn_of hL
  have walk : Calls Tryd.prog 5 #[wvW As Am cs cm Wt, .int .i64 n1] W fun e w' => e = .returned (.bool true) ∧ Ext W w' := by
    cases hf : farB Wt
    · exact bestLaw_any As Am cs cm Wt n1 W (near_in hf hs1 hs2) ht
    · exact bestLaw_far As Am cs cm Wt n1 W hf ht
  refine walk.mono fun e W' ⟨he, hb⟩ => ?_
  subst he
  have keep : ∀ {t : TypeId} {v : Value} {d : DataW H} {ps : List MemPlace}, Tryd.prog.readableRec t = true → t < Tryd.prog.types.size → DataW.Trod enc Tryd.prog W 0 (fun _ => true) true t v d ps → (∀ x ∈ ps, x.block < W.heap.size) → DataW.Trod enc Tryd.prog W' 0 (fun b => decide (b < W.heap.size)) true t v d ps :=
    fun h1 h2 h3 h4 => Below.trod laidOut h1 h2 h3 hb h4
  exact ⟨_, rfl, ⟨_, _, _, [], _, [], hW', trodAll_cons_mk (shut_bool Tryd.underlying4 _) trodAll_mk0,
    (trodAll_cons_mk (keep (by kernel_rfl) (of_decide_eq_true (by kernel_rfl)) h0 (fun x hx => hlt x (by simp [hx]))) (trodAll_cons_mk (keep (by kernel_rfl) (of_decide_eq_true (by kernel_rfl)) h1 (fun x hx => by cases hx)) trodAll_mk0)),
    rfl, hb.frame _, fun h => by cases h⟩⟩

theorem reads (os : Os) {H : Type} (enc : TypeId × Value → H) : ∃ places, DataW.whole enc Tryd.prog ((laidWorld os).forCall (fun _ _ => 0) ⟨#[], #[w00, .int .i64 0], []⟩).memory Tryd.f5.params.toList Rows.waterBestSpec.vars false #[w00, .int .i64 0].toList 8 = some ([.agg [.nil, .lit (.int .i64 0), .lit (.int .i64 0), .lit (.int .i64 0), .nil], .lit (.int .i64 0)], [], places) :=
  ⟨[], by kernel_rfl⟩
theorem met (os : Os) : laidMet Tryd.prog Rows.waterBestRow.laid ((laidWorld os).forCall (fun _ _ => 0) ⟨#[], #[w00, .int .i64 0], []⟩).memory := laidMet_of_run' 8 (by kernel_rfl) (by kernel_rfl)

set_option maxRecDepth 100000 in
theorem lifted (os : Os) (started : os.Started) (H : Type) (enc : TypeId × Value → H) (F : Stop.Interp) :
    ReturnsInHanded {} Tryd.checked os 5 .any ((OpenSpec.ofChange Rows.waterBestSpec).preRow enc Tryd.prog Tryd.f5 Rows.waterBestRow.domain false Rows.waterBestRow.laid) (((OpenSpec.ofChange Rows.waterBestSpec).at F).post enc Tryd.prog Tryd.f5 false true false false) := by
  obtain ⟨places, hx⟩ := reads os enc
  refine returnsInHanded_of_row (C := Tryd.checked) (s := OpenSpec.ofChange Rows.waterBestSpec) own started (by kernel_rfl) Tryd.func5
    (witness_row_at (enc := enc) (C := Tryd.checked) false (laidWorld os) #[w00, .int .i64 0] rfl (by kernel_rfl) (by kernel_rfl) (by kernel_rfl)
      (OpenSpec.preRow_of_cond 8 hx (by kernel_rfl) (fun k hk => by cases hk) (by kernel_rfl) (met os))) ?_
  intro W base args ds gs before hval hW _ _ _ hL _ _
  exact contract H enc W base args ds gs before hval hW hL

theorem said : Rows.WaterBestSaid :=
  OpenClaim.holds_of_cond 5 Tryd.f5 rfl rfl rfl rfl rfl rfl rfl ⟨rfl, rfl, rfl, rfl, rfl⟩ rfl rfl rfl rfl rfl (by kernel_rfl) Tryd.func5 (by kernel_rfl)
    (of_decide_eq_true (by kernel_rfl)) (by unfold Func.isWrapper; first | (rw [if_pos (by decide +kernel)]; kernel_rfl) | (rw [if_neg (by decide +kernel)]; exact ⟨rfl, rfl⟩))
    (fun os started H enc _ F => by rw [OpenClaim.pre_eq_preRow]; exact lifted os started H enc F)

theorem plain (f : FuncId) (fn : Func) (hf : Tryd.pinned.checked.prog.funcNamed "bivouac/bivouaclaw04.WaterBest" = some f) (hfn : Tryd.pinned.checked.prog.funcs[f]? = some fn) :
    false = Tryd.pinned.checked.prog.looks [] ∧ ∀ (j : Nat) t, fn.params[j]? = some t → Tryd.pinned.checked.prog.wantsStandIn t = false := by
  obtain rfl : f = 5 := Option.some.inj ((show Tryd.prog.funcNamed "bivouac/bivouaclaw04.WaterBest" = some 5 by kernel_rfl).symm.trans hf) |>.symm
  obtain rfl : fn = Tryd.f5 := (Option.some.inj (Tryd.func5.symm.trans hfn)).symm
  refine ⟨by kernel_rfl, fun j t ht => ?_⟩
  rw [Tryd.params5] at ht
  have h : t = 25 ∨ t = 3 := by
    have := Array.mem_of_getElem? ht
    simpa using this
  rcases h with rfl | rfl
  · exact (show Tryd.prog.wantsStandIn 25 = false by kernel_rfl)
  · exact (show Tryd.prog.wantsStandIn 3 = false by kernel_rfl)

theorem card : Rows.WaterBestCardSaid :=
  Claim7.holds_tied_plain_at .later [] _ _ _ _ said (fun _ h => by cases h) (by kernel_rfl) (fun _ h => by cases h) waterBest_row_tie rfl ⟨rfl, rfl⟩ (by kernel_rfl) rfl plain (by kernel_rfl)
end WaterBest

end Go.Proofs.YtabcmnfofekeeaaDoor
