import Derived.Test.YtabcmnfofekeeaaDoorWat22
namespace Go.Proofs.YtabcmnfofekeeaaDoor
open Go Go.Proofs Go.RowKit Go.Shelf
set_option maxHeartbeats 1000000
set_option maxRecDepth 20000
theorem full_cast (W : Water) : ((fullN W : Nat) : Int) = 2 ^ W.springs.length - 1 := by
  unfold fullN; rw [Int.ofNat_sub (Nat.pow_pos (by omega))]; simp
theorem allW_any (As Am : Option Addr) (cs cm : Nat) (W : Water) (w : World) (hn : W.springs.length ≤ 30) :
    Calls Tryd.prog 19 #[wvW As Am cs cm W] w fun e w' => e = .returned (.int .i64 (fullN W : Nat)) ∧ Ext w w' := by
  rw [full_cast]; exact all_any _ _ _ _ _ _ _ _ _ _ hn

theorem served_any (As Am : Option Addr) (cs cm : Nat) (W : Water) (t need : Int) (w : World) (hin : WaterIn w As Am W) (ht : TabIn w) :
    Calls Tryd.prog 6 #[wvW As Am cs cm W, .int .i64 t, .int .i64 need] w fun e w' => e = .returned (.bool true) ∧ Ext w w' := by
  have HIN := Lib.hid hin
  have HT := Lib.hid ht
  clear hin ht
  cases hv : (!farB W && validB W)
  · have HV := Lib.hid hv
    clear hv
    go_enter Tryd.func6, Tryd.ntmps6
    go_wp2_with fail
    go_at_call 12
    refine (valid_any _ _ _ _ W _ (HIN.out.ext (by (repeat (first | (with_reducible exact Ext.refl _) | (with_reducible assumption) | (with_reducible refine Ext.alloc ?_ _) | (with_reducible refine Ext.trans ?_ (by with_reducible assumption)) | (with_reducible refine Ext.drew ?_) | (with_reducible refine Ext.setCell ?_ (by simp <;> omega) _)))))).mono ?_
    rintro e w1 ⟨rfl, hb1⟩
    rw [HV.out]
    go_wp2_with fail
    refine (works_any _ (HT.out.ext (by (repeat (first | (with_reducible exact Ext.refl _) | (with_reducible assumption) | (with_reducible refine Ext.alloc ?_ _) | (with_reducible refine Ext.trans ?_ (by with_reducible assumption)) | (with_reducible refine Ext.drew ?_) | (with_reducible refine Ext.setCell ?_ (by simp <;> omega) _)))))).mono ?_
    rintro e w2 ⟨rfl, hb2⟩
    go_wp2_with fail
    go_ret
    exact ⟨rfl, by (repeat (first | (with_reducible exact Ext.refl _) | (with_reducible assumption) | (with_reducible refine Ext.alloc ?_ _) | (with_reducible refine Ext.trans ?_ (by with_reducible assumption)) | (with_reducible refine Ext.drew ?_) | (with_reducible refine Ext.setCell ?_ (by simp <;> omega) _)))⟩
  have hvb : validB W = true := by simp only [Bool.and_eq_true] at hv; exact hv.2
  have hn := valid_len hvb
  have hn30 : W.springs.length ≤ 30 := by omega
  have HV := Lib.hid hv
  have HVB := Lib.hid hvb
  clear hv hvb
  cases hp : possI W.springs.length W.most W.misses W.alarms W.samples t
  · have HP := Lib.hid hp
    clear hp
    go_enter Tryd.func6, Tryd.ntmps6
    go_wp2_with fail
    go_at_call 12
    refine (valid_any _ _ _ _ W _ (HIN.out.ext (by (repeat (first | (with_reducible exact Ext.refl _) | (with_reducible assumption) | (with_reducible refine Ext.alloc ?_ _) | (with_reducible refine Ext.trans ?_ (by with_reducible assumption)) | (with_reducible refine Ext.drew ?_) | (with_reducible refine Ext.setCell ?_ (by simp <;> omega) _)))))).mono ?_
    rintro e w1 ⟨rfl, hb1⟩
    rw [HV.out]
    (have f0 := ((bcell hb1).1 w.heap.size 0 (by simp)).trans (show _ = some (.slice As W.springs.length cs) by go_simp); have f1 := ((bcell hb1).1 w.heap.size 1 (by simp)).trans (show _ = some (.int .i64 W.most) by go_simp); have f2 := ((bcell hb1).1 w.heap.size 2 (by simp)).trans (show _ = some (.int .i64 W.misses) by go_simp); have f3 := ((bcell hb1).1 w.heap.size 3 (by simp)).trans (show _ = some (.int .i64 W.alarms) by go_simp); have f4 := ((bcell hb1).1 w.heap.size 4 (by simp)).trans (show _ = some (.slice Am W.samples.length cm) by go_simp); have hz := Nat.lt_of_lt_of_le (show w.heap.size < (w.alloc _).heap.size by simp) (Below.size hb1))
    go_wp2_with fail
    go_at_call 25
    refine (possible_any _ _ _ _ _ _ _ _ _ _ _ W.samples t _ hn30 HIN.out.2.2.2 (HIN.out.ext (by (repeat (first | (with_reducible exact Ext.refl _) | (with_reducible assumption) | (with_reducible refine Ext.alloc ?_ _) | (with_reducible refine Ext.trans ?_ (by with_reducible assumption)) | (with_reducible refine Ext.drew ?_) | (with_reducible refine Ext.setCell ?_ (by simp <;> omega) _))))).2.1).mono ?_
    rintro e w2 ⟨rfl, hb2⟩
    rw [HP.out]
    go_wp2_with fail
    refine (works_any _ (HT.out.ext (by (repeat (first | (with_reducible exact Ext.refl _) | (with_reducible assumption) | (with_reducible refine Ext.alloc ?_ _) | (with_reducible refine Ext.trans ?_ (by with_reducible assumption)) | (with_reducible refine Ext.drew ?_) | (with_reducible refine Ext.setCell ?_ (by simp <;> omega) _)))))).mono ?_
    rintro e w3 ⟨rfl, hb3⟩
    go_wp2_with fail
    go_ret
    exact ⟨rfl, by (repeat (first | (with_reducible exact Ext.refl _) | (with_reducible assumption) | (with_reducible refine Ext.alloc ?_ _) | (with_reducible refine Ext.trans ?_ (by with_reducible assumption)) | (with_reducible refine Ext.drew ?_) | (with_reducible refine Ext.setCell ?_ (by simp <;> omega) _)))⟩
  obtain ⟨t, rfl, htm⟩ := poss_mem hp
  have HP := Lib.hid hp
  clear hp
  by_cases hnd : 0 ≤ need ∧ need ≤ 10000
  rotate_left
  · have hnd2 : need < 0 ∨ 10000 < need := by omega
    rcases hnd2 with g | g
    all_goals
      clear hnd
      go_enter Tryd.func6, Tryd.ntmps6
      go_wp2_with fail
      go_at_call 12
      refine (valid_any _ _ _ _ W _ (HIN.out.ext (by (repeat (first | (with_reducible exact Ext.refl _) | (with_reducible assumption) | (with_reducible refine Ext.alloc ?_ _) | (with_reducible refine Ext.trans ?_ (by with_reducible assumption)) | (with_reducible refine Ext.drew ?_) | (with_reducible refine Ext.setCell ?_ (by simp <;> omega) _)))))).mono ?_
      rintro e w1 ⟨rfl, hb1⟩
      rw [HV.out]
      (have f0 := ((bcell hb1).1 w.heap.size 0 (by simp)).trans (show _ = some (.slice As W.springs.length cs) by go_simp); have f1 := ((bcell hb1).1 w.heap.size 1 (by simp)).trans (show _ = some (.int .i64 W.most) by go_simp); have f2 := ((bcell hb1).1 w.heap.size 2 (by simp)).trans (show _ = some (.int .i64 W.misses) by go_simp); have f3 := ((bcell hb1).1 w.heap.size 3 (by simp)).trans (show _ = some (.int .i64 W.alarms) by go_simp); have f4 := ((bcell hb1).1 w.heap.size 4 (by simp)).trans (show _ = some (.slice Am W.samples.length cm) by go_simp); have hz := Nat.lt_of_lt_of_le (show w.heap.size < (w.alloc _).heap.size by simp) (Below.size hb1))
      go_wp2_with fail
      go_at_call 25
      refine (possible_any _ _ _ _ _ _ _ _ _ _ _ W.samples (t : Int) _ hn30 HIN.out.2.2.2 (HIN.out.ext (by (repeat (first | (with_reducible exact Ext.refl _) | (with_reducible assumption) | (with_reducible refine Ext.alloc ?_ _) | (with_reducible refine Ext.trans ?_ (by with_reducible assumption)) | (with_reducible refine Ext.drew ?_) | (with_reducible refine Ext.setCell ?_ (by simp <;> omega) _))))).2.1).mono ?_
      rintro e w2 ⟨rfl, hb2⟩
      rw [HP.out]
      go_wp2_with fail
      refine (works_any _ (HT.out.ext (by (repeat (first | (with_reducible exact Ext.refl _) | (with_reducible assumption) | (with_reducible refine Ext.alloc ?_ _) | (with_reducible refine Ext.trans ?_ (by with_reducible assumption)) | (with_reducible refine Ext.drew ?_) | (with_reducible refine Ext.setCell ?_ (by simp <;> omega) _)))))).mono ?_
      rintro e w3 ⟨rfl, hb3⟩
      go_wp2_with fail
      go_ret
      exact ⟨rfl, by (repeat (first | (with_reducible exact Ext.refl _) | (with_reducible assumption) | (with_reducible refine Ext.alloc ?_ _) | (with_reducible refine Ext.trans ?_ (by with_reducible assumption)) | (with_reducible refine Ext.drew ?_) | (with_reducible refine Ext.setCell ?_ (by simp <;> omega) _)))⟩
  obtain ⟨hnd1, hnd2⟩ := hnd
  have hne : truthsW W ≠ [] := fun e => by rw [e] at htm; cases htm
  have HE := Lib.hid (show openE W true = 0 by simp [openE, HVB.out, hne])
  have HES := Lib.hid (show openE W (withinB need 0 10000) = 0 by rw [withinB_mk ⟨hnd1, hnd2⟩]; exact HE.out)
  clear hne
  go_enter Tryd.func6, Tryd.ntmps6
  go_wp2_with fail
  go_at_call 12
  refine (valid_any _ _ _ _ W _ (HIN.out.ext (by (repeat (first | (with_reducible exact Ext.refl _) | (with_reducible assumption) | (with_reducible refine Ext.alloc ?_ _) | (with_reducible refine Ext.trans ?_ (by with_reducible assumption)) | (with_reducible refine Ext.drew ?_) | (with_reducible refine Ext.setCell ?_ (by simp <;> omega) _)))))).mono ?_
  rintro e w1 ⟨rfl, hb1⟩
  rw [HV.out]
  (have f0 := ((bcell hb1).1 w.heap.size 0 (by simp)).trans (show _ = some (.slice As W.springs.length cs) by go_simp); have f1 := ((bcell hb1).1 w.heap.size 1 (by simp)).trans (show _ = some (.int .i64 W.most) by go_simp); have f2 := ((bcell hb1).1 w.heap.size 2 (by simp)).trans (show _ = some (.int .i64 W.misses) by go_simp); have f3 := ((bcell hb1).1 w.heap.size 3 (by simp)).trans (show _ = some (.int .i64 W.alarms) by go_simp); have f4 := ((bcell hb1).1 w.heap.size 4 (by simp)).trans (show _ = some (.slice Am W.samples.length cm) by go_simp); have hz := Nat.lt_of_lt_of_le (show w.heap.size < (w.alloc _).heap.size by simp) (Below.size hb1))
  go_wp2_with fail
  go_at_call 25
  refine (possible_any _ _ _ _ _ _ _ _ _ _ _ W.samples (t : Int) _ hn30 HIN.out.2.2.2 (HIN.out.ext (by (repeat (first | (with_reducible exact Ext.refl _) | (with_reducible assumption) | (with_reducible refine Ext.alloc ?_ _) | (with_reducible refine Ext.trans ?_ (by with_reducible assumption)) | (with_reducible refine Ext.drew ?_) | (with_reducible refine Ext.setCell ?_ (by simp <;> omega) _))))).2.1).mono ?_
  rintro e w2 ⟨rfl, hb2⟩
  rw [HP.out]
  (replace f0 := ((bcell hb2).1 _ 0 hz).trans f0; replace f1 := ((bcell hb2).1 _ 1 hz).trans f1; replace f2 := ((bcell hb2).1 _ 2 hz).trans f2; replace f3 := ((bcell hb2).1 _ 3 hz).trans f3; replace f4 := ((bcell hb2).1 _ 4 hz).trans f4; replace hz := Nat.lt_of_lt_of_le hz (Below.size hb2))
  have hw2 : Ext w w2 := by (repeat (first | (with_reducible exact Ext.refl _) | (with_reducible assumption) | (with_reducible refine Ext.alloc ?_ _) | (with_reducible refine Ext.trans ?_ (by with_reducible assumption)) | (with_reducible refine Ext.drew ?_) | (with_reducible refine Ext.setCell ?_ (by simp <;> omega) _)))
  clear hb1 hb2
  go_wp2_with fail
  refine (truths_ok _ _ _ _ W _ (HIN.out.ext hw2) HE.out).mono ?_
  rintro e w3 ⟨A, c, rfl, hsl, hb3⟩
  (replace f0 := ((bcell hb3).1 _ 0 hz).trans f0; replace f1 := ((bcell hb3).1 _ 1 hz).trans f1; replace f2 := ((bcell hb3).1 _ 2 hz).trans f2; replace f3 := ((bcell hb3).1 _ 3 hz).trans f3; replace f4 := ((bcell hb3).1 _ 4 hz).trans f4; replace hz := Nat.lt_of_lt_of_le hz (Below.size hb3))
  have hw3 : Ext w w3 := by (repeat (first | (with_reducible exact Ext.refl _) | (with_reducible assumption) | (with_reducible refine Ext.alloc ?_ _) | (with_reducible refine Ext.trans ?_ (by with_reducible assumption)) | (with_reducible refine Ext.drew ?_) | (with_reducible refine Ext.setCell ?_ (by simp <;> omega) _)))
  clear hb3 hw2
  go_wp2_with fail
  refine (clean_ok _ _ _ _ W _ (HIN.out.ext hw3) HE.out).mono ?_
  rintro e w4 ⟨rfl, hb4⟩
  (replace f0 := ((bcell hb4).1 _ 0 hz).trans f0; replace f1 := ((bcell hb4).1 _ 1 hz).trans f1; replace f2 := ((bcell hb4).1 _ 2 hz).trans f2; replace f3 := ((bcell hb4).1 _ 3 hz).trans f3; replace f4 := ((bcell hb4).1 _ 4 hz).trans f4; replace hz := Nat.lt_of_lt_of_le hz (Below.size hb4))
  have hsl4 := (hsl.below (B' := w3.heap.size) hb4 (Nat.le_refl _)).more (Below.size hb4)
  have hw4 : Ext w w4 := by (repeat (first | (with_reducible exact Ext.refl _) | (with_reducible assumption) | (with_reducible refine Ext.alloc ?_ _) | (with_reducible refine Ext.trans ?_ (by with_reducible assumption)) | (with_reducible refine Ext.drew ?_) | (with_reducible refine Ext.setCell ?_ (by simp <;> omega) _)))
  clear hb4 hw3 hsl
  go_wp2_with fail
  refine (serve_ok _ _ _ _ W need _ (HIN.out.ext hw4) (HT.out.ext hw4) HES.out).mono ?_
  rintro e w5 ⟨rfl, hb5⟩
  (replace f0 := ((bcell hb5).1 _ 0 hz).trans f0; replace f1 := ((bcell hb5).1 _ 1 hz).trans f1; replace f2 := ((bcell hb5).1 _ 2 hz).trans f2; replace f3 := ((bcell hb5).1 _ 3 hz).trans f3; replace f4 := ((bcell hb5).1 _ 4 hz).trans f4; replace hz := Nat.lt_of_lt_of_le hz (Below.size hb5))
  have hsl5 := (hsl4.below (B' := w4.heap.size) hb5 (Nat.le_refl _)).more (Below.size hb5)
  have hw5 : Ext w w5 := by (repeat (first | (with_reducible exact Ext.refl _) | (with_reducible assumption) | (with_reducible refine Ext.alloc ?_ _) | (with_reducible refine Ext.trans ?_ (by with_reducible assumption)) | (with_reducible refine Ext.drew ?_) | (with_reducible refine Ext.setCell ?_ (by simp <;> omega) _)))
  clear hb5 hw4 hsl4
  have ht8 : t < 256 := truthsW_mem HVB.out htm
  have hfl := fullN_lt hn.2
  have hpl := pureN_lt hn.2
  have hml := mayN_lt hn.2
  have hdl := diffN_lt (b := t) hfl
  have e1 : bits .and .i64 (pureN W : Int) (t : Int) = 0 := by rw [i64_and_nat _ _ (by omega) (by omega), pure_truth htm]; rfl
  have e2 := i64_andNot_is (fullN W) t hfl ht8
  have e3 : bits .andNot .i64 (diffN (fullN W) t : Int) (mayN W : Int) = 0 := by rw [i64_andNot_is _ _ hdl hml, rest_may hn.2 htm]; rfl
  have hcon : (truthsW W).contains t = true := List.contains_iff_mem.2 htm
  have HCON := Lib.hid hcon
  have hlen := truthsW_len HVB.out
  clear hcon
  by_cases hen : enough W need = []
  · rw [show serveV W need = .tuple #[.int .i64 0, .int .i64 0, .int .i64 0, .int .i64 3] by unfold serveV; rw [if_pos hen]]
    clear hen
    go_wp2_with fail
    go_at_call 17
    refine (contains_any _ _ (truthsW W) t _ (by omega) hsl5).mono ?_
    rintro e w6 ⟨rfl, rfl⟩
    rw [HCON.out]
    go_wp2_with fail
    go_at_call 19
    refine (allW_any _ _ _ _ W _ hn30).mono ?_
    rintro e w6 ⟨rfl, hb6⟩
    go_wp2_with fail
    refine (works_any _ (HT.out.ext (by (repeat (first | (with_reducible exact Ext.refl _) | (with_reducible assumption) | (with_reducible refine Ext.alloc ?_ _) | (with_reducible refine Ext.trans ?_ (by with_reducible assumption)) | (with_reducible refine Ext.drew ?_) | (with_reducible refine Ext.setCell ?_ (by simp <;> omega) _)))))).mono ?_
    rintro e w7 ⟨rfl, hb7⟩
    go_wp2_with fail
    go_ret
    exact ⟨rfl, by (repeat (first | (with_reducible exact Ext.refl _) | (with_reducible assumption) | (with_reducible refine Ext.alloc ?_ _) | (with_reducible refine Ext.trans ?_ (by with_reducible assumption)) | (with_reducible refine Ext.drew ?_) | (with_reducible refine Ext.setCell ?_ (by simp <;> omega) _)))⟩
  have hmb := minB_mem hen
  have hms : (minB (enough W need)).set < 256 := by have := enoughTo_lt (W := W) (need := need) (k := 2 ^ W.springs.length) hmb; have := pow_le8 hn.2; omega
  have e4 : bits .and .i64 (pureN W : Int) ((minB (enough W need)).set : Int) = 0 := by rw [i64_and_nat _ _ (by omega) (by omega), enough_pure hmb]; rfl
  rw [show serveV W need = .tuple #[.int .i64 (pureN W), .int .i64 ((minB (enough W need)).set : Int), .int .i64 (minB (enough W need)).fuel, .int .i64 0] by unfold serveV; rw [if_neg hen]]
  generalize minB (enough W need) = mb at *
  clear hmb hen
  go_wp2_with fail
  go_at_call 17
  refine (contains_any _ _ (truthsW W) t _ (by omega) hsl5).mono ?_
  rintro e w6 ⟨rfl, rfl⟩
  rw [HCON.out]
  go_wp2_with fail
  go_at_call 19
  refine (allW_any _ _ _ _ W _ hn30).mono ?_
  rintro e w6 ⟨rfl, hb6⟩
  (replace f0 := ((bcell hb6).1 _ 0 hz).trans f0; replace f1 := ((bcell hb6).1 _ 1 hz).trans f1; replace f2 := ((bcell hb6).1 _ 2 hz).trans f2; replace f3 := ((bcell hb6).1 _ 3 hz).trans f3; replace f4 := ((bcell hb6).1 _ 4 hz).trans f4; replace hz := Nat.lt_of_lt_of_le hz (Below.size hb6))
  have hw6 : Ext w w6 := by (repeat (first | (with_reducible exact Ext.refl _) | (with_reducible assumption) | (with_reducible refine Ext.alloc ?_ _) | (with_reducible refine Ext.trans ?_ (by with_reducible assumption)) | (with_reducible refine Ext.drew ?_) | (with_reducible refine Ext.setCell ?_ (by simp <;> omega) _)))
  clear hb6 hw5 hsl5
  have HW6 := Lib.hid hw6
  clear hw6
  go_wp2_with fail
  go_loopg [16] (fullN W) (fun gk i wr => ∃ m : Nat, 1 ≤ m ∧ m + gk = fullN W + 1 ∧ i = .int .i64 m ∧ Ext w6 wr)
  case atStart => exact ⟨1, by omega, by omega, rfl, Ext.refl _⟩
  case round =>
    obtain ⟨m, hm1, hk, rfl, hb⟩ := hrel
    have HKG := Lib.hid hk
    have HB := Lib.hid hb
    have hmK : m ≤ fullN W + 1 := by omega
    (replace f0 := ((bcell hb).1 _ 0 hz).trans f0; replace f1 := ((bcell hb).1 _ 1 hz).trans f1; replace f2 := ((bcell hb).1 _ 2 hz).trans f2; replace f3 := ((bcell hb).1 _ 3 hz).trans f3; replace f4 := ((bcell hb).1 _ 4 hz).trans f4; replace hz := Nat.lt_of_lt_of_le hz (Below.size hb))
    clear hk hb
    by_cases hlt : m ≤ fullN W
    · have hm2 : m ≤ 2 ^ W.springs.length - 1 := hlt
      have hm8 : m < 256 := by omega
      have hdm := diffN_lt (b := pureN W) hm8
      have a2 := i64_andNot_is m (pureN W) hm8 hpl
      by_cases z : m &&& t = 0
      · have a1 : bits .and .i64 (m : Int) (t : Int) = 0 := by rw [i64_and_nat _ _ (by omega) (by omega), z]; rfl
        have so := Lib.hid (show decide (0 < cleanN (truthsW W) m) = true from decide_eq_true (clean_pos htm z))
        by_cases d : diffN m (pureN W) = 0
        · rw [d] at a2
          have is := Lib.hid (show ((cleanN (truthsW W) m : Int) == ((truthsW W).length : Int)) = true by rw [clean_eq d]; simp)
          clear z d hdm
          go_wp2_with fail
          go_at_call 19
          refine (allW_any _ _ _ _ W _ hn30).mono ?_
          rintro e w7 ⟨rfl, hb7⟩
          (replace f0 := ((bcell hb7).1 _ 0 hz).trans f0; replace f1 := ((bcell hb7).1 _ 1 hz).trans f1; replace f2 := ((bcell hb7).1 _ 2 hz).trans f2; replace f3 := ((bcell hb7).1 _ 3 hz).trans f3; replace f4 := ((bcell hb7).1 _ 4 hz).trans f4; replace hz := Nat.lt_of_lt_of_le hz (Below.size hb7))
          have hw7 : Ext wr w7 := by (repeat (first | (with_reducible exact Ext.refl _) | (with_reducible assumption) | (with_reducible refine Ext.alloc ?_ _) | (with_reducible refine Ext.trans ?_ (by with_reducible assumption)) | (with_reducible refine Ext.drew ?_) | (with_reducible refine Ext.setCell ?_ (by simp <;> omega) _)))
          clear hb7
          go_wp2_with fail
          refine (pureFn_ok _ _ _ _ W m _ (HIN.out.ext ((HW6.out.trans HB.out).trans hw7)) HE.out hm1 hm2).mono ?_
          rintro e w8 ⟨rfl, hb8⟩
          (replace f0 := ((bcell hb8).1 _ 0 hz).trans f0; replace f1 := ((bcell hb8).1 _ 1 hz).trans f1; replace f2 := ((bcell hb8).1 _ 2 hz).trans f2; replace f3 := ((bcell hb8).1 _ 3 hz).trans f3; replace f4 := ((bcell hb8).1 _ 4 hz).trans f4; replace hz := Nat.lt_of_lt_of_le hz (Below.size hb8))
          have hw8 : Ext w6 w8 := HB.out.trans (by (repeat (first | (with_reducible exact Ext.refl _) | (with_reducible assumption) | (with_reducible refine Ext.alloc ?_ _) | (with_reducible refine Ext.trans ?_ (by with_reducible assumption)) | (with_reducible refine Ext.drew ?_) | (with_reducible refine Ext.setCell ?_ (by simp <;> omega) _))))
          have HW8 := Lib.hid hw8
          clear hb8 hw7 hw8
          rw [is.out, so.out]
          go_wp2_with fail
          go_roundg (gk - 1)
          case measure => have := HKG.out; omega
          case rel => exact ⟨m + 1, by omega, by have := HKG.out; omega, by go_num, HW8.out⟩
        · have d1 : ((diffN m (pureN W) : Int) == 0) = false := by simp; omega
          have d2 : ((diffN m (pureN W) : Int) != 0) = true := by simp; omega
          clear z d
          go_wp2_with fail
          go_at_call 19
          refine (allW_any _ _ _ _ W _ hn30).mono ?_
          rintro e w7 ⟨rfl, hb7⟩
          (replace f0 := ((bcell hb7).1 _ 0 hz).trans f0; replace f1 := ((bcell hb7).1 _ 1 hz).trans f1; replace f2 := ((bcell hb7).1 _ 2 hz).trans f2; replace f3 := ((bcell hb7).1 _ 3 hz).trans f3; replace f4 := ((bcell hb7).1 _ 4 hz).trans f4; replace hz := Nat.lt_of_lt_of_le hz (Below.size hb7))
          have hw7 : Ext wr w7 := by (repeat (first | (with_reducible exact Ext.refl _) | (with_reducible assumption) | (with_reducible refine Ext.alloc ?_ _) | (with_reducible refine Ext.trans ?_ (by with_reducible assumption)) | (with_reducible refine Ext.drew ?_) | (with_reducible refine Ext.setCell ?_ (by simp <;> omega) _)))
          clear hb7
          go_wp2_with fail
          refine (pureFn_ok _ _ _ _ W m _ (HIN.out.ext ((HW6.out.trans HB.out).trans hw7)) HE.out hm1 hm2).mono ?_
          rintro e w8 ⟨rfl, hb8⟩
          (replace f0 := ((bcell hb8).1 _ 0 hz).trans f0; replace f1 := ((bcell hb8).1 _ 1 hz).trans f1; replace f2 := ((bcell hb8).1 _ 2 hz).trans f2; replace f3 := ((bcell hb8).1 _ 3 hz).trans f3; replace f4 := ((bcell hb8).1 _ 4 hz).trans f4; replace hz := Nat.lt_of_lt_of_le hz (Below.size hb8))
          have hw8 : Ext w6 w8 := HB.out.trans (by (repeat (first | (with_reducible exact Ext.refl _) | (with_reducible assumption) | (with_reducible refine Ext.alloc ?_ _) | (with_reducible refine Ext.trans ?_ (by with_reducible assumption)) | (with_reducible refine Ext.drew ?_) | (with_reducible refine Ext.setCell ?_ (by simp <;> omega) _))))
          have HW8 := Lib.hid hw8
          clear hb8 hw7 hw8
          rw [so.out]
          generalize ((cleanN (truthsW W) m : Int) == ((truthsW W).length : Int)) = bb
          go_wp2_with fail
          go_roundg (gk - 1)
          case measure => have := HKG.out; omega
          case rel => exact ⟨m + 1, by omega, by have := HKG.out; omega, by go_num, HW8.out⟩
      · have a1 := i64_and_nat m t (by omega) (by omega)
        have x1 : (((m &&& t : Nat) : Int) == 0) = false := by simp; omega
        have x2 : (((m &&& t : Nat) : Int) != 0) = true := by simp; omega
        have hd : diffN m (pureN W) ≠ 0 := fun e => clean_ne htm z (clean_eq e)
        have d1 : ((diffN m (pureN W) : Int) == 0) = false := by simp; omega
        have d2 : ((diffN m (pureN W) : Int) != 0) = true := by simp; omega
        have is := Lib.hid (show ((cleanN (truthsW W) m : Int) == ((truthsW W).length : Int)) = false by have := clean_ne htm z; simp; omega)
        clear z hd
        go_wp2_with fail
        go_at_call 19
        refine (allW_any _ _ _ _ W _ hn30).mono ?_
        rintro e w7 ⟨rfl, hb7⟩
        (replace f0 := ((bcell hb7).1 _ 0 hz).trans f0; replace f1 := ((bcell hb7).1 _ 1 hz).trans f1; replace f2 := ((bcell hb7).1 _ 2 hz).trans f2; replace f3 := ((bcell hb7).1 _ 3 hz).trans f3; replace f4 := ((bcell hb7).1 _ 4 hz).trans f4; replace hz := Nat.lt_of_lt_of_le hz (Below.size hb7))
        have hw7 : Ext wr w7 := by (repeat (first | (with_reducible exact Ext.refl _) | (with_reducible assumption) | (with_reducible refine Ext.alloc ?_ _) | (with_reducible refine Ext.trans ?_ (by with_reducible assumption)) | (with_reducible refine Ext.drew ?_) | (with_reducible refine Ext.setCell ?_ (by simp <;> omega) _)))
        clear hb7
        go_wp2_with fail
        refine (pureFn_ok _ _ _ _ W m _ (HIN.out.ext ((HW6.out.trans HB.out).trans hw7)) HE.out hm1 hm2).mono ?_
        rintro e w8 ⟨rfl, hb8⟩
        (replace f0 := ((bcell hb8).1 _ 0 hz).trans f0; replace f1 := ((bcell hb8).1 _ 1 hz).trans f1; replace f2 := ((bcell hb8).1 _ 2 hz).trans f2; replace f3 := ((bcell hb8).1 _ 3 hz).trans f3; replace f4 := ((bcell hb8).1 _ 4 hz).trans f4; replace hz := Nat.lt_of_lt_of_le hz (Below.size hb8))
        have hw8 : Ext w6 w8 := HB.out.trans (by (repeat (first | (with_reducible exact Ext.refl _) | (with_reducible assumption) | (with_reducible refine Ext.alloc ?_ _) | (with_reducible refine Ext.trans ?_ (by with_reducible assumption)) | (with_reducible refine Ext.drew ?_) | (with_reducible refine Ext.setCell ?_ (by simp <;> omega) _))))
        have HW8 := Lib.hid hw8
        clear hb8 hw7 hw8
        rw [is.out]
        generalize decide (0 < cleanN (truthsW W) m) = bb
        go_wp2_with fail
        go_roundg (gk - 1)
        case measure => have := HKG.out; omega
        case rel => exact ⟨m + 1, by omega, by have := HKG.out; omega, by go_num, HW8.out⟩
    · have hgt : ¬ (m : Int) ≤ (fullN W : Int) := by omega
      go_wp2_with fail
      go_at_call 19
      refine (allW_any _ _ _ _ W _ hn30).mono ?_
      rintro e w7 ⟨rfl, hb7⟩
      go_wp2_with fail
      refine (works_any _ (HT.out.ext ((HW6.out.trans HB.out).trans (by (repeat (first | (with_reducible exact Ext.refl _) | (with_reducible assumption) | (with_reducible refine Ext.alloc ?_ _) | (with_reducible refine Ext.trans ?_ (by with_reducible assumption)) | (with_reducible refine Ext.drew ?_) | (with_reducible refine Ext.setCell ?_ (by simp <;> omega) _))))))).mono ?_
      rintro e w8 ⟨rfl, hb8⟩
      go_wp2_with fail
      go_ret
      exact ⟨rfl, (HW6.out.trans HB.out).trans (by (repeat (first | (with_reducible exact Ext.refl _) | (with_reducible assumption) | (with_reducible refine Ext.alloc ?_ _) | (with_reducible refine Ext.trans ?_ (by with_reducible assumption)) | (with_reducible refine Ext.drew ?_) | (with_reducible refine Ext.setCell ?_ (by simp <;> omega) _))))⟩
end Go.Proofs.YtabcmnfofekeeaaDoor
