import Derived.Test.YtabcmnfofekeeaaDoorWat30
namespace Go.Proofs.YtabcmnfofekeeaaDoor
open Go Go.Proofs Go.RowKit Go.Shelf
set_option maxHeartbeats 1000000
set_option maxRecDepth 20000
def intC (x : Int) : List Value := [.int .i64 x]
theorem intC_len (x : Int) : (intC x).length = 1 := rfl
theorem valid_is (As Am : Option Addr) (cs cm : Nat) (W : Water) (w : World) (hin : WaterIn w As Am W) {v : Bool} (hv : (!farB W && validB W) = v) :
    Calls Tryd.prog 12 #[wvW As Am cs cm W] w fun e w' => e = .returned (.bool v) ∧ Ext w w' := hv ▸ valid_any As Am cs cm W w hin

theorem enough_any (As Am A : Option Addr) (cs cm c : Nat) (W : Water) (need other : Int) (L : List Int) (w : World) (hin : WaterIn w As Am W) (ht : TabIn w) (hL : SlOf intC 1 w w.heap.size A L) :
    Calls Tryd.prog 4 #[wvW As Am cs cm W, .agg #[.int .i64 need, .slice A L.length c, .int .i64 other]] w fun e w' => e = .returned (.bool true) ∧ Ext w w' := by
  have HIN := Lib.hid hin
  have HT := Lib.hid ht
  have HL := Lib.hid hL
  clear hin ht hL
  cases hv : (!farB W && validB W)
  · have hn30 : W.springs.length ≤ 30 ∨ True := .inr trivial
    have HV := Lib.hid hv
    clear hv
    go_enter Tryd.func4, Tryd.ntmps4
    go_wp2_with fail
    (refine wp_region_ext (by kernel_rfl) (by kernel_rfl) (fun hX => ?_); (repeat (go_big_quiet_step ((go_at_call 12; exact quiet_ext (valid_is _ _ _ _ W _ (HIN.out.ext (Ext.trans (by (repeat (first | (with_reducible exact Ext.refl _) | (with_reducible assumption) | (with_reducible refine Ext.alloc ?_ _) | (with_reducible refine Ext.trans ?_ (by with_reducible assumption)) | (with_reducible refine Ext.drew ?_) | (with_reducible refine Ext.setCell ?_ (by simp <;> omega) _)))) (XW.h _))) HV.out))))); refine wpQuiet_nil ?_; rintro w1 ⟨⟨_, hb1⟩, rfl⟩; (try dsimp only))
    (go_wp2_with fail; refine (works_any _ (HT.out.ext (by (repeat (first | (with_reducible exact Ext.refl _) | (with_reducible assumption) | (with_reducible refine Ext.alloc ?_ _) | (with_reducible refine Ext.trans ?_ (by with_reducible assumption)) | (with_reducible refine Ext.drew ?_) | (with_reducible refine Ext.setCell ?_ (by simp <;> omega) _)))))).mono ?_; rintro e w2 ⟨rfl, hb2⟩; go_wp2_with fail; go_ret; exact ⟨rfl, by (repeat (first | (with_reducible exact Ext.refl _) | (with_reducible assumption) | (with_reducible refine Ext.alloc ?_ _) | (with_reducible refine Ext.trans ?_ (by with_reducible assumption)) | (with_reducible refine Ext.drew ?_) | (with_reducible refine Ext.setCell ?_ (by simp <;> omega) _)))⟩)
  have hvb : validB W = true := by simp only [Bool.and_eq_true] at hv; exact hv.2
  have hn := valid_len hvb
  have hn30 : W.springs.length ≤ 30 := by omega
  have HV := Lib.hid hv
  have HVB := Lib.hid hvb
  clear hv hvb
  rcases Classical.em (need < 0) with g1 | g1
  · have x1 := decide_eq_true g1
    (go_enter Tryd.func4, Tryd.ntmps4; go_wp2_with fail; (refine wp_region_ext (by kernel_rfl) (by kernel_rfl) (fun hX => ?_); (repeat (go_big_quiet_step ((first | (go_at_call 12; exact quiet_ext (valid_is _ _ _ _ W _ (HIN.out.ext (Ext.trans (by (repeat (first | (with_reducible exact Ext.refl _) | (with_reducible assumption) | (with_reducible refine Ext.alloc ?_ _) | (with_reducible refine Ext.trans ?_ (by with_reducible assumption)) | (with_reducible refine Ext.drew ?_) | (with_reducible refine Ext.setCell ?_ (by simp <;> omega) _)))) (XW.h _))) HV.out)) | (go_at_call 19; exact quiet_ext (allW_any _ _ _ _ W _ hn30)))))); refine wpQuiet_nil ?_; rintro w1 ⟨⟨_, hb1⟩, rfl⟩; (try dsimp only)))
    (go_wp2_with fail; refine (works_any _ (HT.out.ext (by (repeat (first | (with_reducible exact Ext.refl _) | (with_reducible assumption) | (with_reducible refine Ext.alloc ?_ _) | (with_reducible refine Ext.trans ?_ (by with_reducible assumption)) | (with_reducible refine Ext.drew ?_) | (with_reducible refine Ext.setCell ?_ (by simp <;> omega) _)))))).mono ?_; rintro e w2 ⟨rfl, hb2⟩; go_wp2_with fail; go_ret; exact ⟨rfl, by (repeat (first | (with_reducible exact Ext.refl _) | (with_reducible assumption) | (with_reducible refine Ext.alloc ?_ _) | (with_reducible refine Ext.trans ?_ (by with_reducible assumption)) | (with_reducible refine Ext.drew ?_) | (with_reducible refine Ext.setCell ?_ (by simp <;> omega) _)))⟩)
  have x1 := decide_eq_false g1
  rcases Classical.em ((10000 : Int) < need) with g2 | g2
  · have x2 := decide_eq_true g2
    (go_enter Tryd.func4, Tryd.ntmps4; go_wp2_with fail; (refine wp_region_ext (by kernel_rfl) (by kernel_rfl) (fun hX => ?_); (repeat (go_big_quiet_step ((first | (go_at_call 12; exact quiet_ext (valid_is _ _ _ _ W _ (HIN.out.ext (Ext.trans (by (repeat (first | (with_reducible exact Ext.refl _) | (with_reducible assumption) | (with_reducible refine Ext.alloc ?_ _) | (with_reducible refine Ext.trans ?_ (by with_reducible assumption)) | (with_reducible refine Ext.drew ?_) | (with_reducible refine Ext.setCell ?_ (by simp <;> omega) _)))) (XW.h _))) HV.out)) | (go_at_call 19; exact quiet_ext (allW_any _ _ _ _ W _ hn30)))))); refine wpQuiet_nil ?_; rintro w1 ⟨⟨_, hb1⟩, rfl⟩; (try dsimp only)))
    (go_wp2_with fail; refine (works_any _ (HT.out.ext (by (repeat (first | (with_reducible exact Ext.refl _) | (with_reducible assumption) | (with_reducible refine Ext.alloc ?_ _) | (with_reducible refine Ext.trans ?_ (by with_reducible assumption)) | (with_reducible refine Ext.drew ?_) | (with_reducible refine Ext.setCell ?_ (by simp <;> omega) _)))))).mono ?_; rintro e w2 ⟨rfl, hb2⟩; go_wp2_with fail; go_ret; exact ⟨rfl, by (repeat (first | (with_reducible exact Ext.refl _) | (with_reducible assumption) | (with_reducible refine Ext.alloc ?_ _) | (with_reducible refine Ext.trans ?_ (by with_reducible assumption)) | (with_reducible refine Ext.drew ?_) | (with_reducible refine Ext.setCell ?_ (by simp <;> omega) _)))⟩)
  have x2 := decide_eq_false g2
  rcases Classical.em ((30 : Int) < (L.length : Int)) with g3 | g3
  · have x3 := decide_eq_true g3
    (go_enter Tryd.func4, Tryd.ntmps4; go_wp2_with fail; (refine wp_region_ext (by kernel_rfl) (by kernel_rfl) (fun hX => ?_); (repeat (go_big_quiet_step ((first | (go_at_call 12; exact quiet_ext (valid_is _ _ _ _ W _ (HIN.out.ext (Ext.trans (by (repeat (first | (with_reducible exact Ext.refl _) | (with_reducible assumption) | (with_reducible refine Ext.alloc ?_ _) | (with_reducible refine Ext.trans ?_ (by with_reducible assumption)) | (with_reducible refine Ext.drew ?_) | (with_reducible refine Ext.setCell ?_ (by simp <;> omega) _)))) (XW.h _))) HV.out)) | (go_at_call 19; exact quiet_ext (allW_any _ _ _ _ W _ hn30)))))); refine wpQuiet_nil ?_; rintro w1 ⟨⟨_, hb1⟩, rfl⟩; (try dsimp only)))
    (go_wp2_with fail; refine (works_any _ (HT.out.ext (by (repeat (first | (with_reducible exact Ext.refl _) | (with_reducible assumption) | (with_reducible refine Ext.alloc ?_ _) | (with_reducible refine Ext.trans ?_ (by with_reducible assumption)) | (with_reducible refine Ext.drew ?_) | (with_reducible refine Ext.setCell ?_ (by simp <;> omega) _)))))).mono ?_; rintro e w2 ⟨rfl, hb2⟩; go_wp2_with fail; go_ret; exact ⟨rfl, by (repeat (first | (with_reducible exact Ext.refl _) | (with_reducible assumption) | (with_reducible refine Ext.alloc ?_ _) | (with_reducible refine Ext.trans ?_ (by with_reducible assumption)) | (with_reducible refine Ext.drew ?_) | (with_reducible refine Ext.setCell ?_ (by simp <;> omega) _)))⟩)
  have x3 := decide_eq_false g3
  rcases Classical.em (other < 0) with g4 | g4
  · have x4 := decide_eq_true g4
    (go_enter Tryd.func4, Tryd.ntmps4; go_wp2_with fail; (refine wp_region_ext (by kernel_rfl) (by kernel_rfl) (fun hX => ?_); (repeat (go_big_quiet_step ((first | (go_at_call 12; exact quiet_ext (valid_is _ _ _ _ W _ (HIN.out.ext (Ext.trans (by (repeat (first | (with_reducible exact Ext.refl _) | (with_reducible assumption) | (with_reducible refine Ext.alloc ?_ _) | (with_reducible refine Ext.trans ?_ (by with_reducible assumption)) | (with_reducible refine Ext.drew ?_) | (with_reducible refine Ext.setCell ?_ (by simp <;> omega) _)))) (XW.h _))) HV.out)) | (go_at_call 19; exact quiet_ext (allW_any _ _ _ _ W _ hn30)))))); refine wpQuiet_nil ?_; rintro w1 ⟨⟨_, hb1⟩, rfl⟩; (try dsimp only)))
    (go_wp2_with fail; refine (works_any _ (HT.out.ext (by (repeat (first | (with_reducible exact Ext.refl _) | (with_reducible assumption) | (with_reducible refine Ext.alloc ?_ _) | (with_reducible refine Ext.trans ?_ (by with_reducible assumption)) | (with_reducible refine Ext.drew ?_) | (with_reducible refine Ext.setCell ?_ (by simp <;> omega) _)))))).mono ?_; rintro e w2 ⟨rfl, hb2⟩; go_wp2_with fail; go_ret; exact ⟨rfl, by (repeat (first | (with_reducible exact Ext.refl _) | (with_reducible assumption) | (with_reducible refine Ext.alloc ?_ _) | (with_reducible refine Ext.trans ?_ (by with_reducible assumption)) | (with_reducible refine Ext.drew ?_) | (with_reducible refine Ext.setCell ?_ (by simp <;> omega) _)))⟩)
  have x4 := decide_eq_false g4
  rcases Classical.em ((fullN W : Int) < other) with g5 | g5
  · have x5 := decide_eq_true g5
    (go_enter Tryd.func4, Tryd.ntmps4; go_wp2_with fail; (refine wp_region_ext (by kernel_rfl) (by kernel_rfl) (fun hX => ?_); (repeat (go_big_quiet_step ((first | (go_at_call 12; exact quiet_ext (valid_is _ _ _ _ W _ (HIN.out.ext (Ext.trans (by (repeat (first | (with_reducible exact Ext.refl _) | (with_reducible assumption) | (with_reducible refine Ext.alloc ?_ _) | (with_reducible refine Ext.trans ?_ (by with_reducible assumption)) | (with_reducible refine Ext.drew ?_) | (with_reducible refine Ext.setCell ?_ (by simp <;> omega) _)))) (XW.h _))) HV.out)) | (go_at_call 19; exact quiet_ext (allW_any _ _ _ _ W _ hn30)))))); refine wpQuiet_nil ?_; rintro w1 ⟨⟨_, hb1⟩, rfl⟩; (try dsimp only)))
    (go_wp2_with fail; refine (works_any _ (HT.out.ext (by (repeat (first | (with_reducible exact Ext.refl _) | (with_reducible assumption) | (with_reducible refine Ext.alloc ?_ _) | (with_reducible refine Ext.trans ?_ (by with_reducible assumption)) | (with_reducible refine Ext.drew ?_) | (with_reducible refine Ext.setCell ?_ (by simp <;> omega) _)))))).mono ?_; rintro e w2 ⟨rfl, hb2⟩; go_wp2_with fail; go_ret; exact ⟨rfl, by (repeat (first | (with_reducible exact Ext.refl _) | (with_reducible assumption) | (with_reducible refine Ext.alloc ?_ _) | (with_reducible refine Ext.trans ?_ (by with_reducible assumption)) | (with_reducible refine Ext.drew ?_) | (with_reducible refine Ext.setCell ?_ (by simp <;> omega) _)))⟩)
  have x5 := decide_eq_false g5
  (go_enter Tryd.func4, Tryd.ntmps4; go_wp2_with fail; (refine wp_region_ext (by kernel_rfl) (by kernel_rfl) (fun hX => ?_); (repeat (go_big_quiet_step ((first | (go_at_call 12; exact quiet_ext (valid_is _ _ _ _ W _ (HIN.out.ext (Ext.trans (by (repeat (first | (with_reducible exact Ext.refl _) | (with_reducible assumption) | (with_reducible refine Ext.alloc ?_ _) | (with_reducible refine Ext.trans ?_ (by with_reducible assumption)) | (with_reducible refine Ext.drew ?_) | (with_reducible refine Ext.setCell ?_ (by simp <;> omega) _)))) (XW.h _))) HV.out)) | (go_at_call 19; exact quiet_ext (allW_any _ _ _ _ W _ hn30)))))); refine wpQuiet_nil ?_; rintro w1 ⟨⟨_, hb1⟩, rfl⟩; (try dsimp only)))
  (have f0 := ((bcell hb1).1 w.heap.size 0 (by first | (simp; done) | (simp; omega))).trans (show _ = some (.slice As W.springs.length cs) by go_simp); have f1 := ((bcell hb1).1 w.heap.size 1 (by first | (simp; done) | (simp; omega))).trans (show _ = some (.int .i64 W.most) by go_simp); have f2 := ((bcell hb1).1 w.heap.size 2 (by first | (simp; done) | (simp; omega))).trans (show _ = some (.int .i64 W.misses) by go_simp); have f3 := ((bcell hb1).1 w.heap.size 3 (by first | (simp; done) | (simp; omega))).trans (show _ = some (.int .i64 W.alarms) by go_simp); have f4 := ((bcell hb1).1 w.heap.size 4 (by first | (simp; done) | (simp; omega))).trans (show _ = some (.slice Am W.samples.length cm) by go_simp); have d0 := ((bcell hb1).1 (w.heap.size + 1) 0 (by simp)).trans (show _ = some (.int .i64 need) by go_simp); have d1 := ((bcell hb1).1 (w.heap.size + 1) 1 (by simp)).trans (show _ = some (.slice A L.length c) by go_simp); have d2 := ((bcell hb1).1 (w.heap.size + 1) 2 (by simp)).trans (show _ = some (.int .i64 other) by go_simp); have hy : w.heap.size + 1 < w1.heap.size := Nat.lt_of_lt_of_le (show w.heap.size + 1 < ((w.alloc _).alloc _).heap.size by simp) (Below.size hb1); have hz : w.heap.size < w1.heap.size := by omega)
  have hw1 : Ext w w1 := by (repeat (first | (with_reducible exact Ext.refl _) | (with_reducible assumption) | (with_reducible refine Ext.alloc ?_ _) | (with_reducible refine Ext.trans ?_ (by with_reducible assumption)) | (with_reducible refine Ext.drew ?_) | (with_reducible refine Ext.setCell ?_ (by simp <;> omega) _)))
  obtain ⟨o, rfl⟩ := Int.eq_ofNat_of_zero_le g4
  have ho : o ≤ fullN W := by omega
  have ho2 : o < 2 ^ W.springs.length := by have := pow_pos2 W.springs.length; unfold fullN at ho; omega
  clear hb1 hX x1 x2 x3 x4 x5 g4 g5
  by_cases hne : truthsW W = []
  · have HE := Lib.hid (show openE W true = 3 by simp [openE, HVB.out, hne])
    have HES := Lib.hid (show openE W (withinB need 0 10000) = 3 by rw [withinB_mk ⟨g1, g2⟩]; exact HE.out)
    clear hne
    go_wp2_with fail
    refine (clean_err _ _ _ _ W _ (HIN.out.ext hw1) (by rw [HE.out]; decide)).mono ?_
    rintro e w2 ⟨rfl, hb2⟩
    rw [HE.out]
    (replace f0 := ((bcell hb2).1 _ 0 hz).trans f0; replace f1 := ((bcell hb2).1 _ 1 hz).trans f1; replace f2 := ((bcell hb2).1 _ 2 hz).trans f2; replace f3 := ((bcell hb2).1 _ 3 hz).trans f3; replace f4 := ((bcell hb2).1 _ 4 hz).trans f4; replace d0 := ((bcell hb2).1 _ 0 hy).trans d0; replace d1 := ((bcell hb2).1 _ 1 hy).trans d1; replace d2 := ((bcell hb2).1 _ 2 hy).trans d2; replace hz := Nat.lt_of_lt_of_le hz (Below.size hb2); replace hy := Nat.lt_of_lt_of_le hy (Below.size hb2))
    have hw2 : Ext w w2 := by (repeat (first | (with_reducible exact Ext.refl _) | (with_reducible assumption) | (with_reducible refine Ext.alloc ?_ _) | (with_reducible refine Ext.trans ?_ (by with_reducible assumption)) | (with_reducible refine Ext.drew ?_) | (with_reducible refine Ext.setCell ?_ (by simp <;> omega) _)))
    clear hb2 hw1
    go_wp2_with fail
    refine (serve_err _ _ _ _ W need _ (HIN.out.ext hw2) (by rw [HES.out]; decide)).mono ?_
    rintro e w3 ⟨rfl, hb3⟩
    rw [HES.out]
    go_wp2_with fail
    refine (works_any _ (HT.out.ext (by (repeat (first | (with_reducible exact Ext.refl _) | (with_reducible assumption) | (with_reducible refine Ext.alloc ?_ _) | (with_reducible refine Ext.trans ?_ (by with_reducible assumption)) | (with_reducible refine Ext.drew ?_) | (with_reducible refine Ext.setCell ?_ (by simp <;> omega) _)))))).mono ?_
    rintro e w4 ⟨rfl, hb4⟩
    go_wp2_with fail
    go_ret
    exact ⟨rfl, by (repeat (first | (with_reducible exact Ext.refl _) | (with_reducible assumption) | (with_reducible refine Ext.alloc ?_ _) | (with_reducible refine Ext.trans ?_ (by with_reducible assumption)) | (with_reducible refine Ext.drew ?_) | (with_reducible refine Ext.setCell ?_ (by simp <;> omega) _)))⟩
  have HE := Lib.hid (show openE W true = 0 by simp [openE, HVB.out, hne])
  have HES := Lib.hid (show openE W (withinB need 0 10000) = 0 by rw [withinB_mk ⟨g1, g2⟩]; exact HE.out)
  clear hne
  have hfl := fullN_lt hn.2
  have hpl := pureN_lt hn.2
  have hspr := valid_spr HVB.out
  have ho8 : o < 256 := by omega
  have hpo : pureN W ||| o < 256 := Nat.or_lt_two_pow (n := 8) hpl ho8
  have hdo := diffN_lt (b := pureN W) ho8
  have e1 := i64_or_nat (pureN W) o (by omega) (by omega)
  have e2 := i64_andNot_is o (pureN W) ho8 hpl
  go_wp2_with fail
  refine (clean_ok _ _ _ _ W _ (HIN.out.ext hw1) HE.out).mono ?_
  rintro e w2 ⟨rfl, hb2⟩
  (replace f0 := ((bcell hb2).1 _ 0 hz).trans f0; replace f1 := ((bcell hb2).1 _ 1 hz).trans f1; replace f2 := ((bcell hb2).1 _ 2 hz).trans f2; replace f3 := ((bcell hb2).1 _ 3 hz).trans f3; replace f4 := ((bcell hb2).1 _ 4 hz).trans f4; replace d0 := ((bcell hb2).1 _ 0 hy).trans d0; replace d1 := ((bcell hb2).1 _ 1 hy).trans d1; replace d2 := ((bcell hb2).1 _ 2 hy).trans d2; replace hz := Nat.lt_of_lt_of_le hz (Below.size hb2); replace hy := Nat.lt_of_lt_of_le hy (Below.size hb2))
  have hw2 : Ext w w2 := by (repeat (first | (with_reducible exact Ext.refl _) | (with_reducible assumption) | (with_reducible refine Ext.alloc ?_ _) | (with_reducible refine Ext.trans ?_ (by with_reducible assumption)) | (with_reducible refine Ext.drew ?_) | (with_reducible refine Ext.setCell ?_ (by simp <;> omega) _)))
  clear hb2 hw1
  go_wp2_with fail
  refine (serve_ok _ _ _ _ W need _ (HIN.out.ext hw2) (HT.out.ext hw2) HES.out).mono ?_
  rintro e w3 ⟨rfl, hb3⟩
  (replace f0 := ((bcell hb3).1 _ 0 hz).trans f0; replace f1 := ((bcell hb3).1 _ 1 hz).trans f1; replace f2 := ((bcell hb3).1 _ 2 hz).trans f2; replace f3 := ((bcell hb3).1 _ 3 hz).trans f3; replace f4 := ((bcell hb3).1 _ 4 hz).trans f4; replace d0 := ((bcell hb3).1 _ 0 hy).trans d0; replace d1 := ((bcell hb3).1 _ 1 hy).trans d1; replace d2 := ((bcell hb3).1 _ 2 hy).trans d2; replace hz := Nat.lt_of_lt_of_le hz (Below.size hb3); replace hy := Nat.lt_of_lt_of_le hy (Below.size hb3))
  have hw3 : Ext w w3 := by (repeat (first | (with_reducible exact Ext.refl _) | (with_reducible assumption) | (with_reducible refine Ext.alloc ?_ _) | (with_reducible refine Ext.trans ?_ (by with_reducible assumption)) | (with_reducible refine Ext.drew ?_) | (with_reducible refine Ext.setCell ?_ (by simp <;> omega) _)))
  clear hb3 hw2
  by_cases hen : enough W need = []
  · rw [show serveV W need = .tuple #[.int .i64 0, .int .i64 0, .int .i64 0, .int .i64 3] by unfold serveV; rw [if_pos hen]]
    have hlt := enough_none ho2 hen
    clear hen
    go_wp2_with fail
    refine (sum_any _ _ _ _ W (pureN W ||| o) _ hn.2 hpo hspr (HIN.out.ext hw3).1).mono ?_
    rintro e w4 ⟨rfl, hb4⟩
    (replace f0 := ((bcell hb4).1 _ 0 hz).trans f0; replace f1 := ((bcell hb4).1 _ 1 hz).trans f1; replace f2 := ((bcell hb4).1 _ 2 hz).trans f2; replace f3 := ((bcell hb4).1 _ 3 hz).trans f3; replace f4 := ((bcell hb4).1 _ 4 hz).trans f4; replace d0 := ((bcell hb4).1 _ 0 hy).trans d0; replace d1 := ((bcell hb4).1 _ 1 hy).trans d1; replace d2 := ((bcell hb4).1 _ 2 hy).trans d2; replace hz := Nat.lt_of_lt_of_le hz (Below.size hb4); replace hy := Nat.lt_of_lt_of_le hy (Below.size hb4))
    have hw4 : Ext w w4 := by (repeat (first | (with_reducible exact Ext.refl _) | (with_reducible assumption) | (with_reducible refine Ext.alloc ?_ _) | (with_reducible refine Ext.trans ?_ (by with_reducible assumption)) | (with_reducible refine Ext.drew ?_) | (with_reducible refine Ext.setCell ?_ (by simp <;> omega) _)))
    clear hb4 hw3
    go_wp2_with fail
    refine (sum_any _ _ _ _ W (diffN o (pureN W)) _ hn.2 hdo hspr (HIN.out.ext hw4).1).mono ?_
    rintro e w5 ⟨rfl, hb5⟩
    (replace f0 := ((bcell hb5).1 _ 0 hz).trans f0; replace f1 := ((bcell hb5).1 _ 1 hz).trans f1; replace f2 := ((bcell hb5).1 _ 2 hz).trans f2; replace f3 := ((bcell hb5).1 _ 3 hz).trans f3; replace f4 := ((bcell hb5).1 _ 4 hz).trans f4; replace d0 := ((bcell hb5).1 _ 0 hy).trans d0; replace d1 := ((bcell hb5).1 _ 1 hy).trans d1; replace d2 := ((bcell hb5).1 _ 2 hy).trans d2; replace hz := Nat.lt_of_lt_of_le hz (Below.size hb5); replace hy := Nat.lt_of_lt_of_le hy (Below.size hb5))
    have hw5 : Ext w w5 := by (repeat (first | (with_reducible exact Ext.refl _) | (with_reducible assumption) | (with_reducible refine Ext.alloc ?_ _) | (with_reducible refine Ext.trans ?_ (by with_reducible assumption)) | (with_reducible refine Ext.drew ?_) | (with_reducible refine Ext.setCell ?_ (by simp <;> omega) _)))
    clear hb5 hw4
    go_wp2_with fail
    refine (works_any _ (HT.out.ext (by (repeat (first | (with_reducible exact Ext.refl _) | (with_reducible assumption) | (with_reducible refine Ext.alloc ?_ _) | (with_reducible refine Ext.trans ?_ (by with_reducible assumption)) | (with_reducible refine Ext.drew ?_) | (with_reducible refine Ext.setCell ?_ (by simp <;> omega) _)))))).mono ?_
    rintro e w6 ⟨rfl, hb6⟩
    go_wp2_with fail
    go_ret
    exact ⟨rfl, by (repeat (first | (with_reducible exact Ext.refl _) | (with_reducible assumption) | (with_reducible refine Ext.alloc ?_ _) | (with_reducible refine Ext.trans ?_ (by with_reducible assumption)) | (with_reducible refine Ext.drew ?_) | (with_reducible refine Ext.setCell ?_ (by simp <;> omega) _)))⟩
  have hmb := minB_mem hen
  have hmi := enough_is hmb
  have hbest := fun h => enough_best (W := W) (need := need) ho2 h
  rw [show serveV W need = .tuple #[.int .i64 (pureN W), .int .i64 ((minB (enough W need)).set : Int), .int .i64 (minB (enough W need)).fuel, .int .i64 0] by unfold serveV; rw [if_neg hen]]
  generalize minB (enough W need) = mb at *
  clear hmb hen
  have hm8 : mb.set < 256 := by have := pow_le8 hn.2; omega
  have hmf : mb.set ≤ fullN W := by have := pow_pos2 W.springs.length; unfold fullN; omega
  have hmf' : ¬ (fullN W : Int) < (mb.set : Int) := by omega
  have hm0 : ¬ (mb.set : Int) < 0 := by omega
  have HMI := Lib.hid hmi.2.1
  have HMN := Lib.hid hmi.2.2
  have HBEST := Lib.hid hbest
  clear hmi hbest
  go_wp2_with fail
  refine (sum_any _ _ _ _ W (pureN W ||| o) _ hn.2 hpo hspr (HIN.out.ext hw3).1).mono ?_
  rintro e w4 ⟨rfl, hb4⟩
  (replace f0 := ((bcell hb4).1 _ 0 hz).trans f0; replace f1 := ((bcell hb4).1 _ 1 hz).trans f1; replace f2 := ((bcell hb4).1 _ 2 hz).trans f2; replace f3 := ((bcell hb4).1 _ 3 hz).trans f3; replace f4 := ((bcell hb4).1 _ 4 hz).trans f4; replace d0 := ((bcell hb4).1 _ 0 hy).trans d0; replace d1 := ((bcell hb4).1 _ 1 hy).trans d1; replace d2 := ((bcell hb4).1 _ 2 hy).trans d2; replace hz := Nat.lt_of_lt_of_le hz (Below.size hb4); replace hy := Nat.lt_of_lt_of_le hy (Below.size hb4))
  have hw4 : Ext w w4 := by (repeat (first | (with_reducible exact Ext.refl _) | (with_reducible assumption) | (with_reducible refine Ext.alloc ?_ _) | (with_reducible refine Ext.trans ?_ (by with_reducible assumption)) | (with_reducible refine Ext.drew ?_) | (with_reducible refine Ext.setCell ?_ (by simp <;> omega) _)))
  clear hb4 hw3
  go_wp2_with fail
  refine (sum_any _ _ _ _ W (diffN o (pureN W)) _ hn.2 hdo hspr (HIN.out.ext hw4).1).mono ?_
  rintro e w5 ⟨rfl, hb5⟩
  (replace f0 := ((bcell hb5).1 _ 0 hz).trans f0; replace f1 := ((bcell hb5).1 _ 1 hz).trans f1; replace f2 := ((bcell hb5).1 _ 2 hz).trans f2; replace f3 := ((bcell hb5).1 _ 3 hz).trans f3; replace f4 := ((bcell hb5).1 _ 4 hz).trans f4; replace d0 := ((bcell hb5).1 _ 0 hy).trans d0; replace d1 := ((bcell hb5).1 _ 1 hy).trans d1; replace d2 := ((bcell hb5).1 _ 2 hy).trans d2; replace hz := Nat.lt_of_lt_of_le hz (Below.size hb5); replace hy := Nat.lt_of_lt_of_le hy (Below.size hb5))
  have hw5 : Ext w w5 := by (repeat (first | (with_reducible exact Ext.refl _) | (with_reducible assumption) | (with_reducible refine Ext.alloc ?_ _) | (with_reducible refine Ext.trans ?_ (by with_reducible assumption)) | (with_reducible refine Ext.drew ?_) | (with_reducible refine Ext.setCell ?_ (by simp <;> omega) _)))
  clear hb5 hw4
  go_wp2_with fail
  refine (sum_any _ _ _ _ W mb.set _ hn.2 hm8 hspr (HIN.out.ext hw5).1).mono ?_
  rintro e w6 ⟨rfl, hb6⟩
  (replace f0 := ((bcell hb6).1 _ 0 hz).trans f0; replace f1 := ((bcell hb6).1 _ 1 hz).trans f1; replace f2 := ((bcell hb6).1 _ 2 hz).trans f2; replace f3 := ((bcell hb6).1 _ 3 hz).trans f3; replace f4 := ((bcell hb6).1 _ 4 hz).trans f4; replace d0 := ((bcell hb6).1 _ 0 hy).trans d0; replace d1 := ((bcell hb6).1 _ 1 hy).trans d1; replace d2 := ((bcell hb6).1 _ 2 hy).trans d2; replace hz := Nat.lt_of_lt_of_le hz (Below.size hb6); replace hy := Nat.lt_of_lt_of_le hy (Below.size hb6))
  have hw6 : Ext w w6 := by (repeat (first | (with_reducible exact Ext.refl _) | (with_reducible assumption) | (with_reducible refine Ext.alloc ?_ _) | (with_reducible refine Ext.trans ?_ (by with_reducible assumption)) | (with_reducible refine Ext.drew ?_) | (with_reducible refine Ext.setCell ?_ (by simp <;> omega) _)))
  clear hb6 hw5
  rw [← HMI.out]
  generalize hli : sumOf (loOf W.springs) (el (pureN W ||| o)) = li at *
  generalize hco : sumOf (fuelOf W.springs) (el (diffN o (pureN W))) = co at *
  have HLC := Lib.hid (show need ≤ li → mb.fuel ≤ co from HBEST.out)
  clear hli hco HBEST
  have hu8 : pureN W ||| mb.set < 256 := Nat.or_lt_two_pow (n := 8) hpl hm8
  have e3 := i64_or_nat (pureN W) mb.set (by omega) (by omega)
  have HU := Lib.hid (sum_all (loOf W.springs) W.springs.length (pureN W ||| mb.set) hn.2 (lo_out _))
  have HW6 := Lib.hid hw6
  clear hw6 e1 e2
  have y1 : decide (fullN W < mb.set) = false := decide_eq_false (by omega)
  have y2 : decide ((mb.set : Int) < 0) = false := decide_eq_false (by omega)
  have y4 : decide ((fullN W : Int) < (mb.set : Int)) = false := decide_eq_false (by omega)
  rcases Classical.em (need ≤ li) with hli | hli
  all_goals
    have hcf : ¬ need ≤ li ∨ ¬ co < mb.fuel := by
      rcases Classical.em (need ≤ li) with h | h
      · exact .inr (by have := HLC.out h; omega)
      · exact .inl h
    have hco : need ≤ li → ¬ co < mb.fuel := fun h => hcf.resolve_left (fun g => g h)
    first | have hcx := hco hli | have hcx := hli
    first | have y3 : decide (co < mb.fuel) = false := decide_eq_false hcx | have y3 : decide (need ≤ li) = false := decide_eq_false hli
    clear hcf hco
    go_wp2_with fail
    go_at_call 19
    refine (allW_any _ _ _ _ W _ hn30).mono ?_
    rintro e w7 ⟨rfl, hb7⟩
    (replace f0 := ((bcell hb7).1 _ 0 hz).trans f0; replace f1 := ((bcell hb7).1 _ 1 hz).trans f1; replace f2 := ((bcell hb7).1 _ 2 hz).trans f2; replace f3 := ((bcell hb7).1 _ 3 hz).trans f3; replace f4 := ((bcell hb7).1 _ 4 hz).trans f4; replace d0 := ((bcell hb7).1 _ 0 hy).trans d0; replace d1 := ((bcell hb7).1 _ 1 hy).trans d1; replace d2 := ((bcell hb7).1 _ 2 hy).trans d2; replace hz := Nat.lt_of_lt_of_le hz (Below.size hb7); replace hy := Nat.lt_of_lt_of_le hy (Below.size hb7))
    have HW7 := Lib.hid (HW6.out.trans hb7)
    clear hb7
    go_wp2_with fail
    clear hmf hmf' hm0 hcx hli HLC y1 y2 y3 y4
    go_loopg [18, 19] W.springs.length (fun gk sm i wr => ∃ (k : Nat) (x : Int), k + gk = W.springs.length ∧ i = .int .i64 k ∧ sm = .int .i64 x ∧ sumOf (loOf W.springs) (setTo (pureN W ||| mb.set) k) ≤ x ∧ (0 ≤ x ∧ x ≤ 1000 * k) ∧ Ext w7 wr)
    case atStart => exact ⟨0, 0, by omega, rfl, rfl, by simp [setTo, sumOf], by omega, Ext.refl _⟩
    case round =>
      obtain ⟨k, x, hk, rfl, rfl, hx1, ⟨hx2, hx3⟩, hb⟩ := hrel
      have HK : k ≤ W.springs.length := by omega
      have HKG := Lib.hid hk
      have HB := Lib.hid hb
      (replace f0 := ((bcell hb).1 _ 0 hz).trans f0; replace f1 := ((bcell hb).1 _ 1 hz).trans f1; replace f2 := ((bcell hb).1 _ 2 hz).trans f2; replace f3 := ((bcell hb).1 _ 3 hz).trans f3; replace f4 := ((bcell hb).1 _ 4 hz).trans f4; replace d0 := ((bcell hb).1 _ 0 hy).trans d0; replace d1 := ((bcell hb).1 _ 1 hy).trans d1; replace d2 := ((bcell hb).1 _ 2 hy).trans d2; replace hz := Nat.lt_of_lt_of_le hz (Below.size hb); replace hy := Nat.lt_of_lt_of_le hy (Below.size hb))
      have hin9 := (HIN.out.ext (HW7.out.trans HB.out)).1
      have hL9 := (HL.out.below (HW7.out.trans HB.out) (Nat.le_refl _)).more (Below.size (HW7.out.trans HB.out))
      clear hk hb
      by_cases hlt : k < W.springs.length
      · obtain ⟨b, off, hAs, hbl, hc⟩ := hin9.at_ sprC_len hlt
        have c0 := hc 0 _ (by omega) rfl
        have c1 := hc 1 _ (by omega) rfl
        clear hc
        simp only [Nat.add_zero] at c0
        have hk0 := hspr W.springs[k] (List.getElem_mem hlt)
        have hLo : loOf W.springs k = W.springs[k].lo := by unfold loOf; rw [List.getElem?_eq_getElem hlt]; rfl
        have HB2 := bit_num (pureN W ||| mb.set) k (by omega)
        generalize W.springs[k] = sp at *
        have hmod : (pureN W ||| mb.set) / 2 ^ k % 2 = 0 ∨ (pureN W ||| mb.set) / 2 ^ k % 2 = 1 := by omega
        rcases hmod with hm | hm
        · have ht : (pureN W ||| mb.set).testBit k = false := by rw [Nat.testBit_eq_decide_div_mod_eq, hm]; rfl
          rw [hm] at HB2
          have S1 := Lib.hid (show sumOf (loOf W.springs) (setTo (pureN W ||| mb.set) (k + 1)) = sumOf (loOf W.springs) (setTo (pureN W ||| mb.set) k) by rw [sumSet_succ, ht]; simp)
          clear hm ht hLo
          go_wp2_with fail
          go_roundg (gk - 1)
          case measure => have := HKG.out; omega
          case rel => exact ⟨k + 1, x, by have := HKG.out; omega, by go_num, rfl, by rw [S1.out]; exact hx1, by omega, HB.out⟩
        · have ht : (pureN W ||| mb.set).testBit k = true := by rw [Nat.testBit_eq_decide_div_mod_eq, hm]; rfl
          rw [hm] at HB2
          have S1 := Lib.hid (show sumOf (loOf W.springs) (setTo (pureN W ||| mb.set) (k + 1)) = sumOf (loOf W.springs) (setTo (pureN W ||| mb.set) k) + sp.lo by rw [sumSet_succ, ht, hLo]; simp)
          clear hm ht hLo
          subst hAs
          by_cases j1 : k < L.length
          · obtain ⟨b2, off2, rfl, hbl2, hc2⟩ := hL9.at_ intC_len j1
            have z0 := hc2 0 _ (by omega) rfl
            clear hc2
            have hb2z : b2 < wr.heap.size := hbl2
            simp only [Nat.add_zero, Nat.mul_one] at z0
            have j1' : decide ((k : Int) < (L.length : Int)) = true := decide_eq_true (by omega)
            generalize L[k] = z at *
            rcases Classical.em (sp.lo ≤ z) with j2 | j2
            · have j2' := decide_eq_true j2
              rcases Classical.em (z ≤ sp.hi) with j3 | j3
              · have j3' := decide_eq_true j3
                go_wp2_with fail
                (refine wp_region_ext (by kernel_rfl) (by kernel_rfl) (fun hX => ?_); (repeat (go_big_quiet_step (fail))); refine wpQuiet_nil ?_; rintro w1 ⟨⟨_, hb1⟩, rfl⟩; (try dsimp only))
                have y0 := ((bcell hb1).1 _ _ hb2z).trans z0
                have y1 := ((bcell hb1).1 _ 1 hy).trans d1
                go_wp2_with fail
                go_roundg (gk - 1)
                case measure => have := HKG.out; omega
                case rel => exact ⟨k + 1, x + z, by have := HKG.out; omega, by go_num, val_int rfl, by rw [S1.out]; omega, by omega, HB.out.trans hb1⟩
              · have j3' := decide_eq_false j3
                go_wp2_with fail
                (refine wp_region_ext (by kernel_rfl) (by kernel_rfl) (fun hX => ?_); (repeat (go_big_quiet_step (fail))); refine wpQuiet_nil ?_; rintro w1 ⟨⟨_, hb1⟩, rfl⟩; (try dsimp only))
                go_wp2_with fail
                go_roundg (gk - 1)
                case measure => have := HKG.out; omega
                case rel => exact ⟨k + 1, x + sp.lo, by have := HKG.out; omega, by go_num, val_int rfl, by rw [S1.out]; omega, by omega, HB.out.trans hb1⟩
            · have j2' := decide_eq_false j2
              go_wp2_with fail
              (refine wp_region_ext (by kernel_rfl) (by kernel_rfl) (fun hX => ?_); (repeat (go_big_quiet_step (fail))); refine wpQuiet_nil ?_; rintro w1 ⟨⟨_, hb1⟩, rfl⟩; (try dsimp only))
              go_wp2_with fail
              go_roundg (gk - 1)
              case measure => have := HKG.out; omega
              case rel => exact ⟨k + 1, x + sp.lo, by have := HKG.out; omega, by go_num, val_int rfl, by rw [S1.out]; omega, by omega, HB.out.trans hb1⟩
          · have j1' : decide ((k : Int) < (L.length : Int)) = false := decide_eq_false (by omega)
            go_wp2_with fail
            (refine wp_region_ext (by kernel_rfl) (by kernel_rfl) (fun hX => ?_); (repeat (go_big_quiet_step (fail))); refine wpQuiet_nil ?_; rintro w1 ⟨⟨_, hb1⟩, rfl⟩; (try dsimp only))
            go_wp2_with fail
            go_roundg (gk - 1)
            case measure => have := HKG.out; omega
            case rel => exact ⟨k + 1, x + sp.lo, by have := HKG.out; omega, by go_num, val_int rfl, by rw [S1.out]; omega, by omega, HB.out.trans hb1⟩
      · obtain rfl : k = W.springs.length := by omega
        have hfin : need ≤ x := Int.le_trans HMN.out (by rw [← HU.out]; exact hx1)
        go_wp2_with fail
        refine (works_any _ (HT.out.ext (HW7.out.trans HB.out))).mono ?_
        rintro e w9 ⟨rfl, hb9⟩
        go_wp2_with fail
        go_ret
        exact ⟨rfl, (HW7.out.trans HB.out).trans hb9⟩
end Go.Proofs.YtabcmnfofekeeaaDoor
