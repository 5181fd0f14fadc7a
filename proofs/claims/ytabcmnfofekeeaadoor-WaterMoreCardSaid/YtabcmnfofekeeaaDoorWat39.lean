/- The law WaterMore of layer 4 (water): its walk. -/
import Derived.Test.YtabcmnfofekeeaaDoorWat38
import Derived.Test.YtabcmnfofekeeaaDoorBlk
namespace Go.Proofs.YtabcmnfofekeeaaDoor
open Go Go.Proofs Go.RowKit Go.Shelf
set_option maxHeartbeats 1000000
set_option maxRecDepth 20000
open Go.ChangeShapes Go.WideShapes Go.ChangeAt

theorem more_bad (As Am : Option Addr) (cs cm : Nat) (W : Water) (s : Sample) (a b c : Int) (w : World) (hin : WaterIn w As Am W) (ht : TabIn w)
    (hbad : (!farB W && validB W) = true → ¬ ((0 ≤ a ∧ a ≤ 4) ∧ (0 ≤ b ∧ b ≤ 4) ∧ (0 ≤ c ∧ c ≤ 8))) :
    Calls Tryd.prog 3 #[wvW As Am cs cm W, .agg #[.int .i64 s.mix, .bool s.foul, .int .i64 a, .int .i64 b, .int .i64 c]] w fun e w' => e = .returned (.bool true) ∧ Ext w w' := by
  have HIN := Lib.hid hin
  have HT := Lib.hid ht
  have HBAD := Lib.hid hbad
  clear hin ht hbad
  cases hv : (!farB W && validB W)
  · have HV := Lib.hid hv
    clear hv HBAD
    go_enter Tryd.func3, Tryd.ntmps3
    go_wp2_with fail
    refine (valid_v _ _ _ _ W _ (HIN.out.ext (by (repeat (first | (with_reducible exact Ext.refl _) | (with_reducible assumption) | (with_reducible refine Ext.alloc ?_ _) | (with_reducible refine Ext.trans ?_ (by with_reducible assumption)) | (with_reducible refine Ext.drew ?_) | (with_reducible refine Ext.setCell ?_ (by simp <;> omega) _))))) HV.out).mono ?_
    rintro e w1 ⟨rfl, hb1⟩
    go_wp2_with fail
    refine (works_any _ (HT.out.ext (by (repeat (first | (with_reducible exact Ext.refl _) | (with_reducible assumption) | (with_reducible refine Ext.alloc ?_ _) | (with_reducible refine Ext.trans ?_ (by with_reducible assumption)) | (with_reducible refine Ext.drew ?_) | (with_reducible refine Ext.setCell ?_ (by simp <;> omega) _)))))).mono ?_
    rintro e w2 ⟨rfl, hb2⟩
    go_wp2_with fail
    go_ret
    exact ⟨rfl, by (repeat (first | (with_reducible exact Ext.refl _) | (with_reducible assumption) | (with_reducible refine Ext.alloc ?_ _) | (with_reducible refine Ext.trans ?_ (by with_reducible assumption)) | (with_reducible refine Ext.drew ?_) | (with_reducible refine Ext.setCell ?_ (by simp <;> omega) _)))⟩
  have hb := HBAD.out hv
  have HV := Lib.hid hv
  clear hv HBAD
  rcases Classical.em (a < 0) with gd1 | gd1
  · have d1 := decide_eq_true gd1
    go_enter Tryd.func3, Tryd.ntmps3
    go_wp2_with fail
    refine (valid_v _ _ _ _ W _ (HIN.out.ext (by (repeat (first | (with_reducible exact Ext.refl _) | (with_reducible assumption) | (with_reducible refine Ext.alloc ?_ _) | (with_reducible refine Ext.trans ?_ (by with_reducible assumption)) | (with_reducible refine Ext.drew ?_) | (with_reducible refine Ext.setCell ?_ (by simp <;> omega) _))))) HV.out).mono ?_
    rintro e w1 ⟨rfl, hb1⟩
    have x0 := ((bcell hb1).1 (w.heap.size + 1) 0 (by first | (simp; done) | (simp; omega))).trans (show _ = some (.int .i64 s.mix) by go_simp)
    have x1 := ((bcell hb1).1 (w.heap.size + 1) 1 (by first | (simp; done) | (simp; omega))).trans (show _ = some (.bool s.foul) by go_simp)
    have x2 := ((bcell hb1).1 (w.heap.size + 1) 2 (by first | (simp; done) | (simp; omega))).trans (show _ = some (.int .i64 a) by go_simp)
    have x3 := ((bcell hb1).1 (w.heap.size + 1) 3 (by first | (simp; done) | (simp; omega))).trans (show _ = some (.int .i64 b) by go_simp)
    have x4 := ((bcell hb1).1 (w.heap.size + 1) 4 (by first | (simp; done) | (simp; omega))).trans (show _ = some (.int .i64 c) by go_simp)
    have xz : (w.heap.size + 1) < _ := Nat.lt_of_lt_of_le (show (w.heap.size + 1) < ((w.alloc _).alloc _).heap.size by first | (simp; done) | (simp; omega)) (Below.size hb1)
    go_wp2_with fail
    refine (works_any _ (HT.out.ext (by (repeat (first | (with_reducible exact Ext.refl _) | (with_reducible assumption) | (with_reducible refine Ext.alloc ?_ _) | (with_reducible refine Ext.trans ?_ (by with_reducible assumption)) | (with_reducible refine Ext.drew ?_) | (with_reducible refine Ext.setCell ?_ (by simp <;> omega) _)))))).mono ?_
    rintro e w2 ⟨rfl, hb2⟩
    go_wp2_with fail
    go_ret
    exact ⟨rfl, by (repeat (first | (with_reducible exact Ext.refl _) | (with_reducible assumption) | (with_reducible refine Ext.alloc ?_ _) | (with_reducible refine Ext.trans ?_ (by with_reducible assumption)) | (with_reducible refine Ext.drew ?_) | (with_reducible refine Ext.setCell ?_ (by simp <;> omega) _)))⟩
  have d1 := decide_eq_false gd1
  rcases Classical.em ((4 : Int) < a) with gd2 | gd2
  · have d2 := decide_eq_true gd2
    go_enter Tryd.func3, Tryd.ntmps3
    go_wp2_with fail
    refine (valid_v _ _ _ _ W _ (HIN.out.ext (by (repeat (first | (with_reducible exact Ext.refl _) | (with_reducible assumption) | (with_reducible refine Ext.alloc ?_ _) | (with_reducible refine Ext.trans ?_ (by with_reducible assumption)) | (with_reducible refine Ext.drew ?_) | (with_reducible refine Ext.setCell ?_ (by simp <;> omega) _))))) HV.out).mono ?_
    rintro e w1 ⟨rfl, hb1⟩
    have x0 := ((bcell hb1).1 (w.heap.size + 1) 0 (by first | (simp; done) | (simp; omega))).trans (show _ = some (.int .i64 s.mix) by go_simp)
    have x1 := ((bcell hb1).1 (w.heap.size + 1) 1 (by first | (simp; done) | (simp; omega))).trans (show _ = some (.bool s.foul) by go_simp)
    have x2 := ((bcell hb1).1 (w.heap.size + 1) 2 (by first | (simp; done) | (simp; omega))).trans (show _ = some (.int .i64 a) by go_simp)
    have x3 := ((bcell hb1).1 (w.heap.size + 1) 3 (by first | (simp; done) | (simp; omega))).trans (show _ = some (.int .i64 b) by go_simp)
    have x4 := ((bcell hb1).1 (w.heap.size + 1) 4 (by first | (simp; done) | (simp; omega))).trans (show _ = some (.int .i64 c) by go_simp)
    have xz : (w.heap.size + 1) < _ := Nat.lt_of_lt_of_le (show (w.heap.size + 1) < ((w.alloc _).alloc _).heap.size by first | (simp; done) | (simp; omega)) (Below.size hb1)
    go_wp2_with fail
    refine (works_any _ (HT.out.ext (by (repeat (first | (with_reducible exact Ext.refl _) | (with_reducible assumption) | (with_reducible refine Ext.alloc ?_ _) | (with_reducible refine Ext.trans ?_ (by with_reducible assumption)) | (with_reducible refine Ext.drew ?_) | (with_reducible refine Ext.setCell ?_ (by simp <;> omega) _)))))).mono ?_
    rintro e w2 ⟨rfl, hb2⟩
    go_wp2_with fail
    go_ret
    exact ⟨rfl, by (repeat (first | (with_reducible exact Ext.refl _) | (with_reducible assumption) | (with_reducible refine Ext.alloc ?_ _) | (with_reducible refine Ext.trans ?_ (by with_reducible assumption)) | (with_reducible refine Ext.drew ?_) | (with_reducible refine Ext.setCell ?_ (by simp <;> omega) _)))⟩
  have d2 := decide_eq_false gd2
  rcases Classical.em (b < 0) with gd3 | gd3
  · have d3 := decide_eq_true gd3
    go_enter Tryd.func3, Tryd.ntmps3
    go_wp2_with fail
    refine (valid_v _ _ _ _ W _ (HIN.out.ext (by (repeat (first | (with_reducible exact Ext.refl _) | (with_reducible assumption) | (with_reducible refine Ext.alloc ?_ _) | (with_reducible refine Ext.trans ?_ (by with_reducible assumption)) | (with_reducible refine Ext.drew ?_) | (with_reducible refine Ext.setCell ?_ (by simp <;> omega) _))))) HV.out).mono ?_
    rintro e w1 ⟨rfl, hb1⟩
    have x0 := ((bcell hb1).1 (w.heap.size + 1) 0 (by first | (simp; done) | (simp; omega))).trans (show _ = some (.int .i64 s.mix) by go_simp)
    have x1 := ((bcell hb1).1 (w.heap.size + 1) 1 (by first | (simp; done) | (simp; omega))).trans (show _ = some (.bool s.foul) by go_simp)
    have x2 := ((bcell hb1).1 (w.heap.size + 1) 2 (by first | (simp; done) | (simp; omega))).trans (show _ = some (.int .i64 a) by go_simp)
    have x3 := ((bcell hb1).1 (w.heap.size + 1) 3 (by first | (simp; done) | (simp; omega))).trans (show _ = some (.int .i64 b) by go_simp)
    have x4 := ((bcell hb1).1 (w.heap.size + 1) 4 (by first | (simp; done) | (simp; omega))).trans (show _ = some (.int .i64 c) by go_simp)
    have xz : (w.heap.size + 1) < _ := Nat.lt_of_lt_of_le (show (w.heap.size + 1) < ((w.alloc _).alloc _).heap.size by first | (simp; done) | (simp; omega)) (Below.size hb1)
    go_wp2_with fail
    refine (works_any _ (HT.out.ext (by (repeat (first | (with_reducible exact Ext.refl _) | (with_reducible assumption) | (with_reducible refine Ext.alloc ?_ _) | (with_reducible refine Ext.trans ?_ (by with_reducible assumption)) | (with_reducible refine Ext.drew ?_) | (with_reducible refine Ext.setCell ?_ (by simp <;> omega) _)))))).mono ?_
    rintro e w2 ⟨rfl, hb2⟩
    go_wp2_with fail
    go_ret
    exact ⟨rfl, by (repeat (first | (with_reducible exact Ext.refl _) | (with_reducible assumption) | (with_reducible refine Ext.alloc ?_ _) | (with_reducible refine Ext.trans ?_ (by with_reducible assumption)) | (with_reducible refine Ext.drew ?_) | (with_reducible refine Ext.setCell ?_ (by simp <;> omega) _)))⟩
  have d3 := decide_eq_false gd3
  rcases Classical.em ((4 : Int) < b) with gd4 | gd4
  · have d4 := decide_eq_true gd4
    go_enter Tryd.func3, Tryd.ntmps3
    go_wp2_with fail
    refine (valid_v _ _ _ _ W _ (HIN.out.ext (by (repeat (first | (with_reducible exact Ext.refl _) | (with_reducible assumption) | (with_reducible refine Ext.alloc ?_ _) | (with_reducible refine Ext.trans ?_ (by with_reducible assumption)) | (with_reducible refine Ext.drew ?_) | (with_reducible refine Ext.setCell ?_ (by simp <;> omega) _))))) HV.out).mono ?_
    rintro e w1 ⟨rfl, hb1⟩
    have x0 := ((bcell hb1).1 (w.heap.size + 1) 0 (by first | (simp; done) | (simp; omega))).trans (show _ = some (.int .i64 s.mix) by go_simp)
    have x1 := ((bcell hb1).1 (w.heap.size + 1) 1 (by first | (simp; done) | (simp; omega))).trans (show _ = some (.bool s.foul) by go_simp)
    have x2 := ((bcell hb1).1 (w.heap.size + 1) 2 (by first | (simp; done) | (simp; omega))).trans (show _ = some (.int .i64 a) by go_simp)
    have x3 := ((bcell hb1).1 (w.heap.size + 1) 3 (by first | (simp; done) | (simp; omega))).trans (show _ = some (.int .i64 b) by go_simp)
    have x4 := ((bcell hb1).1 (w.heap.size + 1) 4 (by first | (simp; done) | (simp; omega))).trans (show _ = some (.int .i64 c) by go_simp)
    have xz : (w.heap.size + 1) < _ := Nat.lt_of_lt_of_le (show (w.heap.size + 1) < ((w.alloc _).alloc _).heap.size by first | (simp; done) | (simp; omega)) (Below.size hb1)
    go_wp2_with fail
    refine (works_any _ (HT.out.ext (by (repeat (first | (with_reducible exact Ext.refl _) | (with_reducible assumption) | (with_reducible refine Ext.alloc ?_ _) | (with_reducible refine Ext.trans ?_ (by with_reducible assumption)) | (with_reducible refine Ext.drew ?_) | (with_reducible refine Ext.setCell ?_ (by simp <;> omega) _)))))).mono ?_
    rintro e w2 ⟨rfl, hb2⟩
    go_wp2_with fail
    go_ret
    exact ⟨rfl, by (repeat (first | (with_reducible exact Ext.refl _) | (with_reducible assumption) | (with_reducible refine Ext.alloc ?_ _) | (with_reducible refine Ext.trans ?_ (by with_reducible assumption)) | (with_reducible refine Ext.drew ?_) | (with_reducible refine Ext.setCell ?_ (by simp <;> omega) _)))⟩
  have d4 := decide_eq_false gd4
  rcases Classical.em (c < 0) with gd5 | gd5
  · have d5 := decide_eq_true gd5
    go_enter Tryd.func3, Tryd.ntmps3
    go_wp2_with fail
    refine (valid_v _ _ _ _ W _ (HIN.out.ext (by (repeat (first | (with_reducible exact Ext.refl _) | (with_reducible assumption) | (with_reducible refine Ext.alloc ?_ _) | (with_reducible refine Ext.trans ?_ (by with_reducible assumption)) | (with_reducible refine Ext.drew ?_) | (with_reducible refine Ext.setCell ?_ (by simp <;> omega) _))))) HV.out).mono ?_
    rintro e w1 ⟨rfl, hb1⟩
    have x0 := ((bcell hb1).1 (w.heap.size + 1) 0 (by first | (simp; done) | (simp; omega))).trans (show _ = some (.int .i64 s.mix) by go_simp)
    have x1 := ((bcell hb1).1 (w.heap.size + 1) 1 (by first | (simp; done) | (simp; omega))).trans (show _ = some (.bool s.foul) by go_simp)
    have x2 := ((bcell hb1).1 (w.heap.size + 1) 2 (by first | (simp; done) | (simp; omega))).trans (show _ = some (.int .i64 a) by go_simp)
    have x3 := ((bcell hb1).1 (w.heap.size + 1) 3 (by first | (simp; done) | (simp; omega))).trans (show _ = some (.int .i64 b) by go_simp)
    have x4 := ((bcell hb1).1 (w.heap.size + 1) 4 (by first | (simp; done) | (simp; omega))).trans (show _ = some (.int .i64 c) by go_simp)
    have xz : (w.heap.size + 1) < _ := Nat.lt_of_lt_of_le (show (w.heap.size + 1) < ((w.alloc _).alloc _).heap.size by first | (simp; done) | (simp; omega)) (Below.size hb1)
    go_wp2_with fail
    refine (works_any _ (HT.out.ext (by (repeat (first | (with_reducible exact Ext.refl _) | (with_reducible assumption) | (with_reducible refine Ext.alloc ?_ _) | (with_reducible refine Ext.trans ?_ (by with_reducible assumption)) | (with_reducible refine Ext.drew ?_) | (with_reducible refine Ext.setCell ?_ (by simp <;> omega) _)))))).mono ?_
    rintro e w2 ⟨rfl, hb2⟩
    go_wp2_with fail
    go_ret
    exact ⟨rfl, by (repeat (first | (with_reducible exact Ext.refl _) | (with_reducible assumption) | (with_reducible refine Ext.alloc ?_ _) | (with_reducible refine Ext.trans ?_ (by with_reducible assumption)) | (with_reducible refine Ext.drew ?_) | (with_reducible refine Ext.setCell ?_ (by simp <;> omega) _)))⟩
  have d5 := decide_eq_false gd5
  rcases Classical.em ((8 : Int) < c) with gd6 | gd6
  · have d6 := decide_eq_true gd6
    go_enter Tryd.func3, Tryd.ntmps3
    go_wp2_with fail
    refine (valid_v _ _ _ _ W _ (HIN.out.ext (by (repeat (first | (with_reducible exact Ext.refl _) | (with_reducible assumption) | (with_reducible refine Ext.alloc ?_ _) | (with_reducible refine Ext.trans ?_ (by with_reducible assumption)) | (with_reducible refine Ext.drew ?_) | (with_reducible refine Ext.setCell ?_ (by simp <;> omega) _))))) HV.out).mono ?_
    rintro e w1 ⟨rfl, hb1⟩
    have x0 := ((bcell hb1).1 (w.heap.size + 1) 0 (by first | (simp; done) | (simp; omega))).trans (show _ = some (.int .i64 s.mix) by go_simp)
    have x1 := ((bcell hb1).1 (w.heap.size + 1) 1 (by first | (simp; done) | (simp; omega))).trans (show _ = some (.bool s.foul) by go_simp)
    have x2 := ((bcell hb1).1 (w.heap.size + 1) 2 (by first | (simp; done) | (simp; omega))).trans (show _ = some (.int .i64 a) by go_simp)
    have x3 := ((bcell hb1).1 (w.heap.size + 1) 3 (by first | (simp; done) | (simp; omega))).trans (show _ = some (.int .i64 b) by go_simp)
    have x4 := ((bcell hb1).1 (w.heap.size + 1) 4 (by first | (simp; done) | (simp; omega))).trans (show _ = some (.int .i64 c) by go_simp)
    have xz : (w.heap.size + 1) < _ := Nat.lt_of_lt_of_le (show (w.heap.size + 1) < ((w.alloc _).alloc _).heap.size by first | (simp; done) | (simp; omega)) (Below.size hb1)
    go_wp2_with fail
    refine (works_any _ (HT.out.ext (by (repeat (first | (with_reducible exact Ext.refl _) | (with_reducible assumption) | (with_reducible refine Ext.alloc ?_ _) | (with_reducible refine Ext.trans ?_ (by with_reducible assumption)) | (with_reducible refine Ext.drew ?_) | (with_reducible refine Ext.setCell ?_ (by simp <;> omega) _)))))).mono ?_
    rintro e w2 ⟨rfl, hb2⟩
    go_wp2_with fail
    go_ret
    exact ⟨rfl, by (repeat (first | (with_reducible exact Ext.refl _) | (with_reducible assumption) | (with_reducible refine Ext.alloc ?_ _) | (with_reducible refine Ext.trans ?_ (by with_reducible assumption)) | (with_reducible refine Ext.drew ?_) | (with_reducible refine Ext.setCell ?_ (by simp <;> omega) _)))⟩
  have d6 := decide_eq_false gd6
  exact absurd ⟨by omega, by omega, by omega⟩ hb

theorem more_main (As Am : Option Addr) (cs cm : Nat) (W : Water) (s : Sample) (a b c : Int) (w : World) (hin : WaterIn w As Am W) (ht : TabIn w)
    (hv : (!farB W && validB W) = true) (ha : 0 ≤ a ∧ a ≤ 4) (hb : 0 ≤ b ∧ b ≤ 4) (hc : 0 ≤ c ∧ c ≤ 8) :
    Calls Tryd.prog 3 #[wvW As Am cs cm W, .agg #[.int .i64 s.mix, .bool s.foul, .int .i64 a, .int .i64 b, .int .i64 c]] w fun e w' => e = .returned (.bool true) ∧ Ext w w' := by
  have HIN := Lib.hid hin
  have HT := Lib.hid ht
  have hvb : validB W = true := by simp only [Bool.and_eq_true] at hv; exact hv.2
  have hn := valid_len hvb
  have hbd := valid_bd hvb
  have hn30 : W.springs.length ≤ 30 := by omega
  have hlT := truthsW_len hvb
  have HV := Lib.hid hv
  have HVB := Lib.hid hvb
  obtain ⟨i1, hj, hy0, hy1, hy2⟩ := info_parts sample_info
  have d1 := decide_eq_false (show ¬ a < 0 by omega)
  have d2 := decide_eq_false (show ¬ (4 : Int) < a by omega)
  have d3 := decide_eq_false (show ¬ b < 0 by omega)
  have d4 := decide_eq_false (show ¬ (4 : Int) < b by omega)
  have d5 := decide_eq_false (show ¬ c < 0 by omega)
  have d6 := decide_eq_false (show ¬ (8 : Int) < c by omega)
  have HE := Lib.hid (openE_03 hvb)
  clear hin ht hv hvb
  go_enter Tryd.func3, Tryd.ntmps3
  go_wp2_with fail
  refine (valid_v _ _ _ _ W _ (HIN.out.ext (by (repeat (first | (with_reducible exact Ext.refl _) | (with_reducible assumption) | (with_reducible refine Ext.alloc ?_ _) | (with_reducible refine Ext.trans ?_ (by with_reducible assumption)) | (with_reducible refine Ext.drew ?_) | (with_reducible refine Ext.setCell ?_ (by simp <;> omega) _))))) HV.out).mono ?_
  rintro e w1 ⟨rfl, hb1⟩
  have f0 := ((bcell hb1).1 w.heap.size 0 (by first | (simp; done) | (simp; omega))).trans (show _ = some (.slice As W.springs.length cs) by go_simp)
  have f1 := ((bcell hb1).1 w.heap.size 1 (by first | (simp; done) | (simp; omega))).trans (show _ = some (.int .i64 W.most) by go_simp)
  have f2 := ((bcell hb1).1 w.heap.size 2 (by first | (simp; done) | (simp; omega))).trans (show _ = some (.int .i64 W.misses) by go_simp)
  have f3 := ((bcell hb1).1 w.heap.size 3 (by first | (simp; done) | (simp; omega))).trans (show _ = some (.int .i64 W.alarms) by go_simp)
  have f4 := ((bcell hb1).1 w.heap.size 4 (by first | (simp; done) | (simp; omega))).trans (show _ = some (.slice Am W.samples.length cm) by go_simp)
  have fz : w.heap.size < _ := Nat.lt_of_lt_of_le (show w.heap.size < ((w.alloc _).alloc _).heap.size by first | (simp; done) | (simp; omega)) (Below.size hb1)
  have x0 := ((bcell hb1).1 (w.heap.size + 1) 0 (by first | (simp; done) | (simp; omega))).trans (show _ = some (.int .i64 s.mix) by go_simp)
  have x1 := ((bcell hb1).1 (w.heap.size + 1) 1 (by first | (simp; done) | (simp; omega))).trans (show _ = some (.bool s.foul) by go_simp)
  have x2 := ((bcell hb1).1 (w.heap.size + 1) 2 (by first | (simp; done) | (simp; omega))).trans (show _ = some (.int .i64 a) by go_simp)
  have x3 := ((bcell hb1).1 (w.heap.size + 1) 3 (by first | (simp; done) | (simp; omega))).trans (show _ = some (.int .i64 b) by go_simp)
  have x4 := ((bcell hb1).1 (w.heap.size + 1) 4 (by first | (simp; done) | (simp; omega))).trans (show _ = some (.int .i64 c) by go_simp)
  have xz : (w.heap.size + 1) < _ := Nat.lt_of_lt_of_le (show (w.heap.size + 1) < ((w.alloc _).alloc _).heap.size by first | (simp; done) | (simp; omega)) (Below.size hb1)
  have HW1 := Lib.hid (show Ext w w1 by (repeat (first | (with_reducible exact Ext.refl _) | (with_reducible assumption) | (with_reducible refine Ext.alloc ?_ _) | (with_reducible refine Ext.trans ?_ (by with_reducible assumption)) | (with_reducible refine Ext.drew ?_) | (with_reducible refine Ext.setCell ?_ (by simp <;> omega) _))))
  clear hb1
  go_wp2_with fail
  refine (truths_u _ _ _ _ W _ (HIN.out.ext HW1.out)).mono ?_
  rintro e w3 ⟨A3, c3, rfl, hs3, hbw3⟩
  replace f0 := ((bcell hbw3).1 _ 0 fz).trans f0
  replace f1 := ((bcell hbw3).1 _ 1 fz).trans f1
  replace f2 := ((bcell hbw3).1 _ 2 fz).trans f2
  replace f3 := ((bcell hbw3).1 _ 3 fz).trans f3
  replace f4 := ((bcell hbw3).1 _ 4 fz).trans f4
  replace fz := Nat.lt_of_lt_of_le fz (Below.size hbw3)
  replace x0 := ((bcell hbw3).1 _ 0 xz).trans x0
  replace x1 := ((bcell hbw3).1 _ 1 xz).trans x1
  replace x2 := ((bcell hbw3).1 _ 2 xz).trans x2
  replace x3 := ((bcell hbw3).1 _ 3 xz).trans x3
  replace x4 := ((bcell hbw3).1 _ 4 xz).trans x4
  replace xz := Nat.lt_of_lt_of_le xz (Below.size hbw3)
  have HW3 := Lib.hid (HW1.out.trans hbw3)
  clear hbw3
  have CF3 := Lib.hid (cells5_of fz f0 f1 f2 f3 f4)
  have CX3 := Lib.hid (cells5_of xz x0 x1 x2 x3 x4)
  have HS3 := Lib.hid hs3
  go_upto_region 4 with (fail)
  go_cut [65] from 60 (fun v wx => v = .bool false ∧ w3 = wx)
  case first =>
    rcases HE.out with hE | hE
    · have y1 : (openE W true != 0) = false := by rw [hE]; rfl
      clear hE
      go_wp2_with fail
      go_meet
      case rel => exact ⟨rfl, rfl⟩
    · have y1 : (openE W true != 0) = true := by rw [hE]; rfl
      have y2 : (openE W true != 3) = false := by rw [hE]; rfl
      clear hE
      go_wp2_with fail
      go_meet
      case rel => exact ⟨rfl, rfl⟩
  case rest =>
  obtain ⟨rfl, rfl⟩ := hcut
  go_wp2_with fail
  refine (copy_any _ _ _ _ W _ (HIN.out.ext HW3.out) (by omega) (by omega)).mono ?_
  rintro e w4 ⟨A4, M4, c4, m4, rfl, hin4, ⟨hown4, hspr4⟩, hbw4⟩
  replace f0 := ((bcell hbw4).1 _ 0 fz).trans f0
  replace f1 := ((bcell hbw4).1 _ 1 fz).trans f1
  replace f2 := ((bcell hbw4).1 _ 2 fz).trans f2
  replace f3 := ((bcell hbw4).1 _ 3 fz).trans f3
  replace f4 := ((bcell hbw4).1 _ 4 fz).trans f4
  replace fz := Nat.lt_of_lt_of_le fz (Below.size hbw4)
  replace x0 := ((bcell hbw4).1 _ 0 xz).trans x0
  replace x1 := ((bcell hbw4).1 _ 1 xz).trans x1
  replace x2 := ((bcell hbw4).1 _ 2 xz).trans x2
  replace x3 := ((bcell hbw4).1 _ 3 xz).trans x3
  replace x4 := ((bcell hbw4).1 _ 4 xz).trans x4
  replace xz := Nat.lt_of_lt_of_le xz (Below.size hbw4)
  have HW4 := Lib.hid (HW3.out.trans hbw4)
  have hs4 := (hs3.below hbw4 (Nat.le_refl _)).more (Below.size hbw4)
  have HO4 := Lib.hid hown4
  have HSP4 := Lib.hid hspr4
  have HIN4 := Lib.hid hin4
  have z34 : w3.heap.size ≤ w4.heap.size := Below.size hbw4
  have HB34 := Lib.hid hbw4
  clear hbw4 hown4 hspr4 hin4 hs3
  go_upto_region 7 with (fail)
  obtain ⟨wb, hwb⟩ : ∃ wb, w4.alloc (.cells #[.slice A4 W.springs.length c4, .int .i64 W.most, .int .i64 W.misses, .int .i64 W.alarms, .slice M4 W.samples.length m4] 25) = wb := ⟨_, rfl⟩
  rw [hwb]
  have HBK := Lib.hid (show Blk wb w4.heap.size 25 [.slice A4 W.springs.length c4, .int .i64 W.most, .int .i64 W.misses, .int .i64 W.alarms, .slice M4 W.samples.length m4] by rw [← hwb]; exact Blk.new w4 _ _ rfl)
  have hbwb : Ext w4 wb := by rw [← hwb]; (repeat (first | (with_reducible exact Ext.refl _) | (with_reducible assumption) | (with_reducible refine Ext.alloc ?_ _) | (with_reducible refine Ext.trans ?_ (by with_reducible assumption)) | (with_reducible refine Ext.drew ?_) | (with_reducible refine Ext.setCell ?_ (by simp <;> omega) _)))
  have hs5 := (hs4.below hbwb (Nat.le_refl _)).more (Below.size hbwb)
  clear hwb hs4
  replace f0 := ((bcell hbwb).1 _ 0 fz).trans f0
  replace f1 := ((bcell hbwb).1 _ 1 fz).trans f1
  replace f2 := ((bcell hbwb).1 _ 2 fz).trans f2
  replace f3 := ((bcell hbwb).1 _ 3 fz).trans f3
  replace f4 := ((bcell hbwb).1 _ 4 fz).trans f4
  replace fz := Nat.lt_of_lt_of_le fz (Below.size hbwb)
  replace x0 := ((bcell hbwb).1 _ 0 xz).trans x0
  replace x1 := ((bcell hbwb).1 _ 1 xz).trans x1
  replace x2 := ((bcell hbwb).1 _ 2 xz).trans x2
  replace x3 := ((bcell hbwb).1 _ 3 xz).trans x3
  replace x4 := ((bcell hbwb).1 _ 4 xz).trans x4
  replace xz := Nat.lt_of_lt_of_le xz (Below.size hbwb)
  have HO5 := Lib.hid (own_ext HO4.out hbwb)
  have HSP5 := Lib.hid (own_ext HSP4.out hbwb)
  have HB3b := Lib.hid (HB34.out.trans hbwb)
  have g4 : wb.cell? ⟨w4.heap.size, 4, none⟩ = some (.slice M4 W.samples.length m4) := HBK.out.cell 4
  have gz := HBK.out.lt
  have z3b := Below.size HB3b.out
  clear hbwb
  go_wp2_with (at_builtin
               refine wpList_append_own_at _ rfl _ _ 23 rfl w3.heap.size 27 i1 (.agg #[.int .i64 0, .bool false]) 2 16 Tryd.underlying23 hj hy0 hy1 hy2 rfl (by decide) _ _ _ rfl (HO5.out.alloc _) ⟨wb.heap.size, 0, none⟩ 1 1 [.int .i64 s.mix, .bool s.foul] rfl rfl (cell_two_new _ _ _ _) (by simp [Value.oneCell']) (by unfold maxLen; omega) (by omega) (by simp; omega) ?_
               intro v6 w6 hown6 hg6 _ h56
               have hownM : w6.ownsRow w3.heap.size 27 2 v6 (moreW W s).samples.length ((moreW W s).samples.flatMap samC) := by simpa [moreW, samC] using hown6
               have hnb : some w4.heap.size ≠ (Value.slice M4 W.samples.length m4).ownBlock := fun e => by have := (HO4.out.lt _ e.symm).2; omega
               have HBK6 := Lib.hid ((HBK.out.alloc (.cells #[.int .i64 s.mix, .bool s.foul] 27)).grown hg6 hnb)
               have hE6 : Ext w3 w6 := Ext.grown (HB3b.out.alloc _) hg6 (own_block HO4.out)
               have HSP6 := Lib.hid ((HSP5.out.alloc (.cells #[.int .i64 s.mix, .bool s.foul] 27)).kept hg6 (own_ne_own HSP5.out HO5.out (by decide)))
               obtain ⟨A6, c6, rfl, hF6, hS6, _⟩ := own_form hownM
               have HO6 := Lib.hid hownM
               have g0 : w6.cell? ⟨w4.heap.size, 0, none⟩ = some (.slice A4 W.springs.length c4) := HBK6.out.cell 0
               have g1 : w6.cell? ⟨w4.heap.size, 1, none⟩ = some (.int .i64 W.most) := HBK6.out.cell 1
               have g2 : w6.cell? ⟨w4.heap.size, 2, none⟩ = some (.int .i64 W.misses) := HBK6.out.cell 2
               have g3 : w6.cell? ⟨w4.heap.size, 3, none⟩ = some (.int .i64 W.alarms) := HBK6.out.cell 3
               have g5 : w6.cell? ⟨w4.heap.size, 4, none⟩ = some (.slice M4 W.samples.length m4) := HBK6.out.cell 4
               have g6 : w6.frozen? ⟨w4.heap.size, 4, none⟩ = false := HBK6.out.frozen 4
               have gy := HBK6.out.lt
               clear hown6 hg6 hownM h56 hnb)
  obtain ⟨w7, hw7⟩ : ∃ w7, w6.setCell ⟨w4.heap.size, 4, none⟩ (.slice A6 (moreW W s).samples.length c6) = w7 := ⟨_, rfl⟩
  rw [hw7]
  have hE37 : Ext w3 w7 := by rw [← hw7]; exact hE6.setCell (by simp; omega) _
  have HSP7 := Lib.hid (show w7.ownsRow w3.heap.size 53 3 (.slice A4 W.springs.length c4) W.springs.length (W.springs.flatMap sprC) by rw [← hw7]; exact own_setCell HSP6.out (HBK6.out.ne_own HSP6.out (by decide)) _)
  have HO7 := Lib.hid (show w7.ownsRow w3.heap.size 27 2 (.slice A6 (moreW W s).samples.length c6) (moreW W s).samples.length ((moreW W s).samples.flatMap samC) by rw [← hw7]; exact own_setCell HO6.out (HBK6.out.ne_own HO6.out (by decide)) _)
  have HBK7 := Lib.hid (show Blk w7 w4.heap.size 25 [.slice A4 W.springs.length c4, .int .i64 W.most, .int .i64 W.misses, .int .i64 W.alarms, .slice A6 (moreW W s).samples.length c6] by rw [← hw7]; exact HBK6.out.set_ 4 _)
  have hlM : (moreW W s).samples.length ≤ 21 := by simp [moreW]; omega
  have HINM := Lib.hid (show WaterIn w7 A4 A6 (moreW W s) from ⟨own_sl HSP7.out, own_sl HO7.out, HIN.out.2.2.1, by omega⟩)
  clear hw7 hE6 hF6 hS6 g0 g1 g2 g3 g4 g5 g6 gy gz
  have H37 := Lib.hid hE37
  clear f0 f1 f2 f3 f4 fz
  clear x0 x1 x2 x3 x4 xz
  refine (refCheck_any A4 A6 c4 c6 (moreW W s) _ HINM.out hn30 (by omega)).mono ?_
  rintro e w8 ⟨rfl, hb8⟩
  have H38 := Lib.hid (H37.out.trans hb8)
  have HINM8 := Lib.hid (HINM.out.ext hb8)
  have HBK8 := Lib.hid (HBK7.out.ext hb8)
  clear hb8 hE37 hs5
  go_upto_if 77 with (fail)
  go_cut [] from 75 (fun wx => Ext w8 wx)
  case first =>
    have g0 : w8.cell? ⟨w4.heap.size, 0, none⟩ = some (.slice A4 W.springs.length c4) := HBK8.out.cell 0
    have g1 : w8.cell? ⟨w4.heap.size, 1, none⟩ = some (.int .i64 W.most) := HBK8.out.cell 1
    have g2 : w8.cell? ⟨w4.heap.size, 2, none⟩ = some (.int .i64 W.misses) := HBK8.out.cell 2
    have g3 : w8.cell? ⟨w4.heap.size, 3, none⟩ = some (.int .i64 W.alarms) := HBK8.out.cell 3
    have g4 : w8.cell? ⟨w4.heap.size, 4, none⟩ = some (.slice A6 (moreW W s).samples.length c6) := HBK8.out.cell 4
    cases hck : validB (moreW W s)
    · have y1 : (checkI (moreW W s) == 0) = false := by simp [checkI, hck]
      clear hck
      go_wp2_with fail
      go_meet
      case rel => exact Ext.refl _
    · have y1 : (checkI (moreW W s) == 0) = true := by simp [checkI, hck]
      have HMV := Lib.hid hck
      clear hck
      go_wp2_with fail
      refine (truths_u A4 A6 c4 c6 (moreW W s) _ HINM8.out).mono ?_
      rintro e w9 ⟨A9, c9, rfl, hs9, hb9⟩
      have hl9 := truthsL_le (moreW W s)
      have hl3 := truthsL_le W
      have hs39 := (HS3.out.below (H38.out.trans hb9) (Nat.le_refl _)).more (Below.size (H38.out.trans hb9))
      have H89 := Lib.hid hb9
      clear hb9 g0 g1 g2 g3 g4 y1
      have HME := Lib.hid (openE_03 HMV.out)
      rcases HME.out with hE | hE
      all_goals
        first | (have y1 : (openE (moreW W s) true != 0) = false := by rw [hE]; rfl) | (have y1 : (openE (moreW W s) true != 0) = true := by rw [hE]; rfl)
        first | (have y2 : (openE (moreW W s) true != 3) = false := by rw [hE]; rfl) | skip
        clear hE
        go_wp2_with fail
        clear y1
        go_loopg [10] (truthsL (moreW W s)).length (fun gk i wr => ∃ k : Nat, k + gk = (truthsL (moreW W s)).length ∧ i = .int .i64 k ∧ w9 = wr)
        case atStart => exact ⟨0, by omega, rfl, rfl⟩
        case round =>
          obtain ⟨k, hk, rfl, rfl⟩ := hrel
          have HK : k ≤ (truthsL (moreW W s)).length := by omega
          have HKG := Lib.hid hk
          clear hk
          by_cases hlt : k < (truthsL (moreW W s)).length
          · obtain ⟨bb, off, rfl, hbl, hcc⟩ := hs9.at_ natI_len hlt
            have c0 := hcc 0 _ (by omega) rfl
            clear hcc
            simp only [Nat.add_zero, Nat.mul_one] at c0
            have hmem := (truthsL_mem HMV.out).1 (List.getElem_mem hlt)
            have HCON := Lib.hid (show (truthsL W).contains (truthsL (moreW W s))[k] = true from List.contains_iff_mem.2 ((truthsL_mem HVB.out).2 (truths_more hmem)))
            clear hmem
            generalize (truthsL (moreW W s))[k] = x at *
            go_wp2_with fail
            refine (contains_any _ _ (truthsL W) x _ (by omega) hs39).mono ?_
            rintro e w10 ⟨rfl, rfl⟩
            rw [HCON.out]
            go_wp2_with fail
            go_roundg (gk - 1)
            case measure => have := HKG.out; omega
            case rel => exact ⟨k + 1, by have := HKG.out; omega, by go_num, rfl⟩
          · obtain rfl : k = (truthsL (moreW W s)).length := by omega
            go_wp2_with fail
            go_meet
            case rel => exact H89.out
  case rest =>
  have H3c := Lib.hid (H38.out.trans hcut)
  clear hcut
  have f0 := (CF3.out.ext H3c.out).2 0 _ rfl
  have f1 := (CF3.out.ext H3c.out).2 1 _ rfl
  have f2 := (CF3.out.ext H3c.out).2 2 _ rfl
  have f3 := (CF3.out.ext H3c.out).2 3 _ rfl
  have f4 := (CF3.out.ext H3c.out).2 4 _ rfl
  have fz := (CF3.out.ext H3c.out).1
  have x0 := (CX3.out.ext H3c.out).2 0 _ rfl
  have x1 := (CX3.out.ext H3c.out).2 1 _ rfl
  have x2 := (CX3.out.ext H3c.out).2 2 _ rfl
  have x3 := (CX3.out.ext H3c.out).2 3 _ rfl
  have x4 := (CX3.out.ext H3c.out).2 4 _ rfl
  have xz := (CX3.out.ext H3c.out).1
  go_wp2_with fail
  refine (copy_any _ _ _ _ W _ (HIN.out.ext (HW3.out.trans H3c.out)) (by omega) (by omega)).mono ?_
  rintro e w10 ⟨A10, M10, c10, m10, rfl, hin10, _, hbw10⟩
  replace f0 := ((bcell hbw10).1 _ 0 fz).trans f0
  replace f1 := ((bcell hbw10).1 _ 1 fz).trans f1
  replace f2 := ((bcell hbw10).1 _ 2 fz).trans f2
  replace f3 := ((bcell hbw10).1 _ 3 fz).trans f3
  replace f4 := ((bcell hbw10).1 _ 4 fz).trans f4
  replace fz := Nat.lt_of_lt_of_le fz (Below.size hbw10)
  replace x0 := ((bcell hbw10).1 _ 0 xz).trans x0
  replace x1 := ((bcell hbw10).1 _ 1 xz).trans x1
  replace x2 := ((bcell hbw10).1 _ 2 xz).trans x2
  replace x3 := ((bcell hbw10).1 _ 3 xz).trans x3
  replace x4 := ((bcell hbw10).1 _ 4 xz).trans x4
  replace xz := Nat.lt_of_lt_of_le xz (Below.size hbw10)
  have HW10 := Lib.hid ((HW3.out.trans H3c.out).trans hbw10)
  have H310 := Lib.hid (H3c.out.trans hbw10)
  have HIN10 := Lib.hid hin10
  clear hbw10 hin10
  go_upto_region 18 with (fail)
  go_cut [] from 104 (fun wx => w10.alloc (.cells #[.slice A10 W.springs.length c10, .int .i64 W.most, .int .i64 (min 4 (W.misses + a)), .int .i64 W.alarms, .slice M10 W.samples.length m10] 25) = wx)
  case first =>
    go_wp2_with fail
    all_goals
      go_meet
      case rel => first | rw [show min (4 : Int) (W.misses + a) = 4 by omega] | rw [show min (4 : Int) (W.misses + a) = W.misses + a by omega]
  case rest =>
  subst hcut
  go_upto_region 19 with (fail)
  go_cut [] from 104 (fun wx => w10.alloc (.cells #[.slice A10 W.springs.length c10, .int .i64 W.most, .int .i64 (min 4 (W.misses + a)), .int .i64 (min 4 (W.alarms + b)), .slice M10 W.samples.length m10] 25) = wx)
  case first =>
    go_wp2_with fail
    all_goals
      go_meet
      case rel => first | rw [show min (4 : Int) (W.alarms + b) = 4 by omega] | rw [show min (4 : Int) (W.alarms + b) = W.alarms + b by omega]
  case rest =>
  subst hcut
  go_upto_region 20 with (fail)
  go_cut [] from 104 (fun wx => w10.alloc (.cells #[.slice A10 W.springs.length c10, .int .i64 (min 8 (W.most + c)), .int .i64 (min 4 (W.misses + a)), .int .i64 (min 4 (W.alarms + b)), .slice M10 W.samples.length m10] 25) = wx)
  case first =>
    go_wp2_with fail
    all_goals
      go_meet
      case rel => first | rw [show min (8 : Int) (W.most + c) = 8 by omega] | rw [show min (8 : Int) (W.most + c) = W.most + c by omega]
  case rest =>
  subst hcut
  go_wp2_with fail
  refine (truths_u A10 M10 c10 m10 (laxW W a b c) _ (show WaterIn _ A10 M10 (laxW W a b c) from HIN10.out.ext (by (repeat (first | (with_reducible exact Ext.refl _) | (with_reducible assumption) | (with_reducible refine Ext.alloc ?_ _) | (with_reducible refine Ext.trans ?_ (by with_reducible assumption)) | (with_reducible refine Ext.drew ?_) | (with_reducible refine Ext.setCell ?_ (by simp <;> omega) _)))))).mono ?_
  rintro e w11 ⟨A11, c11, rfl, hs11, hb11⟩
  have hw1011 : Ext w10 w11 := by (repeat (first | (with_reducible exact Ext.refl _) | (with_reducible assumption) | (with_reducible refine Ext.alloc ?_ _) | (with_reducible refine Ext.trans ?_ (by with_reducible assumption)) | (with_reducible refine Ext.drew ?_) | (with_reducible refine Ext.setCell ?_ (by simp <;> omega) _)))
  clear x0 x1 x2 x3 x4 xz
  replace f0 := ((bcell hw1011).1 _ 0 fz).trans f0
  replace f1 := ((bcell hw1011).1 _ 1 fz).trans f1
  replace f2 := ((bcell hw1011).1 _ 2 fz).trans f2
  replace f3 := ((bcell hw1011).1 _ 3 fz).trans f3
  replace f4 := ((bcell hw1011).1 _ 4 fz).trans f4
  replace fz := Nat.lt_of_lt_of_le fz (Below.size hw1011)
  have g0 := ((bcell hb11).1 w10.heap.size 0 (by first | (simp; done) | (simp; omega))).trans (show _ = some (.slice A10 W.springs.length c10) by go_simp)
  have g1 := ((bcell hb11).1 w10.heap.size 1 (by first | (simp; done) | (simp; omega))).trans (show _ = some (.int .i64 (min 8 (W.most + c))) by go_simp)
  have g2 := ((bcell hb11).1 w10.heap.size 2 (by first | (simp; done) | (simp; omega))).trans (show _ = some (.int .i64 (min 4 (W.misses + a))) by go_simp)
  have g3 := ((bcell hb11).1 w10.heap.size 3 (by first | (simp; done) | (simp; omega))).trans (show _ = some (.int .i64 (min 4 (W.alarms + b))) by go_simp)
  have g4 := ((bcell hb11).1 w10.heap.size 4 (by first | (simp; done) | (simp; omega))).trans (show _ = some (.slice M10 W.samples.length m10) by go_simp)
  have gz : w10.heap.size < _ := Nat.lt_of_lt_of_le (show w10.heap.size < (w10.alloc _).heap.size by first | (simp; done) | (simp; omega)) (Below.size hb11)
  have HIN11 := Lib.hid (HIN10.out.ext hw1011)
  have H311 := Lib.hid (H310.out.trans hw1011)
  have hs311 := (HS3.out.below H311.out (Nat.le_refl _)).more (Below.size H311.out)
  have hvL := valid_lax HVB.out ha.1 hb.1 hc.1
  have HVL := Lib.hid hvL
  have HLE := Lib.hid (openE_03 hvL)
  clear hw1011 hb11 hvL
  go_upto_region 22 with (fail)
  go_cut [135] from 130 (fun v wx => v = .bool false ∧ w11 = wx)
  case first =>
    rcases HLE.out with hE | hE
    · have y1 : (openE (laxW W a b c) true != 0) = false := by rw [hE]; rfl
      clear hE
      go_wp2_with fail
      go_meet
      case rel => exact ⟨rfl, rfl⟩
    · have y1 : (openE (laxW W a b c) true != 0) = true := by rw [hE]; rfl
      have y2 : (openE (laxW W a b c) true != 3) = false := by rw [hE]; rfl
      clear hE
      go_wp2_with fail
      go_meet
      case rel => exact ⟨rfl, rfl⟩
  case rest =>
  obtain ⟨rfl, rfl⟩ := hcut
  have hl3 := truthsL_le W
  have hl11 := truthsL_le (laxW W a b c)
  go_wp2_with fail
  go_loopg [14] (truthsL W).length (fun gk i wr => ∃ k : Nat, k + gk = (truthsL W).length ∧ i = .int .i64 k ∧ w11 = wr)
  case atStart => exact ⟨0, by omega, rfl, rfl⟩
  case round =>
    obtain ⟨k, hk, rfl, rfl⟩ := hrel
    have HK : k ≤ (truthsL W).length := by omega
    have HKG := Lib.hid hk
    clear hk
    by_cases hlt : k < (truthsL W).length
    · obtain ⟨bb, off, rfl, hbl, hcc⟩ := hs311.at_ natI_len hlt
      have c0 := hcc 0 _ (by omega) rfl
      clear hcc
      simp only [Nat.add_zero, Nat.mul_one] at c0
      have hmem := (truthsL_mem HVB.out).1 (List.getElem_mem hlt)
      have HCON := Lib.hid (show (truthsL (laxW W a b c)).contains (truthsL W)[k] = true from List.contains_iff_mem.2 ((truthsL_mem HVL.out).2 (truths_lax HVB.out ha.1 hb.1 hc.1 hmem)))
      clear hmem
      generalize (truthsL W)[k] = x at *
      go_wp2_with fail
      refine (contains_any _ _ (truthsL (laxW W a b c)) x _ (by omega) hs11).mono ?_
      rintro e w12 ⟨rfl, rfl⟩
      rw [HCON.out]
      go_wp2_with fail
      go_roundg (gk - 1)
      case measure => have := HKG.out; omega
      case rel => exact ⟨k + 1, by have := HKG.out; omega, by go_num, rfl⟩
    · obtain rfl : k = (truthsL W).length := by omega
      rcases HE.out with hE | hE
      · have y1 : (openE W true != 0) = false := by rw [hE]; rfl
        have hp1 := pureN_lt (W := W) hn.2
        have hp2 := pureN_lt (W := laxW W a b c) hn.2
        have e1 : bits .andNot .i64 (pureN (laxW W a b c) : Int) (pureN W : Int) = 0 := by rw [i64_andNot_is _ _ hp2 hp1, pure_lax HVB.out ha.1 hb.1 hc.1]; rfl
        have HEL := Lib.hid (openE_lax (a := a) (b := b) (c := c) HVB.out ha.1 hb.1 hc.1 hE)
        have HE0 := Lib.hid hE
        have HIN3 := Lib.hid (HIN.out.ext (HW3.out.trans H311.out))
        clear hE
        go_wp2_with fail
        refine (clean_ok _ _ _ _ W _ HIN3.out HE0.out).mono ?_
        rintro e w12 ⟨rfl, hb12⟩
        have H312 := Lib.hid (H311.out.trans hb12)
        replace g0 := ((bcell hb12).1 _ 0 gz).trans g0
        replace g1 := ((bcell hb12).1 _ 1 gz).trans g1
        replace g2 := ((bcell hb12).1 _ 2 gz).trans g2
        replace g3 := ((bcell hb12).1 _ 3 gz).trans g3
        replace g4 := ((bcell hb12).1 _ 4 gz).trans g4
        replace gz := Nat.lt_of_lt_of_le gz (Below.size hb12)
        have HIN12 := Lib.hid (HIN11.out.ext hb12)
        clear hb12
        go_wp2_with fail
        refine (clean_ok A10 M10 c10 m10 (laxW W a b c) _ (show WaterIn _ A10 M10 (laxW W a b c) from HIN12.out) HEL.out).mono ?_
        rintro e w13 ⟨rfl, hb13⟩
        have H313 := Lib.hid (H312.out.trans hb13)
        clear hb13
        go_wp2_with fail
        refine (works_any _ (HT.out.ext (HW3.out.trans H313.out))).mono ?_
        rintro e w14 ⟨rfl, hb14⟩
        go_wp2_with fail
        go_ret
        exact ⟨rfl, (HW3.out.trans H313.out).trans hb14⟩
      · have y1 : (openE W true != 0) = true := by rw [hE]; rfl
        clear hE
        go_wp2_with fail
        refine (works_any _ (HT.out.ext (HW3.out.trans H311.out))).mono ?_
        rintro e w14 ⟨rfl, hb14⟩
        go_wp2_with fail
        go_ret
        exact ⟨rfl, (HW3.out.trans H311.out).trans hb14⟩

theorem more_far (As Am : Option Addr) (cs cm : Nat) (W : Water) (s : Sample) (a b c : Int) (w : World) (hf : farB W = true) (ht : TabIn w) :
    Calls Tryd.prog 3 #[wvW As Am cs cm W, .agg #[.int .i64 s.mix, .bool s.foul, .int .i64 a, .int .i64 b, .int .i64 c]] w fun e w' => e = .returned (.bool true) ∧ Ext w w' := by
  have HT := Lib.hid ht
  clear ht
  go_enter Tryd.func3, Tryd.ntmps3
  go_wp2_with fail
  refine (valid_far _ _ _ _ W _ hf).mono ?_
  rintro e w1 ⟨rfl, hb1⟩
  go_wp2_with fail
  refine (works_any _ (HT.out.ext (by (repeat (first | (with_reducible exact Ext.refl _) | (with_reducible assumption) | (with_reducible refine Ext.alloc ?_ _) | (with_reducible refine Ext.trans ?_ (by with_reducible assumption)) | (with_reducible refine Ext.drew ?_) | (with_reducible refine Ext.setCell ?_ (by simp <;> omega) _)))))).mono ?_
  rintro e w2 ⟨rfl, hb2⟩
  go_wp2_with fail
  go_ret
  exact ⟨rfl, by (repeat (first | (with_reducible exact Ext.refl _) | (with_reducible assumption) | (with_reducible refine Ext.alloc ?_ _) | (with_reducible refine Ext.trans ?_ (by with_reducible assumption)) | (with_reducible refine Ext.drew ?_) | (with_reducible refine Ext.setCell ?_ (by simp <;> omega) _)))⟩
theorem more_any (As Am : Option Addr) (cs cm : Nat) (W : Water) (s : Sample) (a b c : Int) (w : World) (hin : farB W = false → WaterIn w As Am W) (ht : TabIn w) :
    Calls Tryd.prog 3 #[wvW As Am cs cm W, .agg #[.int .i64 s.mix, .bool s.foul, .int .i64 a, .int .i64 b, .int .i64 c]] w fun e w' => e = .returned (.bool true) ∧ Ext w w' := by
  cases hf : farB W
  · by_cases hg : (!farB W && validB W) = true ∧ ((0 ≤ a ∧ a ≤ 4) ∧ (0 ≤ b ∧ b ≤ 4) ∧ (0 ≤ c ∧ c ≤ 8))
    · exact more_main As Am cs cm W s a b c w (hin hf) ht hg.1 hg.2.1 hg.2.2.1 hg.2.2.2
    · exact more_bad As Am cs cm W s a b c w (hin hf) ht (fun h1 h2 => hg ⟨h1, h2⟩)
  · exact more_far As Am cs cm W s a b c w hf ht

end Go.Proofs.YtabcmnfofekeeaaDoor
