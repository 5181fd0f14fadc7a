/- The law WaterNamed of layer 4 (water): its walk. -/
import Derived.Test.YtabcmnfofekeeaaDoorWat33
import Derived.Test.YtabcmnfofekeeaaDoorWat46
namespace Go.Proofs.YtabcmnfofekeeaaDoor
open Go Go.Proofs Go.RowKit Go.Shelf
set_option maxHeartbeats 1000000
set_option maxRecDepth 20000
open Go.ChangeShapes Go.WideShapes Go.ChangeAt

/-! ### plain facts -/
theorem any_mono {W : Water} {l m : List Sample} (h : l.Sublist m) (ha : anyL W m = true) : anyL W l = true := by
  rw [anyL_iff] at ha ⊢
  obtain ⟨t, ht, hp⟩ := ha
  refine ⟨t, ht, ?_⟩
  unfold possN at hp ⊢
  simp only [Bool.and_eq_true, decide_eq_true_eq] at hp ⊢
  have h1 : missN l t ≤ missN m t := h.countP_le
  have h2 : alarmN l t ≤ alarmN m t := h.countP_le
  omega
theorem smpl_sub {W : Water} {l m : List Nat} (h : l.Sublist m) : (smpl W l).Sublist (smpl W m) := h.map _
theorem range'_last {a k : Nat} (h : a ≤ k) : List.range' a (k + 1 - a) = List.range' a (k - a) ++ [k] := by
  rw [show k + 1 - a = (k - a) + 1 by omega, List.range'_1_concat, show a + (k - a) = k by omega]
theorem kept_split (W : Water) (k : Nat) : ∀ j, j < (kept W k).length → ∃ x rest, x < k ∧ kept W k = kept W x ++ x :: rest ∧ rest.Sublist (List.range' (x + 1) (k - (x + 1))) ∧ (kept W x).length = j ∧ anyL W (smpl W (lessI W x)) = true := by
  induction k with
  | zero => intro j h; simp [kept] at h
  | succ k ih =>
    intro j hj
    cases ha : anyL W (smpl W (lessI W k))
    · have e := (left_no W ha).1
      rw [e] at hj ⊢
      obtain ⟨x, rest, h1, h2, h3, h4, h5⟩ := ih j hj
      refine ⟨x, rest, by omega, h2, ?_, h4, h5⟩
      rw [range'_last (by omega)]
      exact h3.trans (List.sublist_append_left _ _)
    · have e : kept W (k + 1) = kept W k ++ [k] := by unfold lessI at ha; rw [kept, if_pos ha]
      rw [e] at hj ⊢
      by_cases hjl : j < (kept W k).length
      · obtain ⟨x, rest, h1, h2, h3, h4, h5⟩ := ih j hjl
        refine ⟨x, rest ++ [k], by omega, by rw [h2, List.append_assoc]; rfl, ?_, h4, h5⟩
        rw [range'_last (by omega)]
        exact List.Sublist.append h3 (List.Sublist.refl _)
      · refine ⟨k, [], by omega, rfl, List.nil_sublist _, ?_, ha⟩
        simp at hj; omega
theorem kept_none {W : Water} (h : anyL W W.samples = false) : anyL W (smpl W (kept W W.samples.length)) = false := by
  have key : ∀ k, k ≤ W.samples.length → anyL W (smpl W (leftI W k)) = false := by
    intro k
    induction k with
    | zero => intro _; unfold leftI; simp only [kept, List.nil_append, Nat.sub_zero]; rw [smpl_all]; exact h
    | succ k ih =>
      intro hk
      cases ha : anyL W (smpl W (lessI W k))
      · rw [(left_no W ha).2]; exact ha
      · rw [(left_yes W (by omega) ha).2]; exact ih (by omega)
  have := key W.samples.length (Nat.le_refl _)
  unfold leftI at this
  simpa using this
theorem kept_one {W : Water} {j : Nat} (h : j < (kept W W.samples.length).length) : anyL W (smpl W ((kept W W.samples.length).eraseIdx j)) = true := by
  obtain ⟨x, rest, h1, h2, h3, h4, h5⟩ := kept_split W W.samples.length j h
  rw [h2]
  subst h4
  rw [List.eraseIdx_append_of_length_le (Nat.le_refl _), Nat.sub_self, List.eraseIdx_cons_zero]
  refine any_mono (smpl_sub ?_) h5
  unfold lessI
  exact List.Sublist.append (List.Sublist.refl _) h3
theorem kept_pair (W : Water) (k : Nat) : (kept W k).Pairwise (· < ·) := by
  induction k with
  | zero => simp [kept]
  | succ k ih =>
    unfold kept
    split
    · rw [List.pairwise_append]
      refine ⟨ih, by simp, fun a ha b hb => ?_⟩
      rw [List.mem_singleton] at hb
      rw [hb]
      exact kept_lt W k a ha
    · exact ih
theorem sorted_next {l : List Nat} (hp : l.Pairwise (· < ·)) {k : Nat} (h0 : 0 < k) (h : k < l.length) : l[k - 1] < l[k] := (List.pairwise_iff_getElem.1 hp) (k - 1) k (by omega) h (by omega)
/-- The water with other samples. -/
def withS (W : Water) (l : List Sample) : Water := ⟨W.springs, W.most, W.misses, W.alarms, l⟩
theorem valid_with {W : Water} (h : validB W = true) {l : List Nat} (hl : l.length ≤ W.samples.length) (hm : ∀ i ∈ l, i < W.samples.length) : validB (withS W (smpl W l)) = true := by
  have h20 := (valid_bd h).2.2.2
  unfold validB at h ⊢
  simp only [Bool.and_eq_true, decide_eq_true_eq, Bool.not_eq_true', List.any_eq_false] at h ⊢
  refine ⟨⟨h.1.1, ?_⟩, ?_⟩
  · show (smpl W l).length ≤ 20
    rw [smpl_len]; omega
  · intro s hs
    have hs' : s ∈ smpl W l := hs
    unfold smpl at hs'
    rw [List.mem_map] at hs'
    obtain ⟨i, hi, rfl⟩ := hs'
    exact h.2 _ (smp_mem (hm i hi))
theorem openE_with {W : Water} (h : validB W = true) {l : List Nat} (hl : l.length ≤ W.samples.length) (hm : ∀ i ∈ l, i < W.samples.length) : openE (withS W (smpl W l)) true = if anyL W (smpl W l) then 0 else 3 := by
  have e : truthsW (withS W (smpl W l)) = truthsTo (2 ^ W.springs.length) W.most W.misses W.alarms (smpl W l) := rfl
  unfold openE
  rw [valid_with h hl hm, e]
  unfold anyL
  cases hx : truthsTo (2 ^ W.springs.length) W.most W.misses W.alarms (smpl W l) <;> simp
theorem conf_open {W : Water} (h : validB W = true) : (confE W = 3 ∧ openE W true = 0) ∨ (confE W = 0 ∧ openE W true = 3 ∧ anyL W W.samples = false) := by
  have e : truthsW W = truthsTo (2 ^ W.springs.length) W.most W.misses W.alarms W.samples := rfl
  cases ha : anyL W W.samples
  · right
    have : truthsW W = [] := by rw [e]; simpa [anyL] using ha
    exact ⟨by simp [confE, h, ha], by simp [openE, h, this], rfl⟩
  · left
    have : truthsW W ≠ [] := by rw [e]; intro hx; simp [anyL, hx] at ha
    exact ⟨by simp [confE, h, ha], by simp [openE, h, this]⟩
theorem erase_step (l : List Nat) (bi i : Nat) (hi : i < l.length) : (l.take (i + 1)).eraseIdx bi = if i = bi then (l.take i).eraseIdx bi else (l.take i).eraseIdx bi ++ [l[i]] := by
  rw [List.take_succ_eq_append_getElem hi]
  have hl : (l.take i).length = i := by rw [List.length_take]; omega
  split
  · next h =>
    subst h
    rw [List.eraseIdx_append_of_length_le (by omega), hl, Nat.sub_self, List.eraseIdx_cons_zero, List.append_nil, List.eraseIdx_of_length_le (l := l.take i) (by omega)]
  · next h =>
    rcases Nat.lt_or_ge bi i with h1 | h1
    · rw [List.eraseIdx_append_of_lt_length (by omega)]
    · rw [List.eraseIdx_of_length_le (l := l.take i) (by omega), List.eraseIdx_of_length_le (by simp; omega)]

/-! ### the law -/
def InnerIs (W : Water) (A5 : Option Addr) (c5 g base : Nat) (l : List Sample) (wr : World) : Prop :=
  ∃ A c, Blk wr g 25 [.slice A5 W.springs.length c5, .int .i64 W.most, .int .i64 W.misses, .int .i64 W.alarms, .slice A l.length c] ∧ wr.ownsRow base 27 2 (.slice A l.length c) l.length (l.flatMap samC) ∧
    wr.ownsRow base 53 3 (.slice A5 W.springs.length c5) W.springs.length (W.springs.flatMap sprC)
theorem inner_next {W : Water} {A5 A : Option Addr} {c5 c g base gg cap : Nat} {S : List Sample} {sx : Sample} {w6 : World}
    (hB : Blk w6 g 25 [.slice A5 W.springs.length c5, .int .i64 W.most, .int .i64 W.misses, .int .i64 W.alarms, .slice A S.length c])
    (hO : w6.ownsRow base 27 2 (.slice (some ⟨gg, 0, none⟩) (S.length + 1) cap) (S.length + 1) (S.flatMap samC ++ [.int .i64 sx.mix, .bool sx.foul]))
    (hS : w6.ownsRow base 53 3 (.slice A5 W.springs.length c5) W.springs.length (W.springs.flatMap sprC)) :
    InnerIs W A5 c5 g base (S ++ [sx]) (w6.setCell ⟨g, 4, none⟩ (.slice (some ⟨gg, 0, none⟩) (S.length + 1) cap)) := by
  have h1 : (S ++ [sx]).length = S.length + 1 := by simp
  have h2 : (S ++ [sx]).flatMap samC = S.flatMap samC ++ [.int .i64 sx.mix, .bool sx.foul] := by rw [List.flatMap_append]; rfl
  refine ⟨some ⟨gg, 0, none⟩, cap, ?_, ?_, ?_⟩
  · rw [h1]; exact hB.set_ 4 _
  · rw [h1, h2]; exact own_setCell hO (hB.ne_own hO (by decide)) _
  · exact own_setCell hS (hB.ne_own hS (by decide)) _
def butOf (n k : Nat) : Nat := if k = 0 then n else k - 1
theorem named_bad (As Am : Option Addr) (cs cm : Nat) (W : Water) (w : World) (hin : WaterIn w As Am W) (ht : TabIn w) (hv : (!farB W && validB W) = false) :
    Calls Tryd.prog 8 #[wvW As Am cs cm W] w fun e w' => e = .returned (.bool true) ∧ Ext w w' := by
  have HIN := Lib.hid hin
  have HT := Lib.hid ht
  have HV := Lib.hid hv
  clear hin ht hv
  go_enter Tryd.func8, Tryd.ntmps8
  go_wp2_with fail
  refine (valid_v _ _ _ _ W _ (HIN.out.ext (by (repeat (first | (with_reducible exact Ext.refl _) | (with_reducible assumption) | (with_reducible refine Ext.alloc ?_ _) | (with_reducible refine Ext.trans ?_ (by with_reducible assumption)) | (with_reducible refine Ext.drew ?_) | (with_reducible refine Ext.setCell ?_ (by simp <;> omega) _))))) HV.out).mono ?_
  rintro e w1 ⟨rfl, hb1⟩
  go_wp2_with fail
  refine (works_any _ (HT.out.ext (by (repeat (first | (with_reducible exact Ext.refl _) | (with_reducible assumption) | (with_reducible refine Ext.alloc ?_ _) | (with_reducible refine Ext.trans ?_ (by with_reducible assumption)) | (with_reducible refine Ext.drew ?_) | (with_reducible refine Ext.setCell ?_ (by simp <;> omega) _)))))).mono ?_
  rintro e w2 ⟨rfl, hb2⟩
  go_wp2_with fail
  go_ret
  exact ⟨rfl, by (repeat (first | (with_reducible exact Ext.refl _) | (with_reducible assumption) | (with_reducible refine Ext.alloc ?_ _) | (with_reducible refine Ext.trans ?_ (by with_reducible assumption)) | (with_reducible refine Ext.drew ?_) | (with_reducible refine Ext.setCell ?_ (by simp <;> omega) _)))⟩

theorem named_free (As Am : Option Addr) (cs cm : Nat) (W : Water) (w : World) (hin : WaterIn w As Am W) (ht : TabIn w) (hv : (!farB W && validB W) = true) (hE : confE W = 3) (hF : openE W true = 0) :
    Calls Tryd.prog 8 #[wvW As Am cs cm W] w fun e w' => e = .returned (.bool true) ∧ Ext w w' := by
  have HIN := Lib.hid hin
  have HT := Lib.hid ht
  have HV := Lib.hid hv
  have HE := Lib.hid hE
  have HF := Lib.hid hF
  have HL := Lib.hid (show confL W = [] by simp [confL, hE])
  clear hin ht hv hE hF
  go_enter Tryd.func8, Tryd.ntmps8
  go_wp2_with fail
  refine (valid_v _ _ _ _ W _ (HIN.out.ext (by (repeat (first | (with_reducible exact Ext.refl _) | (with_reducible assumption) | (with_reducible refine Ext.alloc ?_ _) | (with_reducible refine Ext.trans ?_ (by with_reducible assumption)) | (with_reducible refine Ext.drew ?_) | (with_reducible refine Ext.setCell ?_ (by simp <;> omega) _))))) HV.out).mono ?_
  rintro e w1 ⟨rfl, hb1⟩
  have f0 := ((bcell hb1).1 w.heap.size 0 (by first | (simp; done) | (simp; omega))).trans (show _ = some (.slice As W.springs.length cs) by go_simp)
  have f1 := ((bcell hb1).1 w.heap.size 1 (by first | (simp; done) | (simp; omega))).trans (show _ = some (.int .i64 W.most) by go_simp)
  have f2 := ((bcell hb1).1 w.heap.size 2 (by first | (simp; done) | (simp; omega))).trans (show _ = some (.int .i64 W.misses) by go_simp)
  have f3 := ((bcell hb1).1 w.heap.size 3 (by first | (simp; done) | (simp; omega))).trans (show _ = some (.int .i64 W.alarms) by go_simp)
  have f4 := ((bcell hb1).1 w.heap.size 4 (by first | (simp; done) | (simp; omega))).trans (show _ = some (.slice Am W.samples.length cm) by go_simp)
  have fz : w.heap.size < _ := Nat.lt_of_lt_of_le (show w.heap.size < (w.alloc _).heap.size by first | (simp; done) | (simp; omega)) (Below.size hb1)
  have HW1 := Lib.hid (show Ext w w1 by (repeat (first | (with_reducible exact Ext.refl _) | (with_reducible assumption) | (with_reducible refine Ext.alloc ?_ _) | (with_reducible refine Ext.trans ?_ (by with_reducible assumption)) | (with_reducible refine Ext.drew ?_) | (with_reducible refine Ext.setCell ?_ (by simp <;> omega) _))))
  clear hb1
  go_wp2_with fail
  refine (conflict_u _ _ _ _ W _ (HIN.out.ext HW1.out)).mono ?_
  rintro e w2 ⟨A2, c2, rfl, hs2, hbw2⟩
  replace f0 := ((bcell hbw2).1 _ 0 fz).trans f0
  replace f1 := ((bcell hbw2).1 _ 1 fz).trans f1
  replace f2 := ((bcell hbw2).1 _ 2 fz).trans f2
  replace f3 := ((bcell hbw2).1 _ 3 fz).trans f3
  replace f4 := ((bcell hbw2).1 _ 4 fz).trans f4
  replace fz := Nat.lt_of_lt_of_le fz (Below.size hbw2)
  have HW2 := Lib.hid (HW1.out.trans hbw2)
  rw [HE.out]
  have HS2 := Lib.hid hs2
  have HB12 := Lib.hid hbw2
  clear hbw2 hs2
  go_wp2_with fail
  refine (truths_u _ _ _ _ W _ (HIN.out.ext HW2.out)).mono ?_
  rintro e w3 ⟨A3, c3, rfl, hs3, hbw3⟩
  replace f0 := ((bcell hbw3).1 _ 0 fz).trans f0
  replace f1 := ((bcell hbw3).1 _ 1 fz).trans f1
  replace f2 := ((bcell hbw3).1 _ 2 fz).trans f2
  replace f3 := ((bcell hbw3).1 _ 3 fz).trans f3
  replace f4 := ((bcell hbw3).1 _ 4 fz).trans f4
  replace fz := Nat.lt_of_lt_of_le fz (Below.size hbw3)
  have HW3 := Lib.hid (HW2.out.trans hbw3)
  rw [HF.out]
  have HS23 := Lib.hid ((HS2.out.below hbw3 (Nat.le_refl _)).more (Below.size hbw3))
  clear hbw3 hs3
  rw [HL.out] at *
  go_wp2_with fail
  go_loopg [7] 0 (fun gk i wr => i = .int .i64 0 ∧ w3 = wr)
  case atStart => exact ⟨rfl, rfl⟩
  case round =>
    obtain ⟨rfl, rfl⟩ := hrel
    go_wp2_with fail
    go_loopg [8] 0 (fun gk i wr => i = .int .i64 (-1) ∧ w3 = wr)
    case atStart => exact ⟨rfl, rfl⟩
    case round =>
      obtain ⟨rfl, rfl⟩ := hrel
      go_wp2_with fail
      refine (works_any _ (HT.out.ext HW3.out)).mono ?_
      rintro e w4 ⟨rfl, hb4⟩
      go_wp2_with fail
      go_ret
      exact ⟨rfl, HW3.out.trans hb4⟩

theorem named_main (As Am : Option Addr) (cs cm : Nat) (W : Water) (w : World) (hin : WaterIn w As Am W) (ht : TabIn w) (hv : (!farB W && validB W) = true) (hE : confE W = 0) (hF : openE W true = 3) (ha : anyL W W.samples = false) :
    Calls Tryd.prog 8 #[wvW As Am cs cm W] w fun e w' => e = .returned (.bool true) ∧ Ext w w' := by
  have hvb : validB W = true := by simp only [Bool.and_eq_true] at hv; exact hv.2
  have hbd := valid_bd hvb
  have hn := valid_len hvb
  have hLk : confL W = kept W W.samples.length := by simp [confL, hE]
  have hkl := kept_le W W.samples.length
  rw [← hLk] at hkl
  have HIN := Lib.hid hin
  have HT := Lib.hid ht
  have HV := Lib.hid hv
  have HE := Lib.hid hE
  have HF := Lib.hid hF
  have HLK := Lib.hid hLk
  have HVB := Lib.hid hvb
  have HA := Lib.hid ha
  have HLT := Lib.hid (show ∀ i ∈ confL W, i < W.samples.length by rw [hLk]; exact kept_lt W _)
  have HNX := Lib.hid (show (confL W).Pairwise (· < ·) by rw [hLk]; exact kept_pair W _)
  obtain ⟨i1, hj, hy0, hy1, hy2⟩ := info_parts sample_info
  clear hin ht hv hE hF hLk hvb ha
  go_enter Tryd.func8, Tryd.ntmps8
  go_wp2_with fail
  refine (valid_v _ _ _ _ W _ (HIN.out.ext (by (repeat (first | (with_reducible exact Ext.refl _) | (with_reducible assumption) | (with_reducible refine Ext.alloc ?_ _) | (with_reducible refine Ext.trans ?_ (by with_reducible assumption)) | (with_reducible refine Ext.drew ?_) | (with_reducible refine Ext.setCell ?_ (by simp <;> omega) _))))) HV.out).mono ?_
  rintro e w1 ⟨rfl, hb1⟩
  have f0 := ((bcell hb1).1 w.heap.size 0 (by first | (simp; done) | (simp; omega))).trans (show _ = some (.slice As W.springs.length cs) by go_simp)
  have f1 := ((bcell hb1).1 w.heap.size 1 (by first | (simp; done) | (simp; omega))).trans (show _ = some (.int .i64 W.most) by go_simp)
  have f2 := ((bcell hb1).1 w.heap.size 2 (by first | (simp; done) | (simp; omega))).trans (show _ = some (.int .i64 W.misses) by go_simp)
  have f3 := ((bcell hb1).1 w.heap.size 3 (by first | (simp; done) | (simp; omega))).trans (show _ = some (.int .i64 W.alarms) by go_simp)
  have f4 := ((bcell hb1).1 w.heap.size 4 (by first | (simp; done) | (simp; omega))).trans (show _ = some (.slice Am W.samples.length cm) by go_simp)
  have fz : w.heap.size < _ := Nat.lt_of_lt_of_le (show w.heap.size < (w.alloc _).heap.size by first | (simp; done) | (simp; omega)) (Below.size hb1)
  have HW1 := Lib.hid (show Ext w w1 by (repeat (first | (with_reducible exact Ext.refl _) | (with_reducible assumption) | (with_reducible refine Ext.alloc ?_ _) | (with_reducible refine Ext.trans ?_ (by with_reducible assumption)) | (with_reducible refine Ext.drew ?_) | (with_reducible refine Ext.setCell ?_ (by simp <;> omega) _))))
  clear hb1
  go_wp2_with fail
  refine (conflict_u _ _ _ _ W _ (HIN.out.ext HW1.out)).mono ?_
  rintro e w2 ⟨A2, c2, rfl, hs2, hbw2⟩
  replace f0 := ((bcell hbw2).1 _ 0 fz).trans f0
  replace f1 := ((bcell hbw2).1 _ 1 fz).trans f1
  replace f2 := ((bcell hbw2).1 _ 2 fz).trans f2
  replace f3 := ((bcell hbw2).1 _ 3 fz).trans f3
  replace f4 := ((bcell hbw2).1 _ 4 fz).trans f4
  replace fz := Nat.lt_of_lt_of_le fz (Below.size hbw2)
  have HW2 := Lib.hid (HW1.out.trans hbw2)
  rw [HE.out]
  have HS2 := Lib.hid hs2
  have HB12 := Lib.hid hbw2
  clear hbw2 hs2
  go_wp2_with fail
  refine (truths_u _ _ _ _ W _ (HIN.out.ext HW2.out)).mono ?_
  rintro e w3 ⟨A3, c3, rfl, hs3, hbw3⟩
  replace f0 := ((bcell hbw3).1 _ 0 fz).trans f0
  replace f1 := ((bcell hbw3).1 _ 1 fz).trans f1
  replace f2 := ((bcell hbw3).1 _ 2 fz).trans f2
  replace f3 := ((bcell hbw3).1 _ 3 fz).trans f3
  replace f4 := ((bcell hbw3).1 _ 4 fz).trans f4
  replace fz := Nat.lt_of_lt_of_le fz (Below.size hbw3)
  have HW3 := Lib.hid (HW2.out.trans hbw3)
  rw [HF.out]
  have HS23 := Lib.hid ((HS2.out.below hbw3 (Nat.le_refl _)).more (Below.size hbw3))
  clear hbw3 hs3
  go_upto_region 5 with (fail)
  go_cut [47] from 50 (fun v wx => v = .bool false ∧ w3 = wx)
  case first =>
    have d1 : decide (W.samples.length < (confL W).length) = false := decide_eq_false (by omega)
    go_wp2_with fail
    go_meet
    case rel => exact ⟨rfl, rfl⟩
  case rest =>
  obtain ⟨rfl, rfl⟩ := hcut
  go_wp2_with fail
  go_loopg [7] (confL W).length (fun gk i wr => ∃ k : Nat, k + gk = (confL W).length ∧ i = .int .i64 k ∧ Ext w3 wr)
  case atStart => exact ⟨0, by omega, rfl, Ext.refl _⟩
  case round =>
    obtain ⟨k, hk, rfl, hb⟩ := hrel
    have HK : k ≤ (confL W).length := by omega
    have HKG := Lib.hid hk
    have HB := Lib.hid hb
    replace f0 := ((bcell hb).1 _ 0 fz).trans f0
    replace f1 := ((bcell hb).1 _ 1 fz).trans f1
    replace f2 := ((bcell hb).1 _ 2 fz).trans f2
    replace f3 := ((bcell hb).1 _ 3 fz).trans f3
    replace f4 := ((bcell hb).1 _ 4 fz).trans f4
    replace fz := Nat.lt_of_lt_of_le fz (Below.size hb)
    clear hk hb
    by_cases hlt : k < (confL W).length
    · have hs4 := HS23.out.below HB.out (Nat.le_refl _)
      obtain ⟨b, off, rfl, hbl, hc⟩ := hs4.at_ natI_len hlt
      have c0 := hc 0 _ (by omega) rfl
      clear hc
      simp only [Nat.add_zero, Nat.mul_one] at c0
      have hx : (confL W)[k] < W.samples.length := HLT.out _ (List.getElem_mem hlt)
      have hbr : b < wr.heap.size := Nat.lt_of_lt_of_le hbl (Below.size HB.out)
      by_cases hk0 : k = 0
      · generalize (confL W)[k] = x at *
        have t1 : (x : Int) < (W.samples.length : Int) := by omega
        have t2 : (0 : Int) ≤ (x : Int) := by omega
        have t4 : decide ((0 : Int) < (k : Int)) = false := decide_eq_false (by omega)
        have t5 : decide (0 < k) = false := decide_eq_false (by omega)
        have t6 : ¬ (0 : Int) < (k : Int) := by omega
        have d1 : decide ((x : Int) < 0) = false := decide_eq_false (by omega)
        have d2 : decide ((W.samples.length : Int) ≤ (x : Int)) = false := decide_eq_false (by omega)
        have d3 : decide (W.samples.length ≤ x) = false := decide_eq_false (by omega)
        have HK0 := Lib.hid hk0
        clear hk0
        go_wp2_with fail
        (refine wp_region_ext (by kernel_rfl) (by kernel_rfl) (fun hX => ?_); (repeat (go_big_quiet_step (fail))); refine wpQuiet_nil ?_; rintro w4 ⟨⟨_, hb4⟩, rfl⟩; (try dsimp only))
        go_wp2_with fail
        go_roundg (gk - 1)
        case measure => have := HKG.out; omega
        case rel => exact ⟨k + 1, by have := HKG.out; omega, by go_num, HB.out.trans hb4⟩
      · obtain ⟨b', off', e', hbl', hc'⟩ := hs4.at_ natI_len (k := k - 1) (by omega)
        injection e' with e'; injection e' with e1 e2; subst e1 e2
        have c1 := hc' 0 _ (by omega) rfl
        clear hc' hbl'
        simp only [Nat.add_zero, Nat.mul_one] at c1
        have hlj := sorted_next HNX.out (k := k) (by omega) hlt
        generalize (confL W)[k] = x at *
        generalize (confL W)[k - 1] = y at *
        have t1 : (x : Int) < (W.samples.length : Int) := by omega
        have t2 : (0 : Int) ≤ (x : Int) := by omega
        have t3 : (y : Int) < (x : Int) := by omega
        have d1 : decide ((x : Int) < 0) = false := decide_eq_false (by omega)
        have d2 : decide ((W.samples.length : Int) ≤ (x : Int)) = false := decide_eq_false (by omega)
        have d3 : decide (W.samples.length ≤ x) = false := decide_eq_false (by omega)
        have d4 : decide ((x : Int) ≤ (y : Int)) = false := decide_eq_false (by omega)
        have d5 : decide (x ≤ y) = false := decide_eq_false (by omega)
        have t4 : decide ((0 : Int) < (k : Int)) = true := decide_eq_true (by omega)
        have t5 : decide (0 < k) = true := decide_eq_true (by omega)
        have t6 : (0 : Int) ≤ (k : Int) - 1 := by omega
        have t7 : (k : Int) - 1 < ((confL W).length : Int) := by omega
        have q1 : IntKind.i64.wrap ((k : Int) - 1) = (k : Int) - 1 := by rw [IntKind.wrap_i64]; omega
        have q2 : ((k : Int) - 1).toNat = k - 1 := by omega
        go_wp2_with fail
        (refine wp_region_ext (by kernel_rfl) (by kernel_rfl) (fun hX => ?_); (repeat (go_big_quiet_step (fail))); refine wpQuiet_nil ?_; rintro w4 ⟨⟨_, hb4⟩, rfl⟩; (try dsimp only))
        clear q1 q2
        go_wp2_with fail
        go_roundg (gk - 1)
        case measure => have := HKG.out; omega
        case rel => exact ⟨k + 1, by have := HKG.out; omega, by go_num, HB.out.trans hb4⟩
    · obtain rfl : k = (confL W).length := by omega
      obtain ⟨w4, hw4⟩ : ∃ w4, w4 = wr := ⟨_, rfl⟩
      subst hw4
      have HW4 := Lib.hid (HW3.out.trans HB.out)
      have HS4 := Lib.hid ((HS23.out.below HB.out (Nat.le_refl _)).more (Below.size HB.out))
      go_wp2_with fail
      go_loopg [8] ((confL W).length + 1) (fun gk i wr => ∃ k : Nat, k + gk = (confL W).length + 1 ∧ i = .int .i64 ((k : Int) - 1) ∧ Ext w4 wr)
      case atStart => exact ⟨0, by omega, rfl, Ext.refl _⟩
      case round =>
        clear HK HKG
        obtain ⟨GKO, hGKO⟩ : ∃ g : Nat, g = gk := ⟨_, rfl⟩
        subst hGKO
        obtain ⟨k, hk, rfl, hb⟩ := hrel
        have HK : k ≤ (confL W).length + 1 := by omega
        have HKG := Lib.hid hk
        have HBo := Lib.hid hb
        replace f0 := ((bcell hb).1 _ 0 fz).trans f0
        replace f1 := ((bcell hb).1 _ 1 fz).trans f1
        replace f2 := ((bcell hb).1 _ 2 fz).trans f2
        replace f3 := ((bcell hb).1 _ 3 fz).trans f3
        replace f4 := ((bcell hb).1 _ 4 fz).trans f4
        replace fz := Nat.lt_of_lt_of_le fz (Below.size hb)
        have CFo := Lib.hid (cells5_of fz f0 f1 f2 f3 f4)
        clear hk hb hlt
        by_cases hlt : k < (confL W).length + 1
        rotate_left
        · have t1 : ¬ (k : Int) - 1 < ((confL W).length : Int) := by omega
          go_wp2_with fail
          refine (works_any _ (HT.out.ext (HW4.out.trans HBo.out))).mono ?_
          rintro e w5 ⟨rfl, hb5⟩
          go_wp2_with fail
          go_ret
          exact ⟨rfl, (HW4.out.trans HBo.out).trans hb5⟩
        have t1 : (k : Int) - 1 < ((confL W).length : Int) := by omega
        obtain ⟨wo, hwo⟩ : ∃ wo, wo = wr := ⟨_, rfl⟩
        subst hwo
        go_wp2_with fail
        refine (copy_any _ _ _ _ W _ (HIN.out.ext (HW4.out.trans HBo.out)) (by omega) (by omega)).mono ?_
        rintro e w5 ⟨A5, M5, c5, m5, rfl, hin5, ⟨hown5, hspr5⟩, hb5⟩
        have HSP5 := Lib.hid hspr5
        have HB5 := Lib.hid hb5
        have z5 := Below.size hb5
        clear hb5 hown5 hspr5 hin5
        clear f0 f1 f2 f3 f4 fz
        go_upto_region 17 with (fail)
        obtain ⟨wb, hwb⟩ : ∃ wb, w5.alloc (.cells #[.slice A5 W.springs.length c5, .int .i64 W.most, .int .i64 W.misses, .int .i64 W.alarms, .slice none 0 0] 25) = wb := ⟨_, rfl⟩
        rw [hwb]
        have hIS : InnerIs W A5 c5 w5.heap.size wo.heap.size (smpl W (((confL W).take 0).eraseIdx (butOf (confL W).length k))) wb := by
          rw [← hwb]
          exact ⟨none, 0, Blk.new w5 _ _ rfl, World.ownsRow_nil _ _ _ _, HSP5.out.alloc _⟩
        have HIS := Lib.hid hIS
        have hE : Ext wo wb := by rw [← hwb]; exact Ext.alloc HB5.out _
        have HEB := Lib.hid hE
        have HBUT := Lib.hid (show ∀ j : Nat, j < (confL W).length → (j = butOf (confL W).length k ↔ (j : Int) = (k : Int) - 1) by
          intro j hj; unfold butOf; split <;> omega)
        have hlw := Below.size HW4.out
        have hlo := Below.size HBo.out
        clear hwb hIS hE
        go_wp2_with fail
        go_loopg [10] (confL W).length (fun gk i wr => ∃ j : Nat, j + gk = (confL W).length ∧ i = .int .i64 j ∧ InnerIs W A5 c5 w5.heap.size wo.heap.size (smpl W (((confL W).take j).eraseIdx (butOf (confL W).length k))) wr ∧ Ext wo wr)
        case atStart => exact ⟨0, by omega, rfl, HIS.out, HEB.out⟩
        case round =>
          obtain ⟨j, hk, rfl, ⟨A, c, hB, hO, hSp⟩, hb⟩ := hrel
          have HJ : j ≤ (confL W).length := by omega
          have HJG := Lib.hid hk
          have HBi := Lib.hid hb
          have HBK := Lib.hid hB
          have HO := Lib.hid hO
          have HSP := Lib.hid hSp
          have f4 := (CFo.out.ext hb).2 4 _ rfl
          have hfz := CFo.out.1
          have zo := Below.size hb
          have hzg := hB.lt
          have gx := hB.cell 4
          have gf := hB.frozen 4
          simp only [List.getElem?_cons_succ, List.getElem?_cons_zero] at gx
          clear hk hb hB hO hSp
          by_cases hj2 : j < (confL W).length
          · obtain ⟨b, off, rfl, hbl, hc⟩ := (HS4.out.below (HBo.out.trans HBi.out) (Nat.le_refl _)).at_ natI_len hj2
            have c0 := hc 0 _ (by omega) rfl
            clear hc
            simp only [Nat.add_zero, Nat.mul_one] at c0
            have hx : (confL W)[j] < W.samples.length := HLT.out _ (List.getElem_mem hj2)
            have hbi := HBUT.out j hj2
            have hst := erase_step (confL W) (butOf (confL W).length k) j hj2
            by_cases hi : j = butOf (confL W).length k
            · have HST := Lib.hid (hst.trans (if_pos hi))
              have n1 : (((j : Int) != (k : Int) - 1)) = false := by simp only [bne_eq_false_iff_eq]; exact hbi.1 hi
              clear hst hi hbi
              go_wp2_with fail
              go_roundg (gk - 1)
              case measure => have := HJG.out; omega
              case rel => exact ⟨j + 1, by have := HJG.out; omega, by go_num, by rw [HST.out]; exact ⟨A, c, HBK.out, HO.out, HSP.out⟩, HBi.out⟩
            · have HST := Lib.hid (hst.trans (if_neg hi))
              have n1 : (((j : Int) != (k : Int) - 1)) = true := by simp only [bne_iff_ne, ne_eq]; exact fun h => hi (hbi.2 h)
              have HSX := Lib.hid (show smp W (confL W)[j] = W.samples[(confL W)[j]] by unfold smp; rw [List.getElem?_eq_getElem hx]; rfl)
              have HSN := Lib.hid (smpl_snoc W (((confL W).take j).eraseIdx (butOf (confL W).length k)) (confL W)[j])
              have hsl : (smpl W (((confL W).take j).eraseIdx (butOf (confL W).length k))).length ≤ 64 := by
                rw [smpl_len]; exact Nat.le_trans (Nat.le_trans (List.length_eraseIdx_le _ _) (List.length_take_le _ _)) (by omega)
              clear hst hi hbi
              generalize (confL W)[j] = x at *
              obtain ⟨b2, off2, e2, hbl2, hc2⟩ := (HIN.out.2.1.below (HW4.out.trans (HBo.out.trans HBi.out)) (Nat.le_refl _)).at_ samC_len hx
              have d0 := hc2 0 _ (by omega) rfl
              have d1 := hc2 1 _ (by omega) rfl
              clear hc2
              subst e2
              simp only [Nat.add_zero] at d0
              rw [← HSX.out] at d0 d1
              generalize smp W x = sx at *
              generalize smpl W (((confL W).take j).eraseIdx (butOf (confL W).length k)) = S at *
              have k0 : (0 : Int) ≤ (j : Int) := by omega
              have k1 : (j : Int) < ((confL W).length : Int) := by omega
              have k2 : (0 : Int) ≤ (x : Int) := by omega
              have k3 : (x : Int) < (W.samples.length : Int) := by omega
              have n2 : w.heap.size ≠ w5.heap.size := by omega
              have n3 : b ≠ w5.heap.size := by omega
              have n4 : b2 ≠ w5.heap.size := by omega
              have m2 : w5.heap.size ≠ w.heap.size := by omega
              have m3 : w5.heap.size ≠ b := by omega
              have m4 : w5.heap.size ≠ b2 := by omega
              have z6 : w.heap.size < wo.heap.size := by omega
              have z7 : b < wo.heap.size := by omega
              have z8 : b2 < wo.heap.size := by omega
              have hnb : some w5.heap.size ≠ (Value.slice A S.length c).ownBlock := fun e => HBK.out.ne_own HO.out (by decide) e.symm
              have HNB := Lib.hid hnb
              clear hnb
              go_wp2_with fail
              go_region_law
                ((refine step_append_lies _ (by rfl) _ _ _ (by rfl) wo.heap.size 27 i1 _ 2 16 Tryd.underlying23 hj hy0 hy1 hy2 rfl (by omega) (.slice A S.length c) _ _ (by rfl) (HO.out.drew.alloc _)
                    ⟨wr.heap.size, 0, none⟩ 1 1 [.int .i64 sx.mix, .bool sx.foul] (by rfl) (by rfl) (World.news_of_block (cs := #[.int .i64 sx.mix, .bool sx.foul]) (t := 27) (fr := (0, 0)) (heap_alloc_new wr.drew _)) (by simp [Value.oneCell'])
                    (by omega) (by unfold maxLen; omega) (by omega) (by simp; omega) (wr.heap.size + 1) (by simp) ?_; intro gg cap w6 hown6 hg6 hat hlt6; have hcg : ∀ bb o, bb < wo.heap.size → w6.cell? ⟨bb, o, none⟩ = wr.cell? ⟨bb, o, none⟩ := (fun bb o hbb => ((bcell ((((Below.refl wo.heap.size wr).drew).alloc (by simp; omega) _).grown hg6 (by simp; omega) (own_block HO.out))).1 bb o hbb)); have HBK6 := Lib.hid ((HBK.out.drew.alloc (.cells #[.int .i64 sx.mix, .bool sx.foul] 27)).grown hg6 HNB.out); have gx6 := HBK6.out.cell 4; have gf6 := HBK6.out.frozen 4; have hz6 := HBK6.out.lt; simp only [List.getElem?_cons_succ, List.getElem?_cons_zero] at gx6))
              all_goals
                have hE7 : Ext wo (w6.setCell ⟨w5.heap.size, 4, none⟩ (.slice (some ⟨gg, 0, none⟩) (S.length + 1) cap)) := ((HBi.out.drew.alloc _).grown hg6 (own_block HO.out)).setCell (by simp; omega) _
                have hI7 := inner_next (W := W) (A5 := A5) (c5 := c5) HBK6.out hown6 ((HSP.out.drew.alloc (.cells #[.int .i64 sx.mix, .bool sx.foul] 27)).kept hg6 (own_ne_own HSP.out HO.out (by decide)))
                have HE7 := Lib.hid hE7
                have HI7 := Lib.hid hI7
                clear hE7 hI7 hcg gx6 gf6 hat hown6 hg6
                go_wp2_with fail
                go_roundg (gk - 1)
                case measure => have := HJG.out; omega
                case rel => exact ⟨j + 1, by have := HJG.out; omega, by go_num, by rw [HST.out, HSN.out]; exact HI7.out, HE7.out⟩
          · obtain rfl : j = (confL W).length := by omega
            rw [List.take_length] at *
            have gx0 := HBK.out.cell 0
            have gx1 := HBK.out.cell 1
            have gx2 := HBK.out.cell 2
            have gx3 := HBK.out.cell 3
            simp only [List.getElem?_cons_succ, List.getElem?_cons_zero] at gx0 gx1 gx2 gx3
            have hel : ((confL W).eraseIdx (butOf (confL W).length k)).length ≤ W.samples.length := Nat.le_trans (List.length_eraseIdx_le _ _) hkl
            have hem : ∀ i ∈ (confL W).eraseIdx (butOf (confL W).length k), i < W.samples.length := fun i hi => HLT.out i (List.mem_of_mem_eraseIdx hi)
            have hop := openE_with HVB.out hel hem
            have hsl := smpl_len W ((confL W).eraseIdx (butOf (confL W).length k))
            have HINW := Lib.hid (show WaterIn wr A5 A (withS W (smpl W ((confL W).eraseIdx (butOf (confL W).length k)))) from ⟨own_sl HSP.out, own_sl HO.out, HIN.out.2.2.1, by simp only [withS]; omega⟩)
            by_cases hk0 : k = 0
            · have hov : openE (withS W (smpl W ((confL W).eraseIdx (butOf (confL W).length k)))) true = 3 := by
                rw [hop, show (confL W).eraseIdx (butOf (confL W).length k) = kept W W.samples.length by rw [hk0, butOf, if_pos rfl, List.eraseIdx_of_length_le (Nat.le_refl _), HLK.out], kept_none HA.out]; rfl
              have HOV := Lib.hid hov
              have n1 : decide ((k : Int) - 1 < 0) = true := decide_eq_true (by omega)
              have n2 : decide ((0 : Int) ≤ (k : Int) - 1) = false := decide_eq_false (by omega)
              have o0 : decide ((k : Int) < 1) = true := decide_eq_true (by omega)
              have o1 : decide (k < 1) = true := decide_eq_true (by omega)
              have o2 : decide ((1 : Int) ≤ (k : Int)) = false := decide_eq_false (by omega)
              have o3 : decide (1 ≤ k) = false := decide_eq_false (by omega)
              have o4 : decide ((0 : Int) < (k : Int)) = false := decide_eq_false (by omega)
              have o5 : decide (0 < k) = false := decide_eq_false (by omega)
              have HK0 := Lib.hid hk0
              clear hop hov hem hel hsl hk0
              generalize smpl W ((confL W).eraseIdx (butOf (confL W).length k)) = S at *
              go_wp2_with fail
              refine (truths_u A5 A c5 c (withS W S) _ HINW.out).mono ?_
              rintro e w9 ⟨A9, c9, rfl, hs9, hb9⟩
              rw [HOV.out]
              have HE9 := Lib.hid (HBo.out.trans (HBi.out.trans hb9))
              clear hs9 hb9
              go_wp2_with fail
              go_roundg (GKO - 1)
              case measure => have := HKG.out; omega
              case rel => exact ⟨k + 1, by have := HKG.out; omega, val_int (by omega), HE9.out⟩
            · have hov : openE (withS W (smpl W ((confL W).eraseIdx (butOf (confL W).length k)))) true = 0 := by
                rw [hop, show butOf (confL W).length k = k - 1 by rw [butOf, if_neg hk0], HLK.out, kept_one (by rw [← HLK.out]; omega)]; rfl
              have HOV := Lib.hid hov
              have n1 : decide ((k : Int) - 1 < 0) = false := decide_eq_false (by omega)
              have n2 : decide ((0 : Int) ≤ (k : Int) - 1) = true := decide_eq_true (by omega)
              have o0 : decide ((k : Int) < 1) = false := decide_eq_false (by omega)
              have o1 : decide (k < 1) = false := decide_eq_false (by omega)
              have o2 : decide ((1 : Int) ≤ (k : Int)) = true := decide_eq_true (by omega)
              have o3 : decide (1 ≤ k) = true := decide_eq_true (by omega)
              have o4 : decide ((0 : Int) < (k : Int)) = true := decide_eq_true (by omega)
              have o5 : decide (0 < k) = true := decide_eq_true (by omega)
              have HK0 := Lib.hid hk0
              clear hop hov hem hel hsl hk0
              generalize smpl W ((confL W).eraseIdx (butOf (confL W).length k)) = S at *
              go_wp2_with fail
              refine (truths_u A5 A c5 c (withS W S) _ HINW.out).mono ?_
              rintro e w9 ⟨A9, c9, rfl, hs9, hb9⟩
              rw [HOV.out]
              have HE9 := Lib.hid (HBo.out.trans (HBi.out.trans hb9))
              clear hs9 hb9
              go_wp2_with fail
              go_roundg (GKO - 1)
              case measure => have := HKG.out; omega
              case rel => exact ⟨k + 1, by have := HKG.out; omega, val_int (by omega), HE9.out⟩
end Go.Proofs.YtabcmnfofekeeaaDoor
