import Derived.Test.YtabcmnfofekeeaaDoorWat9
namespace Go.Proofs.YtabcmnfofekeeaaDoor
open Go Go.Proofs Go.RowKit Go.Shelf
set_option maxHeartbeats 800000
set_option maxRecDepth 20000
attribute [local go_sem] Oper.semAt_some

def truthsW (W : Water) : List Nat := truthsTo (2 ^ W.springs.length) W.most W.misses W.alarms W.samples
def openE (W : Water) (tb : Bool) : Int := if !validB W then 40 else if !tb then 1 else if truthsW W = [] then 3 else 0
theorem pow_le8 {n : Nat} (h : n ≤ 8) : (2 : Nat) ^ n ≤ 256 := by have : (2 : Nat) ^ n ≤ 2 ^ 8 := Nat.pow_le_pow_right (by omega) h; omega
theorem valid_len {W : Water} (h : validB W = true) : 1 ≤ W.springs.length ∧ W.springs.length ≤ 8 := by
  unfold validB at h
  simp only [Bool.and_eq_true] at h
  have := withinB_true h.1.1.1.1.1.1
  omega
theorem valid_mix {W : Water} (h : validB W = true) : MixNat W.samples := by
  have hl := valid_len h
  intro s hs
  unfold validB at h
  simp only [Bool.and_eq_true, Bool.not_eq_true', List.any_eq_false] at h
  have h2 := h.2 s hs
  simp [mixOk] at h2
  have h3 := withinB_true h2
  have h4 := pow_le8 hl.2
  have e : ((2 ^ W.springs.length : Nat) : Int) = (2 : Int) ^ W.springs.length := by simp
  exact ⟨s.mix.toNat, by omega, by omega⟩

theorem check_is {v : Int} (As Am : Option Addr) (cs cm : Nat) (W : Water) (w : World) (hin : WaterIn w As Am W) (hv : checkI W = v) :
    Calls Tryd.prog 28 #[wvW As Am cs cm W] w fun e w' => e = .returned (.int .i64 v) ∧ Ext w w' := by
  rw [← hv]; exact check_any As Am cs cm W w hin

theorem open_ok_nil (As Am : Option Addr) (cs cm : Nat) (W : Water) (w : World) (hin : WaterIn w As Am W) (hE : openE W true = 0) :
    Calls Tryd.prog 41 #[wvW As Am cs cm W, .nilFunc] w fun e w' => ∃ A c, e = .returned (.tuple #[wvW As Am cs cm W, .slice A (truthsW W).length c, .int .i64 0]) ∧ Sl w' w'.heap.size 1 A (truthsW W).length (u64s (truthsW W)) ∧ Ext w w' := by
  have hv : validB W = true := by
    unfold openE at hE
    cases h : validB W
    · rw [h] at hE; simp at hE
    · rfl
  have hne : truthsW W ≠ [] := by
    unfold openE at hE
    rw [hv] at hE
    intro h
    simp [h] at hE
  have HV := Lib.hid (show checkI W = 0 by simp [checkI, hv])
  have hn := valid_len hv
  have hmx := valid_mix hv
  obtain ⟨hs1, hs2, hl1, hl2⟩ := hin
  have k1 := neq_nil_nil
  have hLW : truthsTo (2 ^ W.springs.length) W.most W.misses W.alarms W.samples = truthsW W := rfl
  go_enter Tryd.func41, Tryd.ntmps41
  go_wp2_with fail
  refine (check_is _ _ _ _ W _ ⟨?_, ?_, hl1, hl2⟩ HV.out).mono ?_
  · exact (hs1.below (B' := w.heap.size) (by (repeat (first | (with_reducible exact Ext.refl _) | (with_reducible assumption) | (with_reducible refine Ext.alloc ?_ _) | (with_reducible refine Ext.trans ?_ (by with_reducible assumption)) | (with_reducible refine Ext.drew ?_) | (with_reducible refine Ext.setCell ?_ (by simp <;> omega) _)))) (Nat.le_refl _)).more (by simp; omega)
  · exact (hs2.below (B' := w.heap.size) (by (repeat (first | (with_reducible exact Ext.refl _) | (with_reducible assumption) | (with_reducible refine Ext.alloc ?_ _) | (with_reducible refine Ext.trans ?_ (by with_reducible assumption)) | (with_reducible refine Ext.drew ?_) | (with_reducible refine Ext.setCell ?_ (by simp <;> omega) _)))) (Nat.le_refl _)).more (by simp; omega)
  rintro e w1 ⟨rfl, hb1⟩
  obtain ⟨hc1, hf1⟩ := bcell hb1
  have hz1 : w.heap.size + 1 < w1.heap.size := by have := hb1.size; simp only [World.size_alloc] at this; omega
  go_wp2_with fail
  refine (ftruths_any _ _ _ _ _ _ _ _ _ _ _ _ _).mono ?_
  rintro e w2 ⟨rfl, hw2⟩
  have HW2 := Lib.hid hw2
  clear hw2
  go_wp2_with fail
  refine (collectTruths_any As Am Am W.springs.length cs W.samples.length cm cm W.most W.misses W.alarms W.samples _ hn.2 hl2 ?_ hmx (truthsW W) hLW w2 w1.heap.size ?_ HW2.out).mono ?_
  · exact (hs2.below (B' := w.heap.size) (by (repeat (first | (with_reducible exact Ext.refl _) | (with_reducible assumption) | (with_reducible refine Ext.alloc ?_ _) | (with_reducible refine Ext.trans ?_ (by with_reducible assumption)) | (with_reducible refine Ext.drew ?_) | (with_reducible refine Ext.setCell ?_ (by simp <;> omega) _)))) (Nat.le_refl _)).more (by simp; omega)
  · simp
  rintro e w3 ⟨A, c, rfl, h1, h2, hfr, h3⟩
  obtain ⟨hc3, hf3⟩ := bcell h3
  have H1 := Lib.hid h1
  have hA : A.isNone = false := by
    cases A with
    | none => exact absurd (h2.1 rfl) hne
    | some a => rfl
  have k2 := fun w => Lib.run_eql_slice_nil (P := Tryd.prog) w 70 73 A (truthsW W).length c 0 0 Tryd.underlying70
  clear h1 h2
  have hz3 : w.heap.size + 1 < w3.heap.size := by have := h3.size; simp at this; omega
  have g0 := (hc3 (w.heap.size + 1) 0 (by simp; omega)).trans (show _ = some (.slice As W.springs.length cs) by go_simp)
  have g1 := (hc3 (w.heap.size + 1) 1 (by simp; omega)).trans (show _ = some (.int .i64 W.most) by go_simp)
  have g2 := (hc3 (w.heap.size + 1) 2 (by simp; omega)).trans (show _ = some (.int .i64 W.misses) by go_simp)
  have g3 := (hc3 (w.heap.size + 1) 3 (by simp; omega)).trans (show _ = some (.int .i64 W.alarms) by go_simp)
  have g4 := (hc3 (w.heap.size + 1) 4 (by simp; omega)).trans (show _ = some (.slice Am W.samples.length cm) by go_simp)
  have g5 := fun o => (hf3 (w.heap.size + 1) o (by simp; omega)).trans (show _ = false by go_simp)
  clear hc3 hf3 hc1 hf1
  go_wp2_with fail
  refine bodyPost_ret (v := .tuple #[wvW As Am cs cm W, .slice A (truthsW W).length c, .int .i64 0]) (by simp only [results, Tryd.results41]; go_simp) rfl ⟨A, c, rfl, ?_, by (repeat (first | (with_reducible exact Ext.refl _) | (with_reducible assumption) | (with_reducible refine Ext.alloc ?_ _) | (with_reducible refine Ext.trans ?_ (by with_reducible assumption)) | (with_reducible refine Ext.drew ?_) | (with_reducible refine Ext.setCell ?_ (by simp <;> omega) _)))⟩
  have hfr2 : From (w.heap.size + 2) A := hfr.more (by simp; omega)
  simp only [World.size_setCell]
  exact ((((H1.out.setCell hfr2 (by simp) _).setCell hfr2 (by simp) _).setCell hfr2 (by simp) _).setCell hfr2 (by simp) _).setCell hfr2 (by simp) _
end Go.Proofs.YtabcmnfofekeeaaDoor
