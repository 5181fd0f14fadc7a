import Derived.Test.YtabcmnfofekeeaaDoorWat33
namespace Go.Proofs.YtabcmnfofekeeaaDoor
open Go Go.Proofs Go.RowKit Go.Shelf
set_option maxHeartbeats 1000000
set_option maxRecDepth 20000
/-! ### plain facts for WaterMore -/
theorem possN_more {most misses alarms : Int} {l : List Sample} {s : Sample} {t : Nat} (h : possN most misses alarms (l ++ [s]) t = true) : possN most misses alarms l t = true := by
  unfold possN at h ⊢
  simp only [Bool.and_eq_true, decide_eq_true_eq] at h ⊢
  have h1 : missN l t ≤ missN (l ++ [s]) t := by unfold missN; rw [List.countP_append]; omega
  have h2 : alarmN l t ≤ alarmN (l ++ [s]) t := by unfold alarmN; rw [List.countP_append]; omega
  omega
theorem possN_lax {most misses alarms most' misses' alarms' : Int} {l : List Sample} {t : Nat} (h1 : most ≤ most') (h2 : misses ≤ misses') (h3 : alarms ≤ alarms')
    (h : possN most misses alarms l t = true) : possN most' misses' alarms' l t = true := by
  unfold possN at h ⊢
  simp only [Bool.and_eq_true, decide_eq_true_eq] at h ⊢
  omega
theorem mem_truthsW {W : Water} {t : Nat} : t ∈ truthsW W ↔ t < 2 ^ W.springs.length ∧ possN W.most W.misses W.alarms W.samples t = true := by
  unfold truthsW truthsTo
  rw [List.mem_filter, List.mem_range]
def moreW (W : Water) (s : Sample) : Water := ⟨W.springs, W.most, W.misses, W.alarms, W.samples ++ [s]⟩
def laxW (W : Water) (a b c : Int) : Water := ⟨W.springs, min 8 (W.most + c), min 4 (W.misses + a), min 4 (W.alarms + b), W.samples⟩
theorem truths_more {W : Water} {s : Sample} {t : Nat} (h : t ∈ truthsW (moreW W s)) : t ∈ truthsW W := by
  rw [mem_truthsW] at h ⊢
  exact ⟨h.1, possN_more h.2⟩
theorem valid_bd {W : Water} (h : validB W = true) : (0 ≤ W.most ∧ W.most ≤ 8) ∧ (0 ≤ W.misses ∧ W.misses ≤ 4) ∧ (0 ≤ W.alarms ∧ W.alarms ≤ 4) ∧ W.samples.length ≤ 20 := by
  unfold validB at h
  simp only [Bool.and_eq_true, decide_eq_true_eq] at h
  exact ⟨withinB_true h.1.1.1.1.2, withinB_true h.1.1.1.2, withinB_true h.1.1.2, h.1.2⟩
theorem truths_lax {W : Water} {a b c : Int} (hv : validB W = true) (ha : 0 ≤ a) (hb : 0 ≤ b) (hc : 0 ≤ c) {t : Nat} (h : t ∈ truthsW W) : t ∈ truthsW (laxW W a b c) := by
  have := valid_bd hv
  rw [mem_truthsW] at h ⊢
  exact ⟨h.1, possN_lax (by simp only [laxW]; omega) (by simp only [laxW]; omega) (by simp only [laxW]; omega) h.2⟩
theorem valid_lax {W : Water} {a b c : Int} (hv : validB W = true) (ha : 0 ≤ a) (hb : 0 ≤ b) (hc : 0 ≤ c) : validB (laxW W a b c) = true := by
  have hbd := valid_bd hv
  unfold validB at hv ⊢
  simp only [Bool.and_eq_true] at hv ⊢
  refine ⟨⟨⟨⟨⟨hv.1.1.1.1.1, withinB_mk ?_⟩, withinB_mk ?_⟩, withinB_mk ?_⟩, hv.1.2⟩, hv.2⟩
  · simp only [laxW]; omega
  · simp only [laxW]; omega
  · simp only [laxW]; omega
theorem openE_lax {W : Water} {a b c : Int} (hv : validB W = true) (ha : 0 ≤ a) (hb : 0 ≤ b) (hc : 0 ≤ c) (hE : openE W true = 0) : openE (laxW W a b c) true = 0 := by
  obtain ⟨_, _, hne⟩ := open_zero hE
  unfold openE
  have hne2 : truthsW (laxW W a b c) ≠ [] := by
    intro e
    cases h : truthsW W with
    | nil => exact hne h
    | cons t l =>
      have : t ∈ truthsW W := by rw [h]; exact List.mem_cons_self
      have := truths_lax hv ha hb hc this
      rw [e] at this
      cases this
  rw [valid_lax hv ha hb hc]
  simp [hne2]
theorem pure_lax {W : Water} {a b c : Int} (hv : validB W = true) (ha : 0 ≤ a) (hb : 0 ≤ b) (hc : 0 ≤ c) : diffN (pureN (laxW W a b c)) (pureN W) = 0 := by
  rw [diff_zero_iff]
  intro i hi
  rw [pure_bit] at hi ⊢
  exact ⟨hi.1, fun t ht => hi.2 t (truths_lax hv ha hb hc ht)⟩
theorem openE_03 {W : Water} (hv : validB W = true) : openE W true = 0 ∨ openE W true = 3 := by
  unfold openE
  rw [hv]
  by_cases h : truthsW W = [] <;> simp [h]
theorem truthsL_mem {W : Water} {t : Nat} (hv : validB W = true) : t ∈ truthsL W ↔ t ∈ truthsW W := by
  unfold truthsL
  split
  · rfl
  · next h =>
    have : truthsW W = [] := by
      by_cases hx : truthsW W = []
      · exact hx
      · exfalso; apply h; simp [openE, hv, hx]
    rw [this]

theorem truthsL_le (W : Water) : (truthsL W).length ≤ 256 := by
  unfold truthsL
  split
  · next h => obtain ⟨hv, _, _⟩ := open_zero h; exact truthsW_len hv
  · simp
end Go.Proofs.YtabcmnfofekeeaaDoor
