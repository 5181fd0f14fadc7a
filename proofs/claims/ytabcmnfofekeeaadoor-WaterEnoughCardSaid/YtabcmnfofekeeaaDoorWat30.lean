import Derived.Test.YtabcmnfofekeeaaDoorWat29
namespace Go.Proofs.YtabcmnfofekeeaaDoor
open Go Go.Proofs Go.RowKit Go.Shelf
set_option maxHeartbeats 1000000
set_option maxRecDepth 20000

/-! ### plain facts for WaterEnough -/
theorem diff_or (o p : Nat) : diffN o p ||| p = o ||| p := by
  apply Nat.eq_of_testBit_eq
  intro i
  rw [Nat.testBit_or, diffN_bit, Nat.testBit_or]
  cases o.testBit i <;> cases p.testBit i <;> rfl
theorem diff_and (o p : Nat) : diffN o p &&& p = 0 := by
  apply Nat.eq_of_testBit_eq
  intro i
  rw [Nat.testBit_and, diffN_bit, Nat.zero_testBit]
  cases o.testBit i <;> cases p.testBit i <;> rfl
theorem diffN_lt2 {a b n : Nat} (ha : a < 2 ^ n) : diffN a b < 2 ^ n := by
  unfold diffN
  exact Nat.xor_lt_two_pow ha (Nat.lt_of_le_of_lt Nat.and_le_left ha)
theorem enough_iff {W : Water} {need : Int} {b : Batch} : b ∈ enough W need ↔ ∃ s, s < 2 ^ W.springs.length ∧ okS W need s = true ∧ batOf W s = b := by
  unfold enough enoughTo
  simp only [List.mem_map, List.mem_filter, List.mem_range, and_assoc]
theorem okS_diff {W : Water} {need : Int} {o : Nat} (h : need ≤ sumOf (loOf W.springs) (el (pureN W ||| o))) : okS W need (diffN o (pureN W)) = true := by
  unfold okS
  rw [diff_and, diff_or, Nat.or_comm]
  simp [h]
theorem enough_none {W : Water} {need : Int} {o : Nat} (ho : o < 2 ^ W.springs.length) (h : enough W need = []) : sumOf (loOf W.springs) (el (pureN W ||| o)) < need := by
  by_cases hx : need ≤ sumOf (loOf W.springs) (el (pureN W ||| o))
  · have := enough_iff.2 ⟨_, diffN_lt2 (b := pureN W) ho, okS_diff hx, rfl⟩
    rw [h] at this
    cases this
  · omega
theorem better_fuel {x m : Batch} : (betterI x m < 0 → x.fuel ≤ m.fuel) ∧ (¬ betterI x m < 0 → m.fuel ≤ x.fuel) := by
  unfold betterI orI cmpI
  constructor
  · intro h
    by_cases h1 : x.fuel < m.fuel
    · omega
    · by_cases h2 : m.fuel < x.fuel
      · rw [if_pos (by rw [if_neg h1, if_pos h2]; decide), if_neg h1, if_pos h2] at h
        omega
      · omega
  · intro h
    by_cases h1 : x.fuel < m.fuel
    · rw [if_pos (by rw [if_pos h1]; decide), if_pos h1] at h
      omega
    · omega
theorem minTo_le : ∀ (l : List Batch) (d b : Batch), b = d ∨ b ∈ l → (minTo d l).fuel ≤ b.fuel := by
  intro l
  induction l with
  | nil =>
    intro d b h
    rcases h with rfl | h
    · exact Int.le_refl _
    · cases h
  | cons x l ih =>
    intro d b h
    have e : minTo d (x :: l) = minTo (if betterI x d < 0 then x else d) l := rfl
    rw [e]
    have hd := better_fuel (x := x) (m := d)
    have key := ih (if betterI x d < 0 then x else d) (if betterI x d < 0 then x else d) (.inl rfl)
    rcases h with rfl | h
    · refine Int.le_trans key ?_
      split
      · exact hd.1 ‹_›
      · exact Int.le_refl _
    · rcases List.mem_cons.1 h with rfl | h
      · refine Int.le_trans key ?_
        split
        · exact Int.le_refl _
        · exact hd.2 ‹_›
      · exact ih _ b (.inr h)
theorem minB_le {l : List Batch} {b : Batch} (h : b ∈ l) : (minB l).fuel ≤ b.fuel := minTo_le l _ b (.inr h)
theorem enough_best {W : Water} {need : Int} {o : Nat} (ho : o < 2 ^ W.springs.length) (h : need ≤ sumOf (loOf W.springs) (el (pureN W ||| o))) : (minB (enough W need)).fuel ≤ sumOf (fuelOf W.springs) (el (diffN o (pureN W))) :=
  minB_le (enough_iff.2 ⟨_, diffN_lt2 (b := pureN W) ho, okS_diff h, rfl⟩)
theorem enough_is {W : Water} {need : Int} {b : Batch} (h : b ∈ enough W need) : b.set < 2 ^ W.springs.length ∧ b.fuel = sumOf (fuelOf W.springs) (el b.set) ∧ need ≤ sumOf (loOf W.springs) (el (pureN W ||| b.set)) := by
  obtain ⟨s, h1, h2, rfl⟩ := enough_iff.1 h
  refine ⟨h1, rfl, ?_⟩
  unfold okS at h2
  simp only [Bool.and_eq_true, decide_eq_true_eq] at h2
  rw [Nat.or_comm]
  exact h2.2
end Go.Proofs.YtabcmnfofekeeaaDoor
