import Derived.Test.YtabcmnfofekeeaaDoorWat21
namespace Go.Proofs.YtabcmnfofekeeaaDoor
open Go Go.Proofs Go.RowKit Go.Shelf
set_option maxHeartbeats 1000000
set_option maxRecDepth 20000

/-! ### plain facts for WaterServed -/
theorem i64_andNot_is (a b : Nat) (ha : a < 256) (hb : b < 256) : bits .andNot .i64 (a : Int) (b : Int) = ((diffN a b : Nat) : Int) := by
  have h := andNot_is a b ha (by omega)
  have hd := diffN_lt (b := b) ha
  have e1 : bits .andNot .u64 (a : Int) (b : Int) = IntKind.u64.wrap ((BitVec.ofInt 64 (a : Int) &&& ~~~BitVec.ofInt 64 (b : Int)).toNat : Int) := rfl
  have e2 : bits .andNot .i64 (a : Int) (b : Int) = IntKind.i64.wrap ((BitVec.ofInt 64 (a : Int) &&& ~~~BitVec.ofInt 64 (b : Int)).toNat : Int) := rfl
  rw [e1] at h
  rw [e2]
  have hx := (BitVec.ofInt 64 (a : Int) &&& ~~~BitVec.ofInt 64 (b : Int)).isLt
  generalize (BitVec.ofInt 64 (a : Int) &&& ~~~BitVec.ofInt 64 (b : Int)).toNat = x at *
  rw [IntKind.wrap_u64] at h
  rw [IntKind.wrap_i64]
  omega
theorem testBit_lt {a i : Nat} (ha : a < 256) (hi : 8 ≤ i) : a.testBit i = false :=
  Nat.testBit_lt_two_pow (Nat.lt_of_lt_of_le ha (by have : (2 : Nat) ^ 8 ≤ 2 ^ i := Nat.pow_le_pow_right (by omega) hi; omega))
theorem full_bit {W : Water} (i : Nat) : (fullN W).testBit i = decide (i < W.springs.length) := by
  unfold fullN; rw [Nat.testBit_two_pow_sub_one]
theorem and_zero_iff (a b : Nat) : a &&& b = 0 ↔ ∀ i, a.testBit i = true → b.testBit i = false := by
  constructor
  · intro h i ha
    have : (a &&& b).testBit i = false := by rw [h]; simp
    rw [Nat.testBit_and, ha] at this
    simpa using this
  · intro h
    apply Nat.eq_of_testBit_eq
    intro i
    rw [Nat.testBit_and, Nat.zero_testBit]
    cases ha : a.testBit i
    · rfl
    · rw [h i ha]; rfl
theorem diff_zero_iff (a b : Nat) : diffN a b = 0 ↔ ∀ i, a.testBit i = true → b.testBit i = true := by
  constructor
  · intro h i ha
    have : (diffN a b).testBit i = false := by rw [h]; simp
    rw [diffN_bit, ha] at this
    simpa using this
  · intro h
    apply Nat.eq_of_testBit_eq
    intro i
    rw [diffN_bit, Nat.zero_testBit]
    cases ha : a.testBit i
    · rfl
    · rw [h i ha]; rfl
theorem someTo_bit (l : List Nat) (i : Nat) : (someTo l).testBit i = true ↔ ∃ t ∈ l, t.testBit i = true := by
  have key : ∀ (l : List Nat) (s : Nat), (l.foldl (· ||| ·) s).testBit i = true ↔ s.testBit i = true ∨ ∃ t ∈ l, t.testBit i = true := by
    intro l
    induction l with
    | nil => intro s; simp
    | cons a l ih => intro s; rw [List.foldl_cons, ih]; simp [Nat.testBit_or, or_assoc]
  unfold someTo
  rw [key]; simp
theorem allTo_bit (l : List Nat) (i : Nat) (hi : i < 64) : (allTo l).testBit i = true ↔ ∀ t ∈ l, t.testBit i = true := by
  have key : ∀ (l : List Nat) (s : Nat), (l.foldl (· &&& ·) s).testBit i = true ↔ s.testBit i = true ∧ ∀ t ∈ l, t.testBit i = true := by
    intro l
    induction l with
    | nil => intro s; simp
    | cons a l ih => intro s; rw [List.foldl_cons, ih]; simp [Nat.testBit_and, and_assoc]
  unfold allTo
  rw [key, Nat.testBit_two_pow_sub_one]; simp [hi]
theorem pure_bit (W : Water) (i : Nat) : (pureN W).testBit i = true ↔ i < W.springs.length ∧ ∀ t ∈ truthsW W, t.testBit i = false := by
  unfold pureN
  rw [diffN_bit, full_bit]
  simp only [Bool.and_eq_true, decide_eq_true_eq, Bool.not_eq_true', ← Bool.not_eq_true, someTo_bit]
  simp
theorem may_bit (W : Water) (hn : W.springs.length ≤ 8) (i : Nat) : (mayN W).testBit i = true ↔ i < W.springs.length ∧ ∃ t ∈ truthsW W, t.testBit i = false := by
  unfold mayN
  rw [diffN_bit, full_bit]
  simp only [Bool.and_eq_true, decide_eq_true_eq, Bool.not_eq_true', ← Bool.not_eq_true]
  constructor
  · rintro ⟨h1, h2⟩
    rw [allTo_bit _ _ (by omega)] at h2
    simp only [Classical.not_forall] at h2
    obtain ⟨t, ht, h⟩ := h2
    exact ⟨h1, t, ht, h⟩
  · rintro ⟨h1, t, ht, h⟩
    refine ⟨h1, ?_⟩
    rw [allTo_bit _ _ (by omega)]
    intro h3; exact h (h3 t ht)
/-- A surely clean mix meets no truth. -/
theorem pure_truth {W : Water} {t : Nat} (ht : t ∈ truthsW W) : pureN W &&& t = 0 := (and_zero_iff _ _).2 fun i hi => ((pure_bit W i).1 hi).2 t ht
theorem rest_may {W : Water} (hn : W.springs.length ≤ 8) {t : Nat} (ht : t ∈ truthsW W) : diffN (diffN (fullN W) t) (mayN W) = 0 := by
  rw [diff_zero_iff]
  intro i hi
  rw [diffN_bit, full_bit] at hi
  simp only [Bool.and_eq_true, decide_eq_true_eq, Bool.not_eq_true'] at hi
  exact (may_bit W hn i).2 ⟨hi.1, t, ht, hi.2⟩
theorem clean_pos {W : Water} {t m : Nat} (ht : t ∈ truthsW W) (h : m &&& t = 0) : 0 < cleanN (truthsW W) m := by
  unfold cleanN
  rw [List.countP_pos_iff]
  exact ⟨t, ht, by rw [Nat.and_comm, h]; rfl⟩
theorem clean_ne {W : Water} {t m : Nat} (ht : t ∈ truthsW W) (h : m &&& t ≠ 0) : cleanN (truthsW W) m ≠ (truthsW W).length := by
  unfold cleanN
  intro e
  have := List.countP_eq_length.1 e t ht
  rw [Nat.and_comm] at this
  exact h (by simpa using this)
theorem clean_eq {W : Water} {m : Nat} (h : diffN m (pureN W) = 0) : cleanN (truthsW W) m = (truthsW W).length := by
  unfold cleanN
  rw [List.countP_eq_length]
  intro t ht
  have h2 : t &&& m = 0 := by
    rw [Nat.and_comm, and_zero_iff]
    intro i hi
    exact ((pure_bit W i).1 ((diff_zero_iff _ _).1 h i hi)).2 t ht
  simp [h2]
theorem enough_pure {W : Water} {need : Int} {b : Batch} (h : b ∈ enough W need) : pureN W &&& b.set = 0 := by
  unfold enough enoughTo at h
  simp only [List.mem_map, List.mem_filter, List.mem_range] at h
  obtain ⟨s, ⟨_, h1⟩, rfl⟩ := h
  unfold okS at h1
  simp only [Bool.and_eq_true, beq_iff_eq] at h1
  rw [Nat.and_comm]; exact h1.1
theorem poss_mem {W : Water} {t : Int} (h : possI W.springs.length W.most W.misses W.alarms W.samples t = true) : ∃ n : Nat, t = n ∧ n ∈ truthsW W := by
  have h0 := h
  unfold possI at h0
  simp only [Bool.and_eq_true] at h0
  have hw := withinB_true h0.1.1.1
  obtain ⟨n, rfl⟩ := Int.eq_ofNat_of_zero_le hw.1
  refine ⟨n, rfl, ?_⟩
  rw [possI_nat, Bool.and_eq_true] at h
  have hp := pow_pos2 W.springs.length
  have e : ((2 ^ W.springs.length : Nat) : Int) = 2 ^ W.springs.length := by simp
  unfold truthsW truthsTo
  rw [List.mem_filter, List.mem_range]
  exact ⟨by have := hw.2; omega, h.2⟩
end Go.Proofs.YtabcmnfofekeeaaDoor
