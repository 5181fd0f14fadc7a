/- Ropes, plain: posts in the reference's words; the fewest. Nothing here speaks of the program. -/
import Derived.Test.YtchinfamepolkaaKp
import Derived.Test.YtchinfamepolkaaRop11
namespace Go.Proofs.Ytchinfamepolkaa
set_option linter.unusedSimpArgs false
set_option linter.unusedVariables false
set_option linter.unusedSectionVars false
open Go Go.Proofs Go.RowKit
set_option maxHeartbeats 1000000
def exceedsB (x y : Post) (s1 s2 limit years : Int) : Bool := decide (limit * (y.at_ - x.at_) < max (s1 - s2) (s2 - s1) * years * 1000)
def canB (x y : Post) (limit years : Int) : Bool := exceedsB x y x.hi y.lo limit years || exceedsB x y x.lo y.hi limit years
theorem can_tilt {x y : Post} {limit years : Int} (hx : x.lo ≤ x.hi) (hy : y.lo ≤ y.hi) (h0 : 0 ≤ years) : canB x y limit years = tiltB y x limit years := by
  unfold canB exceedsB tiltB
  rw [Bool.eq_iff_iff]
  simp only [Bool.or_eq_true, decide_eq_true_eq]
  generalize limit * (y.at_ - x.at_) = T
  rw [Int.mul_assoc, Int.mul_assoc, Int.mul_assoc]
  have hc : 0 ≤ years * 1000 := by omega
  generalize years * 1000 = c at *
  have a1 : max (x.hi - y.lo) (y.lo - x.hi) * c ≤ max (y.hi - x.lo) (x.hi - y.lo) * c := Int.mul_le_mul_of_nonneg_right (by omega) hc
  have a2 : max (x.lo - y.hi) (y.hi - x.lo) * c ≤ max (y.hi - x.lo) (x.hi - y.lo) * c := Int.mul_le_mul_of_nonneg_right (by omega) hc
  constructor
  · rintro (h | h) <;> omega
  · intro h
    by_cases hm : x.hi - y.lo ≤ y.hi - x.lo
    · right
      have : max (y.hi - x.lo) (x.hi - y.lo) * c ≤ max (x.lo - y.hi) (y.hi - x.lo) * c := Int.mul_le_mul_of_nonneg_right (by omega) hc
      omega
    · left
      have : max (y.hi - x.lo) (x.hi - y.lo) * c ≤ max (x.hi - y.lo) (y.lo - x.hi) * c := Int.mul_le_mul_of_nonneg_right (by omega) hc
      omega
theorem posTo_ge {n i s : Nat} (h : i ≤ n) (hs : s / 2 ^ i = 0) : posTo n s = posTo i s := by
  obtain ⟨d, rfl⟩ : ∃ d, n = i + d := ⟨n - i, by omega⟩
  clear h
  induction d with
  | zero => rfl
  | succ d ih =>
    rw [← Nat.add_assoc, posTo_succ, ih, if_neg, List.append_nil]
    rw [Nat.testBit_eq_decide_div_mod_eq, decide_eq_true_eq]
    have : s < 2 ^ i := by
      rcases Nat.lt_or_ge s (2 ^ i) with h | h
      · exact h
      · have := Nat.div_pos h (Nat.two_pow_pos i); omega
    have h2 : 2 ^ i ≤ 2 ^ (i + d) := Nat.pow_le_pow_right (by omega) (by omega)
    rw [Nat.div_eq_of_lt (by omega)]
    omega
def rrowB (l : List Post) (ps : List Nat) (limit years : Int) (i k : Nat) : Bool := (List.range k).all fun j => decide (j ≤ i) || !canB l[ps[i]!]! l[ps[j]!]! limit years
def rlevelTo (l : List Post) (ps : List Nat) (limit years : Int) (i : Nat) : Bool := (List.range i).all fun i' => rrowB l ps limit years i' ps.length
def rlevelB (l : List Post) (ps : List Nat) (limit years : Int) : Bool := rlevelTo l ps limit years ps.length
theorem rlevelTo_succ (l : List Post) (ps : List Nat) (limit years : Int) (i : Nat) : rlevelTo l ps limit years (i + 1) = (rlevelTo l ps limit years i && rrowB l ps limit years i ps.length) := by unfold rlevelTo; rw [List.range_succ, List.all_append]; simp
theorem rrowB_succ (l : List Post) (ps : List Nat) (limit years : Int) (i k : Nat) (h : i < k) : rrowB l ps limit years i (k + 1) = (rrowB l ps limit years i k && !canB l[ps[i]!]! l[ps[k]!]! limit years) := by
  unfold rrowB
  rw [List.range_succ, List.all_append]
  simp only [List.all_cons, List.all_nil, Bool.and_true]
  rw [decide_eq_false (by omega), Bool.false_or]
theorem rrowB_start (l : List Post) (ps : List Nat) (limit years : Int) (i : Nat) : rrowB l ps limit years i (i + 1) = true := by
  unfold rrowB
  rw [List.all_eq_true]
  intro j hj
  have := List.mem_range.1 hj
  rw [decide_eq_true (by omega), Bool.true_or]
theorem rrowB_mono {l : List Post} {ps : List Nat} {limit years : Int} {i j n : Nat} (h : j ≤ n) (h2 : rrowB l ps limit years i j = false) : rrowB l ps limit years i n = false := by
  cases hn : rrowB l ps limit years i n with
  | false => rfl
  | true =>
    unfold rrowB at *
    rw [List.all_eq_true] at hn
    rw [List.all_eq_true.2 fun x hx => hn x (by simp at hx ⊢; omega)] at h2
    cases h2
theorem rlevelTo_mono {l : List Post} {ps : List Nat} {limit years : Int} {i n : Nat} (h : i ≤ n) (h2 : rlevelTo l ps limit years i = false) : rlevelTo l ps limit years n = false := by
  cases hn : rlevelTo l ps limit years n with
  | false => rfl
  | true =>
    unfold rlevelTo at *
    rw [List.all_eq_true] at hn
    rw [List.all_eq_true.2 fun x hx => hn x (by simp at hx ⊢; omega)] at h2
    cases h2
theorem rlevel_eq {l : List Post} {ps : List Nat} {limit years : Int} (hp : ∀ p ∈ l, p.lo ≤ p.hi) (hps : ∀ i ∈ ps, i < l.length) (h0 : 0 ≤ years) : rlevelB l ps limit years = levelB (ps.map fun i => l[i]!) limit years := by
  have hpm : ∀ i, i < ps.length → (l[ps[i]!]!).lo ≤ (l[ps[i]!]!).hi := fun i hi => by
    rw [getElem!_pos ps i hi]
    have := hps _ (List.getElem_mem hi)
    rw [getElem!_pos l _ this]
    exact hp _ (List.getElem_mem this)
  have hat : ∀ i (hi : i < ps.length), (ps.map fun i => l[i]!)[i]? = some l[ps[i]!]! := fun i hi => by
    rw [List.getElem?_map, List.getElem?_eq_getElem hi, getElem!_pos ps i hi]; rfl
  rw [Bool.eq_iff_iff]
  unfold rlevelB rlevelTo levelB levelTo rrowB rowB
  simp only [List.all_eq_true, List.mem_range, Bool.or_eq_true, decide_eq_true_eq, Bool.not_eq_true', List.length_map, List.any_eq_false]
  constructor
  · intro h k hk t ht
    rw [hat k hk, hat t (by omega)]
    have := h t (by omega) k hk
    rw [can_tilt (hpm t (by omega)) (hpm k hk) h0] at this
    rcases this with h' | h'
    · omega
    · simpa using h'
  · intro h i hi j hj
    by_cases hij : j ≤ i
    · exact .inl hij
    · right
      have := h j hj i (by omega)
      rw [hat i hi, hat j hj] at this
      rw [can_tilt (hpm i hi) (hpm j hj) h0]
      simpa using this
theorem posTo_full (n : Nat) : posTo n (2 ^ n - 1) = List.range n := by
  unfold posTo
  rw [List.filter_eq_self]
  intro i hi
  simp at hi
  rw [Nat.testBit_two_pow_sub_one, decide_eq_true hi]
theorem posTo_compl (n s : Nat) (hs : s < 2 ^ n) : posTo n (2 ^ n - 1 - s) = (List.range n).filter fun i => !s.testBit i := by
  unfold posTo
  apply List.filter_congr
  intro i hi
  have := List.mem_range.1 hi
  rw [show 2 ^ n - 1 - s = 2 ^ n - (s + 1) by omega, Nat.testBit_two_pow_sub_succ hs, decide_eq_true this, Bool.true_and]
theorem prop_level {l : List Post} {limit years : Int} {s : Nat} (hp : ∀ p ∈ l, p.lo ≤ p.hi) (hs : s < 2 ^ l.length) (h0 : 0 ≤ years) : propB l limit years s = rlevelB l (posTo l.length (2 ^ l.length - 1 - s)) limit years := by
  rw [rlevel_eq hp (fun i hi => (posTo_lt hi).1) h0]
  unfold propB selTo
  rw [posTo_compl _ _ hs]
  congr 2
  apply List.filter_congr
  intro i _
  exact bitB_not s i
theorem full_level {l : List Post} {limit years : Int} (hp : ∀ p ∈ l, p.lo ≤ p.hi) (h0 : 0 ≤ years) : levelB l limit years = rlevelB l (posTo l.length (2 ^ l.length - 1)) limit years := by
  rw [rlevel_eq hp (fun i hi => (posTo_lt hi).1) h0, posTo_full]
  congr 1
  apply List.ext_getElem
  · simp
  · intro i h1 h2
    rw [List.getElem_map, List.getElem_range, getElem!_pos l i h1]
def soonerB (a b : List Nat) : Bool := decide (a.length < b.length) || (decide (a.length = b.length) && decide (cmpL a b < 0))
theorem cmpL_neg : ∀ a b : List Nat, cmpL b a = - cmpL a b
  | [], [] => rfl
  | [], _ :: _ => rfl
  | _ :: _, [] => rfl
  | x :: a, y :: b => by
    rw [cmpL, cmpL]
    have hn : cmpN y x = - cmpN x y := by unfold cmpN; split <;> split <;> omega
    rw [hn, cmpL_neg a b]
    by_cases h : cmpN x y = 0
    · rw [if_pos h, if_pos (by omega)]
    · rw [if_neg h, if_neg (by omega)]
theorem cmpL_zero : ∀ a b : List Nat, cmpL a b = 0 → a = b
  | [], [], _ => rfl
  | [], _ :: _, h => by cases h
  | _ :: _, [], h => by cases h
  | x :: a, y :: b, h => by
    rw [cmpL] at h
    by_cases h' : cmpN x y = 0
    · rw [if_pos h'] at h
      have : x = y := by
        unfold cmpN at h'
        split at h'
        · cases h'
        · split at h'
          · cases h'
          · omega
      rw [this, cmpL_zero a b h]
    · rw [if_neg h'] at h; exact absurd h h'
theorem cmpL_trans : ∀ a b c : List Nat, cmpL a b < 0 → cmpL b c ≤ 0 → cmpL a c < 0
  | [], [], _, h, _ => by cases h
  | [], _ :: _, [], _, h => by simp [cmpL] at h
  | [], _ :: _, _ :: _, _, _ => by simp [cmpL]
  | _ :: _, [], _, h, _ => by simp [cmpL] at h
  | _ :: _, _ :: _, [], _, h => by simp [cmpL] at h
  | x :: a, y :: b, z :: c, h, h' => by
    rw [cmpL] at h h' ⊢
    have hxy : cmpN x y = if x < y then -1 else if y < x then 1 else 0 := rfl
    have hyz : cmpN y z = if y < z then -1 else if z < y then 1 else 0 := rfl
    have hxz : cmpN x z = if x < z then -1 else if z < x then 1 else 0 := rfl
    rcases Nat.lt_trichotomy x y with h1 | h1 | h1
    · rw [if_pos h1] at hxy
      rcases Nat.lt_trichotomy y z with h2 | h2 | h2
      · rw [if_pos (by omega)] at hxz
        rw [if_neg (by omega)]; omega
      · rw [if_pos (by omega)] at hxz
        rw [if_neg (by omega)]; omega
      · rw [if_neg (by omega), if_pos h2] at hyz
        rw [if_neg (by omega)] at h'; omega
    · subst h1
      rw [if_neg (by omega), if_neg (by omega)] at hxy
      rw [if_pos hxy] at h
      rcases Nat.lt_trichotomy x z with h2 | h2 | h2
      · rw [if_pos h2] at hxz
        rw [if_neg (by omega)]; omega
      · subst h2
        rw [if_pos hxy] at h' ⊢
        exact cmpL_trans a b c h h'
      · rw [if_neg (by omega), if_pos h2] at hyz
        rw [if_neg (by omega)] at h'; omega
    · rw [if_neg (by omega), if_pos h1] at hxy
      rw [if_neg (by omega)] at h; omega
theorem sooner_iff {a b : List Nat} : soonerB a b = true ↔ a.length < b.length ∨ (a.length = b.length ∧ cmpL a b < 0) := by unfold soonerB; simp
theorem sooner_trans {a b c : List Nat} (h : soonerB a b = true) (h' : soonerB c b = false) : soonerB a c = true := by
  rw [sooner_iff] at h ⊢
  have h2 : ¬ (c.length < b.length ∨ (c.length = b.length ∧ cmpL c b < 0)) := fun x => by rw [sooner_iff.2 x] at h'; cases h'
  have hn := cmpL_neg c b
  rcases h with h | ⟨h, hc⟩
  · left; omega
  · rcases Nat.lt_or_ge a.length c.length with hl | hl
    · exact .inl hl
    · right
      have hcb : c.length = b.length := by omega
      refine ⟨by omega, cmpL_trans a b c hc ?_⟩
      have : ¬ cmpL c b < 0 := fun x => h2 (.inr ⟨hcb, x⟩)
      omega
theorem sooner_asymm {a b : List Nat} (h : soonerB a b = true) : soonerB b a = false := by
  cases h' : soonerB b a with
  | false => rfl
  | true =>
    rw [sooner_iff] at h h'
    have := cmpL_neg a b
    omega
theorem sooner_total {a b : List Nat} (h : soonerB a b = false) (h' : soonerB b a = false) : a = b := by
  have h1 : ¬ (a.length < b.length ∨ (a.length = b.length ∧ cmpL a b < 0)) := fun x => by rw [sooner_iff.2 x] at h; cases h
  have h2 : ¬ (b.length < a.length ∨ (b.length = a.length ∧ cmpL b a < 0)) := fun x => by rw [sooner_iff.2 x] at h'; cases h'
  have := cmpL_neg a b
  exact cmpL_zero a b (by omega)
def bestTo (n : Nat) (is : Nat → Bool) : Nat → List Nat
  | 0 => posTo n (2 ^ n - 1)
  | k + 1 => if (soonerB (posTo n k) (bestTo n is k) && is k) = true then posTo n k else bestTo n is k
theorem few_step (n : Nat) (is : Nat → Bool) (k : Nat) (b : List Nat) (h : fewTo n is k = some b) : fewTo n is (k + 1) = some (if (soonerB (posTo n k) b && is k) = true then posTo n k else b) := by
  rw [fewTo, h]
  simp only
  by_cases h1 : b.length < (posTo n k).length ∨ ((posTo n k).length = b.length ∧ 0 ≤ cmpL (posTo n k) b)
  · have : soonerB (posTo n k) b = false := by
      cases hs : soonerB (posTo n k) b with
      | false => rfl
      | true => rw [sooner_iff] at hs; omega
    rw [if_pos h1, this, Bool.false_and, if_neg (by simp)]
  · have : soonerB (posTo n k) b = true := by rw [sooner_iff]; omega
    rw [if_neg h1, this, Bool.true_and]
    split <;> rfl
theorem best_few (n : Nat) (is : Nat → Bool) : ∀ k, bestTo n is k = match fewTo n is k with
    | none => posTo n (2 ^ n - 1)
    | some b => if soonerB b (posTo n (2 ^ n - 1)) = true then b else posTo n (2 ^ n - 1)
  | 0 => rfl
  | k + 1 => by
    have ih := best_few n is k
    generalize posTo n (2 ^ n - 1) = W at *
    rw [bestTo, ih]
    generalize hp : posTo n k = p at *
    cases hf : fewTo n is k with
    | none =>
      rw [fewTo, hf]
      simp only [hp]
      cases is k with
      | false => simp
      | true =>
        simp only [Bool.and_true, if_true]
    | some b =>
      have hs := few_step n is k b hf
      rw [hp] at hs
      rw [hs]
      simp only
      cases his : is k with
      | false => simp
      | true =>
        simp only [Bool.and_true]
        cases hbW : soonerB b W with
        | true =>
          simp only [if_true]
          cases hpb : soonerB p b with
          | true =>
            simp only [if_true]
            have : soonerB p W = true := sooner_trans hpb (sooner_asymm hbW)
            rw [if_pos this]
          | false => simp [hbW]
        | false =>
          simp only [Bool.false_eq_true, if_false]
          cases hpb : soonerB p b with
          | true => simp
          | false =>
            simp only [Bool.false_eq_true, if_false, hbW]
            cases hpW : soonerB p W with
            | false => simp
            | true => rw [sooner_trans hpW hbW] at hpb; cases hpb
theorem best_eq (n : Nat) (is : Nat → Bool) (h : is (2 ^ n - 1) = true) : bestTo n is (2 ^ n) = (fewV n is).getD [] := by
  unfold fewV
  have hk : 2 ^ n = (2 ^ n - 1) + 1 := by have := Nat.two_pow_pos n; omega
  have hb := best_few n is (2 ^ n)
  rw [hb]
  cases hf : fewTo n is (2 ^ n - 1) with
  | none =>
    have : fewTo n is (2 ^ n) = some (posTo n (2 ^ n - 1)) := by rw [hk, fewTo, hf]; simp [h]
    rw [this]
    simp
  | some b =>
    have hs := few_step n is (2 ^ n - 1) b hf
    rw [← hk, h, Bool.and_true] at hs
    rw [hs]
    simp only [Option.getD_some]
    cases hWb : soonerB (posTo n (2 ^ n - 1)) b with
    | true => simp
    | false =>
      simp only [Bool.false_eq_true, if_false]
      cases hbW : soonerB b (posTo n (2 ^ n - 1)) with
      | true => rfl
      | false =>
        simp only [Bool.false_eq_true, if_false]
        exact sooner_total hWb hbW
end Go.Proofs.Ytchinfamepolkaa
