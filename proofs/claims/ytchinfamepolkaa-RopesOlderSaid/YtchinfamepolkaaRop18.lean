/- Ropes: roped. -/
import Derived.Test.YtchinfamepolkaaRop17
namespace Go.Proofs.Ytchinfamepolkaa
set_option linter.unusedSimpArgs false
set_option linter.unusedVariables false
set_option linter.unusedSectionVars false
open Go Go.Proofs Go.RowKit Go.Shelf
set_option maxHeartbeats 1000000
set_option maxRecDepth 20000

def ordIdx (l : List Int) (n : Nat) : List Nat := (List.range n).filter fun g => decide (0 < cntN l g)
theorem ordIdx_succ (l : List Int) (n : Nat) : ordIdx l (n + 1) = ordIdx l n ++ (if 0 < cntN l n then [n] else []) := by
  unfold ordIdx
  rw [List.range_succ, List.filter_append]
  congr 1
  rw [List.filter_cons, List.filter_nil]
  by_cases h : 0 < cntN l n <;> simp [h]
theorem ordIdx_len (l : List Int) (n : Nat) : (ordIdx l n).length ≤ n := by
  unfold ordIdx
  have := List.length_filter_le (fun g => decide (0 < cntN l g)) (List.range n)
  simpa using this
theorem ordIdx_lt {l : List Int} {n x : Nat} (h : x ∈ ordIdx l n) : x < n := by
  have := (List.mem_filter.1 h).1
  simpa using this
def ordA (l : List Int) : Array Nat := sortedN (fun x y => cmpI (cntN l y) (cntN l x)) (ordIdx l l.length).toArray
theorem ordA_mem {l : List Int} {x : Nat} (h : x ∈ (ordA l).toList) : x < l.length := by
  have := (keyed (cntN l) (ordIdx l l.length).toArray).2.1.mem_iff.1 h
  exact ordIdx_lt (by simpa using this)
def ropedTo (O : Outing) (l : List Int) : Nat → Option (List Int)
  | 0 => some (List.replicate l.length (-1))
  | k + 1 => match ropedTo O l k with
    | none => none
    | some r => if (fitA O).size ≤ k ∨ lenN O (fitA O)[k]! < O.spacing * cntN l (ordA l)[k]! then none else some (r.set (ordA l)[k]! ((fitA O)[k]! : Nat))
def ropedV (O : Outing) (l : List Int) : Option (List Int) := ropedTo O l (ordA l).size
theorem ropedTo_none {O : Outing} {l : List Int} {k n : Nat} (hk : k ≤ n) (h : ropedTo O l k = none) : ropedTo O l n = none := by
  induction n with
  | zero => obtain rfl : k = 0 := by omega
            exact h
  | succ n ih =>
    rcases Nat.lt_or_ge n k with h2 | h2
    · obtain rfl : k = n + 1 := by omega
      exact h
    · rw [ropedTo, ih h2]
theorem ropedTo_len {O : Outing} {l : List Int} {k : Nat} {r : List Int} (h : ropedTo O l k = some r) : r.length = l.length := by
  induction k generalizing r with
  | zero => injection h with h; subst h; simp
  | succ k ih =>
    rw [ropedTo] at h
    split at h
    · cases h
    · next r' hr' =>
      split at h
      · cases h
      · injection h with h; subst h; rw [List.length_set]; exact ih hr'
end Go.Proofs.Ytchinfamepolkaa
