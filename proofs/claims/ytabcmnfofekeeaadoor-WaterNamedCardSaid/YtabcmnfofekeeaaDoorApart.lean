/- Two rows of the call's own that lie in blocks apart. Nothing here speaks of the program. -/
import Derived.Test.YtabcmnfofekeeaaDoorOwn
namespace Go.Proofs.YtabcmnfofekeeaaDoor
open Go Go.Proofs Go.RowKit
/-- The rows of two slices lie apart. -/
def Apart (v u : Value) : Prop := ∀ g, v.ownBlock = some g → u.ownBlock ≠ some g
theorem Apart.symm {v u : Value} (h : Apart v u) : Apart u v := fun g h1 h2 => h g h2 h1
theorem Apart.ne {v u : Value} (h : Apart v u) : u.ownBlock = none ∨ u.ownBlock ≠ v.ownBlock := by
  cases hv : v.ownBlock with
  | none =>
    cases hu : u.ownBlock with
    | none => exact .inl rfl
    | some g => exact .inr (by simp)
  | some g => exact .inr (h g hv)
theorem Apart.next {v v' u : Value} {B : Nat} (h : Apart v u) (hu : ∀ k, u.ownBlock = some k → k < B) (h5 : v'.ownBlock = v.ownBlock ∨ v'.ownBlock = some B) : Apart v' u := by
  intro g hg hg2
  rcases h5 with e | e
  · exact h g (e ▸ hg) hg2
  · rw [e] at hg
    injection hg with hg
    have := hu g hg2
    omega
theorem Apart.nil (u : Value) : Apart (.slice none 0 0) u := fun g h => by cases h
end Go.Proofs.YtabcmnfofekeeaaDoor
