/- Ropes: comparing slices, choosing elements by a set. -/
import Derived.Test.YtchinfamepolkaaKq
import Derived.Laws.BitsAll
namespace Go.Proofs.Ytchinfamepolkaa
set_option linter.unusedSimpArgs false
set_option linter.unusedVariables false
set_option linter.unusedSectionVars false
open Go Go.Proofs Go.RowKit Go.Shelf
set_option maxHeartbeats 1000000
set_option maxRecDepth 20000

def bitB (x : Int) (i : Nat) : Bool := decide (x / 2 ^ i % 2 = 1)
theorem i64_and1 (n : Int) : bits .and .i64 n 1 = n % 2 := by
  show IntKind.i64.wrap ((BitVec.ofInt 64 n &&& BitVec.ofInt 64 1).toNat : Int) = n % 2
  rw [BitVec.toNat_and, show (BitVec.ofInt 64 1).toNat = 2 ^ 1 - 1 by decide, Nat.and_two_pow_sub_one_eq_mod, BitVec.toNat_ofInt, IntKind.wrap_i64]
  omega
theorem bitB_nat (s i : Nat) : bitB (s : Int) i = s.testBit i := by
  unfold bitB
  have e : (s : Int) / 2 ^ i = ((s / 2 ^ i : Nat) : Int) := by simp
  rw [e, Nat.testBit_eq_decide_div_mod_eq, Bool.eq_iff_iff]
  simp only [decide_eq_true_eq]
  omega
theorem bitB_not (s i : Nat) : bitB (-(s : Int) - 1) i = !s.testBit i := by
  unfold bitB
  have e : (-(s : Int) - 1) / 2 ^ i = -((s / 2 ^ i : Nat) : Int) - 1 := by
    have hp : (0 : Int) < 2 ^ i := Int.pow_pos (by omega)
    have h1 : ((s / 2 ^ i : Nat) : Int) = (s : Int) / 2 ^ i := by simp
    rw [h1]
    have h2 := Int.emod_add_mul_ediv (s : Int) (2 ^ i)
    have h3 := Int.emod_nonneg (s : Int) (show (2 : Int) ^ i ≠ 0 by omega)
    have h4 := Int.emod_lt_of_pos (s : Int) hp
    generalize (s : Int) / 2 ^ i = q at *
    generalize (s : Int) % 2 ^ i = r at *
    generalize (2 : Int) ^ i = P at *
    refine ((Int.ediv_emod_unique (r := P - 1 - r) (q := -q - 1) hp).2 ⟨?_, by omega, by omega⟩).1
    rw [Int.mul_sub, Int.mul_neg, Int.mul_one]
    omega
  rw [e, Nat.testBit_eq_decide_div_mod_eq, Bool.eq_iff_iff]
  simp only [decide_eq_true_eq, Bool.not_eq_true', decide_eq_false_iff_not]
  omega
def selTo {α : Type} [Inhabited α] (l : List α) (p : Nat → Bool) (k : Nat) : List α := ((List.range k).filter p).map fun i => l[i]!
theorem selTo_succ {α : Type} [Inhabited α] (l : List α) (p : Nat → Bool) (k : Nat) (h : k < l.length) : selTo l p (k + 1) = selTo l p k ++ (if p k = true then [l[k]] else []) := by
  unfold selTo
  rw [List.range_succ, List.filter_append, List.map_append]
  cases hp : p k <;> simp [hp, h]
def natI (x : Nat) : List Value := [.int .i64 (x : Int)]
theorem natI_len (x : Nat) : (natI x).length = 1 := rfl
theorem int_info : (Try.prog.info? 3).map (fun i => (i.zero, i.size, i.bytes)) = some (some (.int .i64 0), 1, 8) := by kernel_rfl
theorem own_capR {w : World} {base e sz n c : Nat} {A : Option Addr} {xs : List Value} (h : w.ownsRow base e sz (.slice A n c) n xs) : n ≤ c := by
  rcases h.2 with ⟨h1, h2⟩ | ⟨g, cap, cur, h1, _, _, hnc, _⟩
  · omega
  · injection h1 with _ _ h3; omega
theorem own_extR {base : Nat} {e : TypeId} {sz n : Nat} {v : Value} {xs : List Value} {w w' : World} (h : w.ownsRow base e sz v n xs) (hb : Ext w w') : w'.ownsRow base e sz v n xs :=
  h.kept (row := none) ⟨hb.os, hb.tape, hb.output, hb.size, fun j hj _ => hb.block j hj⟩ (by cases hv : v.ownBlock <;> simp)
end Go.Proofs.Ytchinfamepolkaa
