/- Append at a step of a region that draws its order, the source a slice that is read. Nothing here speaks of the program. -/
import Derived.Test.YtabcmnfofekeeaaDoorOwn
import Derived.Test.YtabcmnfofekeeaaDoorBlk
import Derived.Deep.RegionLaw
namespace Go.Proofs.YtabcmnfofekeeaaDoor
open Go Go.Proofs Go.RowKit
theorem step_append_sl {P : Program} {ops : Array Oper} {o : Oper} {a : Act} {w : World} {K : Act → World → Prop} {Q : Exit → Act → World → Prop} {E : Prop}
    (hg : o.guard = none) (s x : Operand) (t : TypeId) (ho : o.op = .call { callee := .builtin .append, args := #[s, x], argTypes := #[t, t] })
    (base : Nat) (e : TypeId) (i : TypeInfo) (z : Value) (size bytes : Nat) (ht : P.underlying t = some (.slice e)) (hi : P.info? e = some i) (hz : i.zero = some z)
    (hsize : i.size = size) (hby : i.bytes = bytes) (hzs : z.cells.size = size) (hsz : 0 < size)
    (v : Value) (n : Nat) (xs : List Value) (hs : a.eval s = v) (hown : w.ownsRow base e size v n xs)
    (B : Nat) (A : Option Addr) (m c : Nat) (news : List Value) (hx : a.eval x = .slice A m c) (hr : Sl w B size A m news) (h1 : ∀ u ∈ news, u.oneCell' = true)
    (h63 : n + m ≤ maxLen) (hbytes : (n + m) * bytes ≤ 140737488355328) (hbase : base ≤ w.heap.size)
    (h : ∀ v' w', w'.ownsRow base e size v' (n + m) (xs ++ news) → w.grownBy w' v.ownBlock → (v'.ownBlock = v.ownBlock ∨ v'.ownBlock = some w.heap.size) → K (a.put o.dst v') w') :
    if Region.wanted o (yielded ops a.tmps) = true then Oper.wp P o a w K Q else E := by
  have hw : Region.wanted o (yielded ops a.tmps) = true := by simp [Region.wanted, hg]
  rw [if_pos hw]
  exact wp_append_sl w s x t ho base e i z size bytes ht hi hz hsize hby hzs hsz v n xs hs hown B A m c news hx hr h1 h63 hbytes hbase h
/-- Part of a slice that is read. -/
theorem Sl.take {w : World} {B sz n : Nat} {A : Option Addr} {xs : List Value} (h : Sl w B sz A n xs) {k : Nat} (hk : k ≤ n) : Sl w B sz A k (xs.take (k * sz)) :=
  ⟨by rw [List.length_take, h.1]; exact Nat.min_eq_left (Nat.mul_le_mul_right _ hk), fun hp => by
    obtain ⟨b, off, e, hb, hc⟩ := h.2 (by omega)
    refine ⟨b, off, e, hb, fun j u hu => hc j u ?_⟩
    rw [List.getElem?_take] at hu
    split at hu
    · exact hu
    · cases hu⟩
theorem Sl.drop {w : World} {B sz n : Nat} {b off : Nat} {xs : List Value} (h : Sl w B sz (some ⟨b, off, none⟩) n xs) {k c : Nat} (hk : k ≤ n) (hc : n ≤ c) {A2 : Option Addr} (hA : (if c = k then some (⟨b, off, none⟩ : Addr) else some ⟨b, off + k * sz, none⟩) = A2) : Sl w B sz A2 (n - k) (xs.drop (k * sz)) :=
  ⟨by rw [List.length_drop, h.1, Nat.sub_mul], fun hp => by
    obtain ⟨b', off', e, hb, hcells⟩ := h.2 (by omega)
    injection e with e; injection e with e1 e2; subst e1 e2
    rw [if_neg (by omega)] at hA
    subst hA
    refine ⟨b, off + k * sz, rfl, hb, fun j u hu => ?_⟩
    rw [List.getElem?_drop] at hu
    rw [Nat.add_assoc]
    exact hcells _ u hu⟩
end Go.Proofs.YtabcmnfofekeeaaDoor
