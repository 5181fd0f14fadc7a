/- Ropes: from what reads so to the contracts stated of values. -/
import Derived.Test.YtchinfamepolkaaTy
import Derived.Test.YtchinfamepolkaaKp
import Derived.Test.YtchinfamepolkaaRop2
namespace Go.Proofs.Ytchinfamepolkaa
set_option linter.unusedSimpArgs false
set_option linter.unusedVariables false
set_option linter.unusedSectionVars false
open Go Go.Proofs Go.RowKit
set_option maxHeartbeats 4000000
set_option maxRecDepth 20000

def slA {α : Type} (f : α → List Value) (sz : Nat) (l : List α) : AV := .sl sz (l.map fun x => (f x).map AV.val)
theorem slA_at {α : Type} (f : α → List Value) (l : List α) (k : Nat) (h : k < l.length) : (l.map fun x => (f x).map AV.val)[k]? = some ((f l[k]).map AV.val) := by rw [List.getElem?_map, List.getElem?_eq_getElem h]; rfl
theorem slA_len {α : Type} (f : α → List Value) (l : List α) : (l.map fun x => (f x).map AV.val).length = l.length := by simp
theorem vals_eq {w : World} {S : Nat → Prop} {us vs : List Value} (hn : us.length = vs.length) (h : ∀ i d, (vs.map AV.val)[i]? = some d → Enc w S (us.getD i undef) d) : us = vs := by
  apply List.ext_getElem?
  intro i
  rcases Nat.lt_or_ge i vs.length with hi | hi
  · have := h i (.val vs[i]) (by rw [List.getElem?_map, List.getElem?_eq_getElem hi]; rfl)
    have := this.val_eq
    rw [List.getD_eq_getElem?_getD, List.getElem?_eq_getElem (by omega)] at this
    rw [List.getElem?_eq_getElem (by omega), List.getElem?_eq_getElem hi]
    exact congrArg some this
  · rw [List.getElem?_eq_none (by omega), List.getElem?_eq_none hi]
theorem enc_slof {α : Type} {f : α → List Value} {sz : Nat} {l : List α} {w : World} {S : Nat → Prop} {v : Value} (h : Enc w S v (slA f sz l)) : ∃ A c, v = .slice A l.length c ∧ l.length ≤ c ∧ SlOf f sz w w.heap.size A l := by
  have hc : ∃ A n c, v = .slice A n c ∧ n ≤ c := by
    unfold slA at h
    generalize (l.map fun x => (f x).map AV.val) = rows at h
    cases h
    · exact ⟨_, _, _, rfl, Nat.zero_le _⟩
    · exact ⟨_, _, _, rfl, by assumption⟩
  obtain ⟨A, c, news, h1, h2, h3, h4⟩ := enc_news h
  rw [slA_len] at h1 h2
  obtain ⟨A', n, c', h5, h6⟩ := hc
  rw [h1] at h5
  injection h5 with h5 h7 h8
  subst h5 h7 h8
  refine ⟨A, c, h1, h6, ?_⟩
  have hfl : (l.map fun x => (f x).map AV.val).flatten = (l.flatMap f).map AV.val := by rw [List.flatMap_def, List.map_flatten, List.map_map]; rfl
  rw [hfl] at h3 h4
  have := vals_eq (by simpa using h3) h4
  unfold SlOf
  rw [← this]; exact h2
theorem enc_agg {w : World} {S : Nat → Prop} {v : Value} {ds : List AV} (h : Enc w S v (.agg ds)) : ∃ xs : List Value, v = .agg xs.toArray ∧ xs.length = ds.length ∧ ∀ i d, ds[i]? = some d → Enc w S (xs.getD i undef) d := by
  cases h with
  | agg vs _ hn h => exact ⟨vs.toList, rfl, by simpa using hn, fun i d hd => by
      have := h i d hd
      rwa [Array.getD_eq_getD_getElem?, ← Array.getElem?_toList, ← List.getD_eq_getElem?_getD] at this⟩
theorem args_list {w : World} {S : Nat → Prop} {vs : Array Value} {ds : List AV} (hn : vs.size = ds.length) (h : ∀ i d, ds[i]? = some d → Enc w S (vs.getD i undef) d) : ∃ xs : List Value, vs = xs.toArray ∧ xs.length = ds.length ∧ ∀ i d, ds[i]? = some d → Enc w S (xs.getD i undef) d :=
  ⟨vs.toList, rfl, by simpa using hn, fun i d hd => by
      have := h i d hd
      rwa [Array.getD_eq_getD_getElem?, ← Array.getElem?_toList, ← List.getD_eq_getElem?_getD] at this⟩
def modelA (M : Model) : List AV := [.int M.shelf, .int M.use, .int M.bears, slA wearC 2 M.wears]
def ropeR (R : Rope) : List AV := [.int R.made, .int R.first, .int R.length, slA fallC 5 R.falls]
theorem enc_model {w : World} {S : Nat → Prop} {v : Value} {M : Model} (h : Enc w S v (.agg (modelA M))) : ∃ A c, v = modelV A c M ∧ SlOf wearC 2 w w.heap.size A M.wears := by
  obtain ⟨xs, rfl, hn, hx⟩ := enc_agg h
  match xs, hn with
  | [a, b, c, d], _ =>
    have h0 := (hx 0 _ rfl).val_eq
    have h1 := (hx 1 _ rfl).val_eq
    have h2 := (hx 2 _ rfl).val_eq
    obtain ⟨A, c', h3, _, h4⟩ := enc_slof (hx 3 _ rfl)
    simp only [List.getD_cons_zero, List.getD_cons_succ] at h0 h1 h2 h3
    subst h0 h1 h2 h3
    exact ⟨A, c', rfl, h4⟩
theorem enc_rope {w : World} {S : Nat → Prop} {v : Value} {R : Rope} (h : Enc w S v (.agg (ropeR R))) : ∃ A c, v = ropeV A c R ∧ SlOf fallC 5 w w.heap.size A R.falls := by
  obtain ⟨xs, rfl, hn, hx⟩ := enc_agg h
  match xs, hn with
  | [a, b, c, d], _ =>
    have h0 := (hx 0 _ rfl).val_eq
    have h1 := (hx 1 _ rfl).val_eq
    have h2 := (hx 2 _ rfl).val_eq
    obtain ⟨A, c', h3, _, h4⟩ := enc_slof (hx 3 _ rfl)
    simp only [List.getD_cons_zero, List.getD_cons_succ] at h0 h1 h2 h3
    subst h0 h1 h2 h3
    exact ⟨A, c', rfl, h4⟩
end Go.Proofs.Ytchinfamepolkaa
