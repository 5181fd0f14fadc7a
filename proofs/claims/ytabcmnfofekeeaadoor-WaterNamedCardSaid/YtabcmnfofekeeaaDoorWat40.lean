/- Whether a truth is possible for some samples (field.any). -/
import Derived.Test.YtabcmnfofekeeaaDoorWat25
namespace Go.Proofs.YtabcmnfofekeeaaDoor
open Go Go.Proofs Go.RowKit Go.Shelf
set_option maxHeartbeats 1000000
set_option maxRecDepth 20000
attribute [local go_sem] Oper.semAt_some
theorem anyF_any (As Am A : Option Addr) (n cs m cm c : Nat) (most misses alarms : Int) (l : List Sample) (w : World) (hn : n ≤ 8) (hl : l.length ≤ 1073741824)
    (hs : SlOf samC 2 w w.heap.size A l) (hmx : MixNat l) {r : Bool} (hr : (truthsTo (2 ^ n) most misses alarms l).isEmpty = !r) :
    Calls Tryd.prog 62 #[wv As Am n cs m cm most misses alarms, .slice A l.length c] w fun e w' => e = .returned (.bool r) ∧ Ext w w' := by
  have HR := Lib.hid hr
  clear hr
  have hN : (truthsTo (2 ^ n) most misses alarms l).length ≤ 1024 := by
    have h1 : (truthsTo (2 ^ n) most misses alarms l).length ≤ 2 ^ n := by
      unfold truthsTo; have := List.length_filter_le (possN most misses alarms l) (List.range (2 ^ n)); simpa using this
    have h2 : (2 : Nat) ^ n ≤ 2 ^ 8 := Nat.pow_le_pow_right (by omega) hn
    omega
  refine (callsIn_wide (n := 3)).1 ?_
  refine callsIn_of_wp_marks Tryd.func62 rfl trivial ?_ rfl
  simp only [Tryd.ntmps62, List.size_toArray, List.length_cons, List.length_nil, Nat.reduceAdd, Nat.reduceSub, Array.replicate_succ, Array.replicate_zero, List.push_toArray, List.append_toArray, List.nil_append, List.cons_append]
  gi_wp2_with fail
  refine ⟨trivial, ?_⟩
  refine (callsIn_wide.2 (ftruths_any As Am A n cs m cm l.length c most misses alarms _)).mono ?_
  rintro e w1 ⟨rfl, hw1⟩
  have h0 : w1.cell? ⟨w.heap.size + 1, 0, none⟩ = some (.bool false) := by rw [hw1]; clear hw1; go_simp
  have hf0 : w1.frozen? ⟨w.heap.size + 1, 0, none⟩ = false := by rw [hw1]; clear hw1; go_simp
  have hE : Ext w w1 := by rw [hw1]; (repeat (first | (with_reducible exact Ext.refl _) | (with_reducible assumption) | (with_reducible refine Ext.alloc ?_ _) | (with_reducible refine Ext.trans ?_ (by with_reducible assumption)) | (with_reducible refine Ext.drew ?_) | (with_reducible refine Ext.setCell ?_ (by simp <;> omega) _)))
  have hz : w.heap.size + 1 < w1.heap.size := by rw [hw1]; simp
  have hbx : BoxW w1 (w.heap.size + 1 + 1) As Am n cs m cm most misses alarms := by
    rw [hw1]
    refine ⟨by simp, ?_, ?_, ?_, ?_, ?_⟩ <;> (clear hw1; go_simp)
  have hb2 : w.heap.size + 1 + 1 + 1 < w1.heap.size := by rw [hw1]; simp
  have h3 : w1.cell? ⟨w.heap.size + 1 + 1 + 1, 0, none⟩ = some (.slice A l.length c) := by rw [hw1]; clear hw1; go_simp
  have hs1 := (hs.below hE (Nat.le_refl _)).more hE.size
  clear hw1
  gi_wp2_with fail
  refine wpIn_rangeFunc_ownG rfl (by omega) (gf := 83) (lb := #[.pointer (some ⟨w.heap.size + 1 + 1, 0, none⟩), .pointer (some ⟨w.heap.size + 1 + 1 + 1, 0, none⟩)]) rfl trivial
    (enters_of Tryd.func83 (by kernel_rfl) rfl)
    (truths1_stops 2 (by omega) (w.heap.size + 1 + 1) (w.heap.size + 1 + 1 + 1) As Am A n cs m cm c most misses alarms l w1 hn hl hbx hb2 h3 hs1 hmx) belowK_t (belowK_b (Nat.le_refl _)) (Below.refl _ _) (fun _ => rfl)
    (fun pre W => (pre = [] ∧ W.cell? ⟨w.heap.size + 1, 0, none⟩ = some (.bool false) ∧ W.frozen? ⟨w.heap.size + 1, 0, none⟩ = false) ∧ Below w.heap.size w W)
    (fun c pre W => ((c = .ret ∧ pre ≠ []) ∧ W.cell? ⟨w.heap.size + 1, 0, none⟩ = some (.bool true)) ∧ Below w.heap.size w W)
    (OwnFrom.and (fun s W W' row hs hg hr => ⟨hs.1, cell_kept hs.2.1 hg (fun r e => (hr r e).2), (frozen_kept hs.2.1 hg (fun r e => (hr r e).2)).trans hs.2.2⟩) (ownFrom_below (Nat.le_refl _) (by omega)))
    (fun c => OwnFrom.and (fun s W W' row hs hg hr => ⟨hs.1, cell_kept hs.2 hg (fun r e => (hr r e).2)⟩) (ownFrom_below (Nat.le_refl _) (by omega)))
    ⟨⟨rfl, h0, hf0⟩, hE⟩
    (fun x => { tmps := #[wv As Am n cs m cm most misses alarms, .slice A l.length c, .pointer (some ⟨w.heap.size, 0, none⟩), undef, .pointer (some ⟨w.heap.size + 1, 0, none⟩), wv As Am n cs m cm most misses alarms, .slice A l.length c, .func (.func 83) #[] #[.pointer (some ⟨w.heap.size + 1 + 1, 0, none⟩), .pointer (some ⟨w.heap.size + 1 + 1 + 1, 0, none⟩)], .int .u64 x.1], defers := [] }) ?assign ?body ?done ?stop
  case assign =>
    intro lp x W K hK
    gi_wp2
    simpa [wv] using hK
  case body =>
    rintro lp pre x W ⟨⟨rfl, g1, g2⟩, hB⟩ hlt
    gi_wp2
    have hcs : (W.setCell ⟨w.heap.size + 1, 0, none⟩ (.bool true)).cell? ⟨w.heap.size + 1, 0, none⟩ = some (.bool true) := World.cell?_setCell_same' _ _ _ (by rw [g1]; rfl)
    exact ⟨(KeepsOthers.setCell _ _ _).from _, ⟨⟨rfl, by simp⟩, hcs⟩, hB.setCell (p := ⟨w.heap.size + 1, 0, none⟩) (by simp) _⟩
  case done =>
    rintro D ys W hD hS ⟨⟨rfl, g1, g2⟩, hB⟩ hK
    have hL : truthsTo (2 ^ n) most misses alarms l = [] := hS.symm
    obtain rfl : r = false := by have := HR.out; rw [hL] at this; simpa using this.symm
    gi_wp2
    have hK2 := (KeepsOthers.setCell W ⟨w.heap.size + 1, 0, none⟩ (.bool false)).same D _ hK rfl
    refine ⟨by simp, .inl ⟨_, _, rfl, run_takeDeferred hK2, ?_⟩⟩
    have hcs : (W.setCell ⟨w.heap.size + 1, 0, none⟩ (.bool false)).cell? ⟨w.heap.size + 1, 0, none⟩ = some (.bool false) := World.cell?_setCell_same' _ _ _ (by rw [g1]; rfl)
    have hcs2 := cell_kept hcs (grownBy_putObj' _ D (.deferred none)) (fun r e => by cases e; exact ⟨_, hK2, rfl⟩)
    refine ⟨_, (show _ = Result.ok (Value.bool false) _ by simp only [results, Tryd.results62]; go_simp), rfl, ?_⟩
    exact (hB.setCell (p := ⟨w.heap.size + 1, 0, none⟩) (by simp) _).trans (belowK_b (w := w) (Nat.le_refl _) _ D _ _ (by have := hE.size; omega) hK2 rfl rfl)
  case stop =>
    rintro D c pre W hD hS ⟨⟨⟨rfl, hp⟩, g1⟩, hB⟩ hK
    have hL : truthsTo (2 ^ n) most misses alarms l ≠ [] := by
      intro e
      have h1 := hS.length_le
      have h2 : (truthsTo (2 ^ n) most misses alarms l).length = 0 := by rw [e]; rfl
      have h3 : (vals pre).length = pre.length := by simp [vals]
      exact hp (List.eq_nil_of_length_eq_zero (by omega))
    obtain rfl : r = true := by
      cases r
      · have := HR.out; simp at this; exact absurd this hL
      · rfl
    gi_wp2
    refine ⟨by simp, .inl ⟨_, _, rfl, run_takeDeferred hK, ?_⟩⟩
    have hcs2 := cell_kept g1 (grownBy_putObj' _ D (.deferred none)) (fun r e => by cases e; exact ⟨_, hK, rfl⟩)
    refine ⟨_, (show _ = Result.ok (Value.bool true) _ by simp only [results, Tryd.results62]; go_simp), rfl, ?_⟩
    exact hB.trans (belowK_b (w := w) (Nat.le_refl _) _ D _ _ (by have := hE.size; omega) hK rfl rfl)
end Go.Proofs.YtabcmnfofekeeaaDoor
