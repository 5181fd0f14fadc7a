import Derived.Test.YtabcmnfofekeeaaDoorWat14
import Derived.BigRegionIn
namespace Go.Proofs.YtabcmnfofekeeaaDoor
open Go Go.Proofs Go.RowKit Go.Shelf
set_option maxHeartbeats 1000000
set_option maxRecDepth 20000
attribute [local go_sem] Oper.semAt_some

def loOf (l : List Spring) (i : Nat) : Int := ((l[i]?).map Spring.lo).getD 0
def fuelOf (l : List Spring) (i : Nat) : Int := ((l[i]?).map Spring.fuel).getD 0
/-- What the springs of a set surely yield. -/
def sumOf (f : Nat → Int) (s : List Nat) : Int := (s.map f).sum
theorem sumOf_succ (f : Nat → Int) (s : List Nat) (k : Nat) (h : k < s.length) : sumOf f (s.take (k + 1)) = sumOf f (s.take k) + f s[k] := by
  rw [List.take_succ_eq_append_getElem h]; unfold sumOf; rw [List.map_append, List.sum_append]; simp only [List.map_cons, List.map_nil, List.sum_cons, List.sum_nil, Int.add_zero]
theorem sumOf_le (f : Nat → Int) (hf : ∀ i, 0 ≤ f i ∧ f i ≤ 1000) (s : List Nat) : 0 ≤ sumOf f s ∧ sumOf f s ≤ 1000 * s.length := by
  unfold sumOf
  induction s with
  | nil => simp
  | cons a s ih =>
    have := hf a
    simp only [List.map_cons, List.sum_cons, List.length_cons]
    omega
theorem el_len (s : Nat) : (el s).length ≤ 8 := by
  unfold el; have := List.length_filter_le (fun i => s.testBit i) (List.range 8); simpa using this
theorem el_bound {s n : Nat} (hs : s < 2 ^ n) {i : Nat} (h : i ∈ el s) : i < n := by
  unfold el at h
  simp at h
  exact Nat.lt_of_not_le fun hle => by
    have : s.testBit i = false := Nat.testBit_lt_two_pow (Nat.lt_of_lt_of_le hs (Nat.pow_le_pow_right (by omega) hle))
    rw [h.2] at this; cases this

def SprOk (l : List Spring) : Prop := ∀ s ∈ l, 0 ≤ s.lo ∧ s.lo ≤ s.hi ∧ s.hi ≤ 1000 ∧ 0 ≤ s.fuel ∧ s.fuel ≤ 1000
theorem lo_bd {l : List Spring} (h : SprOk l) (i : Nat) : 0 ≤ loOf l i ∧ loOf l i ≤ 1000 := by
  unfold loOf
  rcases Nat.lt_or_ge i l.length with hi | hi
  · rw [List.getElem?_eq_getElem hi]
    have := h _ (List.getElem_mem hi)
    simp; omega
  · rw [List.getElem?_eq_none hi]; simp
theorem fuel_bd {l : List Spring} (h : SprOk l) (i : Nat) : 0 ≤ fuelOf l i ∧ fuelOf l i ≤ 1000 := by
  unfold fuelOf
  rcases Nat.lt_or_ge i l.length with hi | hi
  · rw [List.getElem?_eq_getElem hi]
    have := h _ (List.getElem_mem hi)
    simp; omega
  · rw [List.getElem?_eq_none hi]; simp

theorem yield_any (As Am : Option Addr) (cs m cm : Nat) (most misses alarms : Int) (l : List Spring) (s : Nat) (w : World) (hl : l.length ≤ 8) (hs : s < 2 ^ l.length) (hok : SprOk l) (hsl : SlOf sprC 3 w w.heap.size As l) (ht : TabIn w) :
    Calls Tryd.prog 48 #[wv As Am l.length cs m cm most misses alarms, .int .u64 s] w fun e w' => e = .returned (.int .i64 (sumOf (loOf l) (el s))) ∧ Ext w w' := by
  have hs8 : s < 256 := Nat.lt_of_lt_of_le hs (pow_le8 hl)
  refine (callsIn_wide (n := 0)).1 ?_
  refine callsIn_of_wp_marks Tryd.func48 rfl trivial ?_ rfl
  simp only [Tryd.ntmps48, List.size_toArray, List.length_cons, List.length_nil, Nat.reduceAdd, Nat.reduceSub, Array.replicate_succ, Array.replicate_zero, List.push_toArray, List.append_toArray, List.nil_append, List.cons_append]
  gi_wp2_with fail
  refine range_law (first := #[.int .u64 (s : Int)]) (lb := #[]) rfl (enters_of Tryd.func73 (by kernel_rfl) rfl) (all_iter s hs8 w ht) (by (repeat (first | (with_reducible exact Ext.refl _) | (with_reducible assumption) | (with_reducible refine Ext.alloc ?_ _) | (with_reducible refine Ext.trans ?_ (by with_reducible assumption)) | (with_reducible refine Ext.drew ?_) | (with_reducible refine Ext.setCell ?_ (by simp <;> omega) _)))) (fun _ => rfl)
    (fun k W => W.cell? ⟨w.heap.size + 1, 0, none⟩ = some (.int .i64 (sumOf (loOf l) ((el s).take k))) ∧ W.frozen? ⟨w.heap.size + 1, 0, none⟩ = false ∧ W.cell? ⟨w.heap.size, 0, none⟩ = some (.slice As l.length cs) ∧ Below w.heap.size w W)
    (fun _ _ => False)
    (fun k W W' row hp hg hr => ⟨cell_kept hp.1 hg (fun r e => (hr r e).2), (frozen_kept hp.1 hg (fun r e => (hr r e).2)).trans hp.2.1, cell_kept hp.2.2.1 hg (fun r e => (hr r e).2), Stab.below (B := w.heap.size) (Nat.le_refl _) (Nat.le_refl _) W W' row hp.2.2.2 hg (fun r e => ⟨by have := (hr r e).1; simp at this; omega, (hr r e).2⟩)⟩)
    (fun _ _ _ _ hp _ _ => hp)
    ⟨by go_simp; simp [sumOf], by go_simp, by go_simp, by (repeat (first | (with_reducible exact Ext.refl _) | (with_reducible assumption) | (with_reducible refine Ext.alloc ?_ _) | (with_reducible refine Ext.trans ?_ (by with_reducible assumption)) | (with_reducible refine Ext.drew ?_) | (with_reducible refine Ext.setCell ?_ (by simp <;> omega) _)))⟩
    (fun x => { tmps := #[wv As Am l.length cs m cm most misses alarms, .int .u64 s, .pointer (some ⟨w.heap.size, 0, none⟩), undef, .pointer (some ⟨w.heap.size + 1, 0, none⟩), .int .i64 (x : Int), .int .u64 s, .func (.func 73) #[.int .u64 s] #[], .int .i64 (x : Int), undef, undef, undef, undef, undef, undef, undef, undef, undef, undef, undef], defers := [] }) ?assign ?body ?done ?stop
  case assign =>
    intro lp x W K hK
    gi_wp2
    exact hK
  case body =>
    rintro lp k hk W ⟨h1, h2, h3, h4⟩ _
    have hxl : (el s)[k] < l.length := el_bound hs (List.getElem_mem hk)
    have hsum := sumOf_le (loOf l) (lo_bd hok) ((el s).take k)
    have htl : ((el s).take k).length ≤ 8 := Nat.le_trans (List.length_take_le' _ _) (el_len s)
    obtain ⟨b, off, rfl, hbl, hc⟩ := (hsl.below h4 (Nat.le_refl _)).at_ sprC_len hxl
    have c0 := hc 0 _ (by omega) rfl
    have hlo := hok l[(el s)[k]] (List.getElem_mem hxl)
    have hS := Lib.hid (sumOf_succ (loOf l) (el s) k hk)
    have hL : loOf l (el s)[k] = l[(el s)[k]].lo := by unfold loOf; rw [List.getElem?_eq_getElem hxl]; rfl
    have HL := Lib.hid hL
    clear hc hL
    simp only [Nat.add_zero] at c0
    generalize hx : (el s)[k] = x at *
    generalize hsm : sumOf (loOf l) ((el s).take k) = sm at *
    have HX := Lib.hid hx
    have HSM := Lib.hid hsm
    clear hx hsm
    gi_wp2_with fail
    gi_region
    all_goals
      have hwr : IntKind.i64.wrap (sm + l[x].lo) = sumOf (loOf l) ((el s).take (k + 1)) := by
        rw [hS.out, HL.out, IntKind.wrap_i64]; omega
      have hcs : (W.setCell ⟨w.heap.size + 1, 0, none⟩ (.int .i64 (IntKind.i64.wrap (sm + l[x].lo)))).cell? ⟨w.heap.size + 1, 0, none⟩ = some (.int .i64 (IntKind.i64.wrap (sm + l[x].lo))) := World.cell?_setCell_same' _ _ _ (by rw [h1]; rfl)
      rw [hwr] at hcs ⊢
      exact ⟨((KeepsOthers.setCell _ _ _).trans (KeepsOthers.drew _)).from _, ((Below.refl _ W).setCell (p := ⟨w.heap.size + 1, 0, none⟩) (by simp) _).drew, hcs, (World.frozen?_setCell _ _ _ _).trans h2,
        (World.cell?_setCell_other W _ _ _ (by simp)).trans h3, (h4.setCell (p := ⟨w.heap.size + 1, 0, none⟩) (by simp) _).drew⟩
  case done =>
    rintro D W hD ⟨h1, h2, h3, h4⟩ hK
    rw [List.take_length] at h1
    gi_wp2
    have hK2 := (KeepsOthers.setCell W ⟨w.heap.size + 1, 0, none⟩ (.int .i64 (sumOf (loOf l) (el s)))).same D _ hK rfl
    refine ⟨by simp, .inl ⟨_, _, rfl, run_takeDeferred hK2, ?_⟩⟩
    have hcs : (W.setCell ⟨w.heap.size + 1, 0, none⟩ (.int .i64 (sumOf (loOf l) (el s)))).cell? ⟨w.heap.size + 1, 0, none⟩ = some (.int .i64 (sumOf (loOf l) (el s))) := World.cell?_setCell_same' _ _ _ (by rw [h1]; rfl)
    have hcs2 := cell_kept hcs (grownBy_putObj' _ D (.deferred none)) (fun r e => by cases e; exact ⟨_, hK2, rfl⟩)
    refine ⟨_, (show _ = Result.ok (Value.int .i64 (sumOf (loOf l) (el s))) _ by simp only [results, Tryd.results48]; go_simp), rfl, ?_⟩
    exact (h4.setCell (p := ⟨w.heap.size + 1, 0, none⟩) (by simp) _).trans (belowK_b (w := w) (Nat.le_refl _) _ D _ _ (by simp at hD; omega) hK2 rfl rfl)
  case stop =>
    rintro D c W _ h _
    exact h.elim
theorem fuel_any (As Am : Option Addr) (cs m cm : Nat) (most misses alarms : Int) (l : List Spring) (s : Nat) (w : World) (hl : l.length ≤ 8) (hs : s < 2 ^ l.length) (hok : SprOk l) (hsl : SlOf sprC 3 w w.heap.size As l) (ht : TabIn w) :
    Calls Tryd.prog 49 #[wv As Am l.length cs m cm most misses alarms, .int .u64 s] w fun e w' => e = .returned (.int .i64 (sumOf (fuelOf l) (el s))) ∧ Ext w w' := by
  have hs8 : s < 256 := Nat.lt_of_lt_of_le hs (pow_le8 hl)
  refine (callsIn_wide (n := 0)).1 ?_
  refine callsIn_of_wp_marks Tryd.func49 rfl trivial ?_ rfl
  simp only [Tryd.ntmps49, List.size_toArray, List.length_cons, List.length_nil, Nat.reduceAdd, Nat.reduceSub, Array.replicate_succ, Array.replicate_zero, List.push_toArray, List.append_toArray, List.nil_append, List.cons_append]
  gi_wp2_with fail
  refine range_law (first := #[.int .u64 (s : Int)]) (lb := #[]) rfl (enters_of Tryd.func73 (by kernel_rfl) rfl) (all_iter s hs8 w ht) (by (repeat (first | (with_reducible exact Ext.refl _) | (with_reducible assumption) | (with_reducible refine Ext.alloc ?_ _) | (with_reducible refine Ext.trans ?_ (by with_reducible assumption)) | (with_reducible refine Ext.drew ?_) | (with_reducible refine Ext.setCell ?_ (by simp <;> omega) _)))) (fun _ => rfl)
    (fun k W => W.cell? ⟨w.heap.size + 1, 0, none⟩ = some (.int .i64 (sumOf (fuelOf l) ((el s).take k))) ∧ W.frozen? ⟨w.heap.size + 1, 0, none⟩ = false ∧ W.cell? ⟨w.heap.size, 0, none⟩ = some (.slice As l.length cs) ∧ Below w.heap.size w W)
    (fun _ _ => False)
    (fun k W W' row hp hg hr => ⟨cell_kept hp.1 hg (fun r e => (hr r e).2), (frozen_kept hp.1 hg (fun r e => (hr r e).2)).trans hp.2.1, cell_kept hp.2.2.1 hg (fun r e => (hr r e).2), Stab.below (B := w.heap.size) (Nat.le_refl _) (Nat.le_refl _) W W' row hp.2.2.2 hg (fun r e => ⟨by have := (hr r e).1; simp at this; omega, (hr r e).2⟩)⟩)
    (fun _ _ _ _ hp _ _ => hp)
    ⟨by go_simp; simp [sumOf], by go_simp, by go_simp, by (repeat (first | (with_reducible exact Ext.refl _) | (with_reducible assumption) | (with_reducible refine Ext.alloc ?_ _) | (with_reducible refine Ext.trans ?_ (by with_reducible assumption)) | (with_reducible refine Ext.drew ?_) | (with_reducible refine Ext.setCell ?_ (by simp <;> omega) _)))⟩
    (fun x => { tmps := #[wv As Am l.length cs m cm most misses alarms, .int .u64 s, .pointer (some ⟨w.heap.size, 0, none⟩), undef, .pointer (some ⟨w.heap.size + 1, 0, none⟩), .int .i64 (x : Int), .int .u64 s, .func (.func 73) #[.int .u64 s] #[], .int .i64 (x : Int), undef, undef, undef, undef, undef, undef, undef, undef, undef, undef], defers := [] }) ?assign ?body ?done ?stop
  case assign =>
    intro lp x W K hK
    gi_wp2
    exact hK
  case body =>
    rintro lp k hk W ⟨h1, h2, h3, h4⟩ _
    have hxl : (el s)[k] < l.length := el_bound hs (List.getElem_mem hk)
    have hsum := sumOf_le (fuelOf l) (fuel_bd hok) ((el s).take k)
    have htl : ((el s).take k).length ≤ 8 := Nat.le_trans (List.length_take_le' _ _) (el_len s)
    obtain ⟨b, off, rfl, hbl, hc⟩ := (hsl.below h4 (Nat.le_refl _)).at_ sprC_len hxl
    have c0 := hc 2 _ (by omega) rfl
    have hlo := hok l[(el s)[k]] (List.getElem_mem hxl)
    have hS := Lib.hid (sumOf_succ (fuelOf l) (el s) k hk)
    have hL : fuelOf l (el s)[k] = l[(el s)[k]].fuel := by unfold fuelOf; rw [List.getElem?_eq_getElem hxl]; rfl
    have HL := Lib.hid hL
    clear hc hL
    generalize hx : (el s)[k] = x at *
    generalize hsm : sumOf (fuelOf l) ((el s).take k) = sm at *
    have HX := Lib.hid hx
    have HSM := Lib.hid hsm
    clear hx hsm
    gi_wp2_with fail
    gi_region
    all_goals
      have hwr : IntKind.i64.wrap (sm + l[x].fuel) = sumOf (fuelOf l) ((el s).take (k + 1)) := by
        rw [hS.out, HL.out, IntKind.wrap_i64]; omega
      have hcs : (W.setCell ⟨w.heap.size + 1, 0, none⟩ (.int .i64 (IntKind.i64.wrap (sm + l[x].fuel)))).cell? ⟨w.heap.size + 1, 0, none⟩ = some (.int .i64 (IntKind.i64.wrap (sm + l[x].fuel))) := World.cell?_setCell_same' _ _ _ (by rw [h1]; rfl)
      rw [hwr] at hcs ⊢
      exact ⟨((KeepsOthers.setCell _ _ _).trans (KeepsOthers.drew _)).from _, ((Below.refl _ W).setCell (p := ⟨w.heap.size + 1, 0, none⟩) (by simp) _).drew, hcs, (World.frozen?_setCell _ _ _ _).trans h2,
        (World.cell?_setCell_other W _ _ _ (by simp)).trans h3, (h4.setCell (p := ⟨w.heap.size + 1, 0, none⟩) (by simp) _).drew⟩
  case done =>
    rintro D W hD ⟨h1, h2, h3, h4⟩ hK
    rw [List.take_length] at h1
    gi_wp2
    have hK2 := (KeepsOthers.setCell W ⟨w.heap.size + 1, 0, none⟩ (.int .i64 (sumOf (fuelOf l) (el s)))).same D _ hK rfl
    refine ⟨by simp, .inl ⟨_, _, rfl, run_takeDeferred hK2, ?_⟩⟩
    have hcs : (W.setCell ⟨w.heap.size + 1, 0, none⟩ (.int .i64 (sumOf (fuelOf l) (el s)))).cell? ⟨w.heap.size + 1, 0, none⟩ = some (.int .i64 (sumOf (fuelOf l) (el s))) := World.cell?_setCell_same' _ _ _ (by rw [h1]; rfl)
    have hcs2 := cell_kept hcs (grownBy_putObj' _ D (.deferred none)) (fun r e => by cases e; exact ⟨_, hK2, rfl⟩)
    refine ⟨_, (show _ = Result.ok (Value.int .i64 (sumOf (fuelOf l) (el s))) _ by simp only [results, Tryd.results49]; go_simp), rfl, ?_⟩
    exact (h4.setCell (p := ⟨w.heap.size + 1, 0, none⟩) (by simp) _).trans (belowK_b (w := w) (Nat.le_refl _) _ D _ _ (by simp at hD; omega) hK2 rfl rfl)
  case stop =>
    rintro D c W _ h _
    exact h.elim
end Go.Proofs.YtabcmnfofekeeaaDoor
