import Derived.Test.YtabcmnfofekeeaaDoorWat4
import Derived.Shelf.Abstract
namespace Go.Proofs.YtabcmnfofekeeaaDoor
open Go Go.Proofs Go.RowKit Go.Shelf
set_option maxHeartbeats 400000
set_option maxRecDepth 20000

def sprOk (s : Spring) : Bool := decide (0 ≤ s.lo) && decide (s.lo ≤ s.hi) && decide (s.hi ≤ 1000) && withinB s.fuel 0 1000
def mixOk (n : Nat) (s : Sample) : Bool := withinB s.mix 1 (2 ^ n - 1)
def validB (W : Water) : Bool :=
  withinB W.springs.length 1 8 && !W.springs.any (fun s => !sprOk s) && withinB W.most 0 8 && withinB W.misses 0 4 && withinB W.alarms 0 4 &&
    decide (W.samples.length ≤ 20) && !W.samples.any (fun s => !mixOk W.springs.length s)
def checkI (W : Water) : Int := if validB W then 0 else 40

theorem check1_any (s : Spring) (w : World) : Calls Tryd.prog 56 #[sprV s] w fun e w' => e = .returned (.bool (sprOk s)) ∧ Ext w w' := by
  by_cases h1 : 0 ≤ s.lo
  · by_cases h2 : s.lo ≤ s.hi
    · by_cases h3 : s.hi ≤ 1000
      · have H := Lib.hid (show sprOk s = withinB s.fuel 0 1000 by simp [sprOk, h1, h2, h3])
        go_enter Tryd.func56, Tryd.ntmps56
        go_wp2_with (go_at_call 46; refine (between_any _ _ _ _).mono ?_; rintro e w1 ⟨rfl, rfl⟩)
        go_ret
        exact ⟨ret_bool H.out.symm, by (repeat (first | (with_reducible exact Ext.refl _) | (with_reducible assumption) | (with_reducible refine Ext.alloc ?_ _) | (with_reducible refine Ext.trans ?_ (by with_reducible assumption)) | (with_reducible refine Ext.drew ?_) | (with_reducible refine Ext.setCell ?_ (by simp <;> omega) _)))⟩
      · have H := Lib.hid (show sprOk s = false by simp [sprOk, h3])
        go_enter Tryd.func56, Tryd.ntmps56
        go_wp2_with (go_at_call 46; refine (between_any _ _ _ _).mono ?_; rintro e w1 ⟨rfl, rfl⟩)
        go_ret
        exact ⟨ret_bool H.out.symm, by (repeat (first | (with_reducible exact Ext.refl _) | (with_reducible assumption) | (with_reducible refine Ext.alloc ?_ _) | (with_reducible refine Ext.trans ?_ (by with_reducible assumption)) | (with_reducible refine Ext.drew ?_) | (with_reducible refine Ext.setCell ?_ (by simp <;> omega) _)))⟩
    · have H := Lib.hid (show sprOk s = false by simp [sprOk, h2])
      go_enter Tryd.func56, Tryd.ntmps56
      go_wp2_with (go_at_call 46; refine (between_any _ _ _ _).mono ?_; rintro e w1 ⟨rfl, rfl⟩)
      go_ret
      exact ⟨ret_bool H.out.symm, by (repeat (first | (with_reducible exact Ext.refl _) | (with_reducible assumption) | (with_reducible refine Ext.alloc ?_ _) | (with_reducible refine Ext.trans ?_ (by with_reducible assumption)) | (with_reducible refine Ext.drew ?_) | (with_reducible refine Ext.setCell ?_ (by simp <;> omega) _)))⟩
  · have H := Lib.hid (show sprOk s = false by simp [sprOk, h1])
    go_enter Tryd.func56, Tryd.ntmps56
    go_wp2_with (go_at_call 46; refine (between_any _ _ _ _).mono ?_; rintro e w1 ⟨rfl, rfl⟩)
    go_ret
    exact ⟨ret_bool H.out.symm, by (repeat (first | (with_reducible exact Ext.refl _) | (with_reducible assumption) | (with_reducible refine Ext.alloc ?_ _) | (with_reducible refine Ext.trans ?_ (by with_reducible assumption)) | (with_reducible refine Ext.drew ?_) | (with_reducible refine Ext.setCell ?_ (by simp <;> omega) _)))⟩

theorem check2_any (s : Spring) (b : Nat) (w : World) (hb : b < w.heap.size) (hc : w.cell? ⟨b, 0, none⟩ = some (.func (.func 56) #[] #[])) :
    Calls Tryd.prog 58 #[sprV s, .pointer (some ⟨b, 0, none⟩)] w fun e w' => e = .returned (.bool (!sprOk s)) ∧ Ext w w' := by
  have eg := enters_of (P := Tryd.prog) Tryd.func56 (by kernel_rfl) rfl
  go_enter Tryd.func58, Tryd.ntmps58
  go_wp2_with (go_at_call 56; refine (check1_any _ _).mono ?_; rintro e w1 ⟨rfl, hb1⟩)
  go_ret
  exact ⟨rfl, by (repeat (first | (with_reducible exact Ext.refl _) | (with_reducible assumption) | (with_reducible refine Ext.alloc ?_ _) | (with_reducible refine Ext.trans ?_ (by with_reducible assumption)) | (with_reducible refine Ext.drew ?_) | (with_reducible refine Ext.setCell ?_ (by simp <;> omega) _)))⟩

/-- Block b holds the water. -/
def BoxW (w : World) (b : Nat) (As Am : Option Addr) (n cs m cm : Nat) (most misses alarms : Int) : Prop :=
  b < w.heap.size ∧ w.cell? ⟨b, 0, none⟩ = some (.slice As n cs) ∧ w.cell? ⟨b, 1, none⟩ = some (.int .i64 most) ∧ w.cell? ⟨b, 2, none⟩ = some (.int .i64 misses) ∧ w.cell? ⟨b, 3, none⟩ = some (.int .i64 alarms) ∧ w.cell? ⟨b, 4, none⟩ = some (.slice Am m cm)
theorem BoxW.ext {w w' : World} {b : Nat} {As Am : Option Addr} {n cs m cm : Nat} {most misses alarms : Int} (h : BoxW w b As Am n cs m cm most misses alarms) (he : Ext w w') : BoxW w' b As Am n cs m cm most misses alarms := by
  obtain ⟨h0, h1, h2, h3, h4, h5⟩ := h
  have hc := fun o => (bcell he).1 b o h0
  exact ⟨Nat.lt_of_lt_of_le h0 he.size, (hc 0).trans h1, (hc 1).trans h2, (hc 2).trans h3, (hc 3).trans h4, (hc 4).trans h5⟩

theorem check3_any (s : Sample) (b : Nat) (As Am : Option Addr) (n cs m cm : Nat) (most misses alarms : Int) (w : World) (hn1 : 1 ≤ n) (hn : n ≤ 8) (hb : BoxW w b As Am n cs m cm most misses alarms) :
    Calls Tryd.prog 60 #[samV s, .pointer (some ⟨b, 0, none⟩)] w fun e w' => e = .returned (.bool (!mixOk n s)) ∧ Ext w w' := by
  obtain ⟨h0, h1, h2, h3, h4, h5⟩ := hb
  go_enter Tryd.func60, Tryd.ntmps60
  go_wp2_with (go_at_call 55; refine (fmix_any _ _ _ _ _ _ _ _ _ _ _ hn1 hn).mono ?_; rintro e w1 ⟨rfl, hb1⟩)
  go_ret
  exact ⟨rfl, by (repeat (first | (with_reducible exact Ext.refl _) | (with_reducible assumption) | (with_reducible refine Ext.alloc ?_ _) | (with_reducible refine Ext.trans ?_ (by with_reducible assumption)) | (with_reducible refine Ext.drew ?_) | (with_reducible refine Ext.setCell ?_ (by simp <;> omega) _)))⟩
end Go.Proofs.YtabcmnfofekeeaaDoor
