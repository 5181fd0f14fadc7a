/- The reference's Serve. -/
import Derived.Test.YtabcmnfofekeeaaDoorWat28
import Derived.Test.YtabcmnfofekeeaaDoorWat29
namespace Go.Proofs.YtabcmnfofekeeaaDoor
open Go Go.Proofs Go.RowKit Go.Shelf
set_option maxHeartbeats 1000000
set_option maxRecDepth 20000
/-! ### plain facts -/
def refS (W : Water) (need : Int) (k : Nat) : Option Batch := match enoughTo W need k with
  | [] => none
  | l => some (minB l)
def bI : Option Batch → Int
  | none => -1
  | some b => (b.set : Int)
def bF : Option Batch → Int
  | none => 0
  | some b => b.fuel
theorem refS_nil {W : Water} {need : Int} {k : Nat} (h : enoughTo W need k = []) : refS W need k = none := by unfold refS; rw [h]
theorem refS_ne {W : Water} {need : Int} {k : Nat} (h : enoughTo W need k ≠ []) : refS W need k = some (minB (enoughTo W need k)) := by
  unfold refS
  split
  · next h2 => exact absurd h2 h
  · rfl
theorem minB_snoc (l : List Batch) (b : Batch) (h : l ≠ []) : minB (l ++ [b]) = if betterI b (minB l) < 0 then b else minB l := by
  unfold minB
  have e : (l ++ [b]).headD ⟨0, 0⟩ = l.headD ⟨0, 0⟩ := by cases l with
    | nil => exact absurd rfl h
    | cons a l => rfl
  rw [e]
  unfold minTo
  rw [List.foldl_append]
  rfl
theorem minB_one (b : Batch) : minB [b] = b := by simp [minB, minTo, betterI_self]
theorem better_iff (b m : Batch) (h : m.set < b.set) : betterI b m < 0 ↔ b.fuel < m.fuel ∨ (b.fuel = m.fuel ∧ pc b.set < pc m.set) := by
  unfold betterI orI cmpI
  repeat' split
  all_goals omega
theorem refS_no {W : Water} {need : Int} {k : Nat} (h : okS W need k = false) : refS W need (k + 1) = refS W need k := by
  unfold refS
  rw [enoughTo_succ, if_neg (by simp [h]), List.append_nil]
theorem refS_first {W : Water} {need : Int} {k : Nat} (h : okS W need k = true) (h0 : refS W need k = none) : refS W need (k + 1) = some (batOf W k) := by
  have he : enoughTo W need k = [] := by
    unfold refS at h0
    split at h0
    · assumption
    · cases h0
  unfold refS
  rw [enoughTo_succ, if_pos h, he, List.nil_append]
  simp only [minB_one]
theorem refS_next {W : Water} {need : Int} {k : Nat} {m : Batch} (h : okS W need k = true) (h0 : refS W need k = some m) :
    m.set < k ∧ refS W need (k + 1) = if (batOf W k).fuel < m.fuel ∨ ((batOf W k).fuel = m.fuel ∧ pc k < pc m.set) then some (batOf W k) else some m := by
  have hne : enoughTo W need k ≠ [] ∧ minB (enoughTo W need k) = m := by
    unfold refS at h0
    split at h0
    · cases h0
    · next hh => injection h0 with h0; exact ⟨hh, h0⟩
  have hm : m.set < k := enoughTo_lt (by rw [← hne.2]; exact minB_mem hne.1)
  refine ⟨hm, ?_⟩
  have e : refS W need (k + 1) = some (minB (enoughTo W need k ++ [batOf W k])) := by
    unfold refS
    rw [enoughTo_succ, if_pos h]
    split
    · next hh => simp at hh
    · rfl
  rw [e, minB_snoc _ _ hne.1, hne.2]
  have hb : betterI (batOf W k) m < 0 ↔ (batOf W k).fuel < m.fuel ∨ ((batOf W k).fuel = m.fuel ∧ pc k < pc m.set) := better_iff (batOf W k) m hm
  by_cases hc : betterI (batOf W k) m < 0
  · rw [if_pos hc, if_pos (hb.1 hc)]
  · rw [if_neg hc, if_neg (fun h => hc (hb.2 h))]
theorem refS_bd {W : Water} {need : Int} {k : Nat} {m : Batch} (h0 : refS W need k = some m) : m.set < k ∧ m.fuel = (batOf W m.set).fuel := by
  unfold refS at h0
  split at h0
  · cases h0
  · next hh =>
    injection h0 with h0
    have hmem : m ∈ enoughTo W need k := by rw [← h0]; exact minB_mem hh
    refine ⟨enoughTo_lt hmem, ?_⟩
    unfold enoughTo at hmem
    simp only [List.mem_map] at hmem
    obtain ⟨s, _, rfl⟩ := hmem
    rfl
def serveU (W : Water) (need : Int) : Value := if openE W (withinB need 0 10000) = 0 then serveV W need else .tuple #[.int .i64 0, .int .i64 0, .int .i64 0, .int .i64 (openE W (withinB need 0 10000))]
def serveO (W : Water) : Option Batch → Value
  | none => .tuple #[.int .i64 0, .int .i64 0, .int .i64 0, .int .i64 3]
  | some m => .tuple #[.int .i64 (pureN W), .int .i64 (m.set : Int), .int .i64 m.fuel, .int .i64 0]
theorem serveV_is {W : Water} {need : Int} (o : Option Batch) (h : refS W need (2 ^ W.springs.length) = o) : serveV W need = serveO W o := by
  subst h
  by_cases h : enoughTo W need (2 ^ W.springs.length) = []
  · rw [refS_nil h, serveV, enough, if_pos h]; rfl
  · rw [refS_ne h, serveV, enough, if_neg h]; rfl
theorem serveU_parts (W : Water) (need : Int) : ∃ a b c e : Int, serveU W need = .tuple #[.int .i64 a, .int .i64 b, .int .i64 c, .int .i64 e] := by
  unfold serveU serveV
  split
  · split
    · exact ⟨_, _, _, _, rfl⟩
    · exact ⟨_, _, _, _, rfl⟩
  · exact ⟨_, _, _, _, rfl⟩
theorem serve_u (As Am : Option Addr) (cs cm : Nat) (W : Water) (need : Int) (w : World) (hin : WaterIn w As Am W) (ht : TabIn w) :
    Calls Tryd.prog 20 #[wvW As Am cs cm W, .int .i64 need] w fun e w' => e = .returned (serveU W need) ∧ Ext w w' := by
  by_cases hE : openE W (withinB need 0 10000) = 0
  · rw [serveU, if_pos hE]; exact serve_ok As Am cs cm W need w hin ht hE
  · rw [serveU, if_neg hE]; exact serve_err As Am cs cm W need w hin hE
/-! ### the walk -/
theorem refServe_err (As Am : Option Addr) (cs cm : Nat) (W : Water) (need : Int) (w : World) (hin : WaterIn w As Am W) (hn : W.springs.length ≤ 30) (hm : W.samples.length ≤ 1000000) (hE : openE W (withinB need 0 10000) ≠ 0) :
    Calls Tryd.prog 34 #[wvW As Am cs cm W, .int .i64 need] w fun e w' => e = .returned (.tuple #[.int .i64 0, .int .i64 0, .int .i64 0, .int .i64 (openE W (withinB need 0 10000))]) ∧ Ext w w' := by
  have HIN := Lib.hid hin
  clear hin
  cases hv : validB W
  · have HC := Lib.hid (show checkI W = 40 by simp [checkI, hv])
    rw [show openE W (withinB need 0 10000) = 40 by simp [openE, hv]]
    clear hE hv
    go_enter Tryd.func34, Tryd.ntmps34
    go_wp2_with fail
    refine (refCheck_any _ _ _ _ W _ (HIN.out.ext (by (repeat (first | (with_reducible exact Ext.refl _) | (with_reducible assumption) | (with_reducible refine Ext.alloc ?_ _) | (with_reducible refine Ext.trans ?_ (by with_reducible assumption)) | (with_reducible refine Ext.drew ?_) | (with_reducible refine Ext.setCell ?_ (by simp <;> omega) _))))) hn hm).mono ?_
    rintro e w1 ⟨rfl, hb1⟩
    rw [HC.out]
    go_wp2_with fail
    exact bodyPost_ret (v := .tuple #[.int .i64 0, .int .i64 0, .int .i64 0, .int .i64 40]) (by simp only [results, Tryd.results34]; go_simp) rfl ⟨rfl, by (repeat (first | (with_reducible exact Ext.refl _) | (with_reducible assumption) | (with_reducible refine Ext.alloc ?_ _) | (with_reducible refine Ext.trans ?_ (by with_reducible assumption)) | (with_reducible refine Ext.drew ?_) | (with_reducible refine Ext.setCell ?_ (by simp <;> omega) _)))⟩
  have HC := Lib.hid (show checkI W = 0 by simp [checkI, hv])
  cases hx : withinB need 0 10000
  · have HX := Lib.hid hx
    rw [show openE W false = 1 by simp [openE, hv]]
    clear hE hv hx
    go_enter Tryd.func34, Tryd.ntmps34
    go_wp2_with fail
    refine (refCheck_any _ _ _ _ W _ (HIN.out.ext (by (repeat (first | (with_reducible exact Ext.refl _) | (with_reducible assumption) | (with_reducible refine Ext.alloc ?_ _) | (with_reducible refine Ext.trans ?_ (by with_reducible assumption)) | (with_reducible refine Ext.drew ?_) | (with_reducible refine Ext.setCell ?_ (by simp <;> omega) _))))) hn hm).mono ?_
    rintro e w1 ⟨rfl, hb1⟩
    rw [HC.out]
    (have f0 := ((bcell hb1).1 w.heap.size 0 (by simp)).trans (show _ = some (.slice As W.springs.length cs) by go_simp); have f1 := ((bcell hb1).1 w.heap.size 1 (by simp)).trans (show _ = some (.int .i64 W.most) by go_simp); have f2 := ((bcell hb1).1 w.heap.size 2 (by simp)).trans (show _ = some (.int .i64 W.misses) by go_simp); have f3 := ((bcell hb1).1 w.heap.size 3 (by simp)).trans (show _ = some (.int .i64 W.alarms) by go_simp); have f4 := ((bcell hb1).1 w.heap.size 4 (by simp)).trans (show _ = some (.slice Am W.samples.length cm) by go_simp); have hz := Nat.lt_of_lt_of_le (show w.heap.size < (w.alloc _).heap.size by simp) (Below.size hb1))
    have hw1 : Ext w w1 := by (repeat (first | (with_reducible exact Ext.refl _) | (with_reducible assumption) | (with_reducible refine Ext.alloc ?_ _) | (with_reducible refine Ext.trans ?_ (by with_reducible assumption)) | (with_reducible refine Ext.drew ?_) | (with_reducible refine Ext.setCell ?_ (by simp <;> omega) _)))
    clear hb1
    go_wp2_with fail
    refine (within_is _ _ _ HX.out _).mono ?_
    rintro e w2 ⟨rfl, rfl⟩
    go_wp2_with fail
    exact bodyPost_ret (v := .tuple #[.int .i64 0, .int .i64 0, .int .i64 0, .int .i64 1]) (by simp only [results, Tryd.results34]; go_simp) rfl ⟨rfl, hw1⟩
  have HX := Lib.hid hx
  have hE2 : openE W true ≠ 0 := by rw [hx] at hE; exact hE
  have hE3 : (openE W true != 0) = true := by simpa using hE2
  clear hE hv hx
  go_enter Tryd.func34, Tryd.ntmps34
  go_wp2_with fail
  refine (refCheck_any _ _ _ _ W _ (HIN.out.ext (by (repeat (first | (with_reducible exact Ext.refl _) | (with_reducible assumption) | (with_reducible refine Ext.alloc ?_ _) | (with_reducible refine Ext.trans ?_ (by with_reducible assumption)) | (with_reducible refine Ext.drew ?_) | (with_reducible refine Ext.setCell ?_ (by simp <;> omega) _))))) hn hm).mono ?_
  rintro e w1 ⟨rfl, hb1⟩
  rw [HC.out]
  (have f0 := ((bcell hb1).1 w.heap.size 0 (by simp)).trans (show _ = some (.slice As W.springs.length cs) by go_simp); have f1 := ((bcell hb1).1 w.heap.size 1 (by simp)).trans (show _ = some (.int .i64 W.most) by go_simp); have f2 := ((bcell hb1).1 w.heap.size 2 (by simp)).trans (show _ = some (.int .i64 W.misses) by go_simp); have f3 := ((bcell hb1).1 w.heap.size 3 (by simp)).trans (show _ = some (.int .i64 W.alarms) by go_simp); have f4 := ((bcell hb1).1 w.heap.size 4 (by simp)).trans (show _ = some (.slice Am W.samples.length cm) by go_simp); have hz := Nat.lt_of_lt_of_le (show w.heap.size < (w.alloc _).heap.size by simp) (Below.size hb1))
  have hw1 : Ext w w1 := by (repeat (first | (with_reducible exact Ext.refl _) | (with_reducible assumption) | (with_reducible refine Ext.alloc ?_ _) | (with_reducible refine Ext.trans ?_ (by with_reducible assumption)) | (with_reducible refine Ext.drew ?_) | (with_reducible refine Ext.setCell ?_ (by simp <;> omega) _)))
  clear hb1
  go_wp2_with fail
  refine (within_is _ _ _ HX.out _).mono ?_
  rintro e w2 ⟨rfl, rfl⟩
  go_wp2_with fail
  refine (refClean_err _ _ _ _ W _ (HIN.out.ext hw1) hn hm hE2).mono ?_
  rintro e w3 ⟨rfl, hb3⟩
  go_wp2_with fail
  exact bodyPost_ret (v := .tuple #[.int .i64 0, .int .i64 0, .int .i64 0, .int .i64 (openE W true)]) (by simp only [results, Tryd.results34]; go_simp) rfl ⟨rfl, hw1.trans hb3⟩

theorem refServe_ok (As Am : Option Addr) (cs cm : Nat) (W : Water) (need : Int) (w : World) (hin : WaterIn w As Am W) (hm : W.samples.length ≤ 1000000) (hE : openE W (withinB need 0 10000) = 0) :
    Calls Tryd.prog 34 #[wvW As Am cs cm W, .int .i64 need] w fun e w' => e = .returned (serveV W need) ∧ Ext w w' := by
  obtain ⟨hv, hnd, hne⟩ := open_zero hE
  have hE0 : openE W true = 0 := by rw [hnd] at hE; exact hE
  have hn8 := (valid_len hv).2
  have hn30 : W.springs.length ≤ 30 := by omega
  have hspr := valid_spr hv
  have hp8 := pow_le8 hn8
  have hp0 := pow_pos2 W.springs.length
  have hP := pureN_lt2 W
  have hfc : ((2 ^ W.springs.length - 1 : Nat) : Int) = 2 ^ W.springs.length - 1 := by rw [Int.ofNat_sub (Nat.pow_pos (by omega))]; simp
  have HFC := Lib.hid hfc
  have HC := Lib.hid (show checkI W = 0 by simp [checkI, hv])
  have HX := Lib.hid hnd
  have HIN := Lib.hid hin
  have HE := Lib.hid hE0
  have hp256 : pureN W < 256 := by omega
  clear hE hE0 hv hnd hne hin hfc
  go_enter Tryd.func34, Tryd.ntmps34
  go_wp2_with fail
  refine (refCheck_any _ _ _ _ W _ (HIN.out.ext (by (repeat (first | (with_reducible exact Ext.refl _) | (with_reducible assumption) | (with_reducible refine Ext.alloc ?_ _) | (with_reducible refine Ext.trans ?_ (by with_reducible assumption)) | (with_reducible refine Ext.drew ?_) | (with_reducible refine Ext.setCell ?_ (by simp <;> omega) _))))) hn30 hm).mono ?_
  rintro e w1 ⟨rfl, hb1⟩
  rw [HC.out]
  (have f0 := ((bcell hb1).1 w.heap.size 0 (by simp)).trans (show _ = some (.slice As W.springs.length cs) by go_simp); have f1 := ((bcell hb1).1 w.heap.size 1 (by simp)).trans (show _ = some (.int .i64 W.most) by go_simp); have f2 := ((bcell hb1).1 w.heap.size 2 (by simp)).trans (show _ = some (.int .i64 W.misses) by go_simp); have f3 := ((bcell hb1).1 w.heap.size 3 (by simp)).trans (show _ = some (.int .i64 W.alarms) by go_simp); have f4 := ((bcell hb1).1 w.heap.size 4 (by simp)).trans (show _ = some (.slice Am W.samples.length cm) by go_simp); have hz := Nat.lt_of_lt_of_le (show w.heap.size < (w.alloc _).heap.size by simp) (Below.size hb1))
  have hw1 : Ext w w1 := by (repeat (first | (with_reducible exact Ext.refl _) | (with_reducible assumption) | (with_reducible refine Ext.alloc ?_ _) | (with_reducible refine Ext.trans ?_ (by with_reducible assumption)) | (with_reducible refine Ext.drew ?_) | (with_reducible refine Ext.setCell ?_ (by simp <;> omega) _)))
  clear hb1
  go_wp2_with fail
  refine (within_is _ _ _ HX.out _).mono ?_
  rintro e w2 ⟨rfl, rfl⟩
  go_wp2_with fail
  refine (refClean_ok _ _ _ _ W _ (HIN.out.ext hw1) hm HE.out).mono ?_
  rintro e w3 ⟨rfl, hb3⟩
  (replace f0 := ((bcell hb3).1 _ 0 hz).trans f0; replace f1 := ((bcell hb3).1 _ 1 hz).trans f1; replace f2 := ((bcell hb3).1 _ 2 hz).trans f2; replace f3 := ((bcell hb3).1 _ 3 hz).trans f3; replace f4 := ((bcell hb3).1 _ 4 hz).trans f4; replace hz := Nat.lt_of_lt_of_le hz (Below.size hb3))
  have HW3 := Lib.hid (hw1.trans hb3)
  clear hb3 hw1
  go_wp2_with fail
  go_loopg [10, 11, 12] (2 ^ W.springs.length) (fun gk a b i wr => ∃ k : Nat, k + gk = 2 ^ W.springs.length ∧ i = .int .i64 k ∧ a = .int .i64 (bI (refS W need k)) ∧ b = .int .i64 (bF (refS W need k)) ∧ Ext w3 wr)
  case atStart => exact ⟨0, by omega, rfl, rfl, rfl, Ext.refl _⟩
  case round =>
    obtain ⟨k, hk, rfl, rfl, rfl, hb⟩ := hrel
    have HK : k ≤ 2 ^ W.springs.length := by omega
    have HKG := Lib.hid hk
    have HB := Lib.hid hb
    (replace f0 := ((bcell hb).1 _ 0 hz).trans f0; replace f1 := ((bcell hb).1 _ 1 hz).trans f1; replace f2 := ((bcell hb).1 _ 2 hz).trans f2; replace f3 := ((bcell hb).1 _ 3 hz).trans f3; replace f4 := ((bcell hb).1 _ 4 hz).trans f4; replace hz := Nat.lt_of_lt_of_le hz (Below.size hb))
    clear hk hb
    by_cases hlt : k < 2 ^ W.springs.length
    · have hk8 : k < 256 := by omega
      have hor : pureN W ||| k < 256 := Nat.or_lt_two_pow (n := 8) hp256 hk8
      have e1 := i64_or_nat (pureN W) k (by omega) (by omega)
      have e2 := i64_and_nat k (pureN W) (by omega) (by omega)
      have hk1 : k ≤ 2 ^ W.springs.length - 1 := by omega
      go_wp2_with fail
      refine (all_any _ _ _ _ _ _ _ _ _ _ hn30).mono ?_
      rintro e w4 ⟨rfl, hb4⟩
      rw [← HFC.out]
      (replace f0 := ((bcell hb4).1 _ 0 hz).trans f0; replace f1 := ((bcell hb4).1 _ 1 hz).trans f1; replace f2 := ((bcell hb4).1 _ 2 hz).trans f2; replace f3 := ((bcell hb4).1 _ 3 hz).trans f3; replace f4 := ((bcell hb4).1 _ 4 hz).trans f4; replace hz := Nat.lt_of_lt_of_le hz (Below.size hb4))
      have HB4 := Lib.hid (HB.out.trans hb4)
      clear hb4
      go_wp2_with fail
      refine (sum_any _ _ _ _ W (pureN W ||| k) _ hn8 hor hspr (HIN.out.ext (HW3.out.trans HB4.out)).1).mono ?_
      rintro e w5 ⟨rfl, hb5⟩
      (replace f0 := ((bcell hb5).1 _ 0 hz).trans f0; replace f1 := ((bcell hb5).1 _ 1 hz).trans f1; replace f2 := ((bcell hb5).1 _ 2 hz).trans f2; replace f3 := ((bcell hb5).1 _ 3 hz).trans f3; replace f4 := ((bcell hb5).1 _ 4 hz).trans f4; replace hz := Nat.lt_of_lt_of_le hz (Below.size hb5))
      have HB5 := Lib.hid (HB4.out.trans hb5)
      clear hb5
      have hlb := sumOf_le (loOf W.springs) (lo_bd hspr) (el (pureN W ||| k))
      have hll := el_len (pureN W ||| k)
      have HORC := Lib.hid (Nat.or_comm (pureN W) k)
      go_wp2_with fail
      refine (sum_any _ _ _ _ W k _ hn8 hk8 hspr (HIN.out.ext (HW3.out.trans HB5.out)).1).mono ?_
      rintro e w6 ⟨rfl, hb6⟩
      (replace f0 := ((bcell hb6).1 _ 0 hz).trans f0; replace f1 := ((bcell hb6).1 _ 1 hz).trans f1; replace f2 := ((bcell hb6).1 _ 2 hz).trans f2; replace f3 := ((bcell hb6).1 _ 3 hz).trans f3; replace f4 := ((bcell hb6).1 _ 4 hz).trans f4; replace hz := Nat.lt_of_lt_of_le hz (Below.size hb6))
      have HB6 := Lib.hid (HB5.out.trans hb6)
      clear hb6
      have hfb := sumOf_le (fuelOf W.springs) (fuel_bd hspr) (el k)
      have hfl := el_len k
      have HOK1 := Lib.hid (okS_false1 (W := W) (need := need) (k := k))
      have HOK2 := Lib.hid (okS_false2 (W := W) (need := need) (k := k))
      have HOK3 := Lib.hid (okS_true (W := W) (need := need) (k := k))
      rw [Nat.or_comm k] at HOK2 HOK3
      have HBAT := Lib.hid (show (batOf W k).fuel = sumOf (fuelOf W.springs) (el k) from rfl)
      generalize sumOf (loOf W.springs) (el (pureN W ||| k)) = lit at *
      generalize sumOf (fuelOf W.springs) (el k) = cost at *
      by_cases h1 : k &&& pureN W = 0
      rotate_left
      · have y1 : (((k &&& pureN W : Nat) : Int) != 0) = true := by simp; omega
        have HS := Lib.hid (refS_no (HOK1.out (by simpa using h1)))
        clear h1
        go_wp2_with fail
        go_roundg (gk - 1)
        case measure => have := HKG.out; omega
        case rel => exact ⟨k + 1, by have := HKG.out; omega, by go_num, by rw [HS.out], by rw [HS.out], HB6.out⟩
      have y1 : (((k &&& pureN W : Nat) : Int) != 0) = false := by simp [h1]
      by_cases h2 : lit < need
      · have HS := Lib.hid (refS_no (HOK2.out (by omega)))
        clear h1
        go_wp2_with fail
        go_roundg (gk - 1)
        case measure => have := HKG.out; omega
        case rel => exact ⟨k + 1, by have := HKG.out; omega, by go_num, by rw [HS.out], by rw [HS.out], HB6.out⟩
      have HOK := Lib.hid (HOK3.out (by simpa using h1) (by omega))
      clear h1
      rcases hr : refS W need k with _ | m
      · have HS := Lib.hid (refS_first HOK.out hr)
        clear hr
        dsimp only [bI, bF]
        go_wp2_with fail
        go_roundg (gk - 1)
        case measure => have := HKG.out; omega
        case rel => exact ⟨k + 1, by have := HKG.out; omega, by go_num, by rw [HS.out]; rfl, by rw [HS.out]; exact val_int HBAT.out.symm, HB6.out⟩
      · obtain ⟨hm1, hsx⟩ := refS_next HOK.out hr
        rw [HBAT.out] at hsx
        have HS := Lib.hid hsx
        clear hr hsx
        have hp1 := pcTo_le k 8
        have hp2 := pcTo_le m.set 8
        have hm8 : m.set < 256 := by omega
        have HPC := Lib.hid (show pcTo k 8 = pc k ∧ pcTo m.set 8 = pc m.set from ⟨rfl, rfl⟩)
        rw [HPC.out.1] at hp1
        rw [HPC.out.2] at hp2
        dsimp only [bI, bF]
        have z0 : ¬ (m.set : Int) < 0 := by omega
        rcases Int.lt_trichotomy cost m.fuel with h3 | h3 | h3
        · have HT := Lib.hid (HS.out.trans (if_pos (.inl h3)))
          go_wp2_with fail
          go_roundg (gk - 1)
          case measure => have := HKG.out; omega
          case rel => exact ⟨k + 1, by have := HKG.out; omega, by go_num, by rw [HT.out]; rfl, by rw [HT.out]; exact val_int HBAT.out.symm, HB6.out⟩
        · have y3 : (cost == m.fuel) = true := by simp [h3]
          have y4 : ¬ cost < m.fuel := by omega
          by_cases h4 : pc k < pc m.set
          · have HT := Lib.hid (HS.out.trans (if_pos (.inr ⟨h3, h4⟩)))
            have y5 : decide ((pc k : Int) < (pc m.set : Int)) = true := decide_eq_true (by omega)
            clear h3
            go_wp2_with fail
            refine (size_any k _ (by omega)).mono ?_
            rintro e w7 ⟨rfl, rfl⟩
            go_wp2_with fail
            refine (size_any m.set _ (by omega)).mono ?_
            rintro e w7 ⟨rfl, rfl⟩
            go_wp2_with fail
            go_roundg (gk - 1)
            case measure => have := HKG.out; omega
            case rel => exact ⟨k + 1, by have := HKG.out; omega, by go_num, by rw [HT.out]; rfl, by rw [HT.out]; exact val_int HBAT.out.symm, HB6.out⟩
          · have HT := Lib.hid (HS.out.trans (if_neg (by omega)))
            have y5 : decide ((pc k : Int) < (pc m.set : Int)) = false := decide_eq_false (by omega)
            clear h3
            go_wp2_with fail
            refine (size_any k _ (by omega)).mono ?_
            rintro e w7 ⟨rfl, rfl⟩
            go_wp2_with fail
            refine (size_any m.set _ (by omega)).mono ?_
            rintro e w7 ⟨rfl, rfl⟩
            go_wp2_with fail
            go_roundg (gk - 1)
            case measure => have := HKG.out; omega
            case rel => exact ⟨k + 1, by have := HKG.out; omega, by go_num, by rw [HT.out]; rfl, by rw [HT.out]; rfl, HB6.out⟩
        · have HT := Lib.hid (HS.out.trans (if_neg (by omega)))
          have y3 : (cost == m.fuel) = false := by simp; omega
          have y4 : ¬ cost < m.fuel := by omega
          go_wp2_with fail
          go_roundg (gk - 1)
          case measure => have := HKG.out; omega
          case rel => exact ⟨k + 1, by have := HKG.out; omega, by go_num, by rw [HT.out]; rfl, by rw [HT.out]; rfl, HB6.out⟩
    · obtain rfl : k = 2 ^ W.springs.length := by omega
      have hk1 : ¬ 2 ^ W.springs.length ≤ 2 ^ W.springs.length - 1 := by omega
      have hk2 : ¬ (2 : Int) ^ W.springs.length ≤ ((2 ^ W.springs.length - 1 : Nat) : Int) := by
        have e : ((2 ^ W.springs.length : Nat) : Int) = 2 ^ W.springs.length := by simp
        omega
      rcases hr : refS W need (2 ^ W.springs.length) with _ | m
      · have HV := Lib.hid (serveV_is none hr)
        clear hr
        dsimp only [bI, bF]
        go_wp2_with fail
        refine (all_any _ _ _ _ _ _ _ _ _ _ hn30).mono ?_
        rintro e w4 ⟨rfl, hb4⟩
        rw [← HFC.out]
        go_wp2_with fail
        rw [HV.out]
        exact bodyPost_ret (v := .tuple #[.int .i64 0, .int .i64 0, .int .i64 0, .int .i64 3]) (by simp only [results, Tryd.results34]; go_simp) rfl ⟨rfl, (HW3.out.trans HB.out).trans hb4⟩
      · have HV := Lib.hid (serveV_is (some m) hr)
        clear hr
        dsimp only [bI, bF]
        have z0 : ¬ (m.set : Int) < 0 := by omega
        go_wp2_with fail
        refine (all_any _ _ _ _ _ _ _ _ _ _ hn30).mono ?_
        rintro e w4 ⟨rfl, hb4⟩
        rw [← HFC.out]
        go_wp2_with fail
        rw [HV.out]
        exact bodyPost_ret (v := .tuple #[.int .i64 (pureN W), .int .i64 (m.set : Int), .int .i64 m.fuel, .int .i64 0]) (by simp only [results, Tryd.results34]; go_simp) rfl ⟨rfl, (HW3.out.trans HB.out).trans hb4⟩
theorem refServe_u (As Am : Option Addr) (cs cm : Nat) (W : Water) (need : Int) (w : World) (hin : WaterIn w As Am W) (hn : W.springs.length ≤ 30) (hm : W.samples.length ≤ 1000000) :
    Calls Tryd.prog 34 #[wvW As Am cs cm W, .int .i64 need] w fun e w' => e = .returned (serveU W need) ∧ Ext w w' := by
  by_cases hE : openE W (withinB need 0 10000) = 0
  · rw [serveU, if_pos hE]; exact refServe_ok As Am cs cm W need w hin hm hE
  · rw [serveU, if_neg hE]; exact refServe_err As Am cs cm W need w hin hn hm hE
end Go.Proofs.YtabcmnfofekeeaaDoor
