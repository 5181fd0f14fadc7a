import Derived.Test.YtabcmnfofekeeaaDoorWat2
namespace Go.Proofs.YtabcmnfofekeeaaDoor
open Go Go.Proofs Go.RowKit
set_option maxHeartbeats 400000
set_option maxRecDepth 20000

theorem between_any (n lo hi : Int) (w : World) : Calls Tryd.prog 46 #[.int .i64 n, .int .i64 lo, .int .i64 hi] w fun e w' => e = .returned (.bool (withinB n lo hi)) ∧ w = w' := by
  go_enter Tryd.func46, Tryd.ntmps46
  go_wp2
  · have h : lo ≤ n := by assumption
    go_ret
    exact ⟨ret_bool (by simp [withinB, h]), rfl⟩
  · have h : n < lo := by assumption
    have h' : ¬ lo ≤ n := by omega
    go_ret
    exact ⟨ret_bool (by simp [withinB, h']), rfl⟩
theorem between_is (n lo hi : Int) {b : Bool} (h : withinB n lo hi = b) (w : World) : Calls Tryd.prog 46 #[.int .i64 n, .int .i64 lo, .int .i64 hi] w fun e w' => e = .returned (.bool b) ∧ w = w' := by
  rw [← h]; exact between_any n lo hi w
theorem meets_any (s t : Nat) (w : World) (hs : s < 4294967296) (ht : t < 4294967296) : Calls Tryd.prog 47 #[.int .u64 s, .int .u64 t] w fun e w' => e = .returned (.bool (s &&& t != 0)) ∧ w = w' := by
  have hs0 : (0 : Int) ≤ s := by omega
  have hx : s &&& t < 2 ^ 32 := Nat.and_lt_two_pow _ (by omega)
  have H := Lib.hid (u64_and_nat s t (by omega) (by omega))
  go_enter Tryd.func47, Tryd.ntmps47
  go_wp2
  go_ret
  exact ⟨ret_bool (by rw [H.out, Bool.eq_iff_iff]; simp), rfl⟩
theorem oc64_any (s : Nat) (w : World) (hs : s < 256) : Calls Tryd.prog 103 #[.int .u64 s] w fun e w' => e = .returned (.int .i64 (pc s)) ∧ w = w' := by
  go_enter Tryd.func103, Tryd.ntmps103
  go_wp2
  go_ret
  refine ⟨ret_int ?_, rfl⟩
  clear w
  revert s
  decide +kernel
theorem springs_any (As Am : Option Addr) (n cs m cm : Nat) (most misses alarms : Int) (w : World) (hn : n ≤ 8) :
    Calls Tryd.prog 44 #[wv As Am n cs m cm most misses alarms] w fun e w' => e = .returned (.int .u64 ((2 ^ n - 1 : Nat) : Int)) ∧ Ext w w' := by
  go_enter Tryd.func44, Tryd.ntmps44
  go_wp2
  go_ret
  refine ⟨ret_int ?_, (Ext.refl w).alloc _⟩
  clear w
  revert n
  decide +kernel
theorem oc_any (s : Nat) (w : World) (hs : s < 256) : Calls Tryd.prog 87 #[.int .u64 s] w fun e w' => e = .returned (.int .i64 (pc s)) ∧ w = w' := by
  go_enter Tryd.func87, Tryd.ntmps87
  go_wp2_with (go_at_call 103; refine (oc64_any _ _ hs).mono ?_; rintro e w1 ⟨rfl, rfl⟩)
  go_ret
  exact ⟨rfl, rfl⟩
theorem ssize_any (s : Nat) (w : World) (hs : s < 256) : Calls Tryd.prog 76 #[.int .u64 s] w fun e w' => e = .returned (.int .i64 (pc s)) ∧ w = w' := by
  have hs0 : (0 : Int) ≤ s := by omega
  go_enter Tryd.func76, Tryd.ntmps76
  go_wp2_with (go_at_call 87; refine (oc_any _ _ hs).mono ?_; rintro e w1 ⟨rfl, rfl⟩)
  go_ret
  exact ⟨rfl, rfl⟩
theorem fmix_any (As Am : Option Addr) (n cs m cm : Nat) (most misses alarms x : Int) (w : World) (hn1 : 1 ≤ n) (hn : n ≤ 8) :
    Calls Tryd.prog 55 #[wv As Am n cs m cm most misses alarms, .int .i64 x] w fun e w' => e = .returned (.bool (withinB x 1 (2 ^ n - 1))) ∧ Ext w w' := by
  have hpw := pow_le30 (n := n) (by omega)
  have hcast : wrap64 ((2 ^ n - 1 : Nat) : Int) = 2 ^ n - 1 := by clear w x hpw hn1; revert n; decide +kernel
  have H := Lib.hid hcast
  clear hcast
  go_enter Tryd.func55, Tryd.ntmps55
  go_wp2_with (first | (go_at_call 44; refine (springs_any _ _ _ _ _ _ _ _ _ _ hn).mono ?_; rintro e w1 ⟨rfl, hb⟩) | (go_at_call 46; refine (between_any _ _ _ _).mono ?_; rintro e w1 ⟨rfl, rfl⟩))
  go_ret
  exact ⟨ret_bool (by rw [H.out]), ((Ext.refl w).alloc _).trans hb⟩
end Go.Proofs.YtabcmnfofekeeaaDoor
