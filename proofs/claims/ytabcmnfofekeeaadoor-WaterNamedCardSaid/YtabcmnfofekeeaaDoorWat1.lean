/- The data of the water layer, plain facts on sets of springs, and the contracts of the reference's first functions. -/
import Derived.Test.YtabcmnfofekeeaaDoorBase
import Derived.Test.YtabcmnfofekeeaaDoorProg
namespace Go.Proofs.YtabcmnfofekeeaaDoor
open Go Go.Proofs Go.RowKit
set_option maxHeartbeats 400000
set_option maxRecDepth 20000

structure Spring where
  lo : Int
  hi : Int
  fuel : Int
structure Sample where
  mix : Int
  foul : Bool
structure Water where
  springs : List Spring
  most : Int
  misses : Int
  alarms : Int
  samples : List Sample
def sprC (s : Spring) : List Value := [.int .i64 s.lo, .int .i64 s.hi, .int .i64 s.fuel]
def samC (s : Sample) : List Value := [.int .i64 s.mix, .bool s.foul]
theorem sprC_len (s : Spring) : (sprC s).length = 3 := rfl
theorem samC_len (s : Sample) : (samC s).length = 2 := rfl

/-! ### Numbers and bits -/
theorem i64_and_nat (a b : Nat) (ha : a < 4294967296) (hb : b < 4294967296) : bits .and .i64 (a : Int) (b : Int) = ((a &&& b : Nat) : Int) := by
  have hx : a &&& b < 2 ^ 32 := Nat.and_lt_two_pow _ (by omega)
  show IntKind.i64.wrap ((BitVec.ofInt 64 (a : Int) &&& BitVec.ofInt 64 (b : Int)).toNat : Int) = _
  rw [BitVec.toNat_and, ofInt_u64 a (by omega), ofInt_u64 b (by omega), IntKind.wrap_i64]
  omega
theorem i64_or_nat (a b : Nat) (ha : a < 4294967296) (hb : b < 4294967296) : bits .or .i64 (a : Int) (b : Int) = ((a ||| b : Nat) : Int) := by
  have hx : a ||| b < 2 ^ 32 := Nat.or_lt_two_pow (by omega) (by omega)
  show IntKind.i64.wrap ((BitVec.ofInt 64 (a : Int) ||| BitVec.ofInt 64 (b : Int)).toNat : Int) = _
  rw [BitVec.toNat_or, ofInt_u64 a (by omega), ofInt_u64 b (by omega), IntKind.wrap_i64]
  omega
theorem w64 (n : Int) (h1 : -9223372036854775808 ≤ n) (h2 : n ≤ 9223372036854775807) : wrap64 n = n := by unfold wrap64; omega
theorem pow_le30 {n : Nat} (h : n ≤ 30) : (1 : Int) ≤ 2 ^ n ∧ (2 : Int) ^ n ≤ 1073741824 := by
  have h1 : (2 : Nat) ^ n ≤ 2 ^ 30 := Nat.pow_le_pow_right (by omega) h
  have h2 : 0 < (2 : Nat) ^ n := Nat.pow_pos (by omega)
  have e : ((2 ^ n : Nat) : Int) = (2 : Int) ^ n := by simp
  omega
theorem all_num {n : Nat} (h : n ≤ 30) : wrap64 (wrap64 (2 ^ n) - 1) = 2 ^ n - 1 := by
  have := pow_le30 h
  rw [w64 (2 ^ n) (by omega) (by omega), w64 _ (by omega) (by omega)]

/-- How many springs a set has. -/
def pcTo (s k : Nat) : Nat := (List.range k).countP fun i => s.testBit i
def pc (s : Nat) : Nat := pcTo s 8
theorem pcTo_succ (s k : Nat) : pcTo s (k + 1) = pcTo s k + s / 2 ^ k % 2 := by
  unfold pcTo
  rw [List.range_succ, List.countP_append]
  simp only [List.countP_cons, List.countP_nil, Nat.zero_add, Nat.testBit_eq_decide_div_mod_eq, decide_eq_true_eq]
  have : s / 2 ^ k % 2 < 2 := Nat.mod_lt _ (by omega)
  split <;> simp_all <;> omega
theorem pcTo_le (s k : Nat) : pcTo s k ≤ k := by
  unfold pcTo; have := List.countP_le_length (p := fun i => s.testBit i) (l := List.range k); simpa using this
theorem bit_num (s k : Nat) (hs : s < 4294967296) : bits .and .i64 ((s : Int) / 2 ^ k) 1 = ((s / 2 ^ k % 2 : Nat) : Int) := by
  have e : (s : Int) / 2 ^ k = ((s / 2 ^ k : Nat) : Int) := by simp
  have hd : s / 2 ^ k ≤ s := Nat.div_le_self _ _
  rw [e, show (1 : Int) = ((1 : Nat) : Int) from rfl, i64_and_nat _ _ (by omega) (by omega), nat_mask1]

def meetsI (a b : Int) : Bool := bits BinOp.and IntKind.i64 a b != 0
theorem meetsI_nat (a b : Nat) (ha : a < 4294967296) (hb : b < 4294967296) : meetsI a b = (a &&& b != 0) := by
  unfold meetsI
  rw [i64_and_nat a b ha hb, Bool.eq_iff_iff]
  simp
def missN (l : List Sample) (t : Int) : Nat := l.countP fun s => meetsI s.mix t && !s.foul
def alarmN (l : List Sample) (t : Int) : Nat := l.countP fun s => !meetsI s.mix t && s.foul
theorem missN_le (l : List Sample) (t : Int) : missN l t ≤ l.length := List.countP_le_length
theorem alarmN_le (l : List Sample) (t : Int) : alarmN l t ≤ l.length := List.countP_le_length
theorem missN_succ (l : List Sample) (t : Int) (k : Nat) (h : k < l.length) : missN (l.take (k + 1)) t = missN (l.take k) t + (if (meetsI l[k].mix t && !l[k].foul) = true then 1 else 0) := by
  rw [List.take_succ_eq_append_getElem h]; unfold missN; rw [List.countP_append, List.countP_cons, List.countP_nil, Nat.zero_add]
theorem alarmN_succ (l : List Sample) (t : Int) (k : Nat) (h : k < l.length) : alarmN (l.take (k + 1)) t = alarmN (l.take k) t + (if (!meetsI l[k].mix t && l[k].foul) = true then 1 else 0) := by
  rw [List.take_succ_eq_append_getElem h]; unfold alarmN; rw [List.countP_append, List.countP_cons, List.countP_nil, Nat.zero_add]

/-! ### Contracts -/
def withinB (n lo hi : Int) : Bool := decide (lo ≤ n) && decide (n ≤ hi)
theorem withinB_true {n lo hi : Int} (h : withinB n lo hi = true) : lo ≤ n ∧ n ≤ hi := by unfold withinB at h; simpa using h
theorem withinB_mk {n lo hi : Int} (h : lo ≤ n ∧ n ≤ hi) : withinB n lo hi = true := by unfold withinB; simpa using h
theorem within_any (n lo hi : Int) (w : World) : Calls Tryd.prog 42 #[.int .i64 n, .int .i64 lo, .int .i64 hi] w fun e w' => e = .returned (.bool (withinB n lo hi)) ∧ w = w' := by
  go_enter Tryd.func42, Tryd.ntmps42
  go_wp2
  · have h : lo ≤ n := by assumption
    go_ret
    exact ⟨ret_bool (by simp [withinB, h]), rfl⟩
  · have h : n < lo := by assumption
    have h' : ¬ lo ≤ n := by omega
    go_ret
    exact ⟨ret_bool (by simp [withinB, h']), rfl⟩

theorem within_is (n lo hi : Int) {b : Bool} (h : withinB n lo hi = b) (w : World) : Calls Tryd.prog 42 #[.int .i64 n, .int .i64 lo, .int .i64 hi] w fun e w' => e = .returned (.bool b) ∧ w = w' := by
  rw [← h]; exact within_any n lo hi w

theorem all_any (As Am : Option Addr) (n cs m cm : Nat) (most misses alarms : Int) (w : World) (hn : n ≤ 30) :
    Calls Tryd.prog 19 #[.agg #[.slice As n cs, .int .i64 most, .int .i64 misses, .int .i64 alarms, .slice Am m cm]] w fun e w' => e = .returned (.int .i64 (2 ^ n - 1)) ∧ Ext w w' := by
  have h := all_num hn
  have H := Lib.hid h
  clear h
  go_enter Tryd.func19, Tryd.ntmps19
  go_wp2
  go_ret
  exact ⟨ret_int H.out, (Ext.refl w).alloc _⟩

theorem isMix_any (As Am : Option Addr) (n cs m cm : Nat) (most misses alarms x : Int) (w : World) (hn : n ≤ 30) :
    Calls Tryd.prog 22 #[.agg #[.slice As n cs, .int .i64 most, .int .i64 misses, .int .i64 alarms, .slice Am m cm], .int .i64 x] w fun e w' => e = .returned (.bool (withinB x 1 (2 ^ n - 1))) ∧ Ext w w' := by
  go_enter Tryd.func22, Tryd.ntmps22
  go_wp2_with (first
    | (go_at_call 19; refine (all_any _ _ _ _ _ _ _ _ _ _ hn).mono ?_; rintro e w1 ⟨rfl, hb⟩)
    | (go_at_call 42; refine (within_any _ _ _ _).mono ?_; rintro e w1 ⟨rfl, rfl⟩))
  go_ret
  exact ⟨rfl, ((Ext.refl w).alloc _).trans hb⟩

theorem size_any (s : Nat) (w : World) (hs : s < 4294967296) : Calls Tryd.prog 53 #[.int .i64 s] w fun e w' => e = .returned (.int .i64 (pc s)) ∧ w = w' := by
  go_enter Tryd.func53, Tryd.ntmps53
  go_wp2
  go_loop [3, 4] (fun n i => ∃ k : Nat, k ≤ 8 ∧ i = .int .i64 k ∧ n = .int .i64 (pcTo s k)) (fun _ i => 8 - (intOf i).toNat)
  case atStart => exact ⟨0, by omega, rfl, rfl⟩
  case round =>
    obtain ⟨k, hk, rfl, rfl⟩ := hrel
    have hle := pcTo_le s k
    have hm : s / 2 ^ k % 2 < 2 := Nat.mod_lt _ (by omega)
    have H := Lib.hid (bit_num s k hs)
    have HS := Lib.hid (pcTo_succ s k)
    by_cases hlt : k < 8
    · go_wp2
      go_round
      case rel => exact ⟨k + 1, by omega, by go_num, val_int (by rw [H.out, HS.out, w64 _ (by omega) (by omega)]; push_cast; rfl)⟩
      case measure => simp [intOf]; omega
    · obtain rfl : k = 8 := by omega
      go_wp2
      go_ret
      exact ⟨rfl, rfl⟩
end Go.Proofs.YtabcmnfofekeeaaDoor
