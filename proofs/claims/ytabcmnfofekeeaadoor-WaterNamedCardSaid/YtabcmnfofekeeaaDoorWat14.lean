import Derived.Test.YtabcmnfofekeeaaDoorWat13
import Derived.Test.YtabcmnfofekeeaaDoorRange
namespace Go.Proofs.YtabcmnfofekeeaaDoor
open Go Go.Proofs Go.RowKit Go.Shelf
set_option maxHeartbeats 800000
set_option maxRecDepth 20000
attribute [local go_sem] Oper.semAt_some

/-- The number of trailing zeros of a set that is not empty. -/
def tz (s : Nat) : Nat := if s % 2 = 1 then 0 else if s % 4 = 2 then 1 else if s % 8 = 4 then 2 else if s % 16 = 8 then 3 else if s % 32 = 16 then 4 else if s % 64 = 32 then 5 else if s % 128 = 64 then 6 else 7
theorem tz_lt (s : Nat) : tz s < 8 := by unfold tz; repeat' split <;> try omega
/-- Where the library's table holds k. -/
def jj (k : Nat) : Nat := 2 ^ k * 285870213051353865 % 18446744073709551616 / 288230376151711744
theorem jj_lt (k : Nat) (hk : k < 8) : jj k < 64 := by revert k; decide +kernel
theorem low_is (s : Nat) : s < 256 → 0 < s → bits BinOp.and IntKind.u64 (s : Int) (IntKind.u64.wrap (-(s : Int))) = ((2 ^ tz s : Nat) : Int) := by
  revert s; decide +kernel
theorem low_index (k : Nat) : k < 8 → IntKind.u64.wrap (((2 ^ k : Nat) : Int) * 285870213051353865) / 288230376151711744 = ((jj k : Nat) : Int) := by
  revert k; decide +kernel
theorem tz_index (s : Nat) (hs : s < 256) (h0 : 0 < s) : IntKind.u64.wrap (bits BinOp.and IntKind.u64 (s : Int) (IntKind.u64.wrap (-(s : Int))) * 285870213051353865) / 288230376151711744 = ((jj (tz s) : Nat) : Int) := by
  rw [low_is s hs h0]; exact low_index _ (tz_lt s)
/-- The library's table of math/bits, as far as it is read here. -/
def TabIn (w : World) : Prop := 1 < w.heap.size ∧ ∀ k, k < 8 → w.cell? ⟨1, jj k, none⟩ = some (.int .u8 (k : Int))
theorem TabIn.ext {w w' : World} (h : TabIn w) (he : Ext w w') : TabIn w' :=
  ⟨Nat.lt_of_lt_of_le h.1 he.size, fun k hk => ((bcell he).1 _ _ h.1).trans (h.2 k hk)⟩
theorem tz64_core (s k idx : Nat) (w : World) (hs0 : ((s : Int) == 0) = false)
    (hE : IntKind.u64.wrap (bits BinOp.and IntKind.u64 (s : Int) (IntKind.u64.wrap (-(s : Int))) * 285870213051353865) / 288230376151711744 = (idx : Int))
    (hj : idx < 64) (hk : k < 8) (hc : w.cell? ⟨1, idx, none⟩ = some (.int .u8 (k : Int))) :
    Calls Tryd.prog 101 #[.int .u64 s] w fun e w' => e = .returned (.int .i64 k) ∧ w = w' := by
  go_enter Tryd.func101, Tryd.ntmps101
  go_wp2_with fail
  go_ret
  exact ⟨rfl, rfl⟩
theorem tz64_any (s : Nat) (w : World) (hs : s < 256) (h0 : 0 < s) (ht : TabIn w) : Calls Tryd.prog 101 #[.int .u64 s] w fun e w' => e = .returned (.int .i64 (tz s)) ∧ w = w' :=
  tz64_core s (tz s) (jj (tz s)) w (by simp; omega) (tz_index s hs h0) (jj_lt (tz s) (tz_lt s)) (tz_lt s) (ht.2 (tz s) (tz_lt s))
theorem tzs_any (s : Nat) (w : World) (hs : s < 256) (h0 : 0 < s) (ht : TabIn w) : Calls Tryd.prog 85 #[.int .u64 s] w fun e w' => e = .returned (.int .i64 (tz s)) ∧ w = w' := by
  have hs0 : (0 : Int) ≤ s := by omega
  go_enter Tryd.func85, Tryd.ntmps85
  go_wp2_with (go_at_call 101; refine (tz64_any _ _ hs h0 ht).mono ?_; rintro e w1 ⟨rfl, rfl⟩)
  go_ret
  exact ⟨rfl, rfl⟩

/-! ### The elements of a set -/
def el (s : Nat) : List Nat := (List.range 8).filter fun i => s.testBit i
theorem el_step (r : Nat) : r < 256 → 0 < r → el r = tz r :: el (r &&& (r - 1)) := by
  revert r; decide +kernel
theorem el_zero : el 0 = [] := by decide
theorem low_lt (r : Nat) (h : 0 < r) : r &&& (r - 1) < r := by
  have : r &&& (r - 1) ≤ r - 1 := Nat.and_le_right
  omega
def ARel (w : World) (s : Nat) (J : Nat → World → Prop) (v : Value) (wr : World) : Prop :=
  ∃ k r : Nat, r < 256 ∧ v = .int .u64 r ∧ k ≤ (el s).length ∧ (el s).drop k = el r ∧ J k wr ∧ Below w.heap.size w wr
theorem all_iter (s : Nat) (hs : s < 256) (w : World) (ht : TabIn w) : IterOK Tryd.prog 73 #[.int .u64 s] #[] (fun i : Nat => #[.int .i64 (i : Int)]) (el s) w := by
  intro lp J Jx W hW hJ hJx hY h0
  have HJE := Lib.hid hJ
  have HY := Lib.hid hY
  clear hJ hJx hY
  refine (callsIn_wide (n := 1)).1 ?_
  refine callsIn_of_wp Tryd.func73 rfl trivial ?_ rfl
  simp only [Tryd.ntmps73, List.size_toArray, List.length_cons, List.length_nil, Nat.reduceAdd, Nat.reduceSub, Array.replicate_succ, Array.replicate_zero, List.push_toArray, List.append_toArray, List.nil_append, List.cons_append]
  gi_wp2_with fail
  gi_loopw [0] (fun v wr => ARel w s J v wr) (fun v _ => (intOf v).toNat)
  case atStart => exact ⟨0, s, hs, rfl, by omega, rfl, h0, hW⟩
  case round =>
    obtain ⟨k, r, hr, rfl, hkl, hd, hj, hb⟩ := hrel
    have htw := ht.2
    by_cases h0 : 0 < r
    · have hst := el_step r hr h0
      rw [← hd] at hst
      have hk : k < (el s).length := by
        rcases Nat.lt_or_ge k (el s).length with h | h
        · exact h
        · rw [List.drop_eq_nil_of_le h] at hst; cases hst
      rw [List.drop_eq_getElem_cons hk] at hst
      injection hst with h1 h2
      obtain ⟨fn, tmps, assign, body, hy, hR⟩ := HY.out k hk wr hj hb
      rw [h1] at hy
      try dsimp only at hy
      have hl := low_lt r h0
      have hr1 : ((r : Int) == 0) = false := by simp; omega
      have hr2 : ((r : Int) != 0) = true := by simp; omega
      have hr3 : (1 : Int) ≤ r := by omega
      have HA := Lib.hid (u64_and_nat r (r - 1) (by omega) (by omega))
      have HD := Lib.hid hd
      have H2 := Lib.hid h2
      have htb : TabIn wr := ⟨Nat.lt_of_lt_of_le ht.1 hb.size, fun k hk => ((bcell hb).1 _ _ ht.1).trans (ht.2 k hk)⟩
      clear hd h1 h2 htw
      gi_wp2_with fail
      refine ⟨trivial, ?_⟩
      refine (callsIn_wide.2 (tzs_any r _ hr h0 htb)).mono ?_
      rintro e w1 ⟨rfl, rfl⟩
      gi_wp2_with fail
      refine hR.mono ?_
      rintro e w3 (⟨rfl, hj3, hk3⟩ | ⟨rfl, hj3⟩)
      · gi_wp2_with fail
        have hcast : ((r - 1 : Nat) : Int) = (r : Int) - 1 := by omega
        have hbits : bits .and .u64 (r : Int) ((r : Int) - 1) = ((r &&& (r - 1) : Nat) : Int) := by rw [← hcast]; exact HA.out
        go_roundw
        case rel => exact ⟨k + 1, r &&& (r - 1), by omega, val_int hbits, by omega, H2.out, hj3, hb.trans hk3⟩
        case measure => rw [hbits]; simp [intOf]; omega
      · gi_wp2_with fail
        refine bodyPost_ret (results_none rfl _ _ _) rfl ?_
        exact ⟨⟨_, rfl⟩, .inr hj3⟩
    · obtain rfl : r = 0 := by omega
      have hke : k = (el s).length := by
        rw [el_zero] at hd
        have := List.drop_eq_nil_iff.1 hd
        omega
      have HK := Lib.hid hke
      clear hke hd
      gi_wp2_with fail
      go_end0
      exact ⟨⟨_, rfl⟩, .inl (by rw [← HK.out]; exact hj)⟩
end Go.Proofs.YtabcmnfofekeeaaDoor
