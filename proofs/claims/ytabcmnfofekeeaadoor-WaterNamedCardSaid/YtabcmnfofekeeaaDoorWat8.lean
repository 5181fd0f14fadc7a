import Derived.Test.YtabcmnfofekeeaaDoorWat7
import Derived.Test.YtabcmnfofekeeaaDoorRange
import Derived.RangeFuncNested
import Derived.RangeFuncBound
import Derived.RangeFuncCalls
import Derived.RangeFuncLeaves
import Derived.RangeFuncBox
import Derived.Shelf.RegionOpen
import Derived.OwnWalkIn
import Derived.TacticsInMore
import Derived.LoopNIn
import Derived.LoopIn
namespace Go.Proofs.YtabcmnfofekeeaaDoor
open Go Go.Proofs Go.RowKit Go.Shelf
set_option maxHeartbeats 400000
set_option maxRecDepth 20000

/-- The possible truths among the first k sets, in order. -/
def truthsTo (k : Nat) (most misses alarms : Int) (l : List Sample) : List Nat := (List.range k).filter (possN most misses alarms l)
theorem truthsTo_succ (k : Nat) (most misses alarms : Int) (l : List Sample) : truthsTo (k + 1) most misses alarms l = truthsTo k most misses alarms l ++ (if possN most misses alarms l k = true then [k] else []) := by
  unfold truthsTo
  rw [List.range_succ, List.filter_append]
  by_cases h : possN most misses alarms l k = true <;> simp [h]
theorem truthsTo_prefix {k K : Nat} (h : k ≤ K) (most misses alarms : Int) (l : List Sample) : truthsTo k most misses alarms l <+: truthsTo K most misses alarms l := by
  obtain ⟨d, rfl⟩ := Nat.exists_eq_add_of_le h
  induction d with
  | zero => exact List.prefix_refl _
  | succ d ih => exact (ih (by omega)).trans (by rw [← Nat.add_assoc, truthsTo_succ]; exact List.prefix_append _ _)
theorem truthsTo_mem {k x : Nat} {most misses alarms : Int} {l : List Sample} (h : x ∈ truthsTo k most misses alarms l) : x < k := by
  unfold truthsTo at h
  simp at h
  exact h.1

/-- Of a member of a list. -/
abbrev Mem (L : List Nat) := { x : Nat // x ∈ L }
def vals {L : List Nat} (pre : List (Mem L)) : List Nat := pre.map (·.1)
theorem vals_snoc {L : List Nat} (pre : List (Mem L)) (x : Mem L) : vals (pre ++ [x]) = vals pre ++ [x.1] := by simp [vals]


/-- What holds at the head of a round of truths. -/
def TRel (w : World) (M : Nat) (most misses alarms : Int) (l : List Sample) {L : List Nat} (J : List (Mem L) → World → Prop) (v : Value) (wr : World) : Prop :=
  ∃ (k : Nat) (pre : List (Mem L)), k ≤ M + 1 ∧ v = .int .u64 k ∧ vals pre = truthsTo k most misses alarms l ∧ J pre wr ∧ Below w.heap.size w wr
theorem truths1_stops (n' : Nat) (hn' : 1 ≤ n') (b1 b2 : Nat) (As Am A : Option Addr) (n cs m cm c : Nat) (most misses alarms : Int) (l : List Sample) (w : World) (hn : n ≤ 8) (hl : l.length ≤ 1073741824)
    (h1 : BoxW w b1 As Am n cs m cm most misses alarms) (h2 : b2 < w.heap.size) (h3 : w.cell? ⟨b2, 0, none⟩ = some (.slice A l.length c))
    (hs : SlOf samC 2 w w.heap.size A l) (hmx : MixNat l) :
    SeqStopsK Fence.wide n' Tryd.prog 83 #[.pointer (some ⟨b1, 0, none⟩), .pointer (some ⟨b2, 0, none⟩)]
      (fun x : Mem (truthsTo (2 ^ n) most misses alarms l) => #[.int .u64 x.1]) (Below w.heap.size) (fun xs => vals xs = truthsTo (2 ^ n) most misses alarms l) (fun pre => vals pre <+: truthsTo (2 ^ n) most misses alarms l)
      (truthsTo (2 ^ n) most misses alarms l).length w := by
  intro lp J Jx W hW hJ hJx hY h0
  have hJe : ∀ pre W1 W2, J pre W1 → Ext W1 W2 → J pre W2 := fun pre W1 W2 hj he => hJ pre W1 W2 none hj (ext_grown he) (fun r e => by cases e)
  have HJE := Lib.hid hJe
  have HY := Lib.hid hY
  have HMX := Lib.hid hmx
  clear hJ hJx hY hmx hJe
  refine callsIn_of_wp Tryd.func83 rfl trivial ?_ rfl
  simp only [Tryd.ntmps83, List.size_toArray, List.length_cons, List.length_nil, Nat.reduceAdd, Nat.reduceSub, Array.replicate_succ, Array.replicate_zero, List.push_toArray, List.append_toArray, List.nil_append, List.cons_append]
  obtain ⟨d0, d1, d2, d3, d4, d5⟩ := h1.ext hW
  have d6 := ((bcell hW).1 b2 0 h2).trans h3
  have d7 : b2 < W.heap.size := Nat.lt_of_lt_of_le h2 hW.size
  obtain ⟨M, hM⟩ : ∃ M : Nat, 2 ^ n - 1 = M := ⟨_, rfl⟩
  have hMle : M ≤ 255 := by have : (2 : Nat) ^ n ≤ 2 ^ 8 := Nat.pow_le_pow_right (by omega) hn; omega
  have hM1 : 2 ^ n = M + 1 := by have : 0 < (2 : Nat) ^ n := Nat.pow_pos (by omega); omega
  have hM0 : (0 : Int) ≤ (M : Int) := by omega
  have HM := Lib.hid hM
  have HM1 := Lib.hid hM1
  clear hM hM1
  gi_wp2_with fail
  refine ⟨trivial, ?_⟩
  refine (callsIn_wide.2 (springs_any _ _ _ _ _ _ _ _ _ _ hn)).mono ?_
  rintro e w1 ⟨rfl, hb1⟩
  rw [HM.out]
  have hJ1 := HJE.out _ _ _ h0 hb1
  gi_wp2_with fail
  gi_loopw [8] (fun v wr => TRel w M most misses alarms l J v wr) (fun v _ => M + 1 - (intOf v).toNat)
  case atStart => exact ⟨0, [], by omega, rfl, rfl, hJ1, hW.trans (hb1.mono hW.size)⟩
  case round =>
    obtain ⟨k, pre, hk, rfl, hv, hj, hb⟩ := hrel
    have HV := Lib.hid hv
    clear hv
    obtain ⟨d0, d1, d2, d3, d4, d5⟩ := h1.ext hb
    have d6 := ((bcell hb).1 b2 0 h2).trans h3
    have d7 : b2 < wr.heap.size := Nat.lt_of_lt_of_le h2 hb.size
    by_cases hlt : k < M + 1
    · cases hp : possN most misses alarms l k
      · have HP := Lib.hid hp
        clear hp
        gi_wp2_with fail
        refine ⟨trivial, ?_⟩
        refine (callsIn_wide.2 (fpossible_any _ _ _ _ _ _ _ _ _ _ _ _ k _ (by omega) hl ((hs.below hb (Nat.le_refl _)).more hb.size) HMX.out)).mono ?_
        rintro e w2 ⟨rfl, hb2⟩
        rw [HP.out]
        have hj2 := HJE.out _ _ _ hj hb2
        gi_wp2_with fail
        refine ⟨fun _ h => (by cases h), ?_⟩
        gi_wp2_with fail
        go_roundw
        case rel => exact ⟨k + 1, pre, by omega, by go_num, by rw [HV.out, truthsTo_succ, HP.out]; simp, hj2, hb.trans (hb2.mono hb.size)⟩
        case measure => simp [intOf]; omega
      · have hmem : k ∈ truthsTo (2 ^ n) most misses alarms l := by
          rw [HM1.out]; unfold truthsTo; simp [hp]; omega
        have hlen : pre.length < (truthsTo (2 ^ n) most misses alarms l).length := by
          have h1 : pre.length = (truthsTo k most misses alarms l).length := by rw [← HV.out]; simp [vals]
          have h2 := (truthsTo_prefix (k := k + 1) (K := 2 ^ n) (by rw [HM1.out]; omega) most misses alarms l).length_le
          rw [truthsTo_succ, if_pos hp, List.length_append, List.length_singleton] at h2
          omega
        have hnew : vals (pre ++ [⟨k, hmem⟩]) = truthsTo (k + 1) most misses alarms l := by rw [vals_snoc, HV.out, truthsTo_succ, if_pos hp]
        have HP := Lib.hid hp
        have HNEW := Lib.hid hnew
        clear hp hnew
        gi_wp2_with fail
        refine ⟨trivial, ?_⟩
        refine (callsIn_wide.2 (fpossible_any _ _ _ _ _ _ _ _ _ _ _ _ k _ (by omega) hl ((hs.below hb (Nat.le_refl _)).more hb.size) HMX.out)).mono ?_
        rintro e w2 ⟨rfl, hb2⟩
        rw [HP.out]
        have hj2 := HJE.out _ _ _ hj hb2
        have hbw := hb.trans (hb2.mono hb.size)
        obtain ⟨fn, tmps, assign, body, hy, hR⟩ := HY.out pre ⟨k, hmem⟩ w2 hj2 hlen
        dsimp only at hy
        gi_wp2_with fail
        refine hR.mono ?_
        rintro e w3 (⟨rfl, hj3, hk3⟩ | ⟨rfl, hj3⟩)
        · gi_wp2_with fail
          go_roundw
          case rel => exact ⟨k + 1, _, by omega, by go_num, HNEW.out, hj3, hbw.trans hk3⟩
          case measure => simp [intOf]; omega
        · gi_wp2_with fail
          refine bodyPost_ret (results_none rfl _ _ _) rfl ?_
          exact ⟨⟨_, rfl⟩, .inr ⟨_, by rw [HNEW.out]; exact truthsTo_prefix (k := k + 1) (K := 2 ^ n) (by rw [HM1.out]; omega) _ _ _ _, hj3⟩⟩
    · obtain rfl : k = M + 1 := by omega
      gi_wp2_with fail
      go_end0
      exact ⟨⟨_, rfl⟩, .inl ⟨pre, by rw [HV.out, HM1.out], hj⟩⟩
end Go.Proofs.YtabcmnfofekeeaaDoor
