/- The contracts of Possible, Far, Check and valid. -/
import Derived.Test.YtabcmnfofekeeaaDoorWat1
namespace Go.Proofs.YtabcmnfofekeeaaDoor
open Go Go.Proofs Go.RowKit
set_option maxHeartbeats 400000
set_option maxRecDepth 20000

/-- The value of water. -/
abbrev wv (As Am : Option Addr) (n cs m cm : Nat) (most misses alarms : Int) : Value := .agg #[.slice As n cs, .int .i64 most, .int .i64 misses, .int .i64 alarms, .slice Am m cm]

def possI (n : Nat) (most misses alarms : Int) (l : List Sample) (t : Int) : Bool :=
  withinB t 0 (2 ^ n - 1) && decide ((pc t.toNat : Int) ≤ most) && decide ((missN l t : Int) ≤ misses) && decide ((alarmN l t : Int) ≤ alarms)

theorem possible_any (As Am A : Option Addr) (n cs m cm c : Nat) (most misses alarms : Int) (l : List Sample) (t : Int) (w : World) (hn : n ≤ 30) (hl : l.length ≤ 1073741824)
    (hs : SlOf samC 2 w w.heap.size A l) :
    Calls Tryd.prog 25 #[wv As Am n cs m cm most misses alarms, .slice A l.length c, .int .i64 t] w fun e w' => e = .returned (.bool (possI n most misses alarms l t)) ∧ Ext w w' := by
  go_enter Tryd.func25, Tryd.ntmps25
  go_wp2
  go_loopg [7, 8, 9] l.length (fun g mi al i wr => ∃ k : Nat, k + g = l.length ∧ i = .int .i64 k ∧ mi = .int .i64 (missN (l.take k) t) ∧ al = .int .i64 (alarmN (l.take k) t) ∧ wr = w.alloc (.cells #[.slice As n cs, .int .i64 most, .int .i64 misses, .int .i64 alarms, .slice Am m cm] 25))
  case atStart => exact ⟨0, by omega, rfl, rfl, rfl, rfl⟩
  case round =>
    obtain ⟨k, hk, rfl, rfl, rfl, rfl⟩ := hrel
    have HK : k ≤ l.length := by omega
    have HKG := Lib.hid hk
    clear hk
    have hle := missN_le (l.take k) t
    have hle2 := alarmN_le (l.take k) t
    have htl : (l.take k).length ≤ k := List.length_take_le _ _
    by_cases hlt : k < l.length
    · obtain ⟨b, off, rfl, hb, hc⟩ := hs.at_ samC_len hlt
      have c0 := hc 0 _ (by omega) rfl
      have c1 := hc 1 _ (by omega) rfl
      clear hc
      simp only [Nat.add_zero] at c0
      have M := Lib.hid (missN_succ l t k hlt)
      have N := Lib.hid (alarmN_succ l t k hlt)
      cases hf : l[k].foul <;> cases hm : (meetsI l[k].mix t)
      all_goals
        rw [hf] at c1
        rw [hf, hm] at M N
        unfold meetsI at hm
        have HF := Lib.hid hf
        clear hf
        go_wp2
        go_roundg (gk - 1)
        case measure => have := HKG.out; omega
        case rel => exact ⟨k + 1, by have := HKG.out; omega, by go_num, val_int (by rw [M.out]; simp), val_int (by rw [N.out]; simp), rfl⟩
    · obtain rfl : k = l.length := by omega
      rw [List.take_length] at *
      cases hw : withinB t 0 (2 ^ n - 1)
      · have hfin : possI n most misses alarms l t = false := by simp [possI, hw]
        have HF := Lib.hid hfin
        clear hfin
        go_wp2_with fail
        (refine wp_region_ext (by kernel_rfl) (by kernel_rfl) (fun hX => ?_); (repeat (go_big_quiet_step ((first | (go_at_call 19; exact quiet_ext (all_any _ _ _ _ _ _ _ _ _ _ hn)) | (go_at_call 42; exact quiet_same (within_is _ _ _ hw _)))))); refine wpQuiet_nil ?_; rintro _ ⟨⟨w1, hb1⟩, rfl⟩; (try dsimp only))
        go_wp2
        go_ret
        exact ⟨ret_bool HF.out.symm, ((Ext.refl w).alloc _).trans hb1⟩
      · obtain ⟨t, rfl⟩ := Int.eq_ofNat_of_zero_le (withinB_true hw).1
        have hpw := pow_le30 hn
        have ht : t < 4294967296 := by have := (withinB_true hw).2; omega
        have hft : possI n most misses alarms l (t : Int) = (withinB t 0 (2 ^ n - 1) && decide ((pc (t : Int).toNat : Int) ≤ most) && decide ((missN l t : Int) ≤ misses) && decide ((alarmN l t : Int) ≤ alarms)) := rfl
        have HFT := Lib.hid hft
        clear hft
        by_cases h1 : (pc t : Int) ≤ most
        · by_cases h2 : (missN l t : Int) ≤ misses
          · by_cases h3 : (alarmN l t : Int) ≤ alarms
            · have HF := Lib.hid (show possI n most misses alarms l t = true by rw [HFT.out]; simp [hw, h1, h2, h3])
              clear hpw
              go_wp2_with fail
              (refine wp_region_ext (by kernel_rfl) (by kernel_rfl) (fun hX => ?_); (repeat (go_big_quiet_step ((first | (go_at_call 19; exact quiet_ext (all_any _ _ _ _ _ _ _ _ _ _ hn)) | (go_at_call 42; exact quiet_same (within_is _ _ _ hw _)) | (go_at_call 53; exact quiet_same (size_any _ _ ht)))))); refine wpQuiet_nil ?_; rintro _ ⟨⟨w1, hb1⟩, rfl⟩; (try dsimp only))
              go_wp2
              go_ret
              exact ⟨ret_bool HF.out.symm, ((Ext.refl w).alloc _).trans hb1⟩
            · have HF := Lib.hid (show possI n most misses alarms l t = false by rw [HFT.out]; simp [h3])
              have h3' : decide ((alarmN l t : Int) ≤ alarms) = false := by simpa using h3
              clear hpw
              go_wp2_with fail
              (refine wp_region_ext (by kernel_rfl) (by kernel_rfl) (fun hX => ?_); (repeat (go_big_quiet_step ((first | (go_at_call 19; exact quiet_ext (all_any _ _ _ _ _ _ _ _ _ _ hn)) | (go_at_call 42; exact quiet_same (within_is _ _ _ hw _)) | (go_at_call 53; exact quiet_same (size_any _ _ ht)))))); refine wpQuiet_nil ?_; rintro _ ⟨⟨w1, hb1⟩, rfl⟩; (try dsimp only))
              go_wp2
              go_ret
              exact ⟨ret_bool HF.out.symm, ((Ext.refl w).alloc _).trans hb1⟩
          · have HF := Lib.hid (show possI n most misses alarms l t = false by rw [HFT.out]; simp [h2])
            have h2' : decide ((missN l t : Int) ≤ misses) = false := by simpa using h2
            clear hpw
            go_wp2_with fail
            (refine wp_region_ext (by kernel_rfl) (by kernel_rfl) (fun hX => ?_); (repeat (go_big_quiet_step ((first | (go_at_call 19; exact quiet_ext (all_any _ _ _ _ _ _ _ _ _ _ hn)) | (go_at_call 42; exact quiet_same (within_is _ _ _ hw _)) | (go_at_call 53; exact quiet_same (size_any _ _ ht)))))); refine wpQuiet_nil ?_; rintro _ ⟨⟨w1, hb1⟩, rfl⟩; (try dsimp only))
            go_wp2
            go_ret
            exact ⟨ret_bool HF.out.symm, ((Ext.refl w).alloc _).trans hb1⟩
        · have HF := Lib.hid (show possI n most misses alarms l t = false by rw [HFT.out]; simp [h1])
          have h1' : decide ((pc t : Int) ≤ most) = false := by simpa using h1
          clear hpw
          go_wp2_with fail
          (refine wp_region_ext (by kernel_rfl) (by kernel_rfl) (fun hX => ?_); (repeat (go_big_quiet_step ((first | (go_at_call 19; exact quiet_ext (all_any _ _ _ _ _ _ _ _ _ _ hn)) | (go_at_call 42; exact quiet_same (within_is _ _ _ hw _)) | (go_at_call 53; exact quiet_same (size_any _ _ ht)))))); refine wpQuiet_nil ?_; rintro _ ⟨⟨w1, hb1⟩, rfl⟩; (try dsimp only))
          go_wp2
          go_ret
          exact ⟨ret_bool HF.out.symm, ((Ext.refl w).alloc _).trans hb1⟩
end Go.Proofs.YtabcmnfofekeeaaDoor
