import Derived.Test.YtabcmnfofekeeaaDoorWat6
namespace Go.Proofs.YtabcmnfofekeeaaDoor
open Go Go.Proofs Go.RowKit Go.Shelf
set_option maxHeartbeats 400000
set_option maxRecDepth 20000

def possN (most misses alarms : Int) (l : List Sample) (t : Nat) : Bool :=
  decide ((pc t : Int) ≤ most) && decide ((missN l t : Int) ≤ misses) && decide ((alarmN l t : Int) ≤ alarms)
theorem possI_nat (n : Nat) (most misses alarms : Int) (l : List Sample) (t : Nat) : possI n most misses alarms l (t : Int) = (withinB t 0 (2 ^ n - 1) && possN most misses alarms l t) := by
  unfold possI possN
  simp [Bool.and_assoc]
def MixNat (l : List Sample) : Prop := ∀ s ∈ l, ∃ m : Nat, s.mix = m ∧ m < 256

theorem fpossible_any (As Am A : Option Addr) (n cs m cm c : Nat) (most misses alarms : Int) (l : List Sample) (t : Nat) (w : World) (ht : t < 256) (hl : l.length ≤ 1073741824)
    (hs : SlOf samC 2 w w.heap.size A l) (hmx : MixNat l) :
    Calls Tryd.prog 84 #[wv As Am n cs m cm most misses alarms, .int .u64 t, .slice A l.length c] w fun e w' => e = .returned (.bool (possN most misses alarms l t)) ∧ Ext w w' := by
  have ht0 : (0 : Int) ≤ t := by omega
  have HMX := Lib.hid hmx
  clear hmx
  go_enter Tryd.func84, Tryd.ntmps84
  go_wp2_with fail
  go_loopg [7, 8, 14] l.length (fun gk mi al i wr => ∃ k : Nat, k + gk = l.length ∧ i = .int .i64 k ∧ mi = .int .i64 (missN (l.take k) t) ∧ al = .int .i64 (alarmN (l.take k) t) ∧ Ext (w.alloc (.cells #[.slice As n cs, .int .i64 most, .int .i64 misses, .int .i64 alarms, .slice Am m cm] 69)) wr)
  case atStart => exact ⟨0, by omega, rfl, rfl, rfl, Ext.refl _⟩
  case round =>
    obtain ⟨k, hk, rfl, rfl, rfl, hb⟩ := hrel
    have HK : k ≤ l.length := by omega
    have HKG := Lib.hid hk
    have HB := Lib.hid hb
    clear hk
    have hle := missN_le (l.take k) t
    have hle2 := alarmN_le (l.take k) t
    have htl : (l.take k).length ≤ k := List.length_take_le _ _
    have hz : w.heap.size < wr.heap.size := by have := hb.size; simp only [World.size_alloc] at this; omega
    have hbx := fun o => (bcell hb).1 w.heap.size o (by simp)
    clear hb
    by_cases hlt : k < l.length
    · clear hbx
      obtain ⟨b, off, rfl, hbl, hc⟩ := hs.at_ samC_len hlt
      have hwr : Ext w wr := ((Ext.refl w).alloc _).trans HB.out
      have hbb := fun o => (bcell hwr).1 b o hbl
      have c0 := (hbb _).trans (hc 0 _ (by omega) rfl)
      have c1 := (hbb _).trans (hc 1 _ (by omega) rfl)
      clear hc hbb hwr
      simp only [Nat.add_zero] at c0
      obtain ⟨x, hmx, hx⟩ := HMX.out l[k] (List.getElem_mem hlt)
      have hx0 : (0 : Int) ≤ x := by omega
      have M := Lib.hid (missN_succ l t k hlt)
      have N := Lib.hid (alarmN_succ l t k hlt)
      have e1 : meetsI l[k].mix t = (t &&& x != 0) := by rw [hmx, meetsI_nat _ _ (by omega) (by omega), Nat.and_comm]
      rw [hmx] at c0
      clear hmx
      cases hf : l[k].foul <;> cases hm : (t &&& x != 0)
      all_goals
        rw [hf] at c1
        rw [hf, e1, hm] at M N
        have HF := Lib.hid hf
        have HM := Lib.hid hm
        have E1 := Lib.hid e1
        clear hf hm e1
        go_wp2_with (go_at_call 47; refine (meets_any _ _ _ (by omega) (by omega)).mono ?_; rintro e w1 ⟨rfl, rfl⟩; rw [HM.out])
        go_roundg (gk - 1)
        case measure => have := HKG.out; omega
        case rel => exact ⟨k + 1, by have := HKG.out; omega, by go_num, val_int (by rw [M.out]; simp), val_int (by rw [N.out]; simp), by have := HB.out; (repeat (first | (with_reducible exact Ext.refl _) | (with_reducible assumption) | (with_reducible refine Ext.alloc ?_ _) | (with_reducible refine Ext.trans ?_ (by with_reducible assumption)) | (with_reducible refine Ext.drew ?_) | (with_reducible refine Ext.setCell ?_ (by simp <;> omega) _)))⟩
    · obtain rfl : k = l.length := by omega
      have b1 := (hbx 1).trans (show _ = some (.int .i64 most) by go_simp)
      have b2 := (hbx 2).trans (show _ = some (.int .i64 misses) by go_simp)
      have b3 := (hbx 3).trans (show _ = some (.int .i64 alarms) by go_simp)
      clear hbx
      rw [List.take_length] at *
      have hfin : possN most misses alarms l t = (decide ((pc t : Int) ≤ most) && decide ((missN l t : Int) ≤ misses) && decide ((alarmN l t : Int) ≤ alarms)) := rfl
      have HFT := Lib.hid hfin
      clear hfin
      have hpc := pcTo_le t 8
      by_cases h1 : (pc t : Int) ≤ most
      · by_cases h2 : (missN l t : Int) ≤ misses
        · have HF := Lib.hid (show possN most misses alarms l t = decide ((alarmN l t : Int) ≤ alarms) by rw [HFT.out]; simp [h1, h2])
          go_wp2_with fail
          (refine wp_region_ext (by kernel_rfl) (by kernel_rfl) (fun hX => ?_); (repeat (go_big_quiet_step ((go_at_call 76; exact quiet_same (ssize_any _ _ ht))))); refine wpQuiet_nil ?_; rintro _ ⟨⟨w1, hb1⟩, rfl⟩; (try dsimp only))
          go_wp2
          go_ret
          exact ⟨ret_bool HF.out.symm, by have := HB.out; (repeat (first | (with_reducible exact Ext.refl _) | (with_reducible assumption) | (with_reducible refine Ext.alloc ?_ _) | (with_reducible refine Ext.trans ?_ (by with_reducible assumption)) | (with_reducible refine Ext.drew ?_) | (with_reducible refine Ext.setCell ?_ (by simp <;> omega) _)))⟩
        · have HF := Lib.hid (show possN most misses alarms l t = false by rw [HFT.out]; simp [h2])
          have h2' : decide ((missN l t : Int) ≤ misses) = false := by simpa using h2
          go_wp2_with fail
          (refine wp_region_ext (by kernel_rfl) (by kernel_rfl) (fun hX => ?_); (repeat (go_big_quiet_step ((go_at_call 76; exact quiet_same (ssize_any _ _ ht))))); refine wpQuiet_nil ?_; rintro _ ⟨⟨w1, hb1⟩, rfl⟩; (try dsimp only))
          go_wp2
          go_ret
          exact ⟨ret_bool HF.out.symm, by have := HB.out; (repeat (first | (with_reducible exact Ext.refl _) | (with_reducible assumption) | (with_reducible refine Ext.alloc ?_ _) | (with_reducible refine Ext.trans ?_ (by with_reducible assumption)) | (with_reducible refine Ext.drew ?_) | (with_reducible refine Ext.setCell ?_ (by simp <;> omega) _)))⟩
      · have HF := Lib.hid (show possN most misses alarms l t = false by rw [HFT.out]; simp [h1])
        have h1' : decide ((pc t : Int) ≤ most) = false := by simpa using h1
        go_wp2_with fail
        (refine wp_region_ext (by kernel_rfl) (by kernel_rfl) (fun hX => ?_); (repeat (go_big_quiet_step ((go_at_call 76; exact quiet_same (ssize_any _ _ ht))))); refine wpQuiet_nil ?_; rintro _ ⟨⟨w1, hb1⟩, rfl⟩; (try dsimp only))
        go_wp2
        go_ret
        exact ⟨ret_bool HF.out.symm, by have := HB.out; (repeat (first | (with_reducible exact Ext.refl _) | (with_reducible assumption) | (with_reducible refine Ext.alloc ?_ _) | (with_reducible refine Ext.trans ?_ (by with_reducible assumption)) | (with_reducible refine Ext.drew ?_) | (with_reducible refine Ext.setCell ?_ (by simp <;> omega) _)))⟩
end Go.Proofs.YtabcmnfofekeeaaDoor
