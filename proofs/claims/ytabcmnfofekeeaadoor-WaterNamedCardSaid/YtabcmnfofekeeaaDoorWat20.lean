import Derived.Test.YtabcmnfofekeeaaDoorWat19
namespace Go.Proofs.YtabcmnfofekeeaaDoor
open Go Go.Proofs Go.RowKit Go.Shelf
set_option maxHeartbeats 1000000
set_option maxRecDepth 20000

/-! ### Check of the reference -/
theorem sprOk_of (s : Spring) : sprOk s = (withinB s.lo 0 s.hi && decide (s.hi ≤ 1000) && withinB s.fuel 0 1000) := by
  unfold sprOk
  rw [show withinB s.lo 0 s.hi = (decide (0 ≤ s.lo) && decide (s.lo ≤ s.hi)) from rfl]
theorem any_of_take {α : Type} (p : α → Bool) (l : List α) (k : Nat) (h : k < l.length) (hp : p l[k] = true) : l.any p = true := List.any_eq_true.2 ⟨_, List.getElem_mem h, hp⟩
theorem any_take_succ {α : Type} (p : α → Bool) (l : List α) (k : Nat) (h : k < l.length) (h0 : (l.take k).any p = false) (hp : p l[k] = false) : (l.take (k + 1)).any p = false := by
  rw [List.take_succ_eq_append_getElem h, List.any_append, h0]; simp [hp]
theorem isMix_is (As Am : Option Addr) (n cs m cm : Nat) (most misses alarms x : Int) (w : World) (hn : n ≤ 30) {v : Bool} (hv : withinB x 1 (2 ^ n - 1) = v) :
    Calls Tryd.prog 22 #[.agg #[.slice As n cs, .int .i64 most, .int .i64 misses, .int .i64 alarms, .slice Am m cm], .int .i64 x] w fun e w' => e = .returned (.bool v) ∧ Ext w w' := hv ▸ isMix_any As Am n cs m cm most misses alarms x w hn
theorem refCheck_any (As Am : Option Addr) (cs cm : Nat) (W : Water) (w : World) (hin : WaterIn w As Am W) (hn : W.springs.length ≤ 30) (hm : W.samples.length ≤ 1000000) :
    Calls Tryd.prog 16 #[wvW As Am cs cm W] w fun e w' => e = .returned (.int .i64 (checkI W)) ∧ Ext w w' := by
  have hdef : validB W = (withinB W.springs.length 1 8 && !W.springs.any (fun s => !sprOk s) && withinB W.most 0 8 && withinB W.misses 0 4 && withinB W.alarms 0 4 && decide (W.samples.length ≤ 20) && !W.samples.any (fun s => !mixOk W.springs.length s)) := rfl
  have hck : checkI W = if validB W then 0 else 40 := rfl
  obtain ⟨hs1, hs2, hl1, hl2⟩ := hin
  generalize hcI : checkI W = cI at *
  generalize hvB : validB W = vB at *
  obtain ⟨spr, most, misses, alarms, sam⟩ := W
  have HC := Lib.hid hck
  have HD := Lib.hid hdef
  clear hck hdef hcI hvB
  dsimp only at *
  show Calls Tryd.prog 16 #[wv As Am spr.length cs sam.length cm most misses alarms] w fun e w' => e = .returned (.int .i64 cI) ∧ Ext w w'
  rcases Bool.eq_false_or_eq_true (withinB spr.length 1 8) with h1 | h1
  rotate_left
  · 
    have HF := Lib.hid (show cI = 40 by rw [HC.out, HD.out]; simp [h1])
    go_enter Tryd.func16, Tryd.ntmps16
    go_wp2_with (go_at_call 42; refine (within_is _ _ _ (by first | exact h1) _).mono ?_; rintro e w1 ⟨rfl, rfl⟩)
    go_ret
    exact ⟨ret_int HF.out.symm, by (repeat (first | (with_reducible exact Ext.refl _) | (with_reducible assumption) | (with_reducible refine Ext.alloc ?_ _) | (with_reducible refine Ext.trans ?_ (by with_reducible assumption)) | (with_reducible refine Ext.drew ?_) | (with_reducible refine Ext.setCell ?_ (by simp <;> omega) _)))⟩
  rcases Bool.eq_false_or_eq_true (withinB most 0 8) with h2 | h2
  rotate_left
  · 
    have HF := Lib.hid (show cI = 40 by rw [HC.out, HD.out]; simp [h2])
    go_enter Tryd.func16, Tryd.ntmps16
    go_wp2_with (go_at_call 42; refine (within_is _ _ _ (by first | exact h1 | exact h2) _).mono ?_; rintro e w1 ⟨rfl, rfl⟩)
    go_ret
    exact ⟨ret_int HF.out.symm, by (repeat (first | (with_reducible exact Ext.refl _) | (with_reducible assumption) | (with_reducible refine Ext.alloc ?_ _) | (with_reducible refine Ext.trans ?_ (by with_reducible assumption)) | (with_reducible refine Ext.drew ?_) | (with_reducible refine Ext.setCell ?_ (by simp <;> omega) _)))⟩
  rcases Bool.eq_false_or_eq_true (withinB misses 0 4) with h3 | h3
  rotate_left
  · 
    have HF := Lib.hid (show cI = 40 by rw [HC.out, HD.out]; simp [h3])
    go_enter Tryd.func16, Tryd.ntmps16
    go_wp2_with (go_at_call 42; refine (within_is _ _ _ (by first | exact h1 | exact h2 | exact h3) _).mono ?_; rintro e w1 ⟨rfl, rfl⟩)
    go_ret
    exact ⟨ret_int HF.out.symm, by (repeat (first | (with_reducible exact Ext.refl _) | (with_reducible assumption) | (with_reducible refine Ext.alloc ?_ _) | (with_reducible refine Ext.trans ?_ (by with_reducible assumption)) | (with_reducible refine Ext.drew ?_) | (with_reducible refine Ext.setCell ?_ (by simp <;> omega) _)))⟩
  rcases Bool.eq_false_or_eq_true (withinB alarms 0 4) with h4 | h4
  rotate_left
  · 
    have HF := Lib.hid (show cI = 40 by rw [HC.out, HD.out]; simp [h4])
    go_enter Tryd.func16, Tryd.ntmps16
    go_wp2_with (go_at_call 42; refine (within_is _ _ _ (by first | exact h1 | exact h2 | exact h3 | exact h4) _).mono ?_; rintro e w1 ⟨rfl, rfl⟩)
    go_ret
    exact ⟨ret_int HF.out.symm, by (repeat (first | (with_reducible exact Ext.refl _) | (with_reducible assumption) | (with_reducible refine Ext.alloc ?_ _) | (with_reducible refine Ext.trans ?_ (by with_reducible assumption)) | (with_reducible refine Ext.drew ?_) | (with_reducible refine Ext.setCell ?_ (by simp <;> omega) _)))⟩
  have hn8 := withinB_true h1
  by_cases h5 : 20 < sam.length
  · have h5' : ¬ sam.length ≤ 20 := by omega
    have HF := Lib.hid (show cI = 40 by rw [HC.out, HD.out]; simp [h5'])
    go_enter Tryd.func16, Tryd.ntmps16
    go_wp2_with (go_at_call 42; refine (within_is _ _ _ (by first | exact h1 | exact h2 | exact h3 | exact h4) _).mono ?_; rintro e w1 ⟨rfl, rfl⟩)
    go_ret
    exact ⟨ret_int HF.out.symm, by (repeat (first | (with_reducible exact Ext.refl _) | (with_reducible assumption) | (with_reducible refine Ext.alloc ?_ _) | (with_reducible refine Ext.trans ?_ (by with_reducible assumption)) | (with_reducible refine Ext.drew ?_) | (with_reducible refine Ext.setCell ?_ (by simp <;> omega) _)))⟩
  have HD2 : Hid (vB = ((!spr.any fun s => !sprOk s) && !sam.any fun s => !mixOk spr.length s)) := Lib.hid (by rw [HD.out, h1, h2, h3, h4, decide_eq_true (show sam.length ≤ 20 by omega)]; simp)
  go_enter Tryd.func16, Tryd.ntmps16
  go_wp2_with (go_at_call 42; refine (within_is _ _ _ (by first | exact h1 | exact h2 | exact h3 | exact h4) _).mono ?_; rintro e w1 ⟨rfl, rfl⟩)
  have HW : Hid (Ext w (w.alloc (.cells #[.slice As spr.length cs, .int .i64 most, .int .i64 misses, .int .i64 alarms, .slice Am sam.length cm] 25))) := Lib.hid (by (repeat (first | (with_reducible exact Ext.refl _) | (with_reducible assumption) | (with_reducible refine Ext.alloc ?_ _) | (with_reducible refine Ext.trans ?_ (by with_reducible assumption)) | (with_reducible refine Ext.drew ?_) | (with_reducible refine Ext.setCell ?_ (by simp <;> omega) _))))
  clear h1 h2 h3 h4
  go_loopg [3] spr.length (fun gk i wr => ∃ k : Nat, k + gk = spr.length ∧ i = .int .i64 k ∧ (spr.take k).any (fun s => !sprOk s) = false ∧ Ext (w.alloc (.cells #[.slice As spr.length cs, .int .i64 most, .int .i64 misses, .int .i64 alarms, .slice Am sam.length cm] 25)) wr)
  case atStart => exact ⟨0, by omega, rfl, by simp, Ext.refl _⟩
  case round =>
    obtain ⟨k, hk, rfl, hany, hb⟩ := hrel
    have HK : k ≤ spr.length := by omega
    have HKG := Lib.hid hk
    have HA := Lib.hid hany
    have HB := Lib.hid hb
    have hz := hb.size
    simp only [World.size_alloc] at hz
    obtain ⟨hc1, _⟩ := bcell hb
    have f0 := (hc1 w.heap.size 0 (by simp)).trans (show _ = some (.slice As spr.length cs) by go_simp)
    have f1 := (hc1 w.heap.size 1 (by simp)).trans (show _ = some (.int .i64 most) by go_simp)
    have f2 := (hc1 w.heap.size 2 (by simp)).trans (show _ = some (.int .i64 misses) by go_simp)
    have f3 := (hc1 w.heap.size 3 (by simp)).trans (show _ = some (.int .i64 alarms) by go_simp)
    have f4 := (hc1 w.heap.size 4 (by simp)).trans (show _ = some (.slice Am sam.length cm) by go_simp)
    have hwz : w.heap.size < wr.heap.size := by omega
    clear hk hany hc1 hb
    by_cases hlt : k < spr.length
    · obtain ⟨b, off, rfl, hbl, hc⟩ := hs1.at_ sprC_len hlt
      have hbr := fun o => (bcell (HW.out.trans HB.out)).1 b o hbl
      have c0 := (hbr _).trans (hc 0 _ (by omega) rfl)
      have c1 := (hbr _).trans (hc 1 _ (by omega) rfl)
      have c2 := (hbr _).trans (hc 2 _ (by omega) rfl)
      have hbz : b < wr.heap.size := by omega
      clear hc hbr
      simp only [Nat.add_zero] at c0
      have SB := Lib.hid (fun h : sprOk spr[k] = false => any_of_take (fun s => !sprOk s) spr k hlt (by simp [h]))
      have SG := Lib.hid (fun h : sprOk spr[k] = true => any_take_succ (fun s => !sprOk s) spr k hlt HA.out (by simp [h]))
      generalize spr[k] = sp at *
      rcases Bool.eq_false_or_eq_true (withinB sp.lo 0 sp.hi) with g1 | g1
      rotate_left
      · 
        have HF := Lib.hid (show cI = 40 by rw [HC.out, HD2.out, SB.out (by rw [sprOk_of]; simp [g1])]; simp)
        go_wp2_with (go_at_call 42; refine (within_is _ _ _ (by first | exact g1) _).mono ?_; rintro e w1 ⟨rfl, rfl⟩)
        go_ret
        exact ⟨ret_int HF.out.symm, (HW.out.trans HB.out).trans (by (repeat (first | (with_reducible exact Ext.refl _) | (with_reducible assumption) | (with_reducible refine Ext.alloc ?_ _) | (with_reducible refine Ext.trans ?_ (by with_reducible assumption)) | (with_reducible refine Ext.drew ?_) | (with_reducible refine Ext.setCell ?_ (by simp <;> omega) _))))⟩
      by_cases g2 : 1000 < sp.hi
      · have g2' : ¬ sp.hi ≤ 1000 := by omega
        have HF := Lib.hid (show cI = 40 by rw [HC.out, HD2.out, SB.out (by rw [sprOk_of]; simp [g2'])]; simp)
        go_wp2_with (go_at_call 42; refine (within_is _ _ _ (by first | exact g1) _).mono ?_; rintro e w1 ⟨rfl, rfl⟩)
        go_ret
        exact ⟨ret_int HF.out.symm, (HW.out.trans HB.out).trans (by (repeat (first | (with_reducible exact Ext.refl _) | (with_reducible assumption) | (with_reducible refine Ext.alloc ?_ _) | (with_reducible refine Ext.trans ?_ (by with_reducible assumption)) | (with_reducible refine Ext.drew ?_) | (with_reducible refine Ext.setCell ?_ (by simp <;> omega) _))))⟩
      rcases Bool.eq_false_or_eq_true (withinB sp.fuel 0 1000) with g3 | g3
      rotate_left
      · 
        have HF := Lib.hid (show cI = 40 by rw [HC.out, HD2.out, SB.out (by rw [sprOk_of]; simp [g3])]; simp)
        go_wp2_with (go_at_call 42; refine (within_is _ _ _ (by first | exact g1 | exact g3) _).mono ?_; rintro e w1 ⟨rfl, rfl⟩)
        go_ret
        exact ⟨ret_int HF.out.symm, (HW.out.trans HB.out).trans (by (repeat (first | (with_reducible exact Ext.refl _) | (with_reducible assumption) | (with_reducible refine Ext.alloc ?_ _) | (with_reducible refine Ext.trans ?_ (by with_reducible assumption)) | (with_reducible refine Ext.drew ?_) | (with_reducible refine Ext.setCell ?_ (by simp <;> omega) _))))⟩
      have HG := Lib.hid (SG.out (by rw [sprOk_of, g1, g3]; simp; omega))
      go_wp2_with (go_at_call 42; refine (within_is _ _ _ (by first | exact g1 | exact g3) _).mono ?_; rintro e w1 ⟨rfl, rfl⟩)
      go_roundg (gk - 1)
      case measure => have := HKG.out; omega
      case rel => exact ⟨k + 1, by have := HKG.out; omega, by go_num, HG.out, HB.out.trans (by (repeat (first | (with_reducible exact Ext.refl _) | (with_reducible assumption) | (with_reducible refine Ext.alloc ?_ _) | (with_reducible refine Ext.trans ?_ (by with_reducible assumption)) | (with_reducible refine Ext.drew ?_) | (with_reducible refine Ext.setCell ?_ (by simp <;> omega) _))))⟩
    · obtain rfl : k = spr.length := by omega
      have HA1 : spr.any (fun s => !sprOk s) = false := by have := HA.out; rwa [List.take_length] at this
      go_wp2_with fail
      have HD3 : Hid (vB = !sam.any fun s => !mixOk spr.length s) := Lib.hid (by rw [HD2.out, HA1]; simp)
      go_loopg [5] sam.length (fun gk i wq => ∃ k : Nat, k + gk = sam.length ∧ i = .int .i64 k ∧ (sam.take k).any (fun s => !mixOk spr.length s) = false ∧ Ext wr wq)
      case atStart => exact ⟨0, by omega, rfl, by simp, Ext.refl _⟩
      case round =>
        obtain ⟨k, hk, rfl, hany, hb⟩ := hrel
        have HK : k ≤ sam.length := by omega
        have HKG := Lib.hid hk
        have HA2 := Lib.hid hany
        have HB2 := Lib.hid hb
        have hz2 := hb.size
        obtain ⟨hc1, _⟩ := bcell hb
        have e0 := (hc1 w.heap.size 0 hwz).trans f0
        have e1 := (hc1 w.heap.size 1 hwz).trans f1
        have e2 := (hc1 w.heap.size 2 hwz).trans f2
        have e3 := (hc1 w.heap.size 3 hwz).trans f3
        have e4 := (hc1 w.heap.size 4 hwz).trans f4
        have hwz2 : w.heap.size < wr.heap.size := by omega
        clear hk hany hc1 hb f0 f1 f2 f3 f4
        by_cases hlt : k < sam.length
        · obtain ⟨b, off, rfl, hbl, hc⟩ := hs2.at_ samC_len hlt
          have hbr := fun o => (bcell ((HW.out.trans HB.out).trans HB2.out)).1 b o hbl
          have c0 := (hbr _).trans (hc 0 _ (by omega) rfl)
          have c1 := (hbr _).trans (hc 1 _ (by omega) rfl)
          have hbz : b < wr.heap.size := by omega
          clear hc hbr
          simp only [Nat.add_zero] at c0
          have SB := Lib.hid (fun h : mixOk spr.length sam[k] = false => any_of_take (fun s => !mixOk spr.length s) sam k hlt (by simp [h]))
          have SG := Lib.hid (fun h : mixOk spr.length sam[k] = true => any_take_succ (fun s => !mixOk spr.length s) sam k hlt HA2.out (by simp [h]))
          generalize sam[k] = sp at *
          have DM : mixOk spr.length sp = withinB sp.mix 1 (2 ^ spr.length - 1) := rfl
          cases hmx : withinB sp.mix 1 (2 ^ spr.length - 1)
          all_goals
            rw [hmx] at DM
            have HM := Lib.hid hmx
            clear hmx
          · have HF := Lib.hid (show cI = 40 by rw [HC.out, HD3.out, SB.out DM]; simp)
            go_wp2_with fail
            (refine wp_region_ext (by kernel_rfl) (by kernel_rfl) (fun hX => ?_); (repeat (go_big_quiet_step ((go_at_call 22; exact quiet_ext (isMix_is _ _ _ _ _ _ _ _ _ _ _ hn HM.out))))); refine wpQuiet_nil ?_; rintro w1 ⟨⟨_, hb1⟩, rfl⟩; (try dsimp only))
            go_wp2_with fail
            go_ret
            exact ⟨ret_int HF.out.symm, ((HW.out.trans HB.out).trans HB2.out).trans hb1⟩
          · have HG := Lib.hid (SG.out DM)
            go_wp2_with fail
            (refine wp_region_ext (by kernel_rfl) (by kernel_rfl) (fun hX => ?_); (repeat (go_big_quiet_step ((go_at_call 22; exact quiet_ext (isMix_is _ _ _ _ _ _ _ _ _ _ _ hn HM.out))))); refine wpQuiet_nil ?_; rintro w1 ⟨⟨_, hb1⟩, rfl⟩; (try dsimp only))
            go_wp2_with fail
            go_roundg (gk - 1)
            case measure => have := HKG.out; omega
            case rel => exact ⟨k + 1, by have := HKG.out; omega, by go_num, HG.out, HB2.out.trans hb1⟩
        · obtain rfl : k = sam.length := by omega
          have HF := Lib.hid (show cI = 0 by
            have := HA2.out
            rw [List.take_length] at this
            rw [HC.out, HD3.out, this]; simp)
          go_wp2_with fail
          go_ret
          exact ⟨ret_int HF.out.symm, (HW.out.trans HB.out).trans HB2.out⟩

/-! ### valid -/
theorem valid_any (As Am : Option Addr) (cs cm : Nat) (W : Water) (w : World) (hin : WaterIn w As Am W) :
    Calls Tryd.prog 12 #[wvW As Am cs cm W] w fun e w' => e = .returned (.bool (!farB W && validB W)) ∧ Ext w w' := by
  cases hf : farB W
  · have hn : W.springs.length ≤ 30 := by
      simp only [farB, Bool.or_eq_false_iff, Bool.and_eq_false_iff, decide_eq_false_iff_not] at hf
      omega
    have hm : W.samples.length ≤ 1000000 := by
      simp only [farB, Bool.or_eq_false_iff, Bool.and_eq_false_iff, decide_eq_false_iff_not] at hf
      omega
    have hck : (checkI W == 0) = validB W := by unfold checkI; cases validB W <;> rfl
    have HCK := Lib.hid hck
    have HF := Lib.hid hf
    clear hck hf
    go_enter Tryd.func12, Tryd.ntmps12
    go_wp2_with fail
    go_at_call 27
    refine (far_any _ _ _ _ W _).mono ?_
    rintro e w1 ⟨rfl, hb1⟩
    rw [HF.out]
    obtain ⟨hc1, _⟩ := bcell hb1
    have f0 := (hc1 w.heap.size 0 (by simp)).trans (show _ = some (.slice As W.springs.length cs) by go_simp)
    have f1 := (hc1 w.heap.size 1 (by simp)).trans (show _ = some (.int .i64 W.most) by go_simp)
    have f2 := (hc1 w.heap.size 2 (by simp)).trans (show _ = some (.int .i64 W.misses) by go_simp)
    have f3 := (hc1 w.heap.size 3 (by simp)).trans (show _ = some (.int .i64 W.alarms) by go_simp)
    have f4 := (hc1 w.heap.size 4 (by simp)).trans (show _ = some (.slice Am W.samples.length cm) by go_simp)
    clear hc1
    go_wp2_with fail
    go_at_call 16
    refine (refCheck_any _ _ _ _ W _ (hin.ext (by (repeat (first | (with_reducible exact Ext.refl _) | (with_reducible assumption) | (with_reducible refine Ext.alloc ?_ _) | (with_reducible refine Ext.trans ?_ (by with_reducible assumption)) | (with_reducible refine Ext.drew ?_) | (with_reducible refine Ext.setCell ?_ (by simp <;> omega) _))))) hn hm).mono ?_
    rintro e w2 ⟨rfl, hb2⟩
    go_wp2_with fail
    go_ret
    exact ⟨ret_bool (by rw [HCK.out]; rfl), by (repeat (first | (with_reducible exact Ext.refl _) | (with_reducible assumption) | (with_reducible refine Ext.alloc ?_ _) | (with_reducible refine Ext.trans ?_ (by with_reducible assumption)) | (with_reducible refine Ext.drew ?_) | (with_reducible refine Ext.setCell ?_ (by simp <;> omega) _)))⟩
  · have HF := Lib.hid hf
    clear hf
    go_enter Tryd.func12, Tryd.ntmps12
    go_wp2_with fail
    go_at_call 27
    refine (far_any _ _ _ _ W _).mono ?_
    rintro e w1 ⟨rfl, hb1⟩
    rw [HF.out]
    go_wp2_with fail
    go_ret
    exact ⟨ret_bool (by simp), by (repeat (first | (with_reducible exact Ext.refl _) | (with_reducible assumption) | (with_reducible refine Ext.alloc ?_ _) | (with_reducible refine Ext.trans ?_ (by with_reducible assumption)) | (with_reducible refine Ext.drew ?_) | (with_reducible refine Ext.setCell ?_ (by simp <;> omega) _)))⟩
end Go.Proofs.YtabcmnfofekeeaaDoor
