/- Ropes, the laws' side: span, sameInts. -/
import Derived.Test.YtchinfamepolkaaRop11
namespace Go.Proofs.Ytchinfamepolkaa
set_option linter.unusedSimpArgs false
set_option linter.unusedVariables false
set_option linter.unusedSectionVars false
open Go Go.Proofs Go.RowKit Go.Shelf
set_option maxHeartbeats 1000000
set_option maxRecDepth 20000

theorem sameInts_any (A B : Option Addr) (c d : Nat) (l m : List Nat) (w : World) (hl : l.length ≤ 1048576) (hm : m.length ≤ 1048576) (hs : SlOf natI 1 w w.heap.size A l) (ht : SlOf natI 1 w w.heap.size B m) :
    Calls Try.prog 21 #[.slice A l.length c, .slice B m.length d] w fun e w' => e = .returned (.bool (decide (l = m))) ∧ Ext w w' := by
  by_cases hlen : l.length = m.length
  · have hlen2 : ((l.length : Int) == (m.length : Int)) = true := by simp [hlen]
    have hlen3 : ((l.length : Int) != (m.length : Int)) = false := by simp [hlen]
    go_enter Try.func21, Try.ntmps21
    go_wp2_with fail
    go_loopg [5] l.length (fun gk i wr => ∃ k : Nat, k + gk = l.length ∧ i = .int .i64 k ∧ l.take k = m.take k ∧ Ext w wr)
    case atStart => exact ⟨0, by omega, rfl, by simp, by (repeat (first | (with_reducible exact Ext.refl _) | (with_reducible assumption) | (with_reducible refine Ext.alloc ?_ _) | (with_reducible refine Ext.trans ?_ (by with_reducible assumption)) | (with_reducible refine Ext.drew ?_) | (with_reducible refine Ext.setCell ?_ (by simp <;> omega) _)))⟩
    case round =>
      obtain ⟨k, hk, rfl, hc0, hb⟩ := hrel
      have HK : k ≤ l.length := by omega
      have HKG := Lib.hid hk
      have HC := Lib.hid hc0
      have hz := hb.size
      have HB := Lib.hid hb
      clear hk hc0
      by_cases hlt : k < l.length
      · have hlt2 : k < m.length := by omega
        obtain ⟨b, off, rfl, hbl, hc⟩ := hs.at_ natI_len hlt
        obtain ⟨b2, off2, rfl, hbl2, hc2⟩ := ht.at_ natI_len hlt2
        have c0 := ((bcell hb).1 _ _ hbl).trans (hc 0 _ (by omega) rfl)
        have d0 := ((bcell hb).1 _ _ hbl2).trans (hc2 0 _ (by omega) rfl)
        have hbr : b < wr.heap.size := by omega
        have hbr2 : b2 < wr.heap.size := by omega
        clear hc hc2 hb
        simp only [Nat.add_zero, Nat.mul_one] at c0 d0
        have S1 := Lib.hid (List.take_succ_eq_append_getElem hlt)
        have S2 := Lib.hid (List.take_succ_eq_append_getElem hlt2)
        have N1 := Lib.hid (show l = m → l[k] = m[k] from fun e => by subst e; rfl)
        generalize l[k] = x at *
        generalize m[k] = y at *
        by_cases hx : x = y
        · have hx2 : ((x : Int) != (y : Int)) = false := by simp [hx]
          go_wp2_with fail
          (refine wp_region_ext (by kernel_rfl) (by kernel_rfl) (fun hX => ?_); (repeat (go_big_quiet_step (fail))); refine wpQuiet_nil ?_; rintro w1 ⟨⟨_, hb1⟩, rfl⟩; (try dsimp only))
          go_wp2_with fail
          go_roundg (gk - 1)
          case measure => have := HKG.out; omega
          case rel => exact ⟨k + 1, by have := HKG.out; omega, by go_num, by rw [S1.out, S2.out, HC.out, hx], HB.out.trans hb1⟩
        · have hx2 : ((x : Int) != (y : Int)) = true := by simp; omega
          have HX := Lib.hid hx
          clear hx
          go_wp2_with fail
          (refine wp_region_ext (by kernel_rfl) (by kernel_rfl) (fun hX => ?_); (repeat (go_big_quiet_step (fail))); refine wpQuiet_nil ?_; rintro w1 ⟨⟨_, hb1⟩, rfl⟩; (try dsimp only))
          go_wp2_with fail
          go_ret
          exact ⟨ret_bool (by rw [decide_eq_false (fun e => HX.out (N1.out e))]), HB.out.trans hb1⟩
      · obtain rfl : k = l.length := by omega
        have he : l = m := by
          have := HC.out
          rwa [List.take_length, hlen, List.take_length] at this
        go_wp2_with fail
        go_ret
        exact ⟨ret_bool (by simp [he]), HB.out⟩
  · have hlen2 : ((l.length : Int) == (m.length : Int)) = false := by simp; omega
    have hlen3 : ((l.length : Int) != (m.length : Int)) = true := by simp; omega
    go_enter Try.func21, Try.ntmps21
    go_wp2_with fail
    go_ret
    exact ⟨ret_bool (by rw [decide_eq_false (fun e => hlen (by rw [e]))]), by (repeat (first | (with_reducible exact Ext.refl _) | (with_reducible assumption) | (with_reducible refine Ext.alloc ?_ _) | (with_reducible refine Ext.trans ?_ (by with_reducible assumption)) | (with_reducible refine Ext.drew ?_) | (with_reducible refine Ext.setCell ?_ (by simp <;> omega) _)))⟩
end Go.Proofs.Ytchinfamepolkaa
