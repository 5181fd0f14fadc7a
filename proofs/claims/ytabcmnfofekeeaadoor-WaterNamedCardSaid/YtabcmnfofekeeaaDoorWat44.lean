/- The reference's Some and Conflict. -/
import Derived.Test.YtabcmnfofekeeaaDoorWat42
import Derived.Test.YtabcmnfofekeeaaDoorWat28
import Derived.Test.YtabcmnfofekeeaaDoorStep
import Derived.Deep.RegionHeld3
namespace Go.Proofs.YtabcmnfofekeeaaDoor
open Go Go.Proofs Go.RowKit Go.Shelf
set_option maxHeartbeats 1000000
set_option maxRecDepth 20000
theorem smpl_snoc (W : Water) (l : List Nat) (i : Nat) : smpl W (l ++ [i]) = smpl W l ++ [smp W i] := by simp [smpl]
theorem some_any (As Am A : Option Addr) (cs cm c : Nat) (W : Water) (l : List Nat) (w : World) (hin : WaterIn w As Am W) (hl : l.length ≤ 64) (hlt : ∀ i ∈ l, i < W.samples.length) (hs : SlOf natI 1 w w.heap.size A l) :
    Calls Tryd.prog 65 #[wvW As Am cs cm W, .slice A l.length c] w fun e w' => ∃ A' c', e = .returned (.slice A' (smpl W l).length c') ∧ SlOf samC 2 w' w'.heap.size A' (smpl W l) ∧ Ext w w' := by
  obtain ⟨i1, hj, hy0, hy1, hy2⟩ := info_parts samI
  have HIN := Lib.hid hin
  have HLT := Lib.hid hlt
  clear hin hlt
  go_enter Tryd.func65, Tryd.ntmps65
  go_wp2_with fail
  obtain ⟨w2, hw2⟩ : ∃ w2, w.alloc (.cells #[.slice As W.springs.length cs, .int .i64 W.most, .int .i64 W.misses, .int .i64 W.alarms, .slice Am W.samples.length cm] 25) = w2 := ⟨_, rfl⟩
  have hb2 : Ext w w2 := by rw [← hw2]; (repeat (first | (with_reducible exact Ext.refl _) | (with_reducible assumption) | (with_reducible refine Ext.alloc ?_ _) | (with_reducible refine Ext.trans ?_ (by with_reducible assumption)) | (with_reducible refine Ext.drew ?_) | (with_reducible refine Ext.setCell ?_ (by simp <;> omega) _)))
  have f4 : w2.cell? ⟨w.heap.size, 4, none⟩ = some (.slice Am W.samples.length cm) := by rw [← hw2]; clear hw2; go_simp
  have hz : w.heap.size < w2.heap.size := by rw [← hw2]; simp
  have hz0 := hz
  have HB2 := Lib.hid hb2
  clear hb2
  go_loopg [5, 6] l.length (fun gk v i wr => ∃ k : Nat, k + gk = l.length ∧ i = .int .i64 k ∧ wr.ownsRow w2.heap.size 27 2 v (smpl W (l.take k)).length ((smpl W (l.take k)).flatMap samC) ∧ Ext w2 wr)
  case atStart => exact ⟨0, by omega, rfl, World.ownsRow_nil _ _ _ _, by rw [← hw2]; exact Ext.refl _⟩
  case round =>
    obtain ⟨k, hk, rfl, hown, hb3⟩ := hrel
    have HK : k ≤ l.length := by omega
    have HKG := Lib.hid hk
    have HB := Lib.hid hb3
    have HO := Lib.hid hown
    have hlT : (smpl W (l.take k)).length ≤ 64 := by rw [smpl_len, List.length_take]; omega
    obtain ⟨AK, cK, rfl, _, _, _⟩ := own_form hown
    replace HO := Lib.hid hown
    replace f4 := ((bcell hb3).1 _ 4 hz).trans f4
    have hzr := Below.size hb3
    replace hz := Nat.lt_of_lt_of_le hz hzr
    clear hk hb3 hw2 hown
    by_cases hlt : k < l.length
    · obtain ⟨b, off, rfl, hbl, hc⟩ := (hs.below (HB2.out.trans HB.out) (Nat.le_refl _)).at_ natI_len hlt
      have c0 := hc 0 _ (by omega) rfl
      clear hc
      simp only [Nat.add_zero, Nat.mul_one] at c0
      have hx := HLT.out _ (List.getElem_mem hlt)
      have HST := Lib.hid (show smpl W (l.take (k + 1)) = smpl W (l.take k) ++ [smp W l[k]] by rw [List.take_succ_eq_append_getElem hlt, smpl_snoc])
      have HSX := Lib.hid (show smp W l[k] = W.samples[l[k]] by unfold smp; rw [List.getElem?_eq_getElem hx]; rfl)
      generalize l[k] = x at *
      obtain ⟨b2, off2, e2, hbl2, hc2⟩ := (HIN.out.2.1.below (HB2.out.trans HB.out) (Nat.le_refl _)).at_ samC_len hx
      have d0 := hc2 0 _ (by omega) rfl
      have d1 := hc2 1 _ (by omega) rfl
      clear hc2
      subst e2
      simp only [Nat.add_zero] at d0
      rw [← HSX.out] at d0 d1
      generalize smp W x = sx at *
      go_wp2_with fail
      have k0 : (0 : Int) ≤ (k : Int) := by omega
      have k1 : (k : Int) < (l.length : Int) := by omega
      have k2 : (0 : Int) ≤ (x : Int) := by omega
      have k3 : (x : Int) < (W.samples.length : Int) := by omega
      have hz2 : w.heap.size < w2.heap.size := hz0
      have hz3 : b < w2.heap.size := by omega
      have hz4 : b2 < w2.heap.size := by omega
      go_region_held3 (fun w' => w'.cell? ⟨w.heap.size, 4, none⟩ = some (.slice (some ⟨b2, off2, none⟩) W.samples.length cm) ∧ w'.cell? ⟨b, off + k, none⟩ = some (.int .i64 (x : Int)) ∧ w'.cell? ⟨b2, off2 + x * 2, none⟩ = some (.int .i64 sx.mix) ∧ w'.cell? ⟨b2, off2 + x * 2 + 1, none⟩ = some (.bool sx.foul))
        (first | (refine ⟨?_, ?_, ?_, ?_⟩ <;> (go_keep; done)) | go_keep)
        ((refine step_append_lies _ (by rfl) _ _ _ (by rfl) w2.heap.size 27 i1 _ 2 16 Tryd.underlying23 hj hy0 hy1 hy2 rfl (by omega) (.slice AK (smpl W (l.take k)).length cK) _ _ (by rfl) (HO.out.drew.alloc _)
            ⟨wr.heap.size, 0, none⟩ 1 1 [.int .i64 sx.mix, .bool sx.foul] (by rfl) (by rfl) (World.news_of_block (cs := #[.int .i64 sx.mix, .bool sx.foul]) (t := 27) (fr := (0, 0)) (heap_alloc_new wr.drew _)) (by simp [Value.oneCell'])
            (by omega) (by unfold maxLen; omega) (by omega) (by simp; omega) (wr.heap.size + 1) (by simp) ?_; intro gg cap w6 hown6 hg6 hat hlt6; have hcg : ∀ bb o, bb < w2.heap.size → w6.cell? ⟨bb, o, none⟩ = wr.cell? ⟨bb, o, none⟩ := fun bb o hbb => ((bcell ((((Below.refl w2.heap.size wr).drew).alloc (by simp; omega) _).grown hg6 (by simp; omega) (own_block HO.out))).1 bb o hbb)))
      have hb6 : Ext w2 w6 := (HB.out.drew.alloc _).grown hg6 (own_block HO.out)
      clear hcg hat
      have HB6 := Lib.hid hb6
      have HO6 := Lib.hid hown6
      clear hown6 hg6 hb6
      go_wp2_with fail
      go_roundg (gk - 1)
      case measure => have := HKG.out; omega
      case rel => exact ⟨k + 1, by have := HKG.out; omega, by go_num, by rw [HST.out]; simpa [samC] using HO6.out, HB6.out⟩
    · obtain rfl : k = l.length := by omega
      rw [List.take_length] at *
      have hs3 := own_sl HO.out
      go_wp2_with fail
      go_ret
      exact ⟨AK, cK, rfl, hs3, HB2.out.trans HB.out⟩
end Go.Proofs.YtabcmnfofekeeaaDoor
