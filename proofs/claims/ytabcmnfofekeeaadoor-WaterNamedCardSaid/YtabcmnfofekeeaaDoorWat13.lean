import Derived.Test.YtabcmnfofekeeaaDoorWat12
namespace Go.Proofs.YtabcmnfofekeeaaDoor
open Go Go.Proofs Go.RowKit Go.Shelf
set_option maxHeartbeats 800000
set_option maxRecDepth 20000



theorem open_err_nil (As Am : Option Addr) (cs cm : Nat) (W : Water) (w : World) (hin : WaterIn w As Am W) (hE : openE W true ≠ 0) :
    Calls Tryd.prog 41 #[wvW As Am cs cm W, .nilFunc] w fun e w' => ∃ fv, e = .returned (.tuple #[fv, .slice none 0 0, .int .i64 (openE W true)]) ∧ IsF fv ∧ Ext w w' := by
  cases hv : validB W
  · rw [show openE W true = 40 by simp [openE, hv]]
    exact open_bad_nil As Am cs cm W w hin hv
  · by_cases hne : truthsW W = []
    · rw [show openE W true = 3 by simp [openE, hv, hne]]
      exact open_none_nil As Am cs cm W w hin hv hne
    · exact absurd (by simp [openE, hv, hne]) hE
theorem open_err_told (As Am : Option Addr) (cs cm : Nat) (W : Water) (w : World) (hin : WaterIn w As Am W) {tb : Bool} (g : Nat) (caps : Array Value) (eg : ∀ (args : Array Value) (w : World), (callFunc g args).run Tryd.prog w = .ok (.enter g args) w)
    (hg : validB W = true → ∀ w', Ext w w' → Calls Tryd.prog g (#[wvW As Am cs cm W] ++ caps) w' fun e w'' => e = .returned (.bool tb) ∧ Ext w' w'') (hE : openE W tb ≠ 0) :
    Calls Tryd.prog 41 #[wvW As Am cs cm W, .func (.func g) #[] caps] w fun e w' => ∃ fv, e = .returned (.tuple #[fv, .slice none 0 0, .int .i64 (openE W tb)]) ∧ IsF fv ∧ Ext w w' := by
  cases hv : validB W
  · rw [show openE W tb = 40 by simp [openE, hv]]
    exact open_bad_told As Am cs cm W w hin g caps hv
  · cases tb
    · rw [show openE W false = 1 by simp [openE, hv]]
      exact open_arg_told As Am cs cm W w hin g caps eg (hg hv) hv
    · by_cases hne : truthsW W = []
      · rw [show openE W true = 3 by simp [openE, hv, hne]]
        exact open_none_told As Am cs cm W w hin g caps eg (hg hv) hv hne
      · exact absurd (by simp [openE, hv, hne]) hE
theorem open_zero {W : Water} {tb : Bool} (hE : openE W tb = 0) : validB W = true ∧ tb = true ∧ truthsW W ≠ [] := by
  unfold openE at hE
  cases hv : validB W <;> cases tb <;> simp [hv] at hE
  exact ⟨rfl, rfl, hE⟩

theorem i64s_snoc (l : List Nat) (x : Nat) : i64s (l ++ [x]) = i64s l ++ [.int .i64 (x : Int)] := by simp [i64s]
/-! ### Truths -/
theorem truths_err (As Am : Option Addr) (cs cm : Nat) (W : Water) (w : World) (hin : WaterIn w As Am W) (hE : openE W true ≠ 0) :
    Calls Tryd.prog 14 #[wvW As Am cs cm W] w fun e w' => e = .returned (.tuple #[.slice none 0 0, .int .i64 (openE W true)]) ∧ Ext w w' := by
  have hE2 : (openE W true != 0) = true := by simpa using hE
  go_enter Tryd.func14, Tryd.ntmps14
  go_wp2_with fail
  refine (open_err_nil _ _ _ _ W _ (hin.ext (by (repeat (first | (with_reducible exact Ext.refl _) | (with_reducible assumption) | (with_reducible refine Ext.alloc ?_ _) | (with_reducible refine Ext.trans ?_ (by with_reducible assumption)) | (with_reducible refine Ext.drew ?_) | (with_reducible refine Ext.setCell ?_ (by simp <;> omega) _))))) hE).mono ?_
  rintro e w1 ⟨fv, rfl, ⟨As', Am', n', cs', m', cm', a', b', c', rfl⟩, hb1⟩
  go_wp2_with fail
  go_ret2
  exact ⟨rfl, by (repeat (first | (with_reducible exact Ext.refl _) | (with_reducible assumption) | (with_reducible refine Ext.alloc ?_ _) | (with_reducible refine Ext.trans ?_ (by with_reducible assumption)) | (with_reducible refine Ext.drew ?_) | (with_reducible refine Ext.setCell ?_ (by simp <;> omega) _)))⟩

theorem truths_ok (As Am : Option Addr) (cs cm : Nat) (W : Water) (w : World) (hin : WaterIn w As Am W) (hE : openE W true = 0) :
    Calls Tryd.prog 14 #[wvW As Am cs cm W] w fun e w' => ∃ A c, e = .returned (.tuple #[.slice A (truthsW W).length c, .int .i64 0]) ∧ SlOf natI 1 w' w'.heap.size A (truthsW W) ∧ Ext w w' := by
  obtain ⟨hv, _, hne⟩ := open_zero hE
  have hlen := truthsW_len hv
  obtain ⟨i0, hi, hz0, hz1, hz2⟩ := info_parts int_info
  have HE := Lib.hid hE
  have HV := Lib.hid hv
  clear hE hv hne
  go_enter Tryd.func14, Tryd.ntmps14
  go_wp2_with fail
  refine (open_ok_nil _ _ _ _ W _ (hin.ext (by (repeat (first | (with_reducible exact Ext.refl _) | (with_reducible assumption) | (with_reducible refine Ext.alloc ?_ _) | (with_reducible refine Ext.trans ?_ (by with_reducible assumption)) | (with_reducible refine Ext.drew ?_) | (with_reducible refine Ext.setCell ?_ (by simp <;> omega) _))))) HE.out).mono ?_
  rintro e w1 ⟨A, c, rfl, h1, hb1⟩
  have hs := sl_nats h1
  clear h1
  go_wp2_with fail
  obtain ⟨w2, hw2⟩ : ∃ w2, w1.alloc (.cells #[.slice As W.springs.length cs, .int .i64 W.most, .int .i64 W.misses, .int .i64 W.alarms, .slice Am W.samples.length cm] 69) = w2 := ⟨_, rfl⟩
  have hb2 : Ext w w2 := by rw [← hw2]; (repeat (first | (with_reducible exact Ext.refl _) | (with_reducible assumption) | (with_reducible refine Ext.alloc ?_ _) | (with_reducible refine Ext.trans ?_ (by with_reducible assumption)) | (with_reducible refine Ext.drew ?_) | (with_reducible refine Ext.setCell ?_ (by simp <;> omega) _)))
  have hs2 : SlOf natC 1 w2 w2.heap.size A (truthsW W) := by rw [← hw2]; exact (hs.below (B' := w1.heap.size) (by (repeat (first | (with_reducible exact Ext.refl _) | (with_reducible assumption) | (with_reducible refine Ext.alloc ?_ _) | (with_reducible refine Ext.trans ?_ (by with_reducible assumption)) | (with_reducible refine Ext.drew ?_) | (with_reducible refine Ext.setCell ?_ (by simp <;> omega) _)))) (Nat.le_refl _)).more (by simp)
  go_loopg [7, 21] (truthsW W).length (fun gk v i wr => ∃ k : Nat, k + gk = (truthsW W).length ∧ i = .int .i64 k ∧ wr.ownsRow w2.heap.size 3 1 v k (i64s ((truthsW W).take k)) ∧ Ext w2 wr)
  case atStart => exact ⟨0, by omega, rfl, World.ownsRow_nil _ _ _ _, by rw [← hw2]; exact Ext.refl _⟩
  case round =>
    obtain ⟨k, hk, rfl, hown, hb3⟩ := hrel
    have HK : k ≤ (truthsW W).length := by omega
    have HKG := Lib.hid hk
    have HB := Lib.hid hb3
    have HO := Lib.hid hown
    have hz3 := hb3.size
    clear hk hb3 hw2 hown
    by_cases hlt : k < (truthsW W).length
    · obtain ⟨b, off, rfl, hbl, hc⟩ := (hs2.below HB.out (Nat.le_refl _)).at_ natC_len hlt
      have c0 := hc 0 _ (by omega) rfl
      clear hc
      simp only [Nat.add_zero, Nat.mul_one] at c0
      have hx := truthsW_mem HV.out (List.getElem_mem hlt)
      have hx0 : (0 : Int) ≤ ((truthsW W)[k] : Int) := by omega
      have hx1 : ((truthsW W)[k] : Int) < 256 := by omega
      go_wp2_with (at_builtin; refine wpList_append_own _ rfl _ _ 32 rfl w2.heap.size 3 i0 (.int .i64 0) 1 8 Tryd.underlying32 hi hz0 hz1 hz2 rfl (by decide) _ _ _ rfl (HO.out.alloc _) ⟨wr.heap.size, 0, none⟩ 1 1 [.int .i64 ((truthsW W)[k] : Int)] rfl rfl (cell_one_new _ _ _) (by simp [Value.oneCell']) (by unfold maxLen; omega) (by omega) (by simp; omega) ?_; intro v' w4 hown4 hg4 _)
      have hb4 : Ext w2 w4 := (HB.out.alloc _).grown hg4 (own_block HO.out)
      have HO4 := Lib.hid hown4
      have HB4 := Lib.hid hb4
      clear hown4 hg4 hb4
      go_wp2_with fail
      go_roundg (gk - 1)
      case measure => have := HKG.out; omega
      case rel => exact ⟨k + 1, by have := HKG.out; omega, by go_num, by rw [List.take_succ_eq_append_getElem hlt, i64s_snoc]; exact HO4.out, HB4.out⟩
    · obtain rfl : k = (truthsW W).length := by omega
      obtain ⟨A2, c2, rfl, hf, hsl, _⟩ := own_form HO.out
      go_wp2_with fail
      go_ret2
      rw [List.take_length] at hsl
      exact ⟨A2, c2, rfl, sl_ints hsl, hb2.trans HB.out⟩
end Go.Proofs.YtabcmnfofekeeaaDoor
