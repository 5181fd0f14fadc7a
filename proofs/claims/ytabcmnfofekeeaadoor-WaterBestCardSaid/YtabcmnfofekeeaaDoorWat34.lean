import Derived.Test.YtabcmnfofekeeaaDoorApart
import Derived.Test.YtabcmnfofekeeaaDoorWat19
namespace Go.Proofs.YtabcmnfofekeeaaDoor
open Go Go.Proofs Go.RowKit Go.Shelf
set_option maxHeartbeats 1000000
set_option maxRecDepth 20000
/-! ### the reference's Split -/
def clL (l : List Nat) (m : Nat) : List Nat := l.filter fun t => t &&& m == 0
def foL (l : List Nat) (m : Nat) : List Nat := l.filter fun t => !(t &&& m == 0)
theorem clL_succ (l : List Nat) (m k : Nat) (h : k < l.length) : clL (l.take (k + 1)) m = clL (l.take k) m ++ (if (l[k] &&& m == 0) = true then [l[k]] else []) := by
  rw [List.take_succ_eq_append_getElem h]; unfold clL; rw [List.filter_append]; congr 1
  cases h : (l[k] &&& m == 0) <;> simp [h]
theorem foL_succ (l : List Nat) (m k : Nat) (h : k < l.length) : foL (l.take (k + 1)) m = foL (l.take k) m ++ (if (l[k] &&& m == 0) = true then [] else [l[k]]) := by
  rw [List.take_succ_eq_append_getElem h]; unfold foL; rw [List.filter_append]; congr 1
  cases h : (l[k] &&& m == 0) <;> simp [h]
theorem clL_le (l : List Nat) (m : Nat) : (clL l m).length ≤ l.length := List.length_filter_le _ _
theorem foL_le (l : List Nat) (m : Nat) : (foL l m).length ≤ l.length := List.length_filter_le _ _
theorem split_any (A : Option Addr) (c : Nat) (l : List Nat) (m : Nat) (w : World) (hl : l.length ≤ 1048576) (hx : ∀ t ∈ l, t < 4294967296) (hm : m < 4294967296) (hs : SlOf natI 1 w w.heap.size A l) :
    Calls Tryd.prog 24 #[.slice A l.length c, .int .i64 (m : Int)] w fun e w' => ∃ A1 c1 A2 c2, e = .returned (.tuple #[.slice A1 (clL l m).length c1, .slice A2 (foL l m).length c2]) ∧
      SlOf natI 1 w' w'.heap.size A1 (clL l m) ∧ SlOf natI 1 w' w'.heap.size A2 (foL l m) ∧ Ext w w' := by
  obtain ⟨i0, hi, hz0, hz1, hz2⟩ := info_parts int_info
  have HX := Lib.hid hx
  clear hx
  go_enter Tryd.func24, Tryd.ntmps24
  go_wp2_with fail
  go_loopg [4, 5, 6] l.length (fun gk v u i wr => ∃ k : Nat, k + gk = l.length ∧ i = .int .i64 k ∧ wr.ownsRow w.heap.size 3 1 v (clL (l.take k) m).length (i64s (clL (l.take k) m)) ∧ wr.ownsRow w.heap.size 3 1 u (foL (l.take k) m).length (i64s (foL (l.take k) m)) ∧ Apart v u ∧ Ext w wr)
  case atStart => exact ⟨0, by omega, rfl, World.ownsRow_nil _ _ _ _, World.ownsRow_nil _ _ _ _, Apart.nil _, Ext.refl _⟩
  case round =>
    obtain ⟨k, hk, rfl, hv, hu, ha, hb⟩ := hrel
    have HK : k ≤ l.length := by omega
    have HKG := Lib.hid hk
    have HV := Lib.hid hv
    have HU := Lib.hid hu
    have HA := Lib.hid ha
    have HB := Lib.hid hb
    have hz := hb.size
    have hcl := clL_le (l.take k) m
    have hfl := foL_le (l.take k) m
    have htk : (l.take k).length ≤ k := List.length_take_le _ _
    have hs2 := (hs.below hb (Nat.le_refl _)).more hz
    clear hk hv hu ha hb
    by_cases hlt : k < l.length
    · obtain ⟨b, off, rfl, hbl, hc⟩ := hs2.at_ natI_len hlt
      have c0 := hc 0 _ (by omega) rfl
      clear hc
      simp only [Nat.add_zero, Nat.mul_one] at c0
      have hx := HX.out _ (List.getElem_mem hlt)
      have HS1 := Lib.hid (clL_succ l m k hlt)
      have HS2 := Lib.hid (foL_succ l m k hlt)
      generalize l[k] = x at *
      have e1 := i64_and_nat x m hx hm
      by_cases hd : x &&& m = 0
      · have hg : (x &&& m == 0) = true := by simp [hd]
        rw [hg] at HS1 HS2
        rw [hd] at e1
        clear hg hd
        go_wp2_with (at_builtin; refine wpList_append_own_at _ rfl _ _ 32 rfl w.heap.size 3 i0 (.int .i64 0) 1 8 Tryd.underlying32 hi hz0 hz1 hz2 rfl (by decide) _ _ _ rfl (HV.out.alloc _) ⟨wr.heap.size, 0, none⟩ 1 1 [.int .i64 (x : Int)] rfl rfl (cell_one_new _ _ _) (by simp [Value.oneCell']) (by unfold maxLen; omega) (by omega) (by simp; omega) ?_; intro v' w4 hown4 hg4 _ h5)
        have hb4 : Ext w w4 := (HB.out.alloc _).grown hg4 (own_block HV.out)
        have hu4 := (HU.out.alloc _).kept hg4 HA.out.ne
        have ha4 := HA.out.next (B := (wr.alloc (.cells #[.int .i64 (x : Int)] 3)).heap.size) (fun k hk => by have := (HU.out.lt k hk).2; simp; omega) h5
        have HO4 := Lib.hid hown4
        have HB4 := Lib.hid hb4
        have HU4 := Lib.hid hu4
        have HA4 := Lib.hid ha4
        clear hown4 hg4 hb4 hu4 ha4 h5
        go_wp2_with fail
        go_roundg (gk - 1)
        case measure => have := HKG.out; omega
        case rel => exact ⟨k + 1, by have := HKG.out; omega, by go_num, by rw [HS1.out, if_pos trivial, i64s_snoc]; simpa using HO4.out, by rw [HS2.out, if_pos trivial]; simpa using HU4.out, HA4.out, HB4.out⟩
      · have hg : (x &&& m == 0) = false := by simp [hd]
        rw [hg] at HS1 HS2
        have e2 : (((x &&& m : Nat) : Int) == 0) = false := by simp; omega
        clear hg hd
        go_wp2_with (at_builtin; refine wpList_append_own_at _ rfl _ _ 32 rfl w.heap.size 3 i0 (.int .i64 0) 1 8 Tryd.underlying32 hi hz0 hz1 hz2 rfl (by decide) _ _ _ rfl (HU.out.alloc _) ⟨wr.heap.size, 0, none⟩ 1 1 [.int .i64 (x : Int)] rfl rfl (cell_one_new _ _ _) (by simp [Value.oneCell']) (by unfold maxLen; omega) (by omega) (by simp; omega) ?_; intro v' w4 hown4 hg4 _ h5)
        have hb4 : Ext w w4 := (HB.out.alloc _).grown hg4 (own_block HU.out)
        have hu4 := (HV.out.alloc _).kept hg4 HA.out.symm.ne
        have ha4 := HA.out.symm.next (B := (wr.alloc (.cells #[.int .i64 (x : Int)] 3)).heap.size) (fun k hk => by have := (HV.out.lt k hk).2; simp; omega) h5
        have HO4 := Lib.hid hown4
        have HB4 := Lib.hid hb4
        have HU4 := Lib.hid hu4
        have HA4 := Lib.hid ha4
        clear hown4 hg4 hb4 hu4 ha4 h5
        go_wp2_with fail
        go_roundg (gk - 1)
        case measure => have := HKG.out; omega
        case rel => exact ⟨k + 1, by have := HKG.out; omega, by go_num, by rw [HS1.out, if_neg (by simp)]; simpa using HU4.out, by rw [HS2.out, if_neg (by simp), i64s_snoc]; simpa using HO4.out, HA4.out.symm, HB4.out⟩
    · obtain rfl : k = l.length := by omega
      rw [List.take_length] at *
      obtain ⟨A1, c1, rfl, _, hs3, _⟩ := own_form HV.out
      obtain ⟨A2, c2, rfl, _, hs4, _⟩ := own_form HU.out
      go_wp2_with fail
      go_ret2
      exact ⟨A1, c1, A2, c2, rfl, sl_ints hs3, sl_ints hs4, HB.out⟩
end Go.Proofs.YtabcmnfofekeeaaDoor
