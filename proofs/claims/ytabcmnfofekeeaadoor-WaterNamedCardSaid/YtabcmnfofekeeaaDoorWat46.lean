/- The reference's Conflict. -/
import Derived.Test.YtabcmnfofekeeaaDoorWat44
namespace Go.Proofs.YtabcmnfofekeeaaDoor
open Go Go.Proofs Go.RowKit Go.Shelf
set_option maxHeartbeats 1000000
set_option maxRecDepth 20000
def IntsAre (u : Value) (w : World) (l : List Nat) : Prop := ∃ A c, u = .slice A l.length c ∧ l.length ≤ c ∧ (SlOf natI 1 w w.heap.size A l)
theorem IntsAre.ext {u : Value} {w w' : World} {l : List Nat} (h : IntsAre u w l) (hb : Ext w w') : IntsAre u w' l := by
  obtain ⟨A, c, e, hc, hs⟩ := h
  exact ⟨A, c, e, hc, (hs.below hb (Nat.le_refl _)).more hb.size⟩
theorem own_cap {w : World} {base e sz n c : Nat} {A : Option Addr} {xs : List Value} (h : w.ownsRow base e sz (.slice A n c) n xs) : n ≤ c := by
  rcases h.2 with ⟨h1, h2⟩ | ⟨g, cap, cur, h1, _, _, hnc, _⟩
  · omega
  · injection h1 with _ _ h3; omega
theorem own_ints {w : World} {base e : Nat} {v : Value} {l : List Nat} (h : w.ownsRow base e 1 v l.length (i64s l)) : IntsAre v w l := by
  obtain ⟨A, c, rfl, _, hs, _⟩ := own_form h
  exact ⟨A, c, rfl, own_cap h, sl_ints hs⟩
theorem i64s_app (l m : List Nat) : i64s (l ++ m) = i64s l ++ i64s m := by simp [i64s]
theorem i64s_length (l : List Nat) : (i64s l).length = l.length := by simp [i64s]
theorem i64s_one (l : List Nat) : ∀ u ∈ i64s l, u.oneCell' = true := by
  intro u hu
  unfold i64s at hu
  rw [List.mem_map] at hu
  obtain ⟨x, _, rfl⟩ := hu
  rfl
theorem refConflict_err (As Am : Option Addr) (cs cm : Nat) (W : Water) (w : World) (hin : WaterIn w As Am W) (hn : W.springs.length ≤ 30) (hm : W.samples.length ≤ 1000000) (hv : validB W = false) :
    Calls Tryd.prog 35 #[wvW As Am cs cm W] w fun e w' => e = .returned (.tuple #[.slice none 0 0, .int .i64 40]) ∧ Ext w w' := by
  have HC := Lib.hid (show checkI W = 40 by simp [checkI, hv])
  have HIN := Lib.hid hin
  clear hin hv
  go_enter Tryd.func35, Tryd.ntmps35
  go_wp2_with fail
  refine (refCheck_any _ _ _ _ W _ (HIN.out.ext (by (repeat (first | (with_reducible exact Ext.refl _) | (with_reducible assumption) | (with_reducible refine Ext.alloc ?_ _) | (with_reducible refine Ext.trans ?_ (by with_reducible assumption)) | (with_reducible refine Ext.drew ?_) | (with_reducible refine Ext.setCell ?_ (by simp <;> omega) _))))) hn hm).mono ?_
  rintro e w1 ⟨rfl, hb1⟩
  rw [HC.out]
  go_wp2_with fail
  go_ret2
  exact ⟨rfl, by (repeat (first | (with_reducible exact Ext.refl _) | (with_reducible assumption) | (with_reducible refine Ext.alloc ?_ _) | (with_reducible refine Ext.trans ?_ (by with_reducible assumption)) | (with_reducible refine Ext.drew ?_) | (with_reducible refine Ext.setCell ?_ (by simp <;> omega) _)))⟩
theorem refConflict_go (As Am : Option Addr) (cs cm : Nat) (W : Water) (w : World) (hin : WaterIn w As Am W) (hv : validB W = true) :
    Calls Tryd.prog 35 #[wvW As Am cs cm W] w fun e w' => ∃ A c, e = .returned (.tuple #[.slice A (confL W).length c, .int .i64 (confE W)]) ∧ SlOf natI 1 w' w'.heap.size A (confL W) ∧ Ext w w' := by
  obtain ⟨i0, hi, hz0, hz1, hz2⟩ := info_parts int_info
  have HIN := Lib.hid hin
  have HC := Lib.hid (show checkI W = 0 by simp [checkI, hv])
  have hn8 := (valid_len hv).2
  have hn30 : W.springs.length ≤ 30 := by omega
  have hm20 := (valid_bd hv).2.2.2
  have HV := Lib.hid hv
  clear hv hin
  go_enter Tryd.func35, Tryd.ntmps35
  go_wp2_with fail
  refine (refCheck_any _ _ _ _ W _ (HIN.out.ext (by (repeat (first | (with_reducible exact Ext.refl _) | (with_reducible assumption) | (with_reducible refine Ext.alloc ?_ _) | (with_reducible refine Ext.trans ?_ (by with_reducible assumption)) | (with_reducible refine Ext.drew ?_) | (with_reducible refine Ext.setCell ?_ (by simp <;> omega) _))))) hn30 (by omega)).mono ?_
  rintro e w1 ⟨rfl, hb1⟩
  rw [HC.out]
  (have f0 := ((bcell hb1).1 w.heap.size 0 (by simp)).trans (show _ = some (.slice As W.springs.length cs) by go_simp); have f1 := ((bcell hb1).1 w.heap.size 1 (by simp)).trans (show _ = some (.int .i64 W.most) by go_simp); have f2 := ((bcell hb1).1 w.heap.size 2 (by simp)).trans (show _ = some (.int .i64 W.misses) by go_simp); have f3 := ((bcell hb1).1 w.heap.size 3 (by simp)).trans (show _ = some (.int .i64 W.alarms) by go_simp); have f4 := ((bcell hb1).1 w.heap.size 4 (by simp)).trans (show _ = some (.slice Am W.samples.length cm) by go_simp); have hz := Nat.lt_of_lt_of_le (show w.heap.size < (w.alloc _).heap.size by simp) (Below.size hb1))
  have hw1 : Ext w w1 := by (repeat (first | (with_reducible exact Ext.refl _) | (with_reducible assumption) | (with_reducible refine Ext.alloc ?_ _) | (with_reducible refine Ext.trans ?_ (by with_reducible assumption)) | (with_reducible refine Ext.drew ?_) | (with_reducible refine Ext.setCell ?_ (by simp <;> omega) _)))
  have HW1 := Lib.hid hw1
  clear hb1 hw1
  go_wp2_with fail
  go_loopg [4, 5] W.samples.length (fun gk v i wr => ∃ k : Nat, k + gk = W.samples.length ∧ i = .int .i64 k ∧ wr.ownsRow w1.heap.size 3 1 v (List.range k).length (i64s (List.range k)) ∧ Ext w1 wr)
  case atStart => exact ⟨0, by omega, rfl, World.ownsRow_nil _ _ _ _, Ext.refl _⟩
  case round =>
    obtain ⟨k, hk, rfl, hown, hb⟩ := hrel
    have HK : k ≤ W.samples.length := by omega
    have HKG := Lib.hid hk
    have HO := Lib.hid hown
    have HB := Lib.hid hb
    (replace f0 := ((bcell hb).1 _ 0 hz).trans f0; replace f1 := ((bcell hb).1 _ 1 hz).trans f1; replace f2 := ((bcell hb).1 _ 2 hz).trans f2; replace f3 := ((bcell hb).1 _ 3 hz).trans f3; replace f4 := ((bcell hb).1 _ 4 hz).trans f4; replace hz := Nat.lt_of_lt_of_le hz (Below.size hb))
    have hsz := hb.size
    have hrl : (List.range k).length ≤ 20 := by simp; omega
    clear hk hown hb
    by_cases hlt : k < W.samples.length
    · go_wp2_with (at_builtin; refine wpList_append_own_at _ rfl _ _ 32 rfl _ 3 i0 (.int .i64 0) 1 8 Tryd.underlying32 hi hz0 hz1 hz2 rfl (by decide) _ _ _ rfl (HO.out.alloc _) ⟨wr.heap.size, 0, none⟩ 1 1 [.int .i64 (k : Int)] rfl rfl (cell_one_new _ _ _) (by simp [Value.oneCell']) (by unfold maxLen; omega) (by omega) (by simp; omega) ?_; intro v' w4 hown4 hg4 _ h54)
      have hE4 : Ext w1 w4 := (HB.out.alloc _).grown hg4 (own_block HO.out)
      have HO4 := Lib.hid hown4
      have HE4 := Lib.hid hE4
      clear hown4 hg4 h54 hE4
      go_wp2_with fail
      go_roundg (gk - 1)
      case measure => have := HKG.out; omega
      case rel => exact ⟨k + 1, by have := HKG.out; omega, by go_num, by rw [List.range_succ, i64s_snoc]; simpa using HO4.out, HE4.out⟩
    · obtain rfl : k = W.samples.length := by omega
      obtain ⟨A1, c1, rfl, hc1, hs1⟩ := own_ints HO.out
      have hlr : (List.range W.samples.length).length ≤ 64 := by omega
      have HLT := Lib.hid (show ∀ i ∈ List.range W.samples.length, i < W.samples.length from fun i hi => by simpa using hi)
      have HSM := Lib.hid (show smpl W (List.range W.samples.length) = W.samples by rw [List.range_eq_range']; exact smpl_all W)
      have HS1 := Lib.hid hs1
      have HLI := Lib.hid (show (List.range W.samples.length) = leftI W 0 by unfold leftI; simp only [kept, List.nil_append, Nat.sub_zero]; exact List.range_eq_range' )
      have hlen0 : (List.range W.samples.length).length = W.samples.length := by simp
      have HLEN0 := Lib.hid hlen0
      clear hs1 hlen0
      generalize List.range W.samples.length = L0 at *
      have HER := Lib.hid (HW1.out.trans HB.out)
      cases ha : anyL W W.samples
      rotate_left
      · have HPOS := Lib.hid (show 0 < (truthsTo (2 ^ W.springs.length) W.most W.misses W.alarms (smpl W L0)).length by
          rw [HSM.out, List.length_pos_iff]; intro e; simp [anyL, e] at ha)
        have HR := Lib.hid (show confE W = 3 ∧ confL W = [] by have h : confE W = 3 := by { simp [confE, HV.out, ha] }; exact ⟨h, by simp [confL, h]⟩)
        clear ha
        go_wp2_with fail
        go_region_held3 (fun w' => w'.cell? ⟨w.heap.size, 0, none⟩ = some (.slice As W.springs.length cs) ∧ w'.cell? ⟨w.heap.size, 1, none⟩ = some (.int .i64 W.most) ∧ w'.cell? ⟨w.heap.size, 2, none⟩ = some (.int .i64 W.misses) ∧ w'.cell? ⟨w.heap.size, 3, none⟩ = some (.int .i64 W.alarms) ∧ w'.cell? ⟨w.heap.size, 4, none⟩ = some (.slice Am W.samples.length cm))
          (first | (refine ⟨?_, ?_, ?_, ?_, ?_⟩ <;> (go_keep; done)) | go_keep)
          (first
            | (go_at_call 65; refine (some_any As Am A1 cs cm c1 W L0 _ (HIN.out.ext (Ext.drew HER.out)) hlr HLT.out HS1.out).mono ?_; rintro e w4 ⟨A4, c4, rfl, hs4, hb4⟩; have hc4 : ∀ o, w4.cell? ⟨w.heap.size, o, none⟩ = _ := fun o => (bcell hb4).1 _ o hz; have hz4 := Nat.lt_of_lt_of_le (show w.heap.size < wr.drew.heap.size from hz) (Below.size hb4); have HB4 := Lib.hid hb4; clear hb4)
            | (go_at_call 61; refine (refTruths_any As Am A4 _ _ _ _ c4 _ _ _ (smpl W L0) _ hn8 (by have := smpl_len W L0; omega) hs4).mono ?_; rintro e w5 ⟨A5, c5, rfl, hs5, hb5⟩; clear hs5; have hpos := HPOS.out; have hposI : (0 : Int) < ((truthsTo (2 ^ W.springs.length) W.most W.misses W.alarms (smpl W L0)).length : Int) := (by omega); have hc5 : ∀ o, w5.cell? ⟨w.heap.size, o, none⟩ = _ := fun o => (bcell hb5).1 _ o hz4; have HB5 := Lib.hid hb5; clear hb5))
        go_wp2_with fail
        rw [HR.out.1, HR.out.2]
        go_ret2
        exact ⟨none, 0, rfl, SlOf.nil _ _ _ _ _, (Ext.trans (Ext.drew HER.out) HB4.out).trans HB5.out⟩
      · have HNE := Lib.hid (show (truthsTo (2 ^ W.springs.length) W.most W.misses W.alarms (smpl W L0)) = [] by rw [HSM.out]; simpa [anyL] using ha)
        have HR := Lib.hid (show confE W = 0 ∧ confL W = kept W W.samples.length by have h : confE W = 0 := by { simp [confE, HV.out, ha] }; exact ⟨h, by simp [confL, h]⟩)
        clear ha
        go_wp2_with fail
        go_region_held3 (fun w' => w'.cell? ⟨w.heap.size, 0, none⟩ = some (.slice As W.springs.length cs) ∧ w'.cell? ⟨w.heap.size, 1, none⟩ = some (.int .i64 W.most) ∧ w'.cell? ⟨w.heap.size, 2, none⟩ = some (.int .i64 W.misses) ∧ w'.cell? ⟨w.heap.size, 3, none⟩ = some (.int .i64 W.alarms) ∧ w'.cell? ⟨w.heap.size, 4, none⟩ = some (.slice Am W.samples.length cm))
          (first | (refine ⟨?_, ?_, ?_, ?_, ?_⟩ <;> (go_keep; done)) | go_keep)
          (first
            | (go_at_call 65; refine (some_any As Am A1 cs cm c1 W L0 _ (HIN.out.ext (Ext.drew HER.out)) hlr HLT.out HS1.out).mono ?_; rintro e w4 ⟨A4, c4, rfl, hs4, hb4⟩; have hc4 : ∀ o, w4.cell? ⟨w.heap.size, o, none⟩ = _ := fun o => (bcell hb4).1 _ o hz; have hz4 := Nat.lt_of_lt_of_le (show w.heap.size < wr.drew.heap.size from hz) (Below.size hb4); have HB4 := Lib.hid hb4; clear hb4)
            | (go_at_call 61; refine (refTruths_any As Am A4 _ _ _ _ c4 _ _ _ (smpl W L0) _ hn8 (by have := smpl_len W L0; omega) hs4).mono ?_; rintro e w5 ⟨A5, c5, rfl, hs5, hb5⟩; clear hs5; rw [show (truthsTo (2 ^ W.springs.length) W.most W.misses W.alarms (smpl W L0)) = [] from HNE.out]; have hc5 : ∀ o, w5.cell? ⟨w.heap.size, o, none⟩ = _ := fun o => (bcell hb5).1 _ o hz4; have HB5 := Lib.hid hb5; clear hb5))
        clear hs4
        rename_i _
        have f0' : w5.cell? ⟨w.heap.size, 0, none⟩ = some (.slice As W.springs.length cs) := (hc5 0).trans ((hc4 0).trans f0)
        have f1' : w5.cell? ⟨w.heap.size, 1, none⟩ = some (.int .i64 W.most) := (hc5 1).trans ((hc4 1).trans f1)
        have f2' : w5.cell? ⟨w.heap.size, 2, none⟩ = some (.int .i64 W.misses) := (hc5 2).trans ((hc4 2).trans f2)
        have f3' : w5.cell? ⟨w.heap.size, 3, none⟩ = some (.int .i64 W.alarms) := (hc5 3).trans ((hc4 3).trans f3)
        have f4' : w5.cell? ⟨w.heap.size, 4, none⟩ = some (.slice Am W.samples.length cm) := (hc5 4).trans ((hc4 4).trans f4)
        have hE5 : Ext wr w5 := (Ext.trans (Ext.drew (Ext.refl _)) HB4.out).trans HB5.out
        have hz5 := Nat.lt_of_lt_of_le hz (Below.size hE5)
        have HE5 := Lib.hid hE5
        have HW5 := Lib.hid (HER.out.trans hE5)
        clear hc4 hc5 hz4 f0 f1 f2 f3 f4 hz hE5
        have HL0 := Lib.hid (show IntsAre (.slice A1 L0.length c1) w5 (leftI W 0) by
          rw [← HLI.out]; exact (show IntsAre (.slice A1 L0.length c1) wr L0 from ⟨A1, c1, rfl, hc1, HS1.out⟩).ext HE5.out)
        replace hz := hz5
        replace f0 := f0'
        replace f1 := f1'
        replace f2 := f2'
        replace f3 := f3'
        replace f4 := f4'
        clear hz5 f0' f1' f2' f3' f4' HB4 HB5 hlr hc1
        go_wp2_with fail
        go_loopg [4, 6] W.samples.length (fun gk u i wr => ∃ k : Nat, k + gk = W.samples.length ∧ i = .int .i64 ((kept W k).length : Nat) ∧ IntsAre u wr (leftI W k) ∧ Ext w5 wr)
        case atStart => exact ⟨0, by omega, rfl, HL0.out, Ext.refl _⟩
        case round =>
          obtain ⟨k, hk, rfl, ⟨A, c, rfl, hcap, hs⟩, hb⟩ := hrel
          have HK : k ≤ W.samples.length := by omega
          have HKG := Lib.hid hk
          have HB := Lib.hid hb
          (replace f0 := ((bcell hb).1 _ 0 hz).trans f0; replace f1 := ((bcell hb).1 _ 1 hz).trans f1; replace f2 := ((bcell hb).1 _ 2 hz).trans f2; replace f3 := ((bcell hb).1 _ 3 hz).trans f3; replace f4 := ((bcell hb).1 _ 4 hz).trans f4; replace hz := Nat.lt_of_lt_of_le hz (Below.size hb))
          have hkl := kept_le W k
          have hll := left_len W HK
          clear hk hb
          by_cases hlt : k < W.samples.length
          · obtain ⟨b, off, rfl, hbl, _⟩ := hs.2 (by omega)
            have hsI : Sl wr wr.heap.size 1 (some ⟨b, off, none⟩) (leftI W k).length (i64s (leftI W k)) := by rw [← i64s_flat]; exact hs
            have hLe : leftI W k = kept W k ++ k :: List.range' (k + 1) (W.samples.length - (k + 1)) := by unfold leftI; rw [range'_cons' hlt]
            have hsT : Sl wr wr.heap.size 1 (some ⟨b, off, none⟩) (kept W k).length (i64s (kept W k)) := by
              have := Sl.take hsI (k := (kept W k).length) (by omega)
              rwa [Nat.mul_one, hLe, i64s_app, List.take_left' (i64s_length _)] at this
            obtain ⟨A2, hA2⟩ : ∃ A2, (if c = (kept W k).length + 1 then some (⟨b, off, none⟩ : Addr) else some ⟨b, off + ((kept W k).length + 1), none⟩) = A2 := ⟨_, rfl⟩
            have hsD : Sl wr wr.heap.size 1 A2 ((leftI W k).length - ((kept W k).length + 1)) (i64s (List.range' (k + 1) (W.samples.length - (k + 1)))) := by
              have := Sl.drop hsI (k := (kept W k).length + 1) (c := c) (by omega) hcap (A2 := A2) (by rw [Nat.mul_one]; exact hA2)
              rw [Nat.mul_one, hLe, ← List.singleton_append, ← List.append_assoc, i64s_app, List.drop_left' (by rw [i64s_length]; simp)] at this
              rw [hLe]
              simpa using this
            have HST := Lib.hid hsT
            have HSD := Lib.hid hsD
            have HS := Lib.hid hs
            have HLY := Lib.hid (left_yes W hlt)
            have HLN := Lib.hid (left_no W (k := k))
            have HLS := Lib.hid (show lessI W k = kept W k ++ List.range' (k + 1) (W.samples.length - (k + 1)) from rfl)
            have HML := Lib.hid (less_mem hlt)
            have hrl : (List.range' (k + 1) (W.samples.length - (k + 1))).length = W.samples.length - (k + 1) := by simp
            have hsl := less_len W k
            clear hLe hsI hsT hsD hs
            generalize hK : kept W k = K at *
            generalize hLL : leftI W k = L at *
            generalize List.range' (k + 1) (W.samples.length - (k + 1)) = R at *
            have HHK := Lib.hid hK
            have HHL := Lib.hid hLL
            clear hK hLL
            have x1 : (0 : Int) ≤ (K.length : Int) + 1 := by omega
            have x2 : (K.length : Int) + 1 ≤ (L.length : Int) := by omega
            have x3 : (0 : Int) ≤ (K.length : Int) := by omega
            have x4 : (K.length : Int) ≤ (c : Int) := by omega
            have x5 : K.length < L.length := by omega
            have x6 : L.length ≤ 20 := by omega
            have HRL := Lib.hid hrl
            have HLL2 := Lib.hid hll
            have HSL2 := Lib.hid hsl
            have q1 : IntKind.i64.wrap ((K.length : Int) + 1) = (K.length : Int) + 1 := by rw [IntKind.wrap_i64]; omega
            have q2 : ((K.length : Int) + 1).toNat = K.length + 1 := by omega
            clear hrl hll hsl
            go_wp2_with fail
            go_region_law (first
              | (refine step_append_sl rfl (.tmp 33) (.tmp 36) 32 rfl wr.heap.size 3 i0 (.int .i64 0) 1 8 Tryd.underlying32 hi hz0 hz1 hz2 rfl (by decide) (.slice (some ⟨wr.heap.size, 0, none⟩) 0 0) 0 [] (by simp [Act.eval, Act.put]) (own_empty wr.drew _ _ _ _ rfl (Nat.le_refl _)) wr.heap.size (some ⟨b, off, none⟩) K.length c (i64s K) (by simp [Act.eval, Act.put]) (HST.out.drew.alloc (Nat.le_refl _) _) (i64s_one K) (by unfold maxLen; omega) (by omega) (by simp) ?_; intro v1 y1 hown1 hg1 h51; rw [Nat.zero_add, List.nil_append] at hown1; have hEy : Ext wr y1 := Ext.grown (Ext.alloc (Ext.drew (Ext.refl _)) _) hg1 (fun g hg => Nat.le_of_eq (Option.some.inj (show some wr.heap.size = some g from hg))); have HOY := Lib.hid hown1; have HEY := Lib.hid hEy; clear hown1 hg1 h51 hEy)
              | (refine step_append_sl rfl (.tmp 37) (.tmp 41) 32 rfl wr.heap.size 3 i0 (.int .i64 0) 1 8 Tryd.underlying32 hi hz0 hz1 hz2 rfl (by decide) v1 K.length (i64s K) (by simp [Act.eval, Act.put]) HOY.out wr.heap.size A2 (L.length - (K.length + 1)) (c - (K.length + 1)) (i64s R) (by simp [Act.eval, Act.put, *]) (HSD.out.below HEY.out (Nat.le_refl _)) (i64s_one R) (by unfold maxLen; omega) (by omega) HEY.out.size ?_; intro v2 y2 hown2 hg2 h52; have hEz : Ext wr y2 := HEY.out.grown hg2 (own_block HOY.out); have HOZ := Lib.hid hown2; have HEZ := Lib.hid hEz; clear hown2 hg2 h52 hEz))
            clear q1 q2
            have hless : IntsAre v2 y2 (lessI W k) := by
              have h1 := HOZ.out
              rw [← i64s_app, ← HLS.out, show K.length + (L.length - (K.length + 1)) = (lessI W k).length by have := HLL2.out; have := HSL2.out; omega] at h1
              exact own_ints h1
            obtain ⟨A7, c7, rfl, hc7, hs7⟩ := hless
            have hE7 := HEZ.out
            (replace f0 := ((bcell hE7).1 _ 0 hz).trans f0; replace f1 := ((bcell hE7).1 _ 1 hz).trans f1; replace f2 := ((bcell hE7).1 _ 2 hz).trans f2; replace f3 := ((bcell hE7).1 _ 3 hz).trans f3; replace f4 := ((bcell hE7).1 _ 4 hz).trans f4; replace hz := Nat.lt_of_lt_of_le hz (Below.size hE7))
            have HS7 := Lib.hid hs7
            have hsl7 : (lessI W k).length ≤ 64 := by have := HSL2.out; omega
            have HE7 := Lib.hid hE7
            have HW7 := Lib.hid (HW5.out.trans (HB.out.trans hE7))
            have HI7 := Lib.hid (show IntsAre (.slice A7 (lessI W k).length c7) y2 (lessI W k) from ⟨A7, c7, rfl, hc7, hs7⟩)
            clear hs7 hE7 hc7
            cases hany : anyL W (smpl W (lessI W k))
            · have HNE := Lib.hid (show (truthsTo (2 ^ W.springs.length) W.most W.misses W.alarms (smpl W (lessI W k))) = [] by simpa [anyL] using hany)
              have HNX := Lib.hid (HLN.out hany)
              clear hany
              go_wp2_with fail
              go_region_held3 (fun w' => w'.cell? ⟨w.heap.size, 0, none⟩ = some (.slice As W.springs.length cs) ∧ w'.cell? ⟨w.heap.size, 1, none⟩ = some (.int .i64 W.most) ∧ w'.cell? ⟨w.heap.size, 2, none⟩ = some (.int .i64 W.misses) ∧ w'.cell? ⟨w.heap.size, 3, none⟩ = some (.int .i64 W.alarms) ∧ w'.cell? ⟨w.heap.size, 4, none⟩ = some (.slice Am W.samples.length cm))
                (first | (refine ⟨?_, ?_, ?_, ?_, ?_⟩ <;> (go_keep; done)) | go_keep)
                (first
                  | (go_at_call 65; refine (some_any As Am A7 cs cm c7 W (lessI W k) _ (HIN.out.ext (Ext.drew HW7.out)) hsl7 HML.out HS7.out).mono ?_; rintro e w5n ⟨A4, c4, rfl, hs4, hb4⟩; have hc4 : ∀ o, w5n.cell? ⟨w.heap.size, o, none⟩ = _ := fun o => (bcell hb4).1 _ o hz; have hz4 := Nat.lt_of_lt_of_le (show w.heap.size < y2.drew.heap.size from hz) (Below.size hb4); have HB4 := Lib.hid hb4; clear hb4)
                  | (go_at_call 61; refine (refTruths_any As Am A4 _ _ _ _ c4 _ _ _ (smpl W (lessI W k)) _ hn8 (by have := smpl_len W (lessI W k); omega) hs4).mono ?_; rintro e w6n ⟨A5, c5, rfl, hs5, hb5⟩; clear hs5; rw [show (truthsTo (2 ^ W.springs.length) W.most W.misses W.alarms (smpl W (lessI W k))) = [] from HNE.out]; have hc5 : ∀ o, w6n.cell? ⟨w.heap.size, o, none⟩ = _ := fun o => (bcell hb5).1 _ o hz4; have HB5 := Lib.hid hb5; clear hb5))
              clear hs4
              have hEn : Ext wr w6n := HE7.out.trans ((Ext.trans (Ext.drew (Ext.refl _)) HB4.out).trans HB5.out)
              have HIN7 := Lib.hid (HI7.out.ext ((Ext.trans (Ext.drew (Ext.refl _)) HB4.out).trans HB5.out))
              have HEN := Lib.hid hEn
              clear hc4 hc5 hz4 hEn
              go_wp2_with fail
              go_roundg (gk - 1)
              case measure => have := HKG.out; omega
              case rel => exact ⟨k + 1, by have := HKG.out; omega, by rw [HNX.out.1], by rw [HNX.out.2]; exact HIN7.out, HB.out.trans HEN.out⟩
            · have HPOS := Lib.hid (show 0 < (truthsTo (2 ^ W.springs.length) W.most W.misses W.alarms (smpl W (lessI W k))).length by
                rw [List.length_pos_iff]; intro e; simp [anyL, e] at hany)
              have HNX := Lib.hid (HLY.out hany)
              clear hany
              go_wp2_with fail
              go_region_held3 (fun w' => w'.cell? ⟨w.heap.size, 0, none⟩ = some (.slice As W.springs.length cs) ∧ w'.cell? ⟨w.heap.size, 1, none⟩ = some (.int .i64 W.most) ∧ w'.cell? ⟨w.heap.size, 2, none⟩ = some (.int .i64 W.misses) ∧ w'.cell? ⟨w.heap.size, 3, none⟩ = some (.int .i64 W.alarms) ∧ w'.cell? ⟨w.heap.size, 4, none⟩ = some (.slice Am W.samples.length cm))
                (first | (refine ⟨?_, ?_, ?_, ?_, ?_⟩ <;> (go_keep; done)) | go_keep)
                (first
                  | (go_at_call 65; refine (some_any As Am A7 cs cm c7 W (lessI W k) _ (HIN.out.ext (Ext.drew HW7.out)) hsl7 HML.out HS7.out).mono ?_; rintro e w5n ⟨A4, c4, rfl, hs4, hb4⟩; have hc4 : ∀ o, w5n.cell? ⟨w.heap.size, o, none⟩ = _ := fun o => (bcell hb4).1 _ o hz; have hz4 := Nat.lt_of_lt_of_le (show w.heap.size < y2.drew.heap.size from hz) (Below.size hb4); have HB4 := Lib.hid hb4; clear hb4)
                  | (go_at_call 61; refine (refTruths_any As Am A4 _ _ _ _ c4 _ _ _ (smpl W (lessI W k)) _ hn8 (by have := smpl_len W (lessI W k); omega) hs4).mono ?_; rintro e w6n ⟨A5, c5, rfl, hs5, hb5⟩; clear hs5; have hpos := HPOS.out; have hposI : (0 : Int) < ((truthsTo (2 ^ W.springs.length) W.most W.misses W.alarms (smpl W (lessI W k))).length : Int) := (by omega); have hc5 : ∀ o, w6n.cell? ⟨w.heap.size, o, none⟩ = _ := fun o => (bcell hb5).1 _ o hz4; have HB5 := Lib.hid hb5; clear hb5))
              clear hs4
              have hEn : Ext wr w6n := HE7.out.trans ((Ext.trans (Ext.drew (Ext.refl _)) HB4.out).trans HB5.out)
              have HLN7 := Lib.hid (show IntsAre (.slice (some ⟨b, off, none⟩) L.length c) w6n L from (show IntsAre (.slice (some ⟨b, off, none⟩) L.length c) wr L from ⟨_, c, rfl, hcap, HS.out⟩).ext hEn)
              have HEN := Lib.hid hEn
              clear hc4 hc5 hz4 hEn
              go_wp2_with fail
              go_roundg (gk - 1)
              case measure => have := HKG.out; omega
              case rel => exact ⟨k + 1, by have := HKG.out; omega, by rw [HNX.out.1, List.length_append]; go_num, by rw [HNX.out.2]; exact HLN7.out, HB.out.trans HEN.out⟩
          · obtain rfl : k = W.samples.length := by omega
            have hfin : leftI W W.samples.length = kept W W.samples.length := by unfold leftI; simp
            have x5 : (leftI W W.samples.length).length = (kept W W.samples.length).length := by rw [hfin]
            have HFIN := Lib.hid hfin
            have HS := Lib.hid hs
            clear hfin hs hll
            go_wp2_with fail
            rw [HR.out.1, HR.out.2, ← HFIN.out]
            go_ret2
            exact ⟨A, c, rfl, HS.out, HW5.out.trans HB.out⟩
theorem refConflict_u (As Am : Option Addr) (cs cm : Nat) (W : Water) (w : World) (hin : WaterIn w As Am W) (hn : W.springs.length ≤ 30) (hm : W.samples.length ≤ 1000000) :
    Calls Tryd.prog 35 #[wvW As Am cs cm W] w fun e w' => ∃ A c, e = .returned (.tuple #[.slice A (confL W).length c, .int .i64 (confE W)]) ∧ SlOf natI 1 w' w'.heap.size A (confL W) ∧ Ext w w' := by
  cases hv : validB W
  · have h : confE W = 40 := by simp [confE, hv]
    have h2 : confL W = [] := by simp [confL, h]
    rw [h2, h]
    exact (refConflict_err As Am cs cm W w hin hn hm hv).mono fun e w' ⟨h1, h2⟩ => ⟨none, 0, h1, SlOf.nil _ _ _ _ _, h2⟩
  · exact refConflict_go As Am cs cm W w hin hv
theorem conflict_u (As Am : Option Addr) (cs cm : Nat) (W : Water) (w : World) (hin : WaterIn w As Am W) :
    Calls Tryd.prog 33 #[wvW As Am cs cm W] w fun e w' => ∃ A c, e = .returned (.tuple #[.slice A (confL W).length c, .int .i64 (confE W)]) ∧ SlOf natI 1 w' w'.heap.size A (confL W) ∧ Ext w w' := by
  by_cases hE : confE W = 0
  · rw [confL, if_pos hE, hE]
    exact conflict_ok As Am cs cm W w hin hE
  · rw [confL, if_neg hE]
    exact (conflict_err As Am cs cm W w hin hE).mono fun e w' ⟨h1, h2⟩ => ⟨none, 0, h1, SlOf.nil _ _ _ _ _, h2⟩
end Go.Proofs.YtabcmnfofekeeaaDoor
