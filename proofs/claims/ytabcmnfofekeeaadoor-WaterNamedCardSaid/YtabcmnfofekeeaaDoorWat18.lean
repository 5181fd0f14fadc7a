import Derived.Test.YtabcmnfofekeeaaDoorWat17
import Derived.WalkSmall
namespace Go.Proofs.YtabcmnfofekeeaaDoor
open Go Go.Proofs Go.RowKit Go.Shelf
set_option maxHeartbeats 1000000
set_option maxRecDepth 20000

theorem pow_pos2 (n : Nat) : 0 < (2 : Nat) ^ n := Nat.pow_pos (by omega)
theorem pureN_lt2 (W : Water) : pureN W < 2 ^ W.springs.length := by
  have h1 : fullN W < 2 ^ W.springs.length := by have := pow_pos2 W.springs.length; unfold fullN; omega
  unfold pureN diffN
  exact Nat.xor_lt_two_pow h1 (Nat.lt_of_le_of_lt Nat.and_le_left h1)
def okS (W : Water) (need : Int) (s : Nat) : Bool := (s &&& pureN W == 0) && decide (need ≤ sumOf (loOf W.springs) (el (s ||| pureN W)))
def batOf (W : Water) (s : Nat) : Batch := ⟨s, sumOf (fuelOf W.springs) (el s)⟩
def enoughTo (W : Water) (need : Int) (k : Nat) : List Batch := ((List.range k).filter (okS W need)).map (batOf W)
def enough (W : Water) (need : Int) : List Batch := enoughTo W need (2 ^ W.springs.length)
theorem enoughTo_succ (W : Water) (need : Int) (k : Nat) : enoughTo W need (k + 1) = enoughTo W need k ++ (if okS W need k = true then [batOf W k] else []) := by
  unfold enoughTo
  rw [List.range_succ, List.filter_append, List.map_append]
  cases h : okS W need k <;> simp [h]
theorem enoughTo_len (W : Water) (need : Int) (k : Nat) : (enoughTo W need k).length ≤ k := by
  unfold enoughTo
  rw [List.length_map]
  exact Nat.le_trans (List.length_filter_le _ _) (by simp)
theorem enoughTo_lt {W : Water} {need : Int} {k : Nat} {b : Batch} (h : b ∈ enoughTo W need k) : b.set < k := by
  unfold enoughTo at h
  simp only [List.mem_map, List.mem_filter, List.mem_range] at h
  obtain ⟨s, ⟨h1, _⟩, rfl⟩ := h
  exact h1
/-- What Serve answers for valid water and need, some truth of which is possible. -/
def serveV (W : Water) (need : Int) : Value :=
  if enough W need = [] then .tuple #[.int .i64 0, .int .i64 0, .int .i64 0, .int .i64 3]
  else .tuple #[.int .i64 (pureN W), .int .i64 ((minB (enough W need)).set : Int), .int .i64 (minB (enough W need)).fuel, .int .i64 0]
theorem batch_info : (Tryd.prog.info? 83).map (fun i => (i.zero, i.size, i.bytes)) = some (some (.agg #[.int .u64 0, .int .i64 0]), 2, 16) := by kernel_rfl

theorem serve_err (As Am : Option Addr) (cs cm : Nat) (W : Water) (need : Int) (w : World) (hin : WaterIn w As Am W) (hE : openE W (withinB need 0 10000) ≠ 0) :
    Calls Tryd.prog 20 #[wvW As Am cs cm W, .int .i64 need] w fun e w' => e = .returned (.tuple #[.int .i64 0, .int .i64 0, .int .i64 0, .int .i64 (openE W (withinB need 0 10000))]) ∧ Ext w w' := by
  have hE2 : (openE W (withinB need 0 10000) != 0) = true := by simpa using hE
  have eg := enters_of Tryd.func45 (by kernel_rfl) rfl
  go_enter Tryd.func20, Tryd.ntmps20
  go_wp2_with fail
  refine (open_err_told _ _ _ _ W _ (hin.ext (by (repeat (first | (with_reducible exact Ext.refl _) | (with_reducible assumption) | (with_reducible refine Ext.alloc ?_ _) | (with_reducible refine Ext.trans ?_ (by with_reducible assumption)) | (with_reducible refine Ext.drew ?_) | (with_reducible refine Ext.setCell ?_ (by simp <;> omega) _))))) (tb := withinB need 0 10000) _ _ eg ?_ hE).mono ?_
  · intro hv w' hb
    obtain ⟨hc, _⟩ := bcell hb
    have hsz : w.heap.size + 1 < w'.heap.size := by have := hb.size; (try simp at this); omega
    exact serve1_any need _ _ _ _ _ _ _ _ _ _ w' hsz ((hc _ 0 (by simp)).trans (by go_simp))
  rintro e w1 ⟨fv, rfl, ⟨As', Am', n', cs', m', cm', a', b', c', rfl⟩, hb1⟩
  go_wp2_with fail
  exact bodyPost_ret (v := .tuple #[.int .i64 0, .int .i64 0, .int .i64 0, .int .i64 (openE W (withinB need 0 10000))]) (by simp only [results, Tryd.results20]; go_simp) rfl ⟨rfl, by (repeat (first | (with_reducible exact Ext.refl _) | (with_reducible assumption) | (with_reducible refine Ext.alloc ?_ _) | (with_reducible refine Ext.trans ?_ (by with_reducible assumption)) | (with_reducible refine Ext.drew ?_) | (with_reducible refine Ext.setCell ?_ (by simp <;> omega) _)))⟩

theorem own_ext {base : Nat} {e : TypeId} {sz n : Nat} {v : Value} {xs : List Value} {w w' : World} (h : w.ownsRow base e sz v n xs) (hb : Ext w w') : w'.ownsRow base e sz v n xs :=
  h.kept (row := none) ⟨hb.os, hb.tape, hb.output, hb.size, fun j hj _ => hb.block j hj⟩ (by cases hv : v.ownBlock <;> simp)
theorem okS_false1 {W : Water} {need : Int} {k : Nat} (h : (k &&& pureN W != 0) = true) : okS W need k = false := by
  unfold okS; simp only [bne_iff_ne, ne_eq] at h; simp [h]
theorem okS_false2 {W : Water} {need : Int} {k : Nat} (h : ¬ need ≤ sumOf (loOf W.springs) (el (k ||| pureN W))) : okS W need k = false := by
  unfold okS; simp; omega
theorem okS_true {W : Water} {need : Int} {k : Nat} (h : (k &&& pureN W != 0) = false) (h2 : need ≤ sumOf (loOf W.springs) (el (k ||| pureN W))) : okS W need k = true := by
  unfold okS; simp only [bne_eq_false_iff_eq] at h; simp [h, h2]

theorem meets_is (s t : Nat) (w : World) (v : Bool) (hv : (s &&& t != 0) = v) (hs : s < 4294967296) (ht : t < 4294967296) : Calls Tryd.prog 47 #[.int .u64 s, .int .u64 t] w fun e w' => e = .returned (.bool v) ∧ w = w' := hv ▸ meets_any s t w hs ht

theorem serve_ok (As Am : Option Addr) (cs cm : Nat) (W : Water) (need : Int) (w : World) (hin : WaterIn w As Am W) (ht : TabIn w) (hE : openE W (withinB need 0 10000) = 0) :
    Calls Tryd.prog 20 #[wvW As Am cs cm W, .int .i64 need] w fun e w' => e = .returned (serveV W need) ∧ Ext w w' := by
  have eg := enters_of Tryd.func45 (by kernel_rfl) rfl
  obtain ⟨hv, hnd, hne⟩ := open_zero hE
  have hlen := truthsW_len hv
  have hn := valid_len hv
  have hspr := valid_spr hv
  have hp8 := pow_le8 hn.2
  have hp0 := pow_pos2 W.springs.length
  have hP := pureN_lt2 W
  obtain ⟨i0, hi, hz0, hz1, hz2⟩ := info_parts batch_info
  have HM := Lib.hid (fun t ht => truthsW_mem hv (t := t) ht)
  have hso := someTo_lt (truthsW W) HM.out
  have A1 := andNot_is (fullN W) (someTo (truthsW W)) (fullN_lt hn.2) (by omega)
  have a1 : bits .andNot .u64 ((2 ^ W.springs.length - 1 : Nat) : Int) (someTo (truthsW W) : Int) = (pureN W : Int) := A1
  have HV := Lib.hid hv
  have HNE := Lib.hid hne
  have HND := Lib.hid hnd
  have HIN := Lib.hid hin
  clear hE hv hne hnd A1 hin
  go_enter Tryd.func20, Tryd.ntmps20
  go_wp2_with fail
  refine (open_ok_told _ _ _ _ W _ (HIN.out.ext (by (repeat (first | (with_reducible exact Ext.refl _) | (with_reducible assumption) | (with_reducible refine Ext.alloc ?_ _) | (with_reducible refine Ext.trans ?_ (by with_reducible assumption)) | (with_reducible refine Ext.drew ?_) | (with_reducible refine Ext.setCell ?_ (by simp <;> omega) _))))) _ _ eg ?_ HV.out HNE.out).mono ?_
  · intro w' hb
    obtain ⟨hc, _⟩ := bcell hb
    have hsz : w.heap.size + 1 < w'.heap.size := by have := hb.size; (try simp at this); omega
    have := serve1_any need (w.heap.size + 1) As Am W.springs.length cs W.samples.length cm W.most W.misses W.alarms w' hsz ((hc _ 0 (by simp)).trans (by go_simp))
    rw [HND.out] at this
    exact this
  rintro e wo ⟨A, c, rfl, h1, hbo⟩
  have hs := sl_nats h1
  have hw01 : Ext w wo := by (repeat (first | (with_reducible exact Ext.refl _) | (with_reducible assumption) | (with_reducible refine Ext.alloc ?_ _) | (with_reducible refine Ext.trans ?_ (by with_reducible assumption)) | (with_reducible refine Ext.drew ?_) | (with_reducible refine Ext.setCell ?_ (by simp <;> omega) _)))
  obtain ⟨hc1, hf1⟩ := bcell hbo
  have c3 := (hc1 (w.heap.size + 1) 0 (by simp)).trans (show _ = some (.int .i64 need) by go_simp)
  have hsz : w.heap.size + 1 < wo.heap.size := by have := hbo.size; (try simp at this); omega
  clear h1 hc1 hf1
  go_wp2_with fail
  refine (fouls_any _ _ (truthsW W) _ (by omega) HM.out ((hs.below (B' := wo.heap.size) (by (repeat (first | (with_reducible exact Ext.refl _) | (with_reducible assumption) | (with_reducible refine Ext.alloc ?_ _) | (with_reducible refine Ext.trans ?_ (by with_reducible assumption)) | (with_reducible refine Ext.drew ?_) | (with_reducible refine Ext.setCell ?_ (by simp <;> omega) _)))) (Nat.le_refl _)).more (by simp))).mono ?_
  rintro e w2 ⟨rfl, rfl⟩
  go_wp2_with fail
  (go_at_call 44; refine (springs_any _ _ _ _ _ _ _ _ _ _ hn.2).mono ?_; rintro e w1 ⟨rfl, hb2⟩)
  obtain ⟨hc2, hf2⟩ := bcell hb2
  have f0 := (hc2 wo.heap.size 0 (by simp)).trans (show _ = some (.slice As W.springs.length cs) by go_simp)
  have f1 := (hc2 wo.heap.size 1 (by simp)).trans (show _ = some (.int .i64 W.most) by go_simp)
  have f2 := (hc2 wo.heap.size 2 (by simp)).trans (show _ = some (.int .i64 W.misses) by go_simp)
  have f3 := (hc2 wo.heap.size 3 (by simp)).trans (show _ = some (.int .i64 W.alarms) by go_simp)
  have f4 := (hc2 wo.heap.size 4 (by simp)).trans (show _ = some (.slice Am W.samples.length cm) by go_simp)
  have g3 := (hc2 (w.heap.size + 1) 0 (by simp; omega)).trans (show _ = some (.int .i64 need) by go_simp)
  have k1 : wo.heap.size < w1.heap.size := by have := hb2.size; (try simp at this); omega
  have h02 : Ext w w1 := by (repeat (first | (with_reducible exact Ext.refl _) | (with_reducible assumption) | (with_reducible refine Ext.alloc ?_ _) | (with_reducible refine Ext.trans ?_ (by with_reducible assumption)) | (with_reducible refine Ext.drew ?_) | (with_reducible refine Ext.setCell ?_ (by simp <;> omega) _)))
  have HIN2 := Lib.hid ((HIN.out.ext h02).1)
  have HT2 := Lib.hid (ht.ext h02)
  have H02 := Lib.hid h02
  clear hc2 hf2 c3 hs h02 hb2 hbo hw01 ht
  generalize hBo : wo.heap.size = Bo at *
  generalize hBw : w.heap.size = Bw at *
  go_wp2_with fail
  go_at_call 44
  refine (springs_any _ _ _ _ _ _ _ _ _ _ hn.2).mono ?_
  rintro e w3 ⟨rfl, hb3⟩
  have HW3 := Lib.hid hb3
  have c30 := ((bcell hb3).1 _ 0 k1).trans f0
  have c31 := ((bcell hb3).1 _ 1 k1).trans f1
  have c32 := ((bcell hb3).1 _ 2 k1).trans f2
  have c33 := ((bcell hb3).1 _ 3 k1).trans f3
  have c34 := ((bcell hb3).1 _ 4 k1).trans f4
  have HW13 := Lib.hid (H02.out.trans hb3)
  have HIN3 := Lib.hid ((HIN2.out.below hb3 (Nat.le_refl _)).more hb3.size)
  have HT3 := Lib.hid (HT2.out.ext hb3)
  have gn := ((bcell hb3).1 _ 0 (by omega)).trans g3
  have k3 : Bo < w3.heap.size := Nat.lt_of_lt_of_le k1 hb3.size
  clear f0 f1 f2 f3 f4 g3 k1 hb3
  have hP8 : pureN W < 256 := by omega
  have hP0 : (0 : Int) ≤ (pureN W : Int) := by omega
  generalize hN : 2 ^ W.springs.length = N at *
  go_wp2_with fail
  go_loopg [13, 38] N (fun gk v i wr => ∃ k : Nat, k + gk = N ∧ i = .int .u64 k ∧ wr.ownsRow w3.heap.size 83 2 v (enoughTo W need k).length ((enoughTo W need k).flatMap batC) ∧ (v = .slice none 0 0 ↔ enoughTo W need k = []) ∧ Ext w3 wr)
  case atStart => exact ⟨0, by omega, rfl, World.ownsRow_nil _ _ _ _, by simp [enoughTo], Ext.refl _⟩
  case round =>
    obtain ⟨k, hk, rfl, hown, hnil, hb4⟩ := hrel
    have HK : k ≤ N := by omega
    have HKG := Lib.hid hk
    have HB := Lib.hid hb4
    have HO := Lib.hid hown
    have HNIL := Lib.hid hnil
    have hlE := enoughTo_len W need k
    have hz3 := hb4.size
    have d0 := ((bcell hb4).1 _ 0 k3).trans c30
    have d1 := ((bcell hb4).1 _ 1 k3).trans c31
    have d2 := ((bcell hb4).1 _ 2 k3).trans c32
    have d3 := ((bcell hb4).1 _ 3 k3).trans c33
    have d4 := ((bcell hb4).1 _ 4 k3).trans c34
    have dn := ((bcell hb4).1 _ 0 (show Bw + 1 < _ by omega)).trans gn
    have k4 : Bo < wr.heap.size := by omega
    have k5 : Bw + 1 < wr.heap.size := by omega
    clear hk hb4 hown hnil c30 c31 c32 c33 c34 gn
    by_cases hlt : k < N
    · have hk8 : k < 256 := by omega
      have hor : k ||| pureN W < N := by rw [← hN]; exact Nat.or_lt_two_pow (by omega) (by omega)
      have E1 := orN k (pureN W) hk8 hP8
      have HS := Lib.hid (fun (w' : World) (h : Ext wr w') => ((HIN3.out.below (HB.out.trans h) (Nat.le_refl _)).more (HB.out.trans h).size : SlOf sprC 3 w' w'.heap.size As W.springs))
      have HT := Lib.hid (fun (w' : World) (h : Ext wr w') => HT3.out.ext (HB.out.trans h))
      have hsu := Lib.hid (enoughTo_succ W need k)
      cases hm : (k &&& pureN W != 0)
      · by_cases hq : need ≤ sumOf (loOf W.springs) (el (k ||| pureN W))
        · have HOK := Lib.hid (okS_true hm hq)
          go_wp2_with fail
          (refine wp_region_ext (by kernel_rfl) (by kernel_rfl) (fun hX => ?_); (repeat (go_big_quiet_step ((first | (go_at_call 47; exact quiet_same (meets_is _ _ _ _ hm (by omega) (by omega))) | (go_at_call 48; exact quiet_ext (yield_any _ _ _ _ _ _ _ _ W.springs (k ||| pureN W) _ hn.2 (by rw [hN]; exact hor) hspr (HS.out _ (XW.h _)) (HT.out _ (XW.h _)))))))); refine wpQuiet_nil ?_; rintro w1 ⟨⟨_, hb1⟩, rfl⟩; (try dsimp only))
          have e0 := ((bcell hb1).1 _ 0 k4).trans d0
          have e1 := ((bcell hb1).1 _ 1 k4).trans d1
          have e2 := ((bcell hb1).1 _ 2 k4).trans d2
          have e3 := ((bcell hb1).1 _ 3 k4).trans d3
          have e4 := ((bcell hb1).1 _ 4 k4).trans d4
          have HO1 := Lib.hid (own_ext HO.out hb1)
          have HB1 := Lib.hid (HB.out.trans hb1)
          have hs1 := HS.out _ hb1
          have ht1 := HT.out _ hb1
          have hz1' := hb1.size
          clear d0 d1 d2 d3 d4 hX hb1 HS HT
          go_wp2_with fail
          go_at_call 49
          refine (fuel_any _ _ _ _ _ _ _ _ W.springs k _ hn.2 (by rw [hN]; exact hlt) hspr hs1 ht1).mono ?_
          rintro e w5 ⟨rfl, hb5⟩
          have HO5 := Lib.hid (own_ext HO1.out hb5)
          have HB5 := Lib.hid (HB1.out.trans hb5)
          have hz5 := hb5.size
          clear hb5 hs1 ht1 e0 e1 e2 e3 e4
          go_wp2_with (at_builtin; refine wpList_append_own _ rfl _ _ 79 rfl w3.heap.size 83 i0 (.agg #[.int .u64 0, .int .i64 0]) 2 16 Tryd.underlying79 hi hz0 hz1 hz2 rfl (by decide) _ _ _ rfl (HO5.out.alloc _) ⟨w5.heap.size, 0, none⟩ 1 1 (batC (batOf W k)) rfl rfl (cell_two_new _ _ _ _) (by simp [batC, Value.oneCell']) (by unfold maxLen; omega) (by omega) (by simp; omega) ?_; intro v' w6 hown6 hg6 hnil6)
          have hb6 : Ext w3 w6 := (HB5.out.alloc _).grown hg6 (own_block HO5.out)
          have HB6 := Lib.hid hb6
          have HO6 := Lib.hid hown6
          have HN6 := Lib.hid hnil6
          clear hown6 hg6 hnil6 hb6
          go_wp2_with fail
          go_roundg (gk - 1)
          case measure => have := HKG.out; omega
          case rel => exact ⟨k + 1, by have := HKG.out; omega, by go_num, by rw [hsu.out, HOK.out]; simpa using HO6.out, by rw [hsu.out, HOK.out, HN6.out]; simp, HB6.out⟩
        · have HOK := Lib.hid (okS_false2 (W := W) (need := need) (k := k) hq)
          go_wp2_with fail
          (refine wp_region_ext (by kernel_rfl) (by kernel_rfl) (fun hX => ?_); (repeat (go_big_quiet_step ((first | (go_at_call 47; exact quiet_same (meets_is _ _ _ _ hm (by omega) (by omega))) | (go_at_call 48; exact quiet_ext (yield_any _ _ _ _ _ _ _ _ W.springs (k ||| pureN W) _ hn.2 (by rw [hN]; exact hor) hspr (HS.out _ (XW.h _)) (HT.out _ (XW.h _)))))))); refine wpQuiet_nil ?_; rintro w1 ⟨⟨_, hb1⟩, rfl⟩; (try dsimp only))
          have HO1 := Lib.hid (own_ext HO.out hb1)
          have HB1 := Lib.hid (HB.out.trans hb1)
          clear hb1 hX
          go_wp2_with fail
          go_roundg (gk - 1)
          case measure => have := HKG.out; omega
          case rel => exact ⟨k + 1, by have := HKG.out; omega, by go_num, by rw [hsu.out, HOK.out]; simpa using HO1.out, by rw [hsu.out, HOK.out]; simpa using HNIL.out, HB1.out⟩
      · have HOK := Lib.hid (okS_false1 (W := W) (need := need) (k := k) hm)
        go_wp2_with fail
        (refine wp_region_ext (by kernel_rfl) (by kernel_rfl) (fun hX => ?_); (repeat (go_big_quiet_step ((first | (go_at_call 47; exact quiet_same (meets_is _ _ _ _ hm (by omega) (by omega))) | fail)))); refine wpQuiet_nil ?_; rintro w1 ⟨⟨_, hb1⟩, rfl⟩; (try dsimp only))
        have HO1 := Lib.hid (own_ext HO.out hb1)
        have HB1 := Lib.hid (HB.out.trans hb1)
        clear hb1 hX
        go_wp2_with fail
        go_roundg (gk - 1)
        case measure => have := HKG.out; omega
        case rel => exact ⟨k + 1, by have := HKG.out; omega, by go_num, by rw [hsu.out, HOK.out]; simpa using HO1.out, by rw [hsu.out, HOK.out]; simpa using HNIL.out, HB1.out⟩
    · obtain rfl : k = N := by omega
      have hEN : enoughTo W need k = enough W need := by unfold enough; rw [hN]
      have HN2 := HNIL.out
      have HO2 := HO.out
      rw [hEN] at HN2 HO2
      by_cases hne : enough W need = []
      · obtain rfl := HN2.2 hne
        have HF := Lib.hid (show Ext w wr from HW13.out.trans HB.out)
        clear HO2 HN2
        have k2 := fun w => Lib.run_eql_slice_nil (P := Tryd.prog) w 79 83 (none) 0 0 0 0 Tryd.underlying79
        go_wp2_with fail
        exact bodyPost_ret (v := .tuple #[.int .i64 0, .int .i64 0, .int .i64 0, .int .i64 3]) (by simp only [results, Tryd.results20]; go_simp) rfl ⟨by unfold serveV; rw [if_pos hne], HF.out⟩
      · obtain ⟨A2, c2, hv2, hf, hsl, hA⟩ := own_form HO2
        have hl0 : 0 < (enough W need).length := List.length_pos_iff.2 hne
        cases A2 with
        | none => exact absurd (hA rfl) (by omega)
        | some a2 =>
          subst hv2
          have hs2 : SlOf batC 2 wr wr.heap.size (some a2) (enough W need) := hsl
          have hmE : ∀ b ∈ enough W need, b.set < 256 := fun b hb => by have := enoughTo_lt (W := W) (need := need) (k := 2 ^ W.springs.length) hb; omega
          have hlE2 : (enough W need).length ≤ 1024 := by have := enoughTo_len W need (2 ^ W.springs.length); unfold enough; omega
          have hmb := hmE _ (minB_mem hne)
          have HME := Lib.hid hmE
          have HF := Lib.hid (show Ext w wr from HW13.out.trans HB.out)
          have HNE2 := Lib.hid hne
          clear HO2 HN2 hsl hA hf hmE hne
          have k2 := fun w => Lib.run_eql_slice_nil (P := Tryd.prog) w 79 83 (some a2) (enough W need).length c2 0 0 Tryd.underlying79
          go_wp2_with fail
          refine (minFunc_any _ _ _ _ hl0 hlE2 HME.out hs2).mono ?_
          rintro e w7 ⟨rfl, hb7⟩
          have HF7 := Lib.hid (HF.out.trans hb7)
          clear hb7 hs2
          have hp0' : (pureN W : Int) < 256 := by omega
          have hm0 : (0 : Int) ≤ ((minB (enough W need)).set : Int) := by omega
          have hm1 : ((minB (enough W need)).set : Int) < 256 := by omega
          go_wp2_with fail
          (refine wp_region_ext (by kernel_rfl) (by kernel_rfl) (fun hX => ?_); (repeat (go_big_quiet_step (fail))); refine wpQuiet_nil ?_; rintro w1 ⟨⟨_, hb1⟩, rfl⟩; (try dsimp only))
          go_wp2_with fail
          exact bodyPost_ret (v := .tuple #[.int .i64 (pureN W), .int .i64 ((minB (enough W need)).set : Int), .int .i64 (minB (enough W need)).fuel, .int .i64 0]) (by simp only [results, Tryd.results20]; go_simp) rfl ⟨by unfold serveV; rw [if_neg HNE2.out], HF7.out.trans (by (repeat (first | (with_reducible exact Ext.refl _) | (with_reducible assumption) | (with_reducible refine Ext.alloc ?_ _) | (with_reducible refine Ext.trans ?_ (by with_reducible assumption)) | (with_reducible refine Ext.drew ?_) | (with_reducible refine Ext.setCell ?_ (by simp <;> omega) _))))⟩
end Go.Proofs.YtabcmnfofekeeaaDoor
