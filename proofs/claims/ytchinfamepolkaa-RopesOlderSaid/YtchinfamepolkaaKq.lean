/- Texts Rop4, Rop5, Rop6, Rop7 in one. -/
import Derived.Test.YtchinfamepolkaaRop3
/- Ropes: the damage of a fall and of a rope, fitness. -/
namespace Go.Proofs.Ytchinfamepolkaa
set_option linter.unusedSimpArgs false
set_option linter.unusedVariables false
set_option linter.unusedSectionVars false
open Go Go.Proofs Go.RowKit Go.Shelf
set_option maxHeartbeats 1000000
set_option maxRecDepth 20000

theorem harm_any (A : Option Addr) (c : Nat) (M : Model) (h o : Int) (w : World) (hl : M.wears.length ≤ 1000000) (h1 : 1 ≤ h ∧ h ≤ 1000) (h2 : 1 ≤ o ∧ o ≤ 1000) (hs : SlOf wearC 2 w w.heap.size A M.wears) :
    Calls Try.prog 81 #[modelV A c M, .int .i64 h, .int .i64 o] w fun e w' => e = .returned (.int .i64 (harmV M.wears (facV h o))) ∧ Ext w w' := by
  have hq : 0 ≤ (100 * h + o - 1) / o := Int.ediv_nonneg (by omega) (by omega)
  obtain ⟨h11, h12⟩ := h1
  obtain ⟨h21, h22⟩ := h2
  obtain ⟨F, hF⟩ : ∃ F, facV h o = F := ⟨_, rfl⟩
  have HF := Lib.hid hF
  have key : Calls Try.prog 81 #[modelV A c M, .int .i64 h, .int .i64 o] w fun e w' => e = .returned (.int .i64 (harmV M.wears F)) ∧ Ext w w' := by
    by_cases hm : 200 ≤ (100 * h + o - 1) / o
    all_goals
      first | (have HFV := Lib.hid (show F = 200 by rw [← hF, facV]; omega)) | (have HFV := Lib.hid (show F = (100 * h + o - 1) / o by rw [← hF, facV]; omega))
      first | skip | (have hm2 : (100 * h + o - 1) / o < 200 := by omega)
      clear hF
      go_enter Try.func81, Try.ntmps81
      go_wp2_with fail
      first
        | (go_loopg [8, 23] M.wears.length (fun gk d i wr => ∃ k : Nat, k + gk = M.wears.length ∧ i = .int .i64 k ∧ d = .int .i64 (harmTo M.wears F k) ∧ Ext w wr))
      case atStart => exact ⟨0, by omega, rfl, rfl, by (repeat (first | (with_reducible exact Ext.refl _) | (with_reducible assumption) | (with_reducible refine Ext.alloc ?_ _) | (with_reducible refine Ext.trans ?_ (by with_reducible assumption)) | (with_reducible refine Ext.drew ?_) | (with_reducible refine Ext.setCell ?_ (by simp <;> omega) _)))⟩
      case round =>
        obtain ⟨k, hk, rfl, rfl, hb⟩ := hrel
        have HK : k ≤ M.wears.length := by omega
        have HKG := Lib.hid hk
        have HB := Lib.hid hb
        clear hk hb
        by_cases hlt : k < M.wears.length
        · obtain ⟨b, off, rfl, hbl, hc⟩ := (hs.below HB.out (Nat.le_refl _)).at_ wearC_len hlt
          have c0 := hc 0 _ (by omega) rfl
          have c1 := hc 1 _ (by omega) rfl
          clear hc
          simp only [Nat.add_zero] at c0
          have HT := Lib.hid (harmTo_succ M.wears F k hlt)
          generalize M.wears[k] = x at *
          by_cases hx : x.factor ≤ F
          · have HT1 := Lib.hid (HT.out.trans (if_pos hx))
            have hx2 := hx
            rw [HFV.out] at hx2
            clear hx
            go_wp2_with fail
            go_roundg (gk - 1)
            case measure => have := HKG.out; omega
            case rel => exact ⟨k + 1, by have := HKG.out; omega, by go_num, by rw [HT1.out], HB.out.alloc _⟩
          · have HT1 := Lib.hid (HT.out.trans (if_neg hx))
            have hx2 := hx
            rw [HFV.out] at hx2
            clear hx
            go_wp2_with fail
            go_roundg (gk - 1)
            case measure => have := HKG.out; omega
            case rel => exact ⟨k + 1, by have := HKG.out; omega, by go_num, by rw [HT1.out], HB.out.alloc _⟩
        · obtain rfl : k = M.wears.length := by omega
          go_wp2_with fail
          go_ret
          exact ⟨rfl, HB.out⟩
  exact key.mono fun e w' ⟨a, b⟩ => ⟨by rw [a, HF.out], b⟩

def modelC (A : Option Addr) (c : Nat) (M : Model) : List Value := [.int .i64 M.shelf, .int .i64 M.use, .int .i64 M.bears, .slice A M.wears.length c]
theorem SlOf.ext {α : Type} {f : α → List Value} {sz : Nat} {w w' : World} {A : Option Addr} {l : List α} (h : SlOf f sz w w.heap.size A l) (he : Ext w w') : SlOf f sz w' w'.heap.size A l := (h.below he (Nat.le_refl _)).more he.size
theorem falls_in {R : Rope} (h : fallsTo R R.falls.length = true) {k : Nat} (hk : k < R.falls.length) : (1 ≤ R.falls[k].hlo ∧ R.falls[k].hlo ≤ R.falls[k].hhi ∧ R.falls[k].hhi ≤ 1000) ∧ (1 ≤ R.falls[k].olo ∧ R.falls[k].olo ≤ R.falls[k].ohi ∧ R.falls[k].ohi ≤ 1000) := by
  have h2 := fallsTo_mono (k := k + 1) (by omega) h
  rw [fallsTo_succ, Bool.and_eq_true, fallOk_is R k hk, Bool.and_eq_true, Bool.and_eq_true] at h2
  exact ⟨orderedB_true h2.2.1.2, orderedB_true h2.2.2⟩
theorem damage_any (A A2 : Option Addr) (c c2 : Nat) (M : Model) (R : Rope) (day : Int) (w : World) (hm : isModelB M = true) (hr : isRopeB R = true) (hs : SlOf wearC 2 w w.heap.size A M.wears) (hs2 : SlOf fallC 5 w w.heap.size A2 R.falls) :
    Calls Try.prog 48 #[modelV A c M, ropeV A2 c2 R, .int .i64 day] w fun e w' => e = .returned (.agg #[.int .i64 (damLo M R day), .int .i64 (damHi M R day)]) ∧ Ext w w' := by
  obtain ⟨hwt, _, _, _, hl6⟩ := model_bd hm
  obtain ⟨_, _, _, _, hl10, hft⟩ := rope_first hr
  have hwb := wears_bd hwt
  have HS := Lib.hid hs
  have HS2 := Lib.hid hs2
  have HWB := Lib.hid hwb
  have HFT := Lib.hid hft
  clear hs hs2 hwb hft hwt hm hr
  go_enter Try.func48, Try.ntmps48
  go_wp2_with fail
  obtain ⟨w2, hw2⟩ : ∃ w2, ((w.alloc (.cells #[.int .i64 M.shelf, .int .i64 M.use, .int .i64 M.bears, .slice A M.wears.length c] 92)).alloc (.cells #[.int .i64 R.made, .int .i64 R.first, .int .i64 R.length, .slice A2 R.falls.length c2] 27)).alloc (.cells #[.int .i64 0, .int .i64 0] 40) = w2 := ⟨_, rfl⟩
  have hb2 : Ext w w2 := by rw [← hw2]; (repeat (first | (with_reducible exact Ext.refl _) | (with_reducible assumption) | (with_reducible refine Ext.alloc ?_ _) | (with_reducible refine Ext.trans ?_ (by with_reducible assumption)) | (with_reducible refine Ext.drew ?_) | (with_reducible refine Ext.setCell ?_ (by simp <;> omega) _)))
  have hC1 : Cells w2 w.heap.size (modelC A c M) := by rw [← hw2]; exact ((cells_new w 92 (modelC A c M)).ext ((Ext.refl _).alloc _)).ext ((Ext.refl _).alloc _)
  have hBK : Blk w2 (w.heap.size + 1 + 1) 40 [.int .i64 0, .int .i64 0] := by rw [← hw2]; exact Blk.new _ _ _ (by simp)
  have HB2 := Lib.hid hb2
  have HC1 := Lib.hid hC1
  have HBK := Lib.hid hBK
  clear hb2 hC1 hBK
  go_loopg [12] R.falls.length (fun gk i wr => ∃ k : Nat, k + gk = R.falls.length ∧ i = .int .i64 k ∧ Cells wr w.heap.size (modelC A c M) ∧ Blk wr (w.heap.size + 1 + 1) 40 [.int .i64 (sumLo M.wears R.falls day k), .int .i64 (sumHi M.wears R.falls day k)] ∧ Ext w wr)
  case atStart => exact ⟨0, by omega, rfl, by rw [hw2]; exact HC1.out, by rw [hw2]; exact HBK.out, by rw [hw2]; exact HB2.out⟩
  case round =>
    clear HC1 HBK hw2
    obtain ⟨k, hk, rfl, hC, hB, hb⟩ := hrel
    have HK : k ≤ R.falls.length := by omega
    have HKG := Lib.hid hk
    have HC := Lib.hid hC
    have HBK := Lib.hid hB
    have HB := Lib.hid hb
    have hsl := sumLo_bd HWB.out R.falls day k
    have hsh := sumHi_bd HWB.out R.falls day k
    have g0 : wr.cell? ⟨w.heap.size + 1 + 1, 0, none⟩ = some (.int .i64 (sumLo M.wears R.falls day k)) := hB.cell 0
    have g1 : wr.cell? ⟨w.heap.size + 1 + 1, 1, none⟩ = some (.int .i64 (sumHi M.wears R.falls day k)) := hB.cell 1
    have gz := hB.lt
    have gf0 := hB.frozen 0
    have gf1 := hB.frozen 1
    clear hk hC hB hb
    by_cases hlt : k < R.falls.length
    · obtain ⟨b, off, rfl, hbl, hc⟩ := (HS2.out.below HB.out (Nat.le_refl _)).at_ fallC_len hlt
      have c0 := hc 0 _ (by omega) rfl
      have c1 := hc 1 _ (by omega) rfl
      have c2' := hc (3 - 1) _ (by omega) rfl
      have c3 := hc (4 - 1) _ (by omega) rfl
      have c4 := hc (5 - 1) _ (by omega) rfl
      clear hc
      simp only [Nat.add_zero, Nat.reduceSub] at c0 c1 c2' c3 c4
      have hin := falls_in HFT.out hlt
      have HT1 := Lib.hid (sumLo_succ M.wears R.falls day k hlt)
      have HT2 := Lib.hid (sumHi_succ M.wears R.falls day k hlt)
      generalize R.falls[k] = x at *
      obtain ⟨⟨i1, i2, i3⟩, i4, i5, i6⟩ := hin
      by_cases hx : x.day ≤ day
      · have HD1 := Lib.hid (show dmgLo M.wears x day = harmV M.wears (facV x.hlo x.ohi) by unfold dmgLo; rw [if_pos hx])
        have HD2 := Lib.hid (show dmgHi M.wears x day = harmV M.wears (facV x.hhi x.olo) by unfold dmgHi; rw [if_pos hx])
        have hh1 := harmTo_bd HWB.out (facV x.hlo x.ohi) M.wears.length
        have hh2 := harmTo_bd HWB.out (facV x.hhi x.olo) M.wears.length
        have HH := Lib.hid (show harmTo M.wears (facV x.hlo x.ohi) M.wears.length = harmV M.wears (facV x.hlo x.ohi) ∧ harmTo M.wears (facV x.hhi x.olo) M.wears.length = harmV M.wears (facV x.hhi x.olo) from ⟨rfl, rfl⟩)
        rw [HH.out.1] at hh1
        rw [HH.out.2] at hh2
        have f0 : wr.cell? ⟨w.heap.size, 0, none⟩ = some (.int .i64 M.shelf) := HC.out.2 0 _ rfl
        have f1 : wr.cell? ⟨w.heap.size, 1, none⟩ = some (.int .i64 M.use) := HC.out.2 1 _ rfl
        have f2 : wr.cell? ⟨w.heap.size, 2, none⟩ = some (.int .i64 M.bears) := HC.out.2 2 _ rfl
        have f3 : wr.cell? ⟨w.heap.size, 3, none⟩ = some (.slice A M.wears.length c) := HC.out.2 3 _ rfl
        have fz := HC.out.1
        clear HH
        go_upto_region 5 with (fail)
        obtain ⟨w4, hw4⟩ : ∃ w4, wr.alloc (.cells #[.int .i64 x.day, .int .i64 x.hlo, .int .i64 x.hhi, .int .i64 x.olo, .int .i64 x.ohi] 79) = w4 := ⟨_, rfl⟩
        rw [hw4]
        have hE4 : Ext wr w4 := by rw [← hw4]; exact (Ext.refl _).alloc _
        have x1 : w4.cell? ⟨wr.heap.size, 1, none⟩ = some (.int .i64 x.hlo) := by rw [← hw4]; clear hw4; go_simp
        have x2 : w4.cell? ⟨wr.heap.size, 2, none⟩ = some (.int .i64 x.hhi) := by rw [← hw4]; clear hw4; go_simp
        have x3 : w4.cell? ⟨wr.heap.size, 3, none⟩ = some (.int .i64 x.olo) := by rw [← hw4]; clear hw4; go_simp
        have x4 : w4.cell? ⟨wr.heap.size, 4, none⟩ = some (.int .i64 x.ohi) := by rw [← hw4]; clear hw4; go_simp
        have xz : wr.heap.size < w4.heap.size := by rw [← hw4]; simp
        have xb : w.heap.size + 1 + 1 ≠ wr.heap.size := by omega
        clear hw4
        replace f0 := ((bcell hE4).1 _ 0 fz).trans f0
        replace f1 := ((bcell hE4).1 _ 1 fz).trans f1
        replace f2 := ((bcell hE4).1 _ 2 fz).trans f2
        replace f3 := ((bcell hE4).1 _ 3 fz).trans f3
        replace g0 := ((bcell hE4).1 _ 0 gz).trans g0
        replace fz := Nat.lt_of_lt_of_le fz hE4.size
        have HBK4 := Lib.hid (HBK.out.ext hE4)
        have HC4 := Lib.hid (HC.out.ext hE4)
        have HB4 := Lib.hid (HB.out.trans hE4)
        replace gz := Nat.lt_of_lt_of_le gz hE4.size
        clear hE4 g1 gf0 gf1 c0 c1 c2' c3 c4
        (refine wp_region_ext_tail 11 (by kernel_rfl) (by kernel_rfl) (fun hX => ?_); simp only [List.take_succ_cons, List.take_zero, List.drop_succ_cons, List.drop_zero]; (repeat (go_big_quiet_step ((go_at_call 81; exact quiet_ext (harm_any A c M _ _ _ (by omega) ⟨by omega, by omega⟩ ⟨by omega, by omega⟩ (HS.out.ext (HB4.out.trans (XW.h _)))))))); refine wpQuiet_nil ?_; rintro w5 ⟨⟨_, hb5⟩, rfl⟩; (try dsimp only))
        have HBK5 := Lib.hid (HBK4.out.ext hb5)
        have HC5 := Lib.hid (HC4.out.ext hb5)
        have HB5 := Lib.hid (HB4.out.trans hb5)
        replace g0 := HBK5.out.cell 0
        have gf0 := HBK5.out.frozen 0
        replace gz := HBK5.out.lt
        replace x1 := ((bcell hb5).1 _ 1 xz).trans x1
        replace x2 := ((bcell hb5).1 _ 2 xz).trans x2
        replace x3 := ((bcell hb5).1 _ 3 xz).trans x3
        replace x4 := ((bcell hb5).1 _ 4 xz).trans x4
        replace xz := Nat.lt_of_lt_of_le xz hb5.size
        simp only [List.getElem?_cons_zero] at g0
        clear f0 f1 f2 f3 fz hb5
        go_upto_region 6 with (fail)
        obtain ⟨w6, hw6⟩ : ∃ w6, w5.setCell ⟨w.heap.size + 1 + 1, 0, none⟩ (.int .i64 (sumLo M.wears R.falls day k + harmV M.wears (facV x.hlo x.ohi))) = w6 := ⟨_, rfl⟩
        rw [hw6]
        have HBK6 := Lib.hid (show Blk w6 (w.heap.size + 1 + 1) 40 [.int .i64 (sumLo M.wears R.falls day k + harmV M.wears (facV x.hlo x.ohi)), .int .i64 (sumHi M.wears R.falls day k)] by rw [← hw6]; exact HBK5.out.set_ 0 _)
        have HC6 := Lib.hid (show Cells w6 w.heap.size (modelC A c M) by rw [← hw6]; exact HC5.out.far (by simp only; omega) _)
        have HB6 := Lib.hid (show Ext w w6 by rw [← hw6]; exact HB5.out.setCell (by simp only; omega) _)
        replace x1 : w6.cell? ⟨wr.heap.size, 1, none⟩ = some (.int .i64 x.hlo) := by rw [← hw6]; exact (World.cell?_setCell_other _ _ _ _ (fun e => xb (by injection e))).trans x1
        replace x2 : w6.cell? ⟨wr.heap.size, 2, none⟩ = some (.int .i64 x.hhi) := by rw [← hw6]; exact (World.cell?_setCell_other _ _ _ _ (fun e => xb (by injection e))).trans x2
        replace x3 : w6.cell? ⟨wr.heap.size, 3, none⟩ = some (.int .i64 x.olo) := by rw [← hw6]; exact (World.cell?_setCell_other _ _ _ _ (fun e => xb (by injection e))).trans x3
        replace x4 : w6.cell? ⟨wr.heap.size, 4, none⟩ = some (.int .i64 x.ohi) := by rw [← hw6]; exact (World.cell?_setCell_other _ _ _ _ (fun e => xb (by injection e))).trans x4
        replace xz : wr.heap.size < w6.heap.size := by rw [← hw6]; simpa using xz
        have f0 : w6.cell? ⟨w.heap.size, 0, none⟩ = some (.int .i64 M.shelf) := HC6.out.2 0 _ rfl
        have f1 : w6.cell? ⟨w.heap.size, 1, none⟩ = some (.int .i64 M.use) := HC6.out.2 1 _ rfl
        have f2 : w6.cell? ⟨w.heap.size, 2, none⟩ = some (.int .i64 M.bears) := HC6.out.2 2 _ rfl
        have f3 : w6.cell? ⟨w.heap.size, 3, none⟩ = some (.slice A M.wears.length c) := HC6.out.2 3 _ rfl
        have fz := HC6.out.1
        have g1 : w6.cell? ⟨w.heap.size + 1 + 1, 1, none⟩ = some (.int .i64 (sumHi M.wears R.falls day k)) := HBK6.out.cell 1
        replace gz := HBK6.out.lt
        clear hw6 g0 gf0
        (refine wp_region_ext_tail 11 (by kernel_rfl) (by kernel_rfl) (fun hX => ?_); simp only [List.take_succ_cons, List.take_zero, List.drop_succ_cons, List.drop_zero]; (repeat (go_big_quiet_step ((go_at_call 81; exact quiet_ext (harm_any A c M _ _ _ (by omega) ⟨by omega, by omega⟩ ⟨by omega, by omega⟩ (HS.out.ext (HB6.out.trans (XW.h _)))))))); refine wpQuiet_nil ?_; rintro w7 ⟨⟨_, hb7⟩, rfl⟩; (try dsimp only))
        have HBK7 := Lib.hid (HBK6.out.ext hb7)
        have HC7 := Lib.hid (HC6.out.ext hb7)
        have HB7 := Lib.hid (HB6.out.trans hb7)
        replace g1 := HBK7.out.cell 1
        have gf1 := HBK7.out.frozen 1
        replace gz := HBK7.out.lt
        simp only [List.getElem?_cons_succ, List.getElem?_cons_zero] at g1
        clear f0 f1 f2 f3 fz hb7 x1 x2 x3 x4 xz
        go_wp2_with fail
        go_roundg (gk - 1)
        case measure => have := HKG.out; omega
        case rel => exact ⟨k + 1, by have := HKG.out; omega, by go_num, HC7.out.far (by simp only; omega) _, by rw [HT1.out, HT2.out, HD1.out, HD2.out]; exact HBK7.out.set_ 1 _, HB7.out.setCell (by simp only; omega) _⟩
      · have HD1 := Lib.hid (show dmgLo M.wears x day = 0 by unfold dmgLo; rw [if_neg hx])
        have HD2 := Lib.hid (show dmgHi M.wears x day = 0 by unfold dmgHi; rw [if_neg hx])
        go_wp2_with fail
        go_roundg (gk - 1)
        case measure => have := HKG.out; omega
        case rel => exact ⟨k + 1, by have := HKG.out; omega, by go_num, HC.out.ext ((Ext.refl _).alloc _), by rw [HT1.out, HT2.out, HD1.out, HD2.out, Int.add_zero, Int.add_zero]; exact HBK.out.alloc _, HB.out.alloc _⟩
    · obtain rfl : k = R.falls.length := by omega
      have HBX := Lib.hid (show Ext w ((wr.setCell ⟨w.heap.size + 1 + 1, 0, none⟩ (.int .i64 (sumLo M.wears R.falls day R.falls.length))).setCell ⟨w.heap.size + 1 + 1, 1, none⟩ (.int .i64 (sumHi M.wears R.falls day R.falls.length))) from (HB.out.setCell (by simp only; omega) _).setCell (by simp only; omega) _)
      go_wp2_with fail
      exact bodyPost_ret (v := .agg #[.int .i64 (damLo M R day), .int .i64 (damHi M R day)]) (by simp only [results, Try.results48]; go_simp; exact ⟨rfl, rfl⟩) rfl ⟨rfl, HBX.out⟩
end Go.Proofs.Ytchinfamepolkaa

/- Ropes: ends, fit, open, on, Damage, Fit. -/
namespace Go.Proofs.Ytchinfamepolkaa
set_option linter.unusedSimpArgs false
set_option linter.unusedVariables false
set_option linter.unusedSectionVars false
open Go Go.Proofs Go.RowKit Go.Shelf
set_option maxHeartbeats 1000000
set_option maxRecDepth 20000

theorem ends_any (A A2 : Option Addr) (c c2 : Nat) (M : Model) (R : Rope) (first : Int) (w : World) (hm : isModelB M = true) (hr : isRopeB R = true) (h1 : -1 ≤ first) (h2 : first ≤ 99999) :
    Calls Try.prog 80 #[modelV A c M, ropeV A2 c2 R, .int .i64 first] w fun e w' => e = .returned (.int .i64 (endsV M R first)) ∧ Ext w w' := by
  obtain ⟨_, ⟨_, b2⟩, ⟨_, b4⟩, ⟨b5, b6⟩, _⟩ := model_bd hm
  obtain ⟨r1, r2, r3, r4, _, _⟩ := rope_first hr
  clear hm hr
  by_cases a1 : 99999 ≤ R.made + M.shelf
  · by_cases a2 : 0 ≤ first
    · by_cases a3 : 99999 ≤ first + M.use
      all_goals
        go_enter Try.func80, Try.ntmps80
        go_wp2_with fail
        go_ret
        exact ⟨ret_int (by unfold endsV; (repeat' split) <;> omega), by (repeat (first | (with_reducible exact Ext.refl _) | (with_reducible assumption) | (with_reducible refine Ext.alloc ?_ _) | (with_reducible refine Ext.trans ?_ (by with_reducible assumption)) | (with_reducible refine Ext.drew ?_) | (with_reducible refine Ext.setCell ?_ (by simp <;> omega) _)))⟩
    · go_enter Try.func80, Try.ntmps80
      go_wp2_with fail
      go_ret
      exact ⟨ret_int (by unfold endsV; (repeat' split) <;> omega), by (repeat (first | (with_reducible exact Ext.refl _) | (with_reducible assumption) | (with_reducible refine Ext.alloc ?_ _) | (with_reducible refine Ext.trans ?_ (by with_reducible assumption)) | (with_reducible refine Ext.drew ?_) | (with_reducible refine Ext.setCell ?_ (by simp <;> omega) _)))⟩
  · by_cases a2 : 0 ≤ first
    · by_cases a3 : R.made + M.shelf ≤ first + M.use
      all_goals
        go_enter Try.func80, Try.ntmps80
        go_wp2_with fail
        go_ret
        exact ⟨ret_int (by unfold endsV; (repeat' split) <;> omega), by (repeat (first | (with_reducible exact Ext.refl _) | (with_reducible assumption) | (with_reducible refine Ext.alloc ?_ _) | (with_reducible refine Ext.trans ?_ (by with_reducible assumption)) | (with_reducible refine Ext.drew ?_) | (with_reducible refine Ext.setCell ?_ (by simp <;> omega) _)))⟩
    · go_enter Try.func80, Try.ntmps80
      go_wp2_with fail
      go_ret
      exact ⟨ret_int (by unfold endsV; (repeat' split) <;> omega), by (repeat (first | (with_reducible exact Ext.refl _) | (with_reducible assumption) | (with_reducible refine Ext.alloc ?_ _) | (with_reducible refine Ext.trans ?_ (by with_reducible assumption)) | (with_reducible refine Ext.drew ?_) | (with_reducible refine Ext.setCell ?_ (by simp <;> omega) _)))⟩
theorem fit_any (A A2 : Option Addr) (c c2 : Nat) (M : Model) (R : Rope) (day dmg : Int) (w : World) (hm : isModelB M = true) (hr : isRopeB R = true) :
    Calls Try.prog 49 #[modelV A c M, ropeV A2 c2 R, .int .i64 day, .int .i64 dmg] w fun e w' => e = .returned (.bool (fitV M R day dmg)) ∧ Ext w w' := by
  obtain ⟨r1, r2, r3, r4, _, _⟩ := rope_first hr
  have HM := Lib.hid hm
  have HR := Lib.hid hr
  clear hm hr
  obtain ⟨F, hF⟩ : ∃ F, (if day < R.first then -1 else R.first) = F := ⟨_, rfl⟩
  have hF1 : -1 ≤ F ∧ F ≤ 99999 := by split at hF <;> omega
  have HF := Lib.hid hF
  by_cases hd : day < R.first
  · rw [if_pos hd] at hF
    subst hF
    by_cases he : day ≤ endsV M R (-1)
    · have d1 := decide_eq_true he
      have HV := Lib.hid (show fitV M R day dmg = decide (dmg ≤ M.bears) by unfold fitV; rw [HF.out, d1]; rfl)
      clear he HF
      go_enter Try.func49, Try.ntmps49
      go_wp2_with fail
      refine (ends_any A A2 c c2 M R _ _ HM.out HR.out hF1.1 hF1.2).mono ?_
      rintro e w1 ⟨rfl, hb1⟩
      have f2 := ((bcell hb1).1 w.heap.size 2 (by simp; omega)).trans (show _ = some (.int .i64 M.bears) by go_simp)
      have hE : Ext w w1 := by (repeat (first | (with_reducible exact Ext.refl _) | (with_reducible assumption) | (with_reducible refine Ext.alloc ?_ _) | (with_reducible refine Ext.trans ?_ (by with_reducible assumption)) | (with_reducible refine Ext.drew ?_) | (with_reducible refine Ext.setCell ?_ (by simp <;> omega) _)))
      clear hb1
      go_wp2_with fail
      go_ret
      exact ⟨ret_bool HV.out.symm, hE⟩
    · have d1 := decide_eq_false he
      have HV := Lib.hid (show fitV M R day dmg = false by unfold fitV; rw [HF.out, d1]; rfl)
      clear he HF
      go_enter Try.func49, Try.ntmps49
      go_wp2_with fail
      refine (ends_any A A2 c c2 M R _ _ HM.out HR.out hF1.1 hF1.2).mono ?_
      rintro e w1 ⟨rfl, hb1⟩
      have f2 := ((bcell hb1).1 w.heap.size 2 (by simp; omega)).trans (show _ = some (.int .i64 M.bears) by go_simp)
      have hE : Ext w w1 := by (repeat (first | (with_reducible exact Ext.refl _) | (with_reducible assumption) | (with_reducible refine Ext.alloc ?_ _) | (with_reducible refine Ext.trans ?_ (by with_reducible assumption)) | (with_reducible refine Ext.drew ?_) | (with_reducible refine Ext.setCell ?_ (by simp <;> omega) _)))
      clear hb1
      go_wp2_with fail
      go_ret
      exact ⟨ret_bool HV.out.symm, hE⟩
  · rw [if_neg hd] at hF
    subst hF
    by_cases he : day ≤ endsV M R R.first
    · have d1 := decide_eq_true he
      have HV := Lib.hid (show fitV M R day dmg = decide (dmg ≤ M.bears) by unfold fitV; rw [HF.out, d1]; rfl)
      clear he HF
      go_enter Try.func49, Try.ntmps49
      go_wp2_with fail
      refine (ends_any A A2 c c2 M R _ _ HM.out HR.out hF1.1 hF1.2).mono ?_
      rintro e w1 ⟨rfl, hb1⟩
      have f2 := ((bcell hb1).1 w.heap.size 2 (by simp; omega)).trans (show _ = some (.int .i64 M.bears) by go_simp)
      have hE : Ext w w1 := by (repeat (first | (with_reducible exact Ext.refl _) | (with_reducible assumption) | (with_reducible refine Ext.alloc ?_ _) | (with_reducible refine Ext.trans ?_ (by with_reducible assumption)) | (with_reducible refine Ext.drew ?_) | (with_reducible refine Ext.setCell ?_ (by simp <;> omega) _)))
      clear hb1
      go_wp2_with fail
      go_ret
      exact ⟨ret_bool HV.out.symm, hE⟩
    · have d1 := decide_eq_false he
      have HV := Lib.hid (show fitV M R day dmg = false by unfold fitV; rw [HF.out, d1]; rfl)
      clear he HF
      go_enter Try.func49, Try.ntmps49
      go_wp2_with fail
      refine (ends_any A A2 c c2 M R _ _ HM.out HR.out hF1.1 hF1.2).mono ?_
      rintro e w1 ⟨rfl, hb1⟩
      have f2 := ((bcell hb1).1 w.heap.size 2 (by simp; omega)).trans (show _ = some (.int .i64 M.bears) by go_simp)
      have hE : Ext w w1 := by (repeat (first | (with_reducible exact Ext.refl _) | (with_reducible assumption) | (with_reducible refine Ext.alloc ?_ _) | (with_reducible refine Ext.trans ?_ (by with_reducible assumption)) | (with_reducible refine Ext.drew ?_) | (with_reducible refine Ext.setCell ?_ (by simp <;> omega) _)))
      clear hb1
      go_wp2_with fail
      go_ret
      exact ⟨ret_bool HV.out.symm, hE⟩
def openM (e : Int) (A : Option Addr) (c : Nat) (M : Model) : Value := if e = 0 then modelV A c M else .agg #[.int .i64 0, .int .i64 0, .int .i64 0, .slice none 0 0]
theorem open_any (A A2 : Option Addr) (c c2 : Nat) (M : Model) (R : Rope) (w : World) (hl : M.wears.length ≤ 1000000) (hl2 : R.falls.length ≤ 1000000) (hs : SlOf wearC 2 w w.heap.size A M.wears) (hs2 : SlOf fallC 5 w w.heap.size A2 R.falls) :
    Calls Try.prog 79 #[modelV A c M, ropeV A2 c2 R] w fun e w' => e = .returned (.tuple #[openM (ropeE M R) A c M, .int .i64 (ropeE M R)]) ∧ Ext w w' := by
  have HS := Lib.hid hs
  have HS2 := Lib.hid hs2
  clear hs hs2
  cases hm : isModelB M
  · have HM := Lib.hid hm
    have HR := Lib.hid (show ropeE M R = 90 by simp [ropeE, hm])
    clear hm
    go_enter Try.func79, Try.ntmps79
    go_wp2_with fail
    refine (isModel_any A c M _ hl (HS.out.ext (by (repeat (first | (with_reducible exact Ext.refl _) | (with_reducible assumption) | (with_reducible refine Ext.alloc ?_ _) | (with_reducible refine Ext.trans ?_ (by with_reducible assumption)) | (with_reducible refine Ext.drew ?_) | (with_reducible refine Ext.setCell ?_ (by simp <;> omega) _)))))).mono ?_
    rintro e w1 ⟨rfl, hb1⟩
    rw [HM.out]
    have hE : Ext w w1 := by (repeat (first | (with_reducible exact Ext.refl _) | (with_reducible assumption) | (with_reducible refine Ext.alloc ?_ _) | (with_reducible refine Ext.trans ?_ (by with_reducible assumption)) | (with_reducible refine Ext.drew ?_) | (with_reducible refine Ext.setCell ?_ (by simp <;> omega) _)))
    have HB1 := Lib.hid hb1
    have g0 := (bcell hb1).1 (w.heap.size + 1 + 1)
    have g9 := (bcell hb1).2 (w.heap.size + 1 + 1)
    have x0 := (g0 0 (by simp)).trans (show _ = some (.int .i64 0) by go_simp)
    have x1 := (g0 1 (by simp)).trans (show _ = some (.int .i64 0) by go_simp)
    have x2 := (g0 2 (by simp)).trans (show _ = some (.int .i64 0) by go_simp)
    have x3 := (g0 3 (by simp)).trans (show _ = some (.slice none 0 0) by go_simp)
    have y0 := fun i => (g9 i (by simp)).trans (show _ = false by go_simp)
    clear hb1 g0 g9
    go_wp2_with fail
    exact bodyPost_ret (v := .tuple #[.agg #[.int .i64 0, .int .i64 0, .int .i64 0, .slice none 0 0], .int .i64 90]) (by simp only [results, Try.results79]; go_simp) rfl ⟨by rw [HR.out]; rfl, by (repeat (first | (with_reducible exact Ext.refl _) | (with_reducible assumption) | (with_reducible refine Ext.alloc ?_ _) | (with_reducible refine Ext.trans ?_ (by with_reducible assumption)) | (with_reducible refine Ext.drew ?_) | (with_reducible refine Ext.setCell ?_ (by simp <;> omega) _)))⟩
  cases hr : isRopeB R
  · have HM := Lib.hid hm
    have HRR := Lib.hid hr
    have HR := Lib.hid (show ropeE M R = 91 by simp [ropeE, hm, hr])
    clear hm hr
    go_enter Try.func79, Try.ntmps79
    go_wp2_with fail
    refine (isModel_any A c M _ hl (HS.out.ext (by (repeat (first | (with_reducible exact Ext.refl _) | (with_reducible assumption) | (with_reducible refine Ext.alloc ?_ _) | (with_reducible refine Ext.trans ?_ (by with_reducible assumption)) | (with_reducible refine Ext.drew ?_) | (with_reducible refine Ext.setCell ?_ (by simp <;> omega) _)))))).mono ?_
    rintro e w1 ⟨rfl, hb1⟩
    rw [HM.out]
    have hE : Ext w w1 := by (repeat (first | (with_reducible exact Ext.refl _) | (with_reducible assumption) | (with_reducible refine Ext.alloc ?_ _) | (with_reducible refine Ext.trans ?_ (by with_reducible assumption)) | (with_reducible refine Ext.drew ?_) | (with_reducible refine Ext.setCell ?_ (by simp <;> omega) _)))
    have x0 := ((bcell hb1).1 (w.heap.size + 1 + 1) 0 (by simp)).trans (show _ = some (.int .i64 0) by go_simp)
    have x1 := ((bcell hb1).1 (w.heap.size + 1 + 1) 1 (by simp)).trans (show _ = some (.int .i64 0) by go_simp)
    have x2 := ((bcell hb1).1 (w.heap.size + 1 + 1) 2 (by simp)).trans (show _ = some (.int .i64 0) by go_simp)
    have x3 := ((bcell hb1).1 (w.heap.size + 1 + 1) 3 (by simp)).trans (show _ = some (.slice none 0 0) by go_simp)
    have y0 := fun i => ((bcell hb1).2 (w.heap.size + 1 + 1) i (by simp)).trans (show _ = false by go_simp)
    have m0 := ((bcell hb1).1 w.heap.size 0 (by simp; omega)).trans (show _ = some (.int .i64 M.shelf) by go_simp)
    have m1 := ((bcell hb1).1 w.heap.size 1 (by simp; omega)).trans (show _ = some (.int .i64 M.use) by go_simp)
    have m2 := ((bcell hb1).1 w.heap.size 2 (by simp; omega)).trans (show _ = some (.int .i64 M.bears) by go_simp)
    have m3 := ((bcell hb1).1 w.heap.size 3 (by simp; omega)).trans (show _ = some (.slice A M.wears.length c) by go_simp)
    have r0 := ((bcell hb1).1 (w.heap.size + 1) 0 (by simp)).trans (show _ = some (.int .i64 R.made) by go_simp)
    have r1 := ((bcell hb1).1 (w.heap.size + 1) 1 (by simp)).trans (show _ = some (.int .i64 R.first) by go_simp)
    have r2 := ((bcell hb1).1 (w.heap.size + 1) 2 (by simp)).trans (show _ = some (.int .i64 R.length) by go_simp)
    have r3 := ((bcell hb1).1 (w.heap.size + 1) 3 (by simp)).trans (show _ = some (.slice A2 R.falls.length c2) by go_simp)
    have z1 : w.heap.size + 1 + 1 < w1.heap.size := Nat.lt_of_lt_of_le (show w.heap.size + 1 + 1 < (World.alloc _ _).heap.size by simp) (Below.size hb1)
    clear hb1
    go_wp2_with fail
    refine (isRope_any A2 c2 R _ hl2 (HS2.out.ext hE)).mono ?_
    rintro e w2 ⟨rfl, hb2⟩
    rw [HRR.out]
    have hE2 : Ext w w2 := hE.trans hb2
    replace x0 := ((bcell hb2).1 _ 0 z1).trans x0
    replace x1 := ((bcell hb2).1 _ 1 z1).trans x1
    replace x2 := ((bcell hb2).1 _ 2 z1).trans x2
    replace x3 := ((bcell hb2).1 _ 3 z1).trans x3
    replace y0 := fun i => ((bcell hb2).2 _ i z1).trans (y0 i)
    replace m0 := ((bcell hb2).1 _ 0 (show w.heap.size < _ by omega)).trans m0
    replace m1 := ((bcell hb2).1 _ 1 (show w.heap.size < _ by omega)).trans m1
    replace m2 := ((bcell hb2).1 _ 2 (show w.heap.size < _ by omega)).trans m2
    replace m3 := ((bcell hb2).1 _ 3 (show w.heap.size < _ by omega)).trans m3
    clear hb2 r0 r1 r2 r3 hE
    go_wp2_with fail
    exact bodyPost_ret (v := .tuple #[.agg #[.int .i64 0, .int .i64 0, .int .i64 0, .slice none 0 0], .int .i64 91]) (by simp only [results, Try.results79]; go_simp) rfl ⟨by rw [HR.out]; rfl, by (repeat (first | (with_reducible exact Ext.refl _) | (with_reducible assumption) | (with_reducible refine Ext.alloc ?_ _) | (with_reducible refine Ext.trans ?_ (by with_reducible assumption)) | (with_reducible refine Ext.drew ?_) | (with_reducible refine Ext.setCell ?_ (by simp <;> omega) _)))⟩
  · have HM := Lib.hid hm
    have HRR := Lib.hid hr
    have HR := Lib.hid (show ropeE M R = 0 by simp [ropeE, hm, hr])
    clear hm hr
    go_enter Try.func79, Try.ntmps79
    go_wp2_with fail
    refine (isModel_any A c M _ hl (HS.out.ext (by (repeat (first | (with_reducible exact Ext.refl _) | (with_reducible assumption) | (with_reducible refine Ext.alloc ?_ _) | (with_reducible refine Ext.trans ?_ (by with_reducible assumption)) | (with_reducible refine Ext.drew ?_) | (with_reducible refine Ext.setCell ?_ (by simp <;> omega) _)))))).mono ?_
    rintro e w1 ⟨rfl, hb1⟩
    rw [HM.out]
    have hE : Ext w w1 := by (repeat (first | (with_reducible exact Ext.refl _) | (with_reducible assumption) | (with_reducible refine Ext.alloc ?_ _) | (with_reducible refine Ext.trans ?_ (by with_reducible assumption)) | (with_reducible refine Ext.drew ?_) | (with_reducible refine Ext.setCell ?_ (by simp <;> omega) _)))
    have x0 := ((bcell hb1).1 (w.heap.size + 1 + 1) 0 (by simp)).trans (show _ = some (.int .i64 0) by go_simp)
    have x1 := ((bcell hb1).1 (w.heap.size + 1 + 1) 1 (by simp)).trans (show _ = some (.int .i64 0) by go_simp)
    have x2 := ((bcell hb1).1 (w.heap.size + 1 + 1) 2 (by simp)).trans (show _ = some (.int .i64 0) by go_simp)
    have x3 := ((bcell hb1).1 (w.heap.size + 1 + 1) 3 (by simp)).trans (show _ = some (.slice none 0 0) by go_simp)
    have y0 := fun i => ((bcell hb1).2 (w.heap.size + 1 + 1) i (by simp)).trans (show _ = false by go_simp)
    have m0 := ((bcell hb1).1 w.heap.size 0 (by simp; omega)).trans (show _ = some (.int .i64 M.shelf) by go_simp)
    have m1 := ((bcell hb1).1 w.heap.size 1 (by simp; omega)).trans (show _ = some (.int .i64 M.use) by go_simp)
    have m2 := ((bcell hb1).1 w.heap.size 2 (by simp; omega)).trans (show _ = some (.int .i64 M.bears) by go_simp)
    have m3 := ((bcell hb1).1 w.heap.size 3 (by simp; omega)).trans (show _ = some (.slice A M.wears.length c) by go_simp)
    have r0 := ((bcell hb1).1 (w.heap.size + 1) 0 (by simp)).trans (show _ = some (.int .i64 R.made) by go_simp)
    have r1 := ((bcell hb1).1 (w.heap.size + 1) 1 (by simp)).trans (show _ = some (.int .i64 R.first) by go_simp)
    have r2 := ((bcell hb1).1 (w.heap.size + 1) 2 (by simp)).trans (show _ = some (.int .i64 R.length) by go_simp)
    have r3 := ((bcell hb1).1 (w.heap.size + 1) 3 (by simp)).trans (show _ = some (.slice A2 R.falls.length c2) by go_simp)
    have z1 : w.heap.size + 1 + 1 < w1.heap.size := Nat.lt_of_lt_of_le (show w.heap.size + 1 + 1 < (World.alloc _ _).heap.size by simp) (Below.size hb1)
    clear hb1
    go_wp2_with fail
    refine (isRope_any A2 c2 R _ hl2 (HS2.out.ext hE)).mono ?_
    rintro e w2 ⟨rfl, hb2⟩
    rw [HRR.out]
    have hE2 : Ext w w2 := hE.trans hb2
    replace x0 := ((bcell hb2).1 _ 0 z1).trans x0
    replace x1 := ((bcell hb2).1 _ 1 z1).trans x1
    replace x2 := ((bcell hb2).1 _ 2 z1).trans x2
    replace x3 := ((bcell hb2).1 _ 3 z1).trans x3
    replace y0 := fun i => ((bcell hb2).2 _ i z1).trans (y0 i)
    replace m0 := ((bcell hb2).1 _ 0 (show w.heap.size < _ by omega)).trans m0
    replace m1 := ((bcell hb2).1 _ 1 (show w.heap.size < _ by omega)).trans m1
    replace m2 := ((bcell hb2).1 _ 2 (show w.heap.size < _ by omega)).trans m2
    replace m3 := ((bcell hb2).1 _ 3 (show w.heap.size < _ by omega)).trans m3
    clear hb2 r0 r1 r2 r3 hE
    go_wp2_with fail
    exact bodyPost_ret (v := .tuple #[modelV A c M, .int .i64 0]) (by simp only [results, Try.results79]; go_simp) rfl ⟨by rw [HR.out]; rfl, by (repeat (first | (with_reducible exact Ext.refl _) | (with_reducible assumption) | (with_reducible refine Ext.alloc ?_ _) | (with_reducible refine Ext.trans ?_ (by with_reducible assumption)) | (with_reducible refine Ext.drew ?_) | (with_reducible refine Ext.setCell ?_ (by simp <;> omega) _)))⟩
end Go.Proofs.Ytchinfamepolkaa

/- Ropes: on, Damage, Fit. -/
namespace Go.Proofs.Ytchinfamepolkaa
set_option linter.unusedSimpArgs false
set_option linter.unusedVariables false
set_option linter.unusedSectionVars false
open Go Go.Proofs Go.RowKit Go.Shelf
set_option maxHeartbeats 1000000
set_option maxRecDepth 20000

theorem ropeE_cases (M : Model) (R : Rope) : (ropeE M R = 0 ∧ isModelB M = true ∧ isRopeB R = true) ∨ ropeE M R = 90 ∨ ropeE M R = 91 := by
  unfold ropeE
  cases isModelB M <;> cases isRopeB R <;> simp
theorem dayE_of {M : Model} {R : Rope} {day : Int} (h : ropeE M R = 0) : dayE M R day = if withinB day R.made 99999 then 0 else 1 := by
  unfold ropeE at h
  unfold dayE
  cases hm : isModelB M <;> cases hr : isRopeB R <;> cases hw : withinB day R.made 99999 <;> simp [hm, hr] at h ⊢
theorem dayE_of_ne {M : Model} {R : Rope} {day : Int} (h : ropeE M R ≠ 0) : dayE M R day = ropeE M R := by
  unfold ropeE at h ⊢
  unfold dayE
  cases hm : isModelB M <;> cases hr : isRopeB R <;> simp [hm, hr] at h ⊢
theorem on_any (A A2 : Option Addr) (c c2 : Nat) (M : Model) (R : Rope) (day : Int) (w : World) (hl : M.wears.length ≤ 1000000) (hl2 : R.falls.length ≤ 1000000) (hs : SlOf wearC 2 w w.heap.size A M.wears) (hs2 : SlOf fallC 5 w w.heap.size A2 R.falls) :
    Calls Try.prog 47 #[modelV A c M, ropeV A2 c2 R, .int .i64 day] w fun e w' => e = .returned (.tuple #[openM (ropeE M R) A c M, .int .i64 (dayE M R day)]) ∧ Ext w w' := by
  have HS := Lib.hid hs
  have HS2 := Lib.hid hs2
  clear hs hs2
  rcases ropeE_cases M R with ⟨h0, _, _⟩ | h0 | h0
  · cases hw : withinB day R.made 99999
    · have HE := Lib.hid h0
      have HO := Lib.hid (show openM (ropeE M R) A c M = modelV A c M by rw [h0]; rfl)
      have HD := Lib.hid (show dayE M R day = 1 by rw [dayE_of h0, hw]; rfl)
      have HW := Lib.hid hw
      clear h0 hw
      go_enter Try.func47, Try.ntmps47
      go_wp2_with fail
      refine (open_any A A2 c c2 M R _ hl hl2 (HS.out.ext (by (repeat (first | (with_reducible exact Ext.refl _) | (with_reducible assumption) | (with_reducible refine Ext.alloc ?_ _) | (with_reducible refine Ext.trans ?_ (by with_reducible assumption)) | (with_reducible refine Ext.drew ?_) | (with_reducible refine Ext.setCell ?_ (by simp <;> omega) _))))) (HS2.out.ext (by (repeat (first | (with_reducible exact Ext.refl _) | (with_reducible assumption) | (with_reducible refine Ext.alloc ?_ _) | (with_reducible refine Ext.trans ?_ (by with_reducible assumption)) | (with_reducible refine Ext.drew ?_) | (with_reducible refine Ext.setCell ?_ (by simp <;> omega) _)))))).mono ?_
      rintro e w1 ⟨rfl, hb1⟩
      rw [HO.out, HE.out]
      have hE : Ext w w1 := by (repeat (first | (with_reducible exact Ext.refl _) | (with_reducible assumption) | (with_reducible refine Ext.alloc ?_ _) | (with_reducible refine Ext.trans ?_ (by with_reducible assumption)) | (with_reducible refine Ext.drew ?_) | (with_reducible refine Ext.setCell ?_ (by simp <;> omega) _)))
      have x0 := ((bcell hb1).1 (w.heap.size + 1 + 1) 0 (by first | (simp; done) | (simp; omega))).trans (show _ = some (.int .i64 0) by go_simp)
      have x1 := ((bcell hb1).1 (w.heap.size + 1 + 1) 1 (by first | (simp; done) | (simp; omega))).trans (show _ = some (.int .i64 0) by go_simp)
      have x2 := ((bcell hb1).1 (w.heap.size + 1 + 1) 2 (by first | (simp; done) | (simp; omega))).trans (show _ = some (.int .i64 0) by go_simp)
      have x3 := ((bcell hb1).1 (w.heap.size + 1 + 1) 3 (by first | (simp; done) | (simp; omega))).trans (show _ = some (.slice none 0 0) by go_simp)
      have y0 := fun i => ((bcell hb1).2 (w.heap.size + 1 + 1) i (by simp)).trans (show _ = false by go_simp)
      have r0 := ((bcell hb1).1 (w.heap.size + 1) 0 (by first | (simp; done) | (simp; omega))).trans (show _ = some (.int .i64 R.made) by go_simp)
      have z1 : w.heap.size + 1 + 1 < w1.heap.size := Nat.lt_of_lt_of_le (show w.heap.size + 1 + 1 < (World.alloc _ _).heap.size by simp) (Below.size hb1)
      have z2 : w.heap.size + 1 < w1.heap.size := by omega
      clear hb1
      go_wp2_with fail
      refine (within_is _ _ _ HW.out _).mono ?_
      rintro e w2 ⟨rfl, rfl⟩
      go_wp2_with fail
      exact bodyPost_ret (v := .tuple #[modelV A c M, .int .i64 1]) (by simp only [results, Try.results47]; go_simp) rfl ⟨by rw [HD.out, HO.out], by (repeat (first | (with_reducible exact Ext.refl _) | (with_reducible assumption) | (with_reducible refine Ext.alloc ?_ _) | (with_reducible refine Ext.trans ?_ (by with_reducible assumption)) | (with_reducible refine Ext.drew ?_) | (with_reducible refine Ext.setCell ?_ (by simp <;> omega) _)))⟩
    · have HE := Lib.hid h0
      have HO := Lib.hid (show openM (ropeE M R) A c M = modelV A c M by rw [h0]; rfl)
      have HD := Lib.hid (show dayE M R day = 0 by rw [dayE_of h0, hw]; rfl)
      have HW := Lib.hid hw
      clear h0 hw
      go_enter Try.func47, Try.ntmps47
      go_wp2_with fail
      refine (open_any A A2 c c2 M R _ hl hl2 (HS.out.ext (by (repeat (first | (with_reducible exact Ext.refl _) | (with_reducible assumption) | (with_reducible refine Ext.alloc ?_ _) | (with_reducible refine Ext.trans ?_ (by with_reducible assumption)) | (with_reducible refine Ext.drew ?_) | (with_reducible refine Ext.setCell ?_ (by simp <;> omega) _))))) (HS2.out.ext (by (repeat (first | (with_reducible exact Ext.refl _) | (with_reducible assumption) | (with_reducible refine Ext.alloc ?_ _) | (with_reducible refine Ext.trans ?_ (by with_reducible assumption)) | (with_reducible refine Ext.drew ?_) | (with_reducible refine Ext.setCell ?_ (by simp <;> omega) _)))))).mono ?_
      rintro e w1 ⟨rfl, hb1⟩
      rw [HO.out, HE.out]
      have hE : Ext w w1 := by (repeat (first | (with_reducible exact Ext.refl _) | (with_reducible assumption) | (with_reducible refine Ext.alloc ?_ _) | (with_reducible refine Ext.trans ?_ (by with_reducible assumption)) | (with_reducible refine Ext.drew ?_) | (with_reducible refine Ext.setCell ?_ (by simp <;> omega) _)))
      have x0 := ((bcell hb1).1 (w.heap.size + 1 + 1) 0 (by first | (simp; done) | (simp; omega))).trans (show _ = some (.int .i64 0) by go_simp)
      have x1 := ((bcell hb1).1 (w.heap.size + 1 + 1) 1 (by first | (simp; done) | (simp; omega))).trans (show _ = some (.int .i64 0) by go_simp)
      have x2 := ((bcell hb1).1 (w.heap.size + 1 + 1) 2 (by first | (simp; done) | (simp; omega))).trans (show _ = some (.int .i64 0) by go_simp)
      have x3 := ((bcell hb1).1 (w.heap.size + 1 + 1) 3 (by first | (simp; done) | (simp; omega))).trans (show _ = some (.slice none 0 0) by go_simp)
      have y0 := fun i => ((bcell hb1).2 (w.heap.size + 1 + 1) i (by simp)).trans (show _ = false by go_simp)
      have r0 := ((bcell hb1).1 (w.heap.size + 1) 0 (by first | (simp; done) | (simp; omega))).trans (show _ = some (.int .i64 R.made) by go_simp)
      have z1 : w.heap.size + 1 + 1 < w1.heap.size := Nat.lt_of_lt_of_le (show w.heap.size + 1 + 1 < (World.alloc _ _).heap.size by simp) (Below.size hb1)
      have z2 : w.heap.size + 1 < w1.heap.size := by omega
      clear hb1
      go_wp2_with fail
      refine (within_is _ _ _ HW.out _).mono ?_
      rintro e w2 ⟨rfl, rfl⟩
      go_wp2_with fail
      exact bodyPost_ret (v := .tuple #[modelV A c M, .int .i64 0]) (by simp only [results, Try.results47]; go_simp) rfl ⟨by rw [HD.out, HO.out], by (repeat (first | (with_reducible exact Ext.refl _) | (with_reducible assumption) | (with_reducible refine Ext.alloc ?_ _) | (with_reducible refine Ext.trans ?_ (by with_reducible assumption)) | (with_reducible refine Ext.drew ?_) | (with_reducible refine Ext.setCell ?_ (by simp <;> omega) _)))⟩
  · have HE := Lib.hid h0
    have HO := Lib.hid (show openM (ropeE M R) A c M = .agg #[.int .i64 0, .int .i64 0, .int .i64 0, .slice none 0 0] by rw [h0]; rfl)
    have HD := Lib.hid (show dayE M R day = 90 by rw [dayE_of_ne (by rw [h0]; decide), h0])
    clear h0
    go_enter Try.func47, Try.ntmps47
    go_wp2_with fail
    refine (open_any A A2 c c2 M R _ hl hl2 (HS.out.ext (by (repeat (first | (with_reducible exact Ext.refl _) | (with_reducible assumption) | (with_reducible refine Ext.alloc ?_ _) | (with_reducible refine Ext.trans ?_ (by with_reducible assumption)) | (with_reducible refine Ext.drew ?_) | (with_reducible refine Ext.setCell ?_ (by simp <;> omega) _))))) (HS2.out.ext (by (repeat (first | (with_reducible exact Ext.refl _) | (with_reducible assumption) | (with_reducible refine Ext.alloc ?_ _) | (with_reducible refine Ext.trans ?_ (by with_reducible assumption)) | (with_reducible refine Ext.drew ?_) | (with_reducible refine Ext.setCell ?_ (by simp <;> omega) _)))))).mono ?_
    rintro e w1 ⟨rfl, hb1⟩
    rw [HO.out, HE.out]
    have hE : Ext w w1 := by (repeat (first | (with_reducible exact Ext.refl _) | (with_reducible assumption) | (with_reducible refine Ext.alloc ?_ _) | (with_reducible refine Ext.trans ?_ (by with_reducible assumption)) | (with_reducible refine Ext.drew ?_) | (with_reducible refine Ext.setCell ?_ (by simp <;> omega) _)))
    have x0 := ((bcell hb1).1 (w.heap.size + 1 + 1) 0 (by first | (simp; done) | (simp; omega))).trans (show _ = some (.int .i64 0) by go_simp)
    have x1 := ((bcell hb1).1 (w.heap.size + 1 + 1) 1 (by first | (simp; done) | (simp; omega))).trans (show _ = some (.int .i64 0) by go_simp)
    have x2 := ((bcell hb1).1 (w.heap.size + 1 + 1) 2 (by first | (simp; done) | (simp; omega))).trans (show _ = some (.int .i64 0) by go_simp)
    have x3 := ((bcell hb1).1 (w.heap.size + 1 + 1) 3 (by first | (simp; done) | (simp; omega))).trans (show _ = some (.slice none 0 0) by go_simp)
    have y0 := fun i => ((bcell hb1).2 (w.heap.size + 1 + 1) i (by simp)).trans (show _ = false by go_simp)
    have r0 := ((bcell hb1).1 (w.heap.size + 1) 0 (by first | (simp; done) | (simp; omega))).trans (show _ = some (.int .i64 R.made) by go_simp)
    have z1 : w.heap.size + 1 + 1 < w1.heap.size := Nat.lt_of_lt_of_le (show w.heap.size + 1 + 1 < (World.alloc _ _).heap.size by simp) (Below.size hb1)
    have z2 : w.heap.size + 1 < w1.heap.size := by omega
    clear hb1
    go_wp2_with fail
    exact bodyPost_ret (v := .tuple #[.agg #[.int .i64 0, .int .i64 0, .int .i64 0, .slice none 0 0], .int .i64 90]) (by simp only [results, Try.results47]; go_simp) rfl ⟨by rw [HD.out, HO.out], by (repeat (first | (with_reducible exact Ext.refl _) | (with_reducible assumption) | (with_reducible refine Ext.alloc ?_ _) | (with_reducible refine Ext.trans ?_ (by with_reducible assumption)) | (with_reducible refine Ext.drew ?_) | (with_reducible refine Ext.setCell ?_ (by simp <;> omega) _)))⟩
  · have HE := Lib.hid h0
    have HO := Lib.hid (show openM (ropeE M R) A c M = .agg #[.int .i64 0, .int .i64 0, .int .i64 0, .slice none 0 0] by rw [h0]; rfl)
    have HD := Lib.hid (show dayE M R day = 91 by rw [dayE_of_ne (by rw [h0]; decide), h0])
    clear h0
    go_enter Try.func47, Try.ntmps47
    go_wp2_with fail
    refine (open_any A A2 c c2 M R _ hl hl2 (HS.out.ext (by (repeat (first | (with_reducible exact Ext.refl _) | (with_reducible assumption) | (with_reducible refine Ext.alloc ?_ _) | (with_reducible refine Ext.trans ?_ (by with_reducible assumption)) | (with_reducible refine Ext.drew ?_) | (with_reducible refine Ext.setCell ?_ (by simp <;> omega) _))))) (HS2.out.ext (by (repeat (first | (with_reducible exact Ext.refl _) | (with_reducible assumption) | (with_reducible refine Ext.alloc ?_ _) | (with_reducible refine Ext.trans ?_ (by with_reducible assumption)) | (with_reducible refine Ext.drew ?_) | (with_reducible refine Ext.setCell ?_ (by simp <;> omega) _)))))).mono ?_
    rintro e w1 ⟨rfl, hb1⟩
    rw [HO.out, HE.out]
    have hE : Ext w w1 := by (repeat (first | (with_reducible exact Ext.refl _) | (with_reducible assumption) | (with_reducible refine Ext.alloc ?_ _) | (with_reducible refine Ext.trans ?_ (by with_reducible assumption)) | (with_reducible refine Ext.drew ?_) | (with_reducible refine Ext.setCell ?_ (by simp <;> omega) _)))
    have x0 := ((bcell hb1).1 (w.heap.size + 1 + 1) 0 (by first | (simp; done) | (simp; omega))).trans (show _ = some (.int .i64 0) by go_simp)
    have x1 := ((bcell hb1).1 (w.heap.size + 1 + 1) 1 (by first | (simp; done) | (simp; omega))).trans (show _ = some (.int .i64 0) by go_simp)
    have x2 := ((bcell hb1).1 (w.heap.size + 1 + 1) 2 (by first | (simp; done) | (simp; omega))).trans (show _ = some (.int .i64 0) by go_simp)
    have x3 := ((bcell hb1).1 (w.heap.size + 1 + 1) 3 (by first | (simp; done) | (simp; omega))).trans (show _ = some (.slice none 0 0) by go_simp)
    have y0 := fun i => ((bcell hb1).2 (w.heap.size + 1 + 1) i (by simp)).trans (show _ = false by go_simp)
    have r0 := ((bcell hb1).1 (w.heap.size + 1) 0 (by first | (simp; done) | (simp; omega))).trans (show _ = some (.int .i64 R.made) by go_simp)
    have z1 : w.heap.size + 1 + 1 < w1.heap.size := Nat.lt_of_lt_of_le (show w.heap.size + 1 + 1 < (World.alloc _ _).heap.size by simp) (Below.size hb1)
    have z2 : w.heap.size + 1 < w1.heap.size := by omega
    clear hb1
    go_wp2_with fail
    exact bodyPost_ret (v := .tuple #[.agg #[.int .i64 0, .int .i64 0, .int .i64 0, .slice none 0 0], .int .i64 91]) (by simp only [results, Try.results47]; go_simp) rfl ⟨by rw [HD.out, HO.out], by (repeat (first | (with_reducible exact Ext.refl _) | (with_reducible assumption) | (with_reducible refine Ext.alloc ?_ _) | (with_reducible refine Ext.trans ?_ (by with_reducible assumption)) | (with_reducible refine Ext.drew ?_) | (with_reducible refine Ext.setCell ?_ (by simp <;> omega) _)))⟩
theorem dayE_cases (M : Model) (R : Rope) (day : Int) : (dayE M R day = 0 ∧ isModelB M = true ∧ isRopeB R = true ∧ withinB day R.made 99999 = true ∧ ropeE M R = 0) ∨ (dayE M R day != 0) = true := by
  unfold dayE ropeE
  cases isModelB M <;> cases isRopeB R <;> cases withinB day R.made 99999 <;> simp
theorem openM_two (M : Model) (R : Rope) (A : Option Addr) (c : Nat) : openM (ropeE M R) A c M = modelV A c M ∨ openM (ropeE M R) A c M = .agg #[.int .i64 0, .int .i64 0, .int .i64 0, .slice none 0 0] := by
  unfold openM
  split
  · exact .inl rfl
  · exact .inr rfl
def damT (M : Model) (R : Rope) (day : Int) : Value := if dayE M R day = 0 then .tuple #[.agg #[.int .i64 (damLo M R day), .int .i64 (damHi M R day)], .int .i64 0] else .tuple #[.agg #[.int .i64 0, .int .i64 0], .int .i64 (dayE M R day)]
theorem damageFn_any (A A2 : Option Addr) (c c2 : Nat) (M : Model) (R : Rope) (day : Int) (w : World) (hl : M.wears.length ≤ 1000000) (hl2 : R.falls.length ≤ 1000000) (hs : SlOf wearC 2 w w.heap.size A M.wears) (hs2 : SlOf fallC 5 w w.heap.size A2 R.falls) :
    Calls Try.prog 14 #[modelV A c M, ropeV A2 c2 R, .int .i64 day] w fun e w' => e = .returned (damT M R day) ∧ Ext w w' := by
  have HS := Lib.hid hs
  have HS2 := Lib.hid hs2
  clear hs hs2
  rcases dayE_cases M R day with ⟨h0, hm, hr, hw, hre⟩ | h0
  · have HE := Lib.hid h0
    have HM := Lib.hid hm
    have HR := Lib.hid hr
    have HO := Lib.hid (show openM (ropeE M R) A c M = modelV A c M by rw [hre]; rfl)
    have HT := Lib.hid (show damT M R day = .tuple #[.agg #[.int .i64 (damLo M R day), .int .i64 (damHi M R day)], .int .i64 0] by unfold damT; rw [if_pos h0])
    clear h0 hm hr hw hre
    go_enter Try.func14, Try.ntmps14
    go_wp2_with fail
    refine (on_any A A2 c c2 M R day _ hl hl2 (HS.out.ext (by (repeat (first | (with_reducible exact Ext.refl _) | (with_reducible assumption) | (with_reducible refine Ext.alloc ?_ _) | (with_reducible refine Ext.trans ?_ (by with_reducible assumption)) | (with_reducible refine Ext.drew ?_) | (with_reducible refine Ext.setCell ?_ (by simp <;> omega) _))))) (HS2.out.ext (by (repeat (first | (with_reducible exact Ext.refl _) | (with_reducible assumption) | (with_reducible refine Ext.alloc ?_ _) | (with_reducible refine Ext.trans ?_ (by with_reducible assumption)) | (with_reducible refine Ext.drew ?_) | (with_reducible refine Ext.setCell ?_ (by simp <;> omega) _)))))).mono ?_
    rintro e w1 ⟨rfl, hb1⟩
    rw [HO.out, HE.out]
    have hE : Ext w w1 := by (repeat (first | (with_reducible exact Ext.refl _) | (with_reducible assumption) | (with_reducible refine Ext.alloc ?_ _) | (with_reducible refine Ext.trans ?_ (by with_reducible assumption)) | (with_reducible refine Ext.drew ?_) | (with_reducible refine Ext.setCell ?_ (by simp <;> omega) _)))
    have r0 := ((bcell hb1).1 (w.heap.size + 1) 0 (by first | (simp; done) | (simp; omega))).trans (show _ = some (.int .i64 R.made) by go_simp)
    have r1 := ((bcell hb1).1 (w.heap.size + 1) 1 (by first | (simp; done) | (simp; omega))).trans (show _ = some (.int .i64 R.first) by go_simp)
    have r2 := ((bcell hb1).1 (w.heap.size + 1) 2 (by first | (simp; done) | (simp; omega))).trans (show _ = some (.int .i64 R.length) by go_simp)
    have r3 := ((bcell hb1).1 (w.heap.size + 1) 3 (by first | (simp; done) | (simp; omega))).trans (show _ = some (.slice A2 R.falls.length c2) by go_simp)
    have s0 := ((bcell hb1).1 (w.heap.size + 1 + 1) 0 (by simp)).trans (show _ = some (.int .i64 0) by go_simp)
    have s1 := ((bcell hb1).1 (w.heap.size + 1 + 1) 1 (by simp)).trans (show _ = some (.int .i64 0) by go_simp)
    have y0 := fun i => ((bcell hb1).2 (w.heap.size + 1 + 1) i (by simp)).trans (show _ = false by go_simp)
    have z1 : w.heap.size + 1 + 1 < w1.heap.size := Nat.lt_of_lt_of_le (show w.heap.size + 1 + 1 < (World.alloc _ _).heap.size by simp) (Below.size hb1)
    have z2 : w.heap.size + 1 < w1.heap.size := by omega
    clear hb1
    go_wp2_with fail
    refine (damage_any A A2 c c2 M R day _ HM.out HR.out (HS.out.ext (by (repeat (first | (with_reducible exact Ext.refl _) | (with_reducible assumption) | (with_reducible refine Ext.alloc ?_ _) | (with_reducible refine Ext.trans ?_ (by with_reducible assumption)) | (with_reducible refine Ext.drew ?_) | (with_reducible refine Ext.setCell ?_ (by simp <;> omega) _))))) (HS2.out.ext (by (repeat (first | (with_reducible exact Ext.refl _) | (with_reducible assumption) | (with_reducible refine Ext.alloc ?_ _) | (with_reducible refine Ext.trans ?_ (by with_reducible assumption)) | (with_reducible refine Ext.drew ?_) | (with_reducible refine Ext.setCell ?_ (by simp <;> omega) _)))))).mono ?_
    rintro e w2 ⟨rfl, hb2⟩
    have hE12 : Ext w1 w2 := Ext.trans (Ext.alloc (Ext.refl w1) _) hb2
    have hE2 : Ext w w2 := hE.trans hE12
    replace s0 := ((bcell hE12).1 _ 0 z1).trans s0
    replace s1 := ((bcell hE12).1 _ 1 z1).trans s1
    replace y0 := fun i => ((bcell hE12).2 _ i z1).trans (y0 i)
    clear hb2 hE12 r0 r1 r2 r3
    go_wp2_with fail
    exact bodyPost_ret (v := .tuple #[.agg #[.int .i64 (damLo M R day), .int .i64 (damHi M R day)], .int .i64 0]) (by simp only [results, Try.results14]; go_simp) rfl ⟨by rw [HT.out], by (repeat (first | (with_reducible exact Ext.refl _) | (with_reducible assumption) | (with_reducible refine Ext.alloc ?_ _) | (with_reducible refine Ext.trans ?_ (by with_reducible assumption)) | (with_reducible refine Ext.drew ?_) | (with_reducible refine Ext.setCell ?_ (by simp <;> omega) _)))⟩
  · rcases openM_two M R A c with hO | hO
    · have HO := Lib.hid hO
      have HT := Lib.hid (show damT M R day = .tuple #[.agg #[.int .i64 0, .int .i64 0], .int .i64 (dayE M R day)] by unfold damT; rw [if_neg (by simpa using h0)])
      clear hO
      go_enter Try.func14, Try.ntmps14
      go_wp2_with fail
      refine (on_any A A2 c c2 M R day _ hl hl2 (HS.out.ext (by (repeat (first | (with_reducible exact Ext.refl _) | (with_reducible assumption) | (with_reducible refine Ext.alloc ?_ _) | (with_reducible refine Ext.trans ?_ (by with_reducible assumption)) | (with_reducible refine Ext.drew ?_) | (with_reducible refine Ext.setCell ?_ (by simp <;> omega) _))))) (HS2.out.ext (by (repeat (first | (with_reducible exact Ext.refl _) | (with_reducible assumption) | (with_reducible refine Ext.alloc ?_ _) | (with_reducible refine Ext.trans ?_ (by with_reducible assumption)) | (with_reducible refine Ext.drew ?_) | (with_reducible refine Ext.setCell ?_ (by simp <;> omega) _)))))).mono ?_
      rintro e w1 ⟨rfl, hb1⟩
      rw [HO.out]
      have hE : Ext w w1 := by (repeat (first | (with_reducible exact Ext.refl _) | (with_reducible assumption) | (with_reducible refine Ext.alloc ?_ _) | (with_reducible refine Ext.trans ?_ (by with_reducible assumption)) | (with_reducible refine Ext.drew ?_) | (with_reducible refine Ext.setCell ?_ (by simp <;> omega) _)))
      have s0 := ((bcell hb1).1 (w.heap.size + 1 + 1) 0 (by simp)).trans (show _ = some (.int .i64 0) by go_simp)
      have s1 := ((bcell hb1).1 (w.heap.size + 1 + 1) 1 (by simp)).trans (show _ = some (.int .i64 0) by go_simp)
      have y0 := fun i => ((bcell hb1).2 (w.heap.size + 1 + 1) i (by simp)).trans (show _ = false by go_simp)
      have z1 : w.heap.size + 1 + 1 < w1.heap.size := Nat.lt_of_lt_of_le (show w.heap.size + 1 + 1 < (World.alloc _ _).heap.size by simp) (Below.size hb1)
      clear hb1
      go_wp2_with fail
      exact bodyPost_ret (v := .tuple #[.agg #[.int .i64 0, .int .i64 0], .int .i64 (dayE M R day)]) (by simp only [results, Try.results14]; go_simp) rfl ⟨by rw [HT.out], by (repeat (first | (with_reducible exact Ext.refl _) | (with_reducible assumption) | (with_reducible refine Ext.alloc ?_ _) | (with_reducible refine Ext.trans ?_ (by with_reducible assumption)) | (with_reducible refine Ext.drew ?_) | (with_reducible refine Ext.setCell ?_ (by simp <;> omega) _)))⟩
    · have HO := Lib.hid hO
      have HT := Lib.hid (show damT M R day = .tuple #[.agg #[.int .i64 0, .int .i64 0], .int .i64 (dayE M R day)] by unfold damT; rw [if_neg (by simpa using h0)])
      clear hO
      go_enter Try.func14, Try.ntmps14
      go_wp2_with fail
      refine (on_any A A2 c c2 M R day _ hl hl2 (HS.out.ext (by (repeat (first | (with_reducible exact Ext.refl _) | (with_reducible assumption) | (with_reducible refine Ext.alloc ?_ _) | (with_reducible refine Ext.trans ?_ (by with_reducible assumption)) | (with_reducible refine Ext.drew ?_) | (with_reducible refine Ext.setCell ?_ (by simp <;> omega) _))))) (HS2.out.ext (by (repeat (first | (with_reducible exact Ext.refl _) | (with_reducible assumption) | (with_reducible refine Ext.alloc ?_ _) | (with_reducible refine Ext.trans ?_ (by with_reducible assumption)) | (with_reducible refine Ext.drew ?_) | (with_reducible refine Ext.setCell ?_ (by simp <;> omega) _)))))).mono ?_
      rintro e w1 ⟨rfl, hb1⟩
      rw [HO.out]
      have hE : Ext w w1 := by (repeat (first | (with_reducible exact Ext.refl _) | (with_reducible assumption) | (with_reducible refine Ext.alloc ?_ _) | (with_reducible refine Ext.trans ?_ (by with_reducible assumption)) | (with_reducible refine Ext.drew ?_) | (with_reducible refine Ext.setCell ?_ (by simp <;> omega) _)))
      have s0 := ((bcell hb1).1 (w.heap.size + 1 + 1) 0 (by simp)).trans (show _ = some (.int .i64 0) by go_simp)
      have s1 := ((bcell hb1).1 (w.heap.size + 1 + 1) 1 (by simp)).trans (show _ = some (.int .i64 0) by go_simp)
      have y0 := fun i => ((bcell hb1).2 (w.heap.size + 1 + 1) i (by simp)).trans (show _ = false by go_simp)
      have z1 : w.heap.size + 1 + 1 < w1.heap.size := Nat.lt_of_lt_of_le (show w.heap.size + 1 + 1 < (World.alloc _ _).heap.size by simp) (Below.size hb1)
      clear hb1
      go_wp2_with fail
      exact bodyPost_ret (v := .tuple #[.agg #[.int .i64 0, .int .i64 0], .int .i64 (dayE M R day)]) (by simp only [results, Try.results14]; go_simp) rfl ⟨by rw [HT.out], by (repeat (first | (with_reducible exact Ext.refl _) | (with_reducible assumption) | (with_reducible refine Ext.alloc ?_ _) | (with_reducible refine Ext.trans ?_ (by with_reducible assumption)) | (with_reducible refine Ext.drew ?_) | (with_reducible refine Ext.setCell ?_ (by simp <;> omega) _)))⟩
end Go.Proofs.Ytchinfamepolkaa

/- Ropes: Fit. -/
namespace Go.Proofs.Ytchinfamepolkaa
set_option linter.unusedSimpArgs false
set_option linter.unusedVariables false
set_option linter.unusedSectionVars false
open Go Go.Proofs Go.RowKit Go.Shelf
set_option maxHeartbeats 1000000
set_option maxRecDepth 20000

def fitT (M : Model) (R : Rope) (day : Int) : Value := if dayE M R day = 0 then .tuple #[.bool (fitV M R day (damHi M R day)), .bool (fitV M R day (damLo M R day)), .int .i64 0] else .tuple #[.bool false, .bool false, .int .i64 (dayE M R day)]
theorem fitFn_any (A A2 : Option Addr) (c c2 : Nat) (M : Model) (R : Rope) (day : Int) (w : World) (hl : M.wears.length ≤ 1000000) (hl2 : R.falls.length ≤ 1000000) (hs : SlOf wearC 2 w w.heap.size A M.wears) (hs2 : SlOf fallC 5 w w.heap.size A2 R.falls) :
    Calls Try.prog 15 #[modelV A c M, ropeV A2 c2 R, .int .i64 day] w fun e w' => e = .returned (fitT M R day) ∧ Ext w w' := by
  have HS := Lib.hid hs
  have HS2 := Lib.hid hs2
  clear hs hs2
  rcases dayE_cases M R day with ⟨h0, hm, hr, hw, hre⟩ | h0
  · have HE := Lib.hid h0
    have HM := Lib.hid hm
    have HR := Lib.hid hr
    have HO := Lib.hid (show openM (ropeE M R) A c M = modelV A c M by rw [hre]; rfl)
    have HT := Lib.hid (show fitT M R day = .tuple #[.bool (fitV M R day (damHi M R day)), .bool (fitV M R day (damLo M R day)), .int .i64 0] by unfold fitT; rw [if_pos h0])
    clear h0 hm hr hw hre
    go_enter Try.func15, Try.ntmps15
    go_wp2_with fail
    refine (on_any A A2 c c2 M R day _ hl hl2 (HS.out.ext (by (repeat (first | (with_reducible exact Ext.refl _) | (with_reducible assumption) | (with_reducible refine Ext.alloc ?_ _) | (with_reducible refine Ext.trans ?_ (by with_reducible assumption)) | (with_reducible refine Ext.drew ?_) | (with_reducible refine Ext.setCell ?_ (by simp <;> omega) _))))) (HS2.out.ext (by (repeat (first | (with_reducible exact Ext.refl _) | (with_reducible assumption) | (with_reducible refine Ext.alloc ?_ _) | (with_reducible refine Ext.trans ?_ (by with_reducible assumption)) | (with_reducible refine Ext.drew ?_) | (with_reducible refine Ext.setCell ?_ (by simp <;> omega) _)))))).mono ?_
    rintro e w1 ⟨rfl, hb1⟩
    rw [HO.out, HE.out]
    have hE : Ext w w1 := by (repeat (first | (with_reducible exact Ext.refl _) | (with_reducible assumption) | (with_reducible refine Ext.alloc ?_ _) | (with_reducible refine Ext.trans ?_ (by with_reducible assumption)) | (with_reducible refine Ext.drew ?_) | (with_reducible refine Ext.setCell ?_ (by simp <;> omega) _)))
    have r0 := ((bcell hb1).1 (w.heap.size + 1) 0 (by first | (simp; done) | (simp; omega))).trans (show _ = some (.int .i64 R.made) by go_simp)
    have r1 := ((bcell hb1).1 (w.heap.size + 1) 1 (by first | (simp; done) | (simp; omega))).trans (show _ = some (.int .i64 R.first) by go_simp)
    have r2 := ((bcell hb1).1 (w.heap.size + 1) 2 (by first | (simp; done) | (simp; omega))).trans (show _ = some (.int .i64 R.length) by go_simp)
    have r3 := ((bcell hb1).1 (w.heap.size + 1) 3 (by first | (simp; done) | (simp; omega))).trans (show _ = some (.slice A2 R.falls.length c2) by go_simp)
    have z2 : w.heap.size + 1 < w1.heap.size := Nat.lt_of_lt_of_le (show w.heap.size + 1 < (World.alloc _ _).heap.size by simp) (Below.size hb1)
    clear hb1
    go_wp2_with fail
    refine (damage_any A A2 c c2 M R day _ HM.out HR.out (HS.out.ext (by (repeat (first | (with_reducible exact Ext.refl _) | (with_reducible assumption) | (with_reducible refine Ext.alloc ?_ _) | (with_reducible refine Ext.trans ?_ (by with_reducible assumption)) | (with_reducible refine Ext.drew ?_) | (with_reducible refine Ext.setCell ?_ (by simp <;> omega) _))))) (HS2.out.ext (by (repeat (first | (with_reducible exact Ext.refl _) | (with_reducible assumption) | (with_reducible refine Ext.alloc ?_ _) | (with_reducible refine Ext.trans ?_ (by with_reducible assumption)) | (with_reducible refine Ext.drew ?_) | (with_reducible refine Ext.setCell ?_ (by simp <;> omega) _)))))).mono ?_
    rintro e w2 ⟨rfl, hb2⟩
    have hE12 : Ext w1 w2 := Ext.trans (Ext.alloc (Ext.refl w1) _) hb2
    have hE2 : Ext w w2 := hE.trans hE12
    replace r0 := ((bcell hE12).1 _ 0 z2).trans r0
    replace r1 := ((bcell hE12).1 _ 1 z2).trans r1
    replace r2 := ((bcell hE12).1 _ 2 z2).trans r2
    replace r3 := ((bcell hE12).1 _ 3 z2).trans r3
    have m0 := ((bcell hb2).1 w1.heap.size 0 (by simp)).trans (show _ = some (.int .i64 M.shelf) by go_simp)
    have m1 := ((bcell hb2).1 w1.heap.size 1 (by simp)).trans (show _ = some (.int .i64 M.use) by go_simp)
    have m2 := ((bcell hb2).1 w1.heap.size 2 (by simp)).trans (show _ = some (.int .i64 M.bears) by go_simp)
    have m3 := ((bcell hb2).1 w1.heap.size 3 (by simp)).trans (show _ = some (.slice A M.wears.length c) by go_simp)
    have z3 : w1.heap.size < w2.heap.size := Nat.lt_of_lt_of_le (show w1.heap.size < (World.alloc _ _).heap.size by simp) (Below.size hb2)
    have z4 : w.heap.size + 1 < w2.heap.size := by omega
    clear hb2 hE12
    go_wp2_with fail
    obtain ⟨w4, hw4⟩ : ∃ w4, w2.alloc (.cells #[.int .i64 (damLo M R day), .int .i64 (damHi M R day)] 40) = w4 := ⟨_, rfl⟩
    rw [hw4]
    have hE4 : Ext w2 w4 := by rw [← hw4]; exact (Ext.refl _).alloc _
    have s0 : w4.cell? ⟨w2.heap.size, 0, none⟩ = some (.int .i64 (damLo M R day)) := by rw [← hw4]; clear hw4; go_simp
    have s1 : w4.cell? ⟨w2.heap.size, 1, none⟩ = some (.int .i64 (damHi M R day)) := by rw [← hw4]; clear hw4; go_simp
    have z5 : w2.heap.size < w4.heap.size := by rw [← hw4]; simp
    clear hw4
    replace r0 := ((bcell hE4).1 _ 0 z4).trans r0
    replace r1 := ((bcell hE4).1 _ 1 z4).trans r1
    replace r2 := ((bcell hE4).1 _ 2 z4).trans r2
    replace r3 := ((bcell hE4).1 _ 3 z4).trans r3
    replace m0 := ((bcell hE4).1 _ 0 z3).trans m0
    replace m1 := ((bcell hE4).1 _ 1 z3).trans m1
    replace m2 := ((bcell hE4).1 _ 2 z3).trans m2
    replace m3 := ((bcell hE4).1 _ 3 z3).trans m3
    replace z3 : w1.heap.size < w4.heap.size := by omega
    replace z4 : w.heap.size + 1 < w4.heap.size := by omega
    (refine wp_region_ext (by kernel_rfl) (by kernel_rfl) (fun hX => ?_); (repeat (go_big_quiet_step ((go_at_call 49; exact quiet_ext (fit_any A A2 c c2 M R _ _ _ HM.out HR.out))))); refine wpQuiet_nil ?_; rintro w5 ⟨⟨_, hb5⟩, rfl⟩; (try dsimp only))
    have hE5 : Ext w w5 := (hE2.trans hE4).trans hb5
    clear hb5 hX
    go_wp2_with fail
    go_ret3
    exact ⟨by rw [HT.out]; rfl, hE5⟩
  · rcases openM_two M R A c with hO | hO
    · have HO := Lib.hid hO
      have HT := Lib.hid (show fitT M R day = .tuple #[.bool false, .bool false, .int .i64 (dayE M R day)] by unfold fitT; rw [if_neg (by simpa using h0)])
      clear hO
      go_enter Try.func15, Try.ntmps15
      go_wp2_with fail
      refine (on_any A A2 c c2 M R day _ hl hl2 (HS.out.ext (by (repeat (first | (with_reducible exact Ext.refl _) | (with_reducible assumption) | (with_reducible refine Ext.alloc ?_ _) | (with_reducible refine Ext.trans ?_ (by with_reducible assumption)) | (with_reducible refine Ext.drew ?_) | (with_reducible refine Ext.setCell ?_ (by simp <;> omega) _))))) (HS2.out.ext (by (repeat (first | (with_reducible exact Ext.refl _) | (with_reducible assumption) | (with_reducible refine Ext.alloc ?_ _) | (with_reducible refine Ext.trans ?_ (by with_reducible assumption)) | (with_reducible refine Ext.drew ?_) | (with_reducible refine Ext.setCell ?_ (by simp <;> omega) _)))))).mono ?_
      rintro e w1 ⟨rfl, hb1⟩
      rw [HO.out]
      have hE : Ext w w1 := by (repeat (first | (with_reducible exact Ext.refl _) | (with_reducible assumption) | (with_reducible refine Ext.alloc ?_ _) | (with_reducible refine Ext.trans ?_ (by with_reducible assumption)) | (with_reducible refine Ext.drew ?_) | (with_reducible refine Ext.setCell ?_ (by simp <;> omega) _)))
      clear hb1
      go_wp2_with fail
      go_ret3
      exact ⟨by rw [HT.out]; rfl, by (repeat (first | (with_reducible exact Ext.refl _) | (with_reducible assumption) | (with_reducible refine Ext.alloc ?_ _) | (with_reducible refine Ext.trans ?_ (by with_reducible assumption)) | (with_reducible refine Ext.drew ?_) | (with_reducible refine Ext.setCell ?_ (by simp <;> omega) _)))⟩
    · have HO := Lib.hid hO
      have HT := Lib.hid (show fitT M R day = .tuple #[.bool false, .bool false, .int .i64 (dayE M R day)] by unfold fitT; rw [if_neg (by simpa using h0)])
      clear hO
      go_enter Try.func15, Try.ntmps15
      go_wp2_with fail
      refine (on_any A A2 c c2 M R day _ hl hl2 (HS.out.ext (by (repeat (first | (with_reducible exact Ext.refl _) | (with_reducible assumption) | (with_reducible refine Ext.alloc ?_ _) | (with_reducible refine Ext.trans ?_ (by with_reducible assumption)) | (with_reducible refine Ext.drew ?_) | (with_reducible refine Ext.setCell ?_ (by simp <;> omega) _))))) (HS2.out.ext (by (repeat (first | (with_reducible exact Ext.refl _) | (with_reducible assumption) | (with_reducible refine Ext.alloc ?_ _) | (with_reducible refine Ext.trans ?_ (by with_reducible assumption)) | (with_reducible refine Ext.drew ?_) | (with_reducible refine Ext.setCell ?_ (by simp <;> omega) _)))))).mono ?_
      rintro e w1 ⟨rfl, hb1⟩
      rw [HO.out]
      have hE : Ext w w1 := by (repeat (first | (with_reducible exact Ext.refl _) | (with_reducible assumption) | (with_reducible refine Ext.alloc ?_ _) | (with_reducible refine Ext.trans ?_ (by with_reducible assumption)) | (with_reducible refine Ext.drew ?_) | (with_reducible refine Ext.setCell ?_ (by simp <;> omega) _)))
      clear hb1
      go_wp2_with fail
      go_ret3
      exact ⟨by rw [HT.out]; rfl, by (repeat (first | (with_reducible exact Ext.refl _) | (with_reducible assumption) | (with_reducible refine Ext.alloc ?_ _) | (with_reducible refine Ext.trans ?_ (by with_reducible assumption)) | (with_reducible refine Ext.drew ?_) | (with_reducible refine Ext.setCell ?_ (by simp <;> omega) _)))⟩
end Go.Proofs.Ytchinfamepolkaa
