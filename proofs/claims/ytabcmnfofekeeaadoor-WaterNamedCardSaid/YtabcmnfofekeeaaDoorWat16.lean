import Derived.Test.YtabcmnfofekeeaaDoorWat14
import Derived.StillTailTactics
namespace Go.Proofs.YtabcmnfofekeeaaDoor
open Go Go.Proofs Go.RowKit Go.Shelf
set_option maxHeartbeats 1000000
set_option maxRecDepth 20000

def cmpI (a b : Int) : Int := if a < b then -1 else if b < a then 1 else 0
theorem isNaN_int (a : Int) (w : World) : Calls Tryd.prog 86 #[.int .i64 a] w fun e w' => e = .returned (.bool false) ∧ w = w' := by
  go_enter Tryd.func86, Tryd.ntmps86
  go_wp2
  go_ret
  exact ⟨ret_bool (by simp), rfl⟩
theorem isNaN_set (a : Int) (w : World) : Calls Tryd.prog 88 #[.int .u64 a] w fun e w' => e = .returned (.bool false) ∧ w = w' := by
  go_enter Tryd.func88, Tryd.ntmps88
  go_wp2
  go_ret
  exact ⟨ret_bool (by simp), rfl⟩
theorem compare_int (a b : Int) (w : World) : Calls Tryd.prog 75 #[.int .i64 a, .int .i64 b] w fun e w' => e = .returned (.int .i64 (cmpI a b)) ∧ w = w' := by
  by_cases h1 : a < b
  · have H := Lib.hid (show cmpI a b = -1 by simp [cmpI, h1])
    go_enter Tryd.func75, Tryd.ntmps75
    go_wp2_with (go_at_call 86; refine (isNaN_int _ _).mono ?_; rintro e w1 ⟨rfl, rfl⟩)
    go_ret
    exact ⟨ret_int H.out.symm, rfl⟩
  · by_cases h2 : b < a
    · have H := Lib.hid (show cmpI a b = 1 by simp [cmpI, h1, h2])
      go_enter Tryd.func75, Tryd.ntmps75
      go_wp2_with (go_at_call 86; refine (isNaN_int _ _).mono ?_; rintro e w1 ⟨rfl, rfl⟩)
      go_ret
      exact ⟨ret_int H.out.symm, rfl⟩
    · have H := Lib.hid (show cmpI a b = 0 by simp [cmpI, h1, h2])
      go_enter Tryd.func75, Tryd.ntmps75
      go_wp2_with (go_at_call 86; refine (isNaN_int _ _).mono ?_; rintro e w1 ⟨rfl, rfl⟩)
      go_ret
      exact ⟨ret_int H.out.symm, rfl⟩
theorem compare_set (a b : Int) (w : World) : Calls Tryd.prog 77 #[.int .u64 a, .int .u64 b] w fun e w' => e = .returned (.int .i64 (cmpI a b)) ∧ w = w' := by
  by_cases h1 : a < b
  · have H := Lib.hid (show cmpI a b = -1 by simp [cmpI, h1])
    go_enter Tryd.func77, Tryd.ntmps77
    go_wp2_with (go_at_call 88; refine (isNaN_set _ _).mono ?_; rintro e w1 ⟨rfl, rfl⟩)
    go_ret
    exact ⟨ret_int H.out.symm, rfl⟩
  · by_cases h2 : b < a
    · have H := Lib.hid (show cmpI a b = 1 by simp [cmpI, h1, h2])
      go_enter Tryd.func77, Tryd.ntmps77
      go_wp2_with (go_at_call 88; refine (isNaN_set _ _).mono ?_; rintro e w1 ⟨rfl, rfl⟩)
      go_ret
      exact ⟨ret_int H.out.symm, rfl⟩
    · have H := Lib.hid (show cmpI a b = 0 by simp [cmpI, h1, h2])
      go_enter Tryd.func77, Tryd.ntmps77
      go_wp2_with (go_at_call 88; refine (isNaN_set _ _).mono ?_; rintro e w1 ⟨rfl, rfl⟩)
      go_ret
      exact ⟨ret_int H.out.symm, rfl⟩

/-- The first of three numbers that is not 0. -/
def orI (a b c : Int) : Int := if a ≠ 0 then a else if b ≠ 0 then b else c
theorem or3_any (a b c : Int) (g cap : Nat) (w : World) (h0 : w.cell? ⟨g, 0, none⟩ = some (.int .i64 a)) (h1 : w.cell? ⟨g, 1, none⟩ = some (.int .i64 b)) (h2 : w.cell? ⟨g, 2, none⟩ = some (.int .i64 c)) :
    Calls Tryd.prog 74 #[.slice (some ⟨g, 0, none⟩) 3 cap] w fun e w' => e = .returned (.int .i64 (orI a b c)) ∧ w = w' := by
  go_enter Tryd.func74, Tryd.ntmps74
  go_wp2_with fail
  go_loopg [8] 3 (fun gk i wr => ∃ k : Nat, k + gk = 3 ∧ i = .int .i64 k ∧ (1 ≤ k → a = 0) ∧ (2 ≤ k → b = 0) ∧ (3 ≤ k → c = 0) ∧ w = wr)
  case atStart => exact ⟨0, by omega, rfl, by omega, by omega, by omega, rfl⟩
  case round =>
    obtain ⟨k, hk, rfl, ha, hb, hc, rfl⟩ := hrel
    have HA := Lib.hid ha
    have HB := Lib.hid hb
    have HC := Lib.hid hc
    clear ha hb hc
    match k, hk with
    | 0, hk =>
      cases hz : (a != 0)
      · go_wp2_with fail
        go_roundg 2
        case measure => omega
        case rel => exact ⟨1, by omega, rfl, fun _ => by simpa using hz, by omega, by omega, rfl⟩
      · have H := Lib.hid (show orI a b c = a by simp at hz; simp [orI, hz])
        go_wp2_with fail
        go_ret
        exact ⟨ret_int H.out.symm, rfl⟩
    | 1, hk =>
      have h0 := HA.out (by omega)
      cases hz : (b != 0)
      · have HZ := Lib.hid h0
        clear h0
        go_wp2_with fail
        go_roundg 1
        case measure => omega
        case rel => exact ⟨2, by omega, rfl, fun _ => HZ.out, fun _ => by simpa using hz, by omega, rfl⟩
      · have H := Lib.hid (show orI a b c = b by simp at hz; simp [orI, hz, h0])
        clear h0
        go_wp2_with fail
        go_ret
        exact ⟨ret_int H.out.symm, rfl⟩
    | 2, hk =>
      have h0 := HA.out (by omega)
      have h1' := HB.out (by omega)
      cases hz : (c != 0)
      · have HZ := Lib.hid h0
        have HZ1 := Lib.hid h1'
        clear h0 h1'
        go_wp2_with fail
        go_roundg 0
        case measure => omega
        case rel => exact ⟨3, by omega, rfl, fun _ => HZ.out, fun _ => HZ1.out, fun _ => by simpa using hz, rfl⟩
      · have H := Lib.hid (show orI a b c = c by simp [orI, h0, h1'])
        clear h0 h1'
        go_wp2_with fail
        go_ret
        exact ⟨ret_int H.out.symm, rfl⟩
    | 3, hk =>
      have H := Lib.hid (show orI a b c = 0 by simp [orI, HA.out (by omega), HB.out (by omega), HC.out (by omega)])
      go_wp2_with fail
      go_ret
      exact ⟨ret_int H.out.symm, rfl⟩
    | k + 4, hk => omega

structure Batch where
  set : Nat
  fuel : Int
def batC (b : Batch) : List Value := [.int .u64 (b.set : Int), .int .i64 b.fuel]
theorem batC_len (b : Batch) : (batC b).length = 2 := rfl
abbrev batV (b : Batch) : Value := .agg #[.int .u64 (b.set : Int), .int .i64 b.fuel]
def betterI (a b : Batch) : Int := orI (cmpI a.fuel b.fuel) (cmpI (pc a.set) (pc b.set)) (cmpI a.set b.set)
theorem better_any (a b : Batch) (w : World) (ha : a.set < 256) (hb : b.set < 256) :
    Calls Tryd.prog 51 #[batV a, batV b] w fun e w' => e = .returned (.int .i64 (betterI a b)) ∧ Ext w w' := by
  go_enter Tryd.func51, Tryd.ntmps51
  go_wp2_with fail
  (refine wp_region_tail 17 (by kernel_rfl) (by kernel_rfl) ?_; simp only [List.take_succ_cons, List.take_zero, List.drop_succ_cons, List.drop_zero]; (repeat (refine wpStill_step (fun K hK => ?_); go_simp; first | (refine hK _ ?_; clear hK K) | (refine ⟨_, (by (first | (go_at_call 75; exact still_same (compare_int _ _ _)) | (go_at_call 77; exact still_same (compare_set _ _ _)) | (go_at_call 76; exact still_same (ssize_any _ _ (by assumption))))), hK _ ?_⟩; clear hK K))); refine wpStill_nil ?_)
  go_wp2_with fail
  refine (or3_any (cmpI a.fuel b.fuel) (cmpI (pc a.set) (pc b.set)) (cmpI a.set b.set) _ _ _ (by go_simp) (by go_simp) (by go_simp)).mono ?_
  rintro e w1 ⟨rfl, rfl⟩
  go_wp2_with fail
  go_ret
  exact ⟨rfl, by (repeat (first | (with_reducible exact Ext.refl _) | (with_reducible assumption) | (with_reducible refine Ext.alloc ?_ _) | (with_reducible refine Ext.trans ?_ (by with_reducible assumption)) | (with_reducible refine Ext.drew ?_) | (with_reducible refine Ext.setCell ?_ (by simp <;> omega) _)))⟩

/-- The first of the best ones. -/
def minTo (d : Batch) (l : List Batch) : Batch := l.foldl (fun m x => if betterI x m < 0 then x else m) d
theorem minTo_succ (d : Batch) (l : List Batch) (k : Nat) (h : k < l.length) : minTo d (l.take (k + 1)) = if betterI l[k] (minTo d (l.take k)) < 0 then l[k] else minTo d (l.take k) := by
  rw [List.take_succ_eq_append_getElem h]; unfold minTo; rw [List.foldl_append]; rfl
theorem minTo_mem (d : Batch) (l : List Batch) : minTo d l = d ∨ minTo d l ∈ l := by
  unfold minTo
  induction l generalizing d with
  | nil => exact .inl rfl
  | cons a l ih =>
    simp only [List.foldl_cons, List.mem_cons]
    rcases ih (if betterI a d < 0 then a else d) with h | h
    · rw [h]
      split
      · exact .inr (.inl rfl)
      · exact .inl rfl
    · exact .inr (.inr h)
def minB (l : List Batch) : Batch := minTo (l.headD ⟨0, 0⟩) l
theorem minB_mem {l : List Batch} (h : l ≠ []) : minB l ∈ l := by
  cases l with
  | nil => exact absurd rfl h
  | cons a l =>
    rcases minTo_mem a (a :: l) with h | h
    · unfold minB; simp only [List.headD_cons]; rw [h]; simp
    · exact h
theorem betterI_self (a : Batch) : betterI a a = 0 := by simp [betterI, cmpI, orI]

theorem minFunc_any (A : Option Addr) (c : Nat) (l : List Batch) (w : World) (hne : 0 < l.length) (hl : l.length ≤ 1024) (hm : ∀ b ∈ l, b.set < 256) (hs : SlOf batC 2 w w.heap.size A l) :
    Calls Tryd.prog 50 #[.slice A l.length c, .func (.func 51) #[] #[]] w fun e w' => e = .returned (batV (minB l)) ∧ Ext w w' := by
  have eg := enters_of (P := Tryd.prog) Tryd.func51 (by kernel_rfl) rfl
  have HM := Lib.hid hm
  clear hm
  obtain ⟨b, off, rfl, hbl, hc⟩ := hs.at_ batC_len hne
  have c0 := hc 0 _ (by omega) rfl
  have c1 := hc 1 _ (by omega) rfl
  clear hc
  simp only [Nat.add_zero, Nat.zero_mul] at c0 c1
  have hd : l.headD ⟨0, 0⟩ = l[0] := by cases l with | nil => simp at hne | cons a l => rfl
  have HD := Lib.hid hd
  clear hd
  have hl1 : ¬ (l.length : Int) < 1 := by omega
  go_enter Tryd.func50, Tryd.ntmps50
  go_wp2_with fail
  go_loopg [6] l.length (fun gk i wr => ∃ (k : Nat) (m : Batch), 1 ≤ k ∧ (k ≤ l.length ∧ k + gk = l.length + 1) ∧ i = .int .i64 k ∧ m = minTo l[0] (l.take k) ∧ m.set < 256 ∧ Ext w wr ∧ w.heap.size + 1 < wr.heap.size ∧
    wr.cell? ⟨w.heap.size + 1, 0, none⟩ = some (.int .u64 (m.set : Int)) ∧ wr.cell? ⟨w.heap.size + 1, 1, none⟩ = some (.int .i64 m.fuel) ∧ (∀ o, wr.frozen? ⟨w.heap.size + 1, o, none⟩ = false) ∧
    (wr.cell? ⟨w.heap.size, 0, none⟩ = some (.int .u64 0)) ∧ (wr.cell? ⟨w.heap.size, 1, none⟩ = some (.int .i64 0)) ∧ (∀ o, wr.frozen? ⟨w.heap.size, o, none⟩ = false))
  case atStart =>
    refine ⟨1, l[0], by omega, ⟨hne, by omega⟩, by simp, ?_, HM.out _ (List.getElem_mem hne), by (repeat (first | (with_reducible exact Ext.refl _) | (with_reducible assumption) | (with_reducible refine Ext.alloc ?_ _) | (with_reducible refine Ext.trans ?_ (by with_reducible assumption)) | (with_reducible refine Ext.drew ?_) | (with_reducible refine Ext.setCell ?_ (by simp <;> omega) _))), by simp, by go_simp, by go_simp, fun o => by go_simp, by go_simp, by go_simp, fun o => by go_simp⟩
    rw [List.take_succ_eq_append_getElem hne]; simp [minTo, betterI_self]
  case round =>
    obtain ⟨k, m, hk1, ⟨HK, hk⟩, rfl, hme, hms, hb, hz, m0, m1, m2, r0, r1, r2⟩ := hrel
    have HKG := Lib.hid hk
    have HME := Lib.hid hme
    clear hk hme
    by_cases hlt : k < l.length
    · have hbb := fun o => (bcell hb).1 b o hbl
      obtain ⟨b', off', e', _, hc⟩ := hs.at_ batC_len hlt
      injection e' with e'
      injection e' with e1 e2
      subst e1 e2
      have d0 := (hbb _).trans (hc 0 _ (by omega) rfl)
      have d1 := (hbb _).trans (hc 1 _ (by omega) rfl)
      clear hc hbb
      simp only [Nat.add_zero] at d0
      have hx := HM.out l[k] (List.getElem_mem hlt)
      have HS := Lib.hid (minTo_succ l[0] l k hlt)
      generalize hxx : l[k] = x at *
      have HX := Lib.hid hxx
      clear hxx
      have hbr : b < wr.heap.size := by omega
      by_cases hbt : betterI x m < 0
      · go_wp2_with fail
        (refine wp_region_ext (by kernel_rfl) (by kernel_rfl) (fun hX => ?_); (repeat (go_big_quiet_step ((go_at_call 51; exact quiet_ext (better_any x m _ hx hms))))); refine wpQuiet_nil ?_; rintro w1 ⟨⟨_, hb1⟩, rfl⟩; (try dsimp only))
        have m0' := ((bcell hb1).1 _ _ hz).trans m0
        have m1' := ((bcell hb1).1 _ _ hz).trans m1
        have m2' := fun o => ((bcell hb1).2 _ o hz).trans (m2 o)
        have hz0 : w.heap.size < wr.heap.size := by omega
        have r0' := ((bcell hb1).1 _ _ hz0).trans r0
        have r1' := ((bcell hb1).1 _ _ hz0).trans r1
        have r2' := fun o => ((bcell hb1).2 _ o hz0).trans (r2 o)
        have d0' := ((bcell hb1).1 _ _ hbr).trans d0
        have d1' := ((bcell hb1).1 _ _ hbr).trans d1
        have hz1 : w.heap.size + 1 < w1.heap.size := by have := hb1.size; omega
        clear m0 m1 m2 r0 r1 r2 d0 d1 hX
        go_wp2_with fail
        go_roundg (gk - 1)
        case measure => have := HKG.out; omega
        case rel =>
          refine ⟨k + 1, x, by omega, ⟨by omega, by have := HKG.out; omega⟩, by go_num, by rw [HS.out, ← HME.out, if_pos hbt], hx, by (repeat (first | (with_reducible exact Ext.refl _) | (with_reducible assumption) | (with_reducible refine Ext.alloc ?_ _) | (with_reducible refine Ext.trans ?_ (by with_reducible assumption)) | (with_reducible refine Ext.drew ?_) | (with_reducible refine Ext.setCell ?_ (by simp <;> omega) _))), by simpa using hz1, by go_simp, by go_simp, fun o => by go_simp, by go_simp, by go_simp, fun o => by go_simp⟩
      · have hbt' : decide (betterI x m < 0) = false := by simpa using hbt
        go_wp2_with fail
        (refine wp_region_ext (by kernel_rfl) (by kernel_rfl) (fun hX => ?_); (repeat (go_big_quiet_step ((go_at_call 51; exact quiet_ext (better_any x m _ hx hms))))); refine wpQuiet_nil ?_; rintro w1 ⟨⟨_, hb1⟩, rfl⟩; (try dsimp only))
        have m0' := ((bcell hb1).1 _ _ hz).trans m0
        have m1' := ((bcell hb1).1 _ _ hz).trans m1
        have m2' := fun o => ((bcell hb1).2 _ o hz).trans (m2 o)
        have hz0 : w.heap.size < wr.heap.size := by omega
        have r0' := ((bcell hb1).1 _ _ hz0).trans r0
        have r1' := ((bcell hb1).1 _ _ hz0).trans r1
        have r2' := fun o => ((bcell hb1).2 _ o hz0).trans (r2 o)
        have d0' := ((bcell hb1).1 _ _ hbr).trans d0
        have d1' := ((bcell hb1).1 _ _ hbr).trans d1
        have hz1 : w.heap.size + 1 < w1.heap.size := by have := hb1.size; omega
        clear m0 m1 m2 r0 r1 r2 d0 d1 hX
        go_wp2_with fail
        go_roundg (gk - 1)
        case measure => have := HKG.out; omega
        case rel =>
          refine ⟨k + 1, m, by omega, ⟨by omega, by have := HKG.out; omega⟩, by go_num, by rw [HS.out, ← HME.out, if_neg (by omega)], hms, by (repeat (first | (with_reducible exact Ext.refl _) | (with_reducible assumption) | (with_reducible refine Ext.alloc ?_ _) | (with_reducible refine Ext.trans ?_ (by with_reducible assumption)) | (with_reducible refine Ext.drew ?_) | (with_reducible refine Ext.setCell ?_ (by simp <;> omega) _))), by simpa using hz1, m0', m1', m2', r0', r1', r2'⟩
    · obtain rfl : k = l.length := by omega
      go_wp2_with fail
      have hfin : minB l = m := by unfold minB; rw [HD.out, HME.out, List.take_length]
      rw [hfin]
      exact bodyPost_ret (v := batV m) (by simp only [results, Tryd.results50]; go_simp) rfl ⟨rfl, by (repeat (first | (with_reducible exact Ext.refl _) | (with_reducible assumption) | (with_reducible refine Ext.alloc ?_ _) | (with_reducible refine Ext.trans ?_ (by with_reducible assumption)) | (with_reducible refine Ext.drew ?_) | (with_reducible refine Ext.setCell ?_ (by simp <;> omega) _)))⟩
end Go.Proofs.YtabcmnfofekeeaaDoor
