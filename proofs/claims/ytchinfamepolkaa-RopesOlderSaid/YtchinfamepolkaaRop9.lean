/- Ropes: comparing slices, posts that are valid, levels. -/
import Derived.Test.YtchinfamepolkaaRop8
namespace Go.Proofs.Ytchinfamepolkaa
set_option linter.unusedSimpArgs false
set_option linter.unusedVariables false
set_option linter.unusedSectionVars false
open Go Go.Proofs Go.RowKit Go.Shelf
set_option maxHeartbeats 1000000
set_option maxRecDepth 20000

theorem isNaN_int (a : Int) (w : World) : Calls Try.prog 113 #[.int .i64 a] w fun e w' => e = .returned (.bool false) ∧ w = w' := by
  go_enter Try.func113, Try.ntmps113
  go_wp2
  go_ret
  exact ⟨ret_bool (by simp), rfl⟩
theorem compare_nat (a b : Nat) (w : World) : Calls Try.prog 99 #[.int .i64 (a : Int), .int .i64 (b : Int)] w fun e w' => e = .returned (.int .i64 (cmpN a b)) ∧ w = w' := by
  by_cases h1 : a < b
  · have H := Lib.hid (show cmpN a b = -1 by simp [cmpN, h1])
    go_enter Try.func99, Try.ntmps99
    go_wp2_with (go_at_call 113; refine (isNaN_int _ _).mono ?_; rintro e w1 ⟨rfl, rfl⟩)
    go_ret
    exact ⟨ret_int H.out.symm, rfl⟩
  · by_cases h2 : b < a
    · have H := Lib.hid (show cmpN a b = 1 by simp [cmpN, h1, h2])
      go_enter Try.func99, Try.ntmps99
      go_wp2_with (go_at_call 113; refine (isNaN_int _ _).mono ?_; rintro e w1 ⟨rfl, rfl⟩)
      go_ret
      exact ⟨ret_int H.out.symm, rfl⟩
    · have H := Lib.hid (show cmpN a b = 0 by simp [cmpN, h1, h2])
      go_enter Try.func99, Try.ntmps99
      go_wp2_with (go_at_call 113; refine (isNaN_int _ _).mono ?_; rintro e w1 ⟨rfl, rfl⟩)
      go_ret
      exact ⟨ret_int H.out.symm, rfl⟩
theorem drop_nilN {l : List Nat} {k : Nat} (h : l.length ≤ k) : l.drop k = [] := List.drop_eq_nil_of_le h
theorem cmpL_drop (l m : List Nat) (k : Nat) (h1 : k < l.length) (h2 : k < m.length) : cmpL (l.drop k) (m.drop k) = if cmpN l[k] m[k] = 0 then cmpL (l.drop (k + 1)) (m.drop (k + 1)) else cmpN l[k] m[k] := by
  rw [List.drop_eq_getElem_cons h1, List.drop_eq_getElem_cons h2, cmpL]
theorem compareL_any (A B : Option Addr) (c d : Nat) (l m : List Nat) (w : World) (hl : l.length ≤ 1000) (hm : m.length ≤ 1000) (hs : SlOf natI 1 w w.heap.size A l) (ht : SlOf natI 1 w w.heap.size B m) :
    Calls Try.prog 87 #[.slice A l.length c, .slice B m.length d] w fun e w' => e = .returned (.int .i64 (cmpL l m)) ∧ w = w' := by
  go_enter Try.func87, Try.ntmps87
  go_wp2_with fail
  go_loopg [11] l.length (fun gk i wr => ∃ k : Nat, k + gk = l.length ∧ i = .int .i64 k ∧ cmpL l m = cmpL (l.drop k) (m.drop k) ∧ w = wr)
  case atStart => exact ⟨0, by omega, rfl, rfl, rfl⟩
  case round =>
    obtain ⟨k, hk, rfl, hc, rfl⟩ := hrel
    have HK : k ≤ l.length := by omega
    have HKG := Lib.hid hk
    have HC := Lib.hid hc
    clear hk hc
    by_cases hlt : k < l.length
    · obtain ⟨b, off, rfl, hbl, hcl⟩ := hs.at_ natI_len hlt
      have c0 := hcl 0 _ (by omega) rfl
      clear hcl
      simp only [Nat.add_zero, Nat.mul_one] at c0
      by_cases hlm : k < m.length
      · obtain ⟨b2, off2, rfl, hbl2, hcl⟩ := ht.at_ natI_len hlm
        have d0 := hcl 0 _ (by omega) rfl
        clear hcl
        simp only [Nat.add_zero, Nat.mul_one] at d0
        have HD := Lib.hid (cmpL_drop l m k hlt hlm)
        generalize l[k] = x at *
        generalize m[k] = y at *
        by_cases h0 : cmpN x y = 0
        · have HR := Lib.hid (HC.out.trans (HD.out.trans (if_pos h0)))
          have n1 : (cmpN x y != 0) = false := by simp [h0]
          clear h0
          go_wp2_with fail
          refine (compare_nat x y _).mono ?_
          rintro e w1 ⟨rfl, rfl⟩
          go_wp2_with fail
          go_roundg (gk - 1)
          case measure => have := HKG.out; omega
          case rel => exact ⟨k + 1, by have := HKG.out; omega, by go_num, HR.out, rfl⟩
        · have HR := Lib.hid (HC.out.trans (HD.out.trans (if_neg h0)))
          have n1 : (cmpN x y != 0) = true := by simp [h0]
          clear h0
          go_wp2_with fail
          refine (compare_nat x y _).mono ?_
          rintro e w1 ⟨rfl, rfl⟩
          go_wp2_with fail
          go_ret
          exact ⟨ret_int HR.out.symm, rfl⟩
      · have HR := Lib.hid (show cmpL l m = 1 by rw [HC.out, List.drop_eq_getElem_cons hlt, drop_nilN (l := m) (by omega)]; rfl)
        have n1 : m.length ≤ k := by omega
        go_wp2_with fail
        go_ret
        exact ⟨ret_int HR.out.symm, rfl⟩
    · obtain rfl : k = l.length := by omega
      by_cases hlm : l.length < m.length
      · have HR := Lib.hid (show cmpL l m = -1 by rw [HC.out, drop_nilN (l := l) (by omega), List.drop_eq_getElem_cons hlm]; rfl)
        go_wp2_with fail
        go_ret
        exact ⟨ret_int HR.out.symm, rfl⟩
      · have HR := Lib.hid (show cmpL l m = 0 by rw [HC.out, drop_nilN (l := l) (by omega), drop_nilN (l := m) (by omega)]; rfl)
        go_wp2_with fail
        go_ret
        exact ⟨ret_int HR.out.symm, rfl⟩

def PostBd (l : List Post) : Prop := ∀ p ∈ l, (0 ≤ p.at_ ∧ p.at_ ≤ 100000) ∧ (0 ≤ p.lo ∧ p.lo ≤ p.hi ∧ p.hi ≤ 100)
theorem mul_bd {a b A B : Int} (h1 : -A ≤ a) (h2 : a ≤ A) (h3 : 0 ≤ b) (h4 : b ≤ B) (hA : 0 ≤ A) : -(A * B) ≤ a * b ∧ a * b ≤ A * B := by
  have k1 : a * b ≤ A * b := Int.mul_le_mul_of_nonneg_right h2 h3
  have k2 : A * b ≤ A * B := Int.mul_le_mul_of_nonneg_left h4 hA
  have k3 : -A * b ≤ a * b := Int.mul_le_mul_of_nonneg_right h1 h3
  have k4 : -A * b = -(A * b) := Int.neg_mul A b
  omega
theorem rowB_mono {l : List Post} {limit years : Int} {i j n : Nat} (h : j ≤ n) (h2 : rowB l limit years i j = false) : rowB l limit years i n = false := by
  unfold rowB at *
  rw [Bool.not_eq_false', List.any_eq_true] at *
  obtain ⟨t, ht, h3⟩ := h2
  exact ⟨t, by simp at ht ⊢; omega, h3⟩
theorem level_any (A : Option Addr) (c : Nat) (l : List Post) (limit years : Int) (w : World) (hl : l.length ≤ 8) (hc : l.length ≤ c) (hp : PostBd l) (h1 : 0 ≤ limit ∧ limit ≤ 1000) (h2 : 0 ≤ years ∧ years ≤ 101) (hs : SlOf postC 3 w w.heap.size A l) :
    Calls Try.prog 52 #[.slice A l.length c, .int .i64 limit, .int .i64 years] w fun e w' => e = .returned (.bool (levelB l limit years)) ∧ Ext w w' := by
  have HP := Lib.hid hp
  have HS := Lib.hid hs
  clear hp hs
  go_enter Try.func52, Try.ntmps52
  go_wp2_with fail
  go_loopg [14] l.length (fun gk i wr => ∃ k : Nat, k + gk = l.length ∧ i = .int .i64 k ∧ levelTo l limit years k = true ∧ Ext w wr)
  case atStart => exact ⟨0, by omega, rfl, rfl, Ext.refl _⟩
  case round =>
    obtain ⟨k, hk, rfl, hlv, hb⟩ := hrel
    have HK : k ≤ l.length := by omega
    have HKG := Lib.hid hk
    have HB := Lib.hid hb
    have HLV := Lib.hid hlv
    clear hk hb hlv
    by_cases hlt : k < l.length
    · obtain ⟨b, off, rfl, hbl, hcl⟩ := (HS.out.below HB.out (Nat.le_refl _)).at_ postC_len hlt
      have c0 := hcl 0 _ (by omega) rfl
      have c1 := hcl 1 _ (by omega) rfl
      have c2 := hcl (3 - 1) _ (by omega) rfl
      clear hcl
      simp only [Nat.add_zero, Nat.reduceSub] at c0 c1 c2
      have hxb := HP.out _ (List.getElem_mem hlt)
      have HRS := Lib.hid (fun (j : Nat) (hj : j < l.length) => rowB_succ l limit years k j hlt hj)
      have HLS := Lib.hid (levelTo_succ l limit years k)
      generalize l[k] = x at *
      obtain ⟨⟨xa, xb⟩, xc, xd, xe⟩ := hxb
      have k0 : (0 : Int) ≤ (k : Int) := by omega
      have k1 : (k : Int) ≤ (c : Int) := by omega
      go_wp2_with fail
      obtain ⟨w4, hw4⟩ : ∃ w4, wr.alloc (.cells #[.int .i64 x.at_, .int .i64 x.lo, .int .i64 x.hi] 58) = w4 := ⟨_, rfl⟩
      have hE4 : Ext wr w4 := by rw [← hw4]; exact (Ext.refl _).alloc _
      have x0 : w4.cell? ⟨wr.heap.size, 0, none⟩ = some (.int .i64 x.at_) := by rw [← hw4]; clear hw4; go_simp
      have x1 : w4.cell? ⟨wr.heap.size, 1, none⟩ = some (.int .i64 x.lo) := by rw [← hw4]; clear hw4; go_simp
      have x2 : w4.cell? ⟨wr.heap.size, 2, none⟩ = some (.int .i64 x.hi) := by rw [← hw4]; clear hw4; go_simp
      have xz : wr.heap.size < w4.heap.size := by rw [← hw4]; simp
      obtain ⟨BX, hBX⟩ : ∃ BX, wr.heap.size = BX := ⟨_, rfl⟩
      rw [hBX] at x0 x1 x2 xz ⊢
      have HE4 := Lib.hid (HB.out.trans hE4)
      clear hE4 hBX c0 c1 c2
      obtain ⟨GO, hGO⟩ : ∃ g : Nat, g = gk := ⟨_, rfl⟩
      subst hGO
      go_loopg [23] k (fun gk i wr => ∃ j : Nat, j + gk = k ∧ i = .int .i64 j ∧ rowB l limit years k j = true ∧ Ext w4 wr)
      case atStart => exact ⟨0, by omega, rfl, rfl, by rw [hw4]; exact Ext.refl _⟩
      case round =>
        clear hw4
        obtain ⟨j, hj, rfl, hrow, hb⟩ := hrel
        have HJ : j ≤ k := by omega
        have HJG := Lib.hid hj
        have HBJ := Lib.hid hb
        have HROW := Lib.hid hrow
        replace x0 := ((bcell hb).1 _ 0 xz).trans x0
        replace x1 := ((bcell hb).1 _ 1 xz).trans x1
        replace x2 := ((bcell hb).1 _ 2 xz).trans x2
        replace xz := Nat.lt_of_lt_of_le xz hb.size
        clear hj hb hrow
        by_cases hjk : j < k
        · obtain ⟨b', off', e', hbl', hcl⟩ := (HS.out.below (HE4.out.trans HBJ.out) (Nat.le_refl _)).at_ postC_len (k := j) (by omega)
          injection e' with e'; injection e' with e1 e2; subst e1 e2
          have c0 := hcl 0 _ (by omega) rfl
          have c1 := hcl 1 _ (by omega) rfl
          have c2 := hcl (3 - 1) _ (by omega) rfl
          clear hcl
          simp only [Nat.add_zero, Nat.reduceSub] at c0 c1 c2
          have hyb := HP.out _ (List.getElem_mem (show j < l.length by omega))
          have HR1 := Lib.hid (HRS.out j (by omega))
          generalize l[j]'(by omega) = y at *
          obtain ⟨⟨ya, yb⟩, yc, yd, ye⟩ := hyb
          have p1 := mul_bd (a := x.hi - y.lo) (b := years) (A := 100) (B := 101) (by omega) (by omega) h2.1 h2.2 (by omega)
          have p2 := mul_bd (a := y.hi - x.lo) (b := years) (A := 100) (B := 101) (by omega) (by omega) h2.1 h2.2 (by omega)
          have p3 := mul_bd (a := x.at_ - y.at_) (b := limit) (A := 100000) (B := 1000) (by omega) (by omega) h1.1 h1.2 (by omega)
          rw [Int.mul_comm _ limit] at p3
          have HTD := Lib.hid (show tiltB x y limit years = decide (limit * (x.at_ - y.at_) < max (x.hi - y.lo) (y.hi - x.lo) * years * 1000) from rfl)
          rcases Int.lt_or_le (x.hi - y.lo) (y.hi - x.lo) with hmx | hmx
          · have HMX := Lib.hid (Int.max_eq_right (Int.le_of_lt hmx))
            have q1 := w64 ((y.hi - x.lo) * years) (by omega) (by omega)
            have q2 := w64 ((y.hi - x.lo) * years * 1000) (by omega) (by omega)
            have q3 := w64 (limit * (x.at_ - y.at_)) (by omega) (by omega)
            by_cases ht : limit * (x.at_ - y.at_) < (y.hi - x.lo) * years * 1000
            · have HT := Lib.hid (show tiltB x y limit years = true by rw [HTD.out, HMX.out]; exact decide_eq_true ht)
              have HRV := Lib.hid (show levelB l limit years = false by
                have h1 : rowB l limit years k (j + 1) = false := by rw [HR1.out, HT.out]; simp
                have h2 : rowB l limit years k k = false := rowB_mono (by omega) h1
                cases h : levelB l limit years
                · rfl
                · have h3 := levelTo_mono (k := k + 1) (by omega) h
                  rw [HLS.out, h2] at h3
                  simp at h3)
              go_wp2_with fail
              go_ret
              exact ⟨ret_bool HRV.out.symm, (HE4.out.trans HBJ.out).alloc _⟩
            · have HT := Lib.hid (show tiltB x y limit years = false by rw [HTD.out, HMX.out]; exact decide_eq_false ht)
              have HRV := Lib.hid (show rowB l limit years k (j + 1) = true by rw [HR1.out, HROW.out, HT.out]; rfl)
              go_wp2_with fail
              go_roundg (gk - 1)
              case measure => have := HJG.out; omega
              case rel => exact ⟨j + 1, by have := HJG.out; omega, by go_num, HRV.out, HBJ.out.alloc _⟩
          · have HMX := Lib.hid (Int.max_eq_left hmx)
            have q1 := w64 ((x.hi - y.lo) * years) (by omega) (by omega)
            have q2 := w64 ((x.hi - y.lo) * years * 1000) (by omega) (by omega)
            have q3 := w64 (limit * (x.at_ - y.at_)) (by omega) (by omega)
            by_cases ht : limit * (x.at_ - y.at_) < (x.hi - y.lo) * years * 1000
            · have HT := Lib.hid (show tiltB x y limit years = true by rw [HTD.out, HMX.out]; exact decide_eq_true ht)
              have HRV := Lib.hid (show levelB l limit years = false by
                have h1 : rowB l limit years k (j + 1) = false := by rw [HR1.out, HT.out]; simp
                have h2 : rowB l limit years k k = false := rowB_mono (by omega) h1
                cases h : levelB l limit years
                · rfl
                · have h3 := levelTo_mono (k := k + 1) (by omega) h
                  rw [HLS.out, h2] at h3
                  simp at h3)
              go_wp2_with fail
              go_ret
              exact ⟨ret_bool HRV.out.symm, (HE4.out.trans HBJ.out).alloc _⟩
            · have HT := Lib.hid (show tiltB x y limit years = false by rw [HTD.out, HMX.out]; exact decide_eq_false ht)
              have HRV := Lib.hid (show rowB l limit years k (j + 1) = true by rw [HR1.out, HROW.out, HT.out]; rfl)
              go_wp2_with fail
              go_roundg (gk - 1)
              case measure => have := HJG.out; omega
              case rel => exact ⟨j + 1, by have := HJG.out; omega, by go_num, HRV.out, HBJ.out.alloc _⟩
        · obtain rfl : j = k := by omega
          have HLV2 := Lib.hid (show levelTo l limit years (j + 1) = true by rw [HLS.out, HLV.out, HROW.out]; rfl)
          go_wp2_with fail
          go_roundg (GO - 1)
          case measure => have := HKG.out; omega
          case rel => exact ⟨j + 1, by have := HKG.out; omega, by go_num, HLV2.out, HE4.out.trans HBJ.out⟩
    · obtain rfl : k = l.length := by omega
      have HR := Lib.hid (show levelB l limit years = true from HLV.out)
      go_wp2_with fail
      go_ret
      exact ⟨ret_bool HR.out.symm, HB.out⟩
end Go.Proofs.Ytchinfamepolkaa
