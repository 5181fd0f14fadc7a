import Derived.Test.YtabcmnfofekeeaaDoorWat3
namespace Go.Proofs.YtabcmnfofekeeaaDoor
open Go Go.Proofs Go.RowKit
set_option maxHeartbeats 400000
set_option maxRecDepth 20000
abbrev sprV (s : Spring) : Value := .agg #[.int .i64 s.lo, .int .i64 s.hi, .int .i64 s.fuel]
abbrev samV (s : Sample) : Value := .agg #[.int .i64 s.mix, .bool s.foul]

/-- The place of the first element of which something is so, or -1. -/
def idxI {α : Type} (p : α → Bool) (l : List α) : Int := if l.findIdx p < l.length then (l.findIdx p : Int) else -1
theorem idxI_any {α : Type} (p : α → Bool) (l : List α) : decide (0 ≤ idxI p l) = l.any p := by
  unfold idxI
  rw [Bool.eq_iff_iff]
  simp only [decide_eq_true_eq, List.findIdx_lt_length, List.any_eq_true]
  split
  · simp_all
  · simp_all; try omega
theorem idxI_hit {α : Type} (p : α → Bool) (l : List α) (k : Nat) (hk : k < l.length) (h0 : ∀ j (h : j < k), p (l[j]'(by omega)) = false) (h1 : p l[k] = true) : idxI p l = k := by
  have e : l.findIdx p = k := by
    rw [List.findIdx_eq hk]
    exact ⟨h1, fun j hj => by simp [h0 j hj]⟩
  unfold idxI
  rw [e, if_pos hk]
theorem idxI_miss {α : Type} (p : α → Bool) (l : List α) (h0 : ∀ j (h : j < l.length), p l[j] = false) : idxI p l = -1 := by
  unfold idxI
  rw [if_neg]
  intro h
  have := List.findIdx_getElem (w := h)
  rw [h0] at this
  cases this

theorem indexSpr_any (A : Option Addr) (c : Nat) (l : List Spring) (g : Nat) (caps : Array Value) (p : Spring → Bool) (w : World) (hl : l.length ≤ 1073741824)
    (hs : SlOf sprC 3 w w.heap.size A l)
    (eg : ∀ (args : Array Value) (w : World), (callFunc g args).run Tryd.prog w = .ok (.enter g args) w)
    (hg : ∀ (k : Nat) (hk : k < l.length) (w' : World), Ext w w' → Calls Tryd.prog g (#[sprV l[k]] ++ caps) w' fun e w'' => e = .returned (.bool (p l[k])) ∧ Ext w' w'') :
    Calls Tryd.prog 78 #[.slice A l.length c, .func (.func g) #[] caps] w fun e w' => e = .returned (.int .i64 (idxI p l)) ∧ Ext w w' := by
  have HG := Lib.hid hg
  clear hg
  go_enter Tryd.func78, Tryd.ntmps78
  go_wp2_with fail
  go_loopg [8] l.length (fun gk i wr => ∃ k : Nat, k + gk = l.length ∧ i = .int .i64 k ∧ (∀ j (h : j < l.length), j < k → p l[j] = false) ∧ Ext w wr)
  case atStart => exact ⟨0, by omega, rfl, fun j _ h => absurd h (by omega), Ext.refl w⟩
  case round =>
    obtain ⟨k, hk, rfl, hp, hb⟩ := hrel
    have HK : k ≤ l.length := by omega
    have HKG := Lib.hid hk
    have HP := Lib.hid hp
    have HB := Lib.hid hb
    clear hk hp hb
    by_cases hlt : k < l.length
    · obtain ⟨b, off, rfl, hb, hc⟩ := hs.at_ sprC_len hlt
      have hz := HB.out.size
      have hbb := fun o => (bcell HB.out).1 b o hb
      have hcell := fun j v (h1 : j < 3) h2 => (hbb (off + k * 3 + j)).trans (hc j v h1 h2)
      have c0 := hcell 0 _ (by omega) rfl
      have c1 := hcell 1 _ (by omega) rfl
      have c2 := hcell (3 - 1) _ (by omega) rfl
      simp only [Nat.add_zero, Nat.reduceSub] at c0 c1 c2
      clear hcell hbb hc
      cases hpk : p l[k]
      · go_wp2_with fail
        refine (HG.out k hlt _ HB.out).mono ?_
        rintro e w1 ⟨rfl, hb1⟩
        go_wp2_with fail
        go_roundg (gk - 1)
        case measure => have := HKG.out; omega
        case rel =>
          refine ⟨k + 1, by have := HKG.out; omega, by go_num, fun j h hj => ?_, HB.out.trans hb1⟩
          by_cases hjk : j < k
          · exact HP.out j h hjk
          · obtain rfl : j = k := by omega
            exact hpk
      · go_wp2_with fail
        refine (HG.out k hlt _ HB.out).mono ?_
        rintro e w1 ⟨rfl, hb1⟩
        go_wp2_with fail
        go_ret
        exact ⟨ret_int (idxI_hit p l k hlt (fun j h => HP.out j (by omega) h) hpk).symm, HB.out.trans hb1⟩
    · obtain rfl : k = l.length := by omega
      go_wp2_with fail
      go_ret
      exact ⟨ret_int (idxI_miss p l (fun j h => HP.out j h h)).symm, HB.out⟩
theorem containsSpr_any (A : Option Addr) (c : Nat) (l : List Spring) (g : Nat) (caps : Array Value) (p : Spring → Bool) (w : World) (hl : l.length ≤ 1073741824)
    (hs : SlOf sprC 3 w w.heap.size A l)
    (eg : ∀ (args : Array Value) (w : World), (callFunc g args).run Tryd.prog w = .ok (.enter g args) w)
    (hg : ∀ (k : Nat) (hk : k < l.length) (w' : World), Ext w w' → Calls Tryd.prog g (#[sprV l[k]] ++ caps) w' fun e w'' => e = .returned (.bool (p l[k])) ∧ Ext w' w'') :
    Calls Tryd.prog 57 #[.slice A l.length c, .func (.func g) #[] caps] w fun e w' => e = .returned (.bool (l.any p)) ∧ Ext w w' := by
  have HG := Lib.hid hg
  have H := Lib.hid (idxI_any p l)
  clear hg
  go_enter Tryd.func57, Tryd.ntmps57
  go_wp2_with fail
  refine (indexSpr_any A c l g caps p _ hl hs eg HG.out).mono ?_
  rintro e w1 ⟨rfl, hb⟩
  go_wp2_with fail
  go_ret
  exact ⟨ret_bool H.out, hb⟩
theorem indexSam_any (A : Option Addr) (c : Nat) (l : List Sample) (g : Nat) (caps : Array Value) (p : Sample → Bool) (w : World) (hl : l.length ≤ 1073741824)
    (hs : SlOf samC 2 w w.heap.size A l)
    (eg : ∀ (args : Array Value) (w : World), (callFunc g args).run Tryd.prog w = .ok (.enter g args) w)
    (hg : ∀ (k : Nat) (hk : k < l.length) (w' : World), Ext w w' → Calls Tryd.prog g (#[samV l[k]] ++ caps) w' fun e w'' => e = .returned (.bool (p l[k])) ∧ Ext w' w'') :
    Calls Tryd.prog 79 #[.slice A l.length c, .func (.func g) #[] caps] w fun e w' => e = .returned (.int .i64 (idxI p l)) ∧ Ext w w' := by
  have HG := Lib.hid hg
  clear hg
  go_enter Tryd.func79, Tryd.ntmps79
  go_wp2_with fail
  go_loopg [8] l.length (fun gk i wr => ∃ k : Nat, k + gk = l.length ∧ i = .int .i64 k ∧ (∀ j (h : j < l.length), j < k → p l[j] = false) ∧ Ext w wr)
  case atStart => exact ⟨0, by omega, rfl, fun j _ h => absurd h (by omega), Ext.refl w⟩
  case round =>
    obtain ⟨k, hk, rfl, hp, hb⟩ := hrel
    have HK : k ≤ l.length := by omega
    have HKG := Lib.hid hk
    have HP := Lib.hid hp
    have HB := Lib.hid hb
    clear hk hp hb
    by_cases hlt : k < l.length
    · obtain ⟨b, off, rfl, hb, hc⟩ := hs.at_ samC_len hlt
      have hz := HB.out.size
      have hbb := fun o => (bcell HB.out).1 b o hb
      have hcell := fun j v (h1 : j < 2) h2 => (hbb (off + k * 2 + j)).trans (hc j v h1 h2)
      have c0 := hcell 0 _ (by omega) rfl
      have c1 := hcell 1 _ (by omega) rfl
      have c2 := hcell (2 - 1) _ (by omega) rfl
      simp only [Nat.add_zero, Nat.reduceSub] at c0 c1 c2
      clear hcell hbb hc
      cases hpk : p l[k]
      · go_wp2_with fail
        refine (HG.out k hlt _ HB.out).mono ?_
        rintro e w1 ⟨rfl, hb1⟩
        go_wp2_with fail
        go_roundg (gk - 1)
        case measure => have := HKG.out; omega
        case rel =>
          refine ⟨k + 1, by have := HKG.out; omega, by go_num, fun j h hj => ?_, HB.out.trans hb1⟩
          by_cases hjk : j < k
          · exact HP.out j h hjk
          · obtain rfl : j = k := by omega
            exact hpk
      · go_wp2_with fail
        refine (HG.out k hlt _ HB.out).mono ?_
        rintro e w1 ⟨rfl, hb1⟩
        go_wp2_with fail
        go_ret
        exact ⟨ret_int (idxI_hit p l k hlt (fun j h => HP.out j (by omega) h) hpk).symm, HB.out.trans hb1⟩
    · obtain rfl : k = l.length := by omega
      go_wp2_with fail
      go_ret
      exact ⟨ret_int (idxI_miss p l (fun j h => HP.out j h h)).symm, HB.out⟩
theorem containsSam_any (A : Option Addr) (c : Nat) (l : List Sample) (g : Nat) (caps : Array Value) (p : Sample → Bool) (w : World) (hl : l.length ≤ 1073741824)
    (hs : SlOf samC 2 w w.heap.size A l)
    (eg : ∀ (args : Array Value) (w : World), (callFunc g args).run Tryd.prog w = .ok (.enter g args) w)
    (hg : ∀ (k : Nat) (hk : k < l.length) (w' : World), Ext w w' → Calls Tryd.prog g (#[samV l[k]] ++ caps) w' fun e w'' => e = .returned (.bool (p l[k])) ∧ Ext w' w'') :
    Calls Tryd.prog 59 #[.slice A l.length c, .func (.func g) #[] caps] w fun e w' => e = .returned (.bool (l.any p)) ∧ Ext w w' := by
  have HG := Lib.hid hg
  have H := Lib.hid (idxI_any p l)
  clear hg
  go_enter Tryd.func59, Tryd.ntmps59
  go_wp2_with fail
  refine (indexSam_any A c l g caps p _ hl hs eg HG.out).mono ?_
  rintro e w1 ⟨rfl, hb⟩
  go_wp2_with fail
  go_ret
  exact ⟨ret_bool H.out, hb⟩
end Go.Proofs.YtabcmnfofekeeaaDoor
