/- Ropes: slices.IndexFunc, slices.ContainsFunc and all, whose predicate may keep state. -/
import Derived.Test.YtchinfamepolkaaRop1
namespace Go.Proofs.Ytchinfamepolkaa
set_option linter.unusedSimpArgs false
set_option linter.unusedVariables false
set_option linter.unusedSectionVars false
open Go Go.Proofs Go.RowKit Go.Shelf
set_option maxHeartbeats 1000000
set_option maxRecDepth 20000

structure Guide where
  grade : Int
  until_ : Int
  points : Int
def guideC (x : Guide) : List Value := [.int .i64 x.grade, .int .i64 x.until_, .int .i64 x.points]
theorem guideC_len (x : Guide) : (guideC x).length = 3 := rfl
abbrev guideV (x : Guide) : Value := .agg #[.int .i64 x.grade, .int .i64 x.until_, .int .i64 x.points]
structure RopeX where
  rope : Rope
  A : Option Addr
  c : Nat
def ropeC (x : RopeX) : List Value := [.int .i64 x.rope.made, .int .i64 x.rope.first, .int .i64 x.rope.length, .slice x.A x.rope.falls.length x.c]
theorem ropeC_len (x : RopeX) : (ropeC x).length = 4 := rfl
abbrev ropeXV (x : RopeX) : Value := ropeV x.A x.c x.rope
abbrev intV (x : Int) : Value := .int .i64 x
def firstI (p : Nat → Bool) : Nat → Int
  | 0 => -1
  | n + 1 => if 0 ≤ firstI p n then firstI p n else if p n then (n : Int) else -1
theorem firstI_any (p : Nat → Bool) (n : Nat) : decide (0 ≤ firstI p n) = (List.range n).any p := by
  induction n with
  | zero => rfl
  | succ n ih =>
    rw [List.range_succ, List.any_append, ← ih, firstI]
    by_cases h : 0 ≤ firstI p n
    · simp [h]
    · rw [if_neg h]
      cases hp : p n
      · simp [h, hp]
      · simp [hp]
theorem firstI_miss (p : Nat → Bool) (n : Nat) (h : ∀ j, j < n → p j = false) : firstI p n = -1 := by
  induction n with
  | zero => rfl
  | succ n ih => rw [firstI, ih (fun j hj => h j (by omega)), h n (by omega)]; rfl
theorem firstI_hit (p : Nat → Bool) (n k : Nat) (hk : k < n) (h0 : ∀ j, j < k → p j = false) (h1 : p k = true) : firstI p n = k := by
  induction n with
  | zero => omega
  | succ n ih =>
    rw [firstI]
    by_cases h : k = n
    · subst h
      rw [firstI_miss p k h0, if_neg (by omega), h1]; rfl
    · rw [ih (by omega), if_pos (by omega)]
theorem grown_trans {a b c : World} {row : Option Nat} (h : a.grownBy b row) (k : b.grownBy c row) : a.grownBy c row :=
  ⟨k.os.trans h.os, k.tape.trans h.tape, k.output.trans h.output, Nat.le_trans h.size k.size, fun x h1 h2 => (k.block x (Nat.lt_of_lt_of_le h1 h.size) h2).trans (h.block x h1 h2)⟩
theorem grown_refl (a : World) (row : Option Nat) : a.grownBy a row := World.grownBy.refl a row
theorem ext_grownR {a b : World} (h : Ext a b) (row : Option Nat) : a.grownBy b row := ⟨h.os, h.tape, h.output, h.size, fun k hk _ => h.block k hk⟩
theorem grown_below {B : Nat} {a b : World} {row : Option Nat} (h : a.grownBy b row) (hB : B ≤ a.heap.size) (hr : ∀ r, row = some r → B ≤ r) : Below B a b := (Below.refl B a).grown h hB hr
theorem grown_none {a b : World} (h : a.grownBy b none) : Ext a b := grown_below h (Nat.le_refl _) (fun r e => by cases e)


theorem indexFall_any (A : Option Addr) (c : Nat) (l : List Fall) (g : Nat) (lb : Array Value) (p : Nat → Bool) (J : Nat → World → Prop) (row : Option Nat) (B : Nat) (w : World) (hl : l.length ≤ 1073741824) (hB : B ≤ w.heap.size)
    (hs : SlOf fallC 5 w B A l) (hrow : ∀ r, row = some r → B ≤ r)
    (eg : ∀ (args : Array Value) (w : World), (callFunc g args).run Try.prog w = .ok (.enter g args) w)
    (hJ : ∀ k W W', J k W → Ext W W' → J k W')
    (hg : ∀ (k : Nat) (hk : k < l.length) (W : World), J k W → w.grownBy W row → Calls Try.prog g (#[fallV l[k]] ++ lb) W fun e W' => e = .returned (.bool (p k)) ∧ J (k + 1) W' ∧ W.grownBy W' row) (h0 : J 0 w) :
    Calls Try.prog 117 #[.slice A l.length c, .func (.func g) #[] lb] w fun e w' => e = .returned (.int .i64 (firstI p l.length)) ∧ w.grownBy w' row := by
  have HG := Lib.hid hg
  have H0 := Lib.hid h0
  have HJ := Lib.hid hJ
  have HROW := Lib.hid hrow
  clear hg h0 hJ hrow
  go_enter Try.func117, Try.ntmps117
  go_wp2_with fail
  go_loopg [8] l.length (fun gk i wr => ∃ k : Nat, k + gk = l.length ∧ i = .int .i64 k ∧ (∀ j, j < k → p j = false) ∧ J k wr ∧ w.grownBy wr row)
  case atStart => exact ⟨0, by omega, rfl, fun j h => absurd h (by omega), H0.out, grown_refl _ _⟩
  case round =>
    obtain ⟨k, hk, rfl, hp, hj, hb⟩ := hrel
    have HK : k ≤ l.length := by omega
    have HKG := Lib.hid hk
    have HP := Lib.hid hp
    have HB := Lib.hid hb
    have HJK := Lib.hid hj
    clear hk hp hb hj
    by_cases hlt : k < l.length
    · obtain ⟨b, off, rfl, hb, hc⟩ := (hs.below (grown_below HB.out hB HROW.out) (Nat.le_refl _)).at_ fallC_len hlt
      have hz := HB.out.size
      have hcell := fun j v (h1 : j < 5) h2 => hc j v h1 h2
      have c0 := hcell 0 _ (by omega) rfl
      have c1 := hcell 1 _ (by omega) rfl
      have c2 := hcell (3 - 1) _ (by omega) rfl
      have c3 := hcell (4 - 1) _ (by omega) rfl
      have c4 := hcell (5 - 1) _ (by omega) rfl
      simp only [Nat.add_zero, Nat.mul_one, Nat.reduceSub] at c0 c1 c2 c3 c4
      clear hcell hc
      cases hpk : p k
      · have HPK := Lib.hid hpk
        clear hpk
        go_wp2_with fail
        refine (HG.out k hlt _ HJK.out HB.out).mono ?_
        rintro e w1 ⟨rfl, hj1, hb1⟩
        rw [HPK.out]
        have HJ1 := Lib.hid hj1
        have HB1 := Lib.hid (grown_trans HB.out hb1)
        clear hj1 hb1
        go_wp2_with fail
        go_roundg (gk - 1)
        case measure => have := HKG.out; omega
        case rel =>
          refine ⟨k + 1, by have := HKG.out; omega, by go_num, fun j hj => ?_, HJ1.out, HB1.out⟩
          by_cases hjk : j < k
          · exact HP.out j hjk
          · obtain rfl : j = k := by omega
            exact HPK.out
      · have HPK := Lib.hid hpk
        clear hpk
        go_wp2_with fail
        refine (HG.out k hlt _ HJK.out HB.out).mono ?_
        rintro e w1 ⟨rfl, hj1, hb1⟩
        rw [HPK.out]
        have HB1 := Lib.hid (grown_trans HB.out hb1)
        clear hj1 hb1
        go_wp2_with fail
        go_ret
        exact ⟨ret_int (firstI_hit p l.length k hlt (fun j h => HP.out j h) HPK.out).symm, HB1.out⟩
    · obtain rfl : k = l.length := by omega
      go_wp2_with fail
      go_ret
      exact ⟨ret_int (firstI_miss p l.length (fun j h => HP.out j h)).symm, HB.out⟩
theorem containsFall_any (A : Option Addr) (c : Nat) (l : List Fall) (g : Nat) (lb : Array Value) (p : Nat → Bool) (J : Nat → World → Prop) (row : Option Nat) (B : Nat) (w : World) (hl : l.length ≤ 1073741824) (hB : B ≤ w.heap.size)
    (hs : SlOf fallC 5 w B A l) (hrow : ∀ r, row = some r → B ≤ r)
    (eg : ∀ (args : Array Value) (w : World), (callFunc g args).run Try.prog w = .ok (.enter g args) w)
    (hJ : ∀ k W W', J k W → Ext W W' → J k W')
    (hg : ∀ (k : Nat) (hk : k < l.length) (W : World), J k W → w.grownBy W row → Calls Try.prog g (#[fallV l[k]] ++ lb) W fun e W' => e = .returned (.bool (p k)) ∧ J (k + 1) W' ∧ W.grownBy W' row) (h0 : J 0 w) :
    Calls Try.prog 108 #[.slice A l.length c, .func (.func g) #[] lb] w fun e w' => e = .returned (.bool ((List.range l.length).any p)) ∧ w.grownBy w' row := by
  have HG := Lib.hid hg
  have H0 := Lib.hid h0
  have HJ := Lib.hid hJ
  have HROW := Lib.hid hrow
  have H := Lib.hid (firstI_any p l.length)
  clear hg h0 hJ hrow
  go_enter Try.func108, Try.ntmps108
  go_wp2_with fail
  refine (indexFall_any A c l g lb p J row B _ hl hB hs HROW.out eg HJ.out HG.out H0.out).mono ?_
  rintro e w1 ⟨rfl, hb⟩
  go_wp2_with fail
  go_ret
  exact ⟨ret_bool H.out, hb⟩
theorem allFall_any (A : Option Addr) (c : Nat) (l : List Fall) (g : Nat) (lb : Array Value) (q : Nat → Bool) (J : Nat → World → Prop) (row : Option Nat) (B : Nat) (w : World) (hl : l.length ≤ 1073741824) (hB : B ≤ w.heap.size)
    (hs : SlOf fallC 5 w B A l) (hrow : ∀ r, row = some r → B ≤ r ∧ r < w.heap.size)
    (eg : ∀ (args : Array Value) (w : World), (callFunc g args).run Try.prog w = .ok (.enter g args) w)
    (hJ : ∀ k W W', J k W → Ext W W' → J k W')
    (hg : ∀ (k : Nat) (hk : k < l.length) (W : World), J k W → w.grownBy W row → Calls Try.prog g (#[fallV l[k]] ++ lb) W fun e W' => e = .returned (.bool (q k)) ∧ J (k + 1) W' ∧ W.grownBy W' row) (h0 : J 0 w) :
    Calls Try.prog 91 #[.slice A l.length c, .func (.func g) #[] lb] w fun e w' => e = .returned (.bool ((List.range l.length).all q)) ∧ w.grownBy w' row := by
  have HG := Lib.hid hg
  have H0 := Lib.hid h0
  have HJ := Lib.hid hJ
  have HROW := Lib.hid hrow
  have HS := Lib.hid hs
  have eg2 := enters_of (P := Try.prog) Try.func109 (by kernel_rfl) rfl
  have H := Lib.hid (show (!(List.range l.length).any fun k => !q k) = (List.range l.length).all q by rw [List.all_eq_not_any_not])
  clear hg h0 hJ hrow hs
  go_enter Try.func91, Try.ntmps91
  go_wp2_with fail
  obtain ⟨w2, hw2⟩ : ∃ w2, w.alloc (.cells #[.func (.func g) #[] lb] 137) = w2 := ⟨_, rfl⟩
  rw [hw2]
  have hb2 : Ext w w2 := by rw [← hw2]; (repeat (first | (with_reducible exact Ext.refl _) | (with_reducible assumption) | (with_reducible refine Ext.alloc ?_ _) | (with_reducible refine Ext.trans ?_ (by with_reducible assumption)) | (with_reducible refine Ext.drew ?_) | (with_reducible refine Ext.setCell ?_ (by simp <;> omega) _)))
  have hx : w2.cell? ⟨w.heap.size, 0, none⟩ = some (.func (.func g) #[] lb) := by rw [← hw2]; clear hw2; go_simp
  clear hw2
  refine (containsFall_any A c l 109 #[.pointer (some ⟨w.heap.size, 0, none⟩)] (fun k => !q k) (fun k W => J k W ∧ W.cell? ⟨w.heap.size, 0, none⟩ = some (.func (.func g) #[] lb)) row B _ hl (Nat.le_trans hB hb2.size) (HS.out.below hb2 (by omega)) (fun r e => (HROW.out r e).1) eg2
    (fun k W W' h he => ⟨HJ.out k W W' h.1 he, by
      have hlt := World.block_lt_of_cell? W _ h.2
      exact ((bcell he).1 _ 0 hlt).trans h.2⟩) ?_ ⟨HJ.out 0 _ _ H0.out hb2, hx⟩).mono ?_
  · rintro k hk W ⟨hj, hcx⟩ hgw
    have HJK := Lib.hid hj
    have HGW := Lib.hid (grown_trans (ext_grownR hb2 row) hgw)
    have hlt := World.block_lt_of_cell? W _ hcx
    clear hj hgw hx hb2
    generalize hX : l[k] = x at *
    have HX := Lib.hid hX
    clear hX
    have hcz : W.heap.size ≠ w.heap.size := by simp only at hlt; omega
    go_enter Try.func109, Try.ntmps109
    go_wp2_with fail
    have hE : Ext W _ := (Ext.refl W).alloc (.cells (fallV x).cells 79)
    have hG := HG.out k hk _ (HJ.out k _ _ HJK.out hE) (grown_trans HGW.out (ext_grownR hE row))
    rw [HX.out] at hG
    refine hG.mono ?_
    rintro e w3 ⟨rfl, hj3, hg3⟩
    have hcx3 : w3.cell? ⟨w.heap.size, 0, none⟩ = some (.func (.func g) #[] lb) := hg3.cell (((bcell hE).1 _ 0 hlt).trans hcx) (fun e => Nat.lt_irrefl w.heap.size (HROW.out _ e.symm).2)
    have HJ3 := Lib.hid hj3
    have HG3 := Lib.hid (grown_trans (ext_grownR hE row) hg3)
    clear hj3 hg3 hG hE
    go_wp2_with fail
    go_ret
    exact ⟨rfl, ⟨HJ3.out, hcx3⟩, HG3.out⟩
  · rintro e w3 ⟨rfl, hg3⟩
    go_wp2_with fail
    go_ret
    exact ⟨ret_bool H.out, grown_trans (ext_grownR hb2 row) hg3⟩

theorem indexPost_any (A : Option Addr) (c : Nat) (l : List Post) (g : Nat) (lb : Array Value) (p : Nat → Bool) (J : Nat → World → Prop) (row : Option Nat) (B : Nat) (w : World) (hl : l.length ≤ 1073741824) (hB : B ≤ w.heap.size)
    (hs : SlOf postC 3 w B A l) (hrow : ∀ r, row = some r → B ≤ r)
    (eg : ∀ (args : Array Value) (w : World), (callFunc g args).run Try.prog w = .ok (.enter g args) w)
    (hJ : ∀ k W W', J k W → Ext W W' → J k W')
    (hg : ∀ (k : Nat) (hk : k < l.length) (W : World), J k W → w.grownBy W row → Calls Try.prog g (#[postV l[k]] ++ lb) W fun e W' => e = .returned (.bool (p k)) ∧ J (k + 1) W' ∧ W.grownBy W' row) (h0 : J 0 w) :
    Calls Try.prog 116 #[.slice A l.length c, .func (.func g) #[] lb] w fun e w' => e = .returned (.int .i64 (firstI p l.length)) ∧ w.grownBy w' row := by
  have HG := Lib.hid hg
  have H0 := Lib.hid h0
  have HJ := Lib.hid hJ
  have HROW := Lib.hid hrow
  clear hg h0 hJ hrow
  go_enter Try.func116, Try.ntmps116
  go_wp2_with fail
  go_loopg [8] l.length (fun gk i wr => ∃ k : Nat, k + gk = l.length ∧ i = .int .i64 k ∧ (∀ j, j < k → p j = false) ∧ J k wr ∧ w.grownBy wr row)
  case atStart => exact ⟨0, by omega, rfl, fun j h => absurd h (by omega), H0.out, grown_refl _ _⟩
  case round =>
    obtain ⟨k, hk, rfl, hp, hj, hb⟩ := hrel
    have HK : k ≤ l.length := by omega
    have HKG := Lib.hid hk
    have HP := Lib.hid hp
    have HB := Lib.hid hb
    have HJK := Lib.hid hj
    clear hk hp hb hj
    by_cases hlt : k < l.length
    · obtain ⟨b, off, rfl, hb, hc⟩ := (hs.below (grown_below HB.out hB HROW.out) (Nat.le_refl _)).at_ postC_len hlt
      have hz := HB.out.size
      have hcell := fun j v (h1 : j < 3) h2 => hc j v h1 h2
      have c0 := hcell 0 _ (by omega) rfl
      have c1 := hcell 1 _ (by omega) rfl
      have c2 := hcell (3 - 1) _ (by omega) rfl
      simp only [Nat.add_zero, Nat.mul_one, Nat.reduceSub] at c0 c1 c2
      clear hcell hc
      cases hpk : p k
      · have HPK := Lib.hid hpk
        clear hpk
        go_wp2_with fail
        refine (HG.out k hlt _ HJK.out HB.out).mono ?_
        rintro e w1 ⟨rfl, hj1, hb1⟩
        rw [HPK.out]
        have HJ1 := Lib.hid hj1
        have HB1 := Lib.hid (grown_trans HB.out hb1)
        clear hj1 hb1
        go_wp2_with fail
        go_roundg (gk - 1)
        case measure => have := HKG.out; omega
        case rel =>
          refine ⟨k + 1, by have := HKG.out; omega, by go_num, fun j hj => ?_, HJ1.out, HB1.out⟩
          by_cases hjk : j < k
          · exact HP.out j hjk
          · obtain rfl : j = k := by omega
            exact HPK.out
      · have HPK := Lib.hid hpk
        clear hpk
        go_wp2_with fail
        refine (HG.out k hlt _ HJK.out HB.out).mono ?_
        rintro e w1 ⟨rfl, hj1, hb1⟩
        rw [HPK.out]
        have HB1 := Lib.hid (grown_trans HB.out hb1)
        clear hj1 hb1
        go_wp2_with fail
        go_ret
        exact ⟨ret_int (firstI_hit p l.length k hlt (fun j h => HP.out j h) HPK.out).symm, HB1.out⟩
    · obtain rfl : k = l.length := by omega
      go_wp2_with fail
      go_ret
      exact ⟨ret_int (firstI_miss p l.length (fun j h => HP.out j h)).symm, HB.out⟩
theorem containsPost_any (A : Option Addr) (c : Nat) (l : List Post) (g : Nat) (lb : Array Value) (p : Nat → Bool) (J : Nat → World → Prop) (row : Option Nat) (B : Nat) (w : World) (hl : l.length ≤ 1073741824) (hB : B ≤ w.heap.size)
    (hs : SlOf postC 3 w B A l) (hrow : ∀ r, row = some r → B ≤ r)
    (eg : ∀ (args : Array Value) (w : World), (callFunc g args).run Try.prog w = .ok (.enter g args) w)
    (hJ : ∀ k W W', J k W → Ext W W' → J k W')
    (hg : ∀ (k : Nat) (hk : k < l.length) (W : World), J k W → w.grownBy W row → Calls Try.prog g (#[postV l[k]] ++ lb) W fun e W' => e = .returned (.bool (p k)) ∧ J (k + 1) W' ∧ W.grownBy W' row) (h0 : J 0 w) :
    Calls Try.prog 105 #[.slice A l.length c, .func (.func g) #[] lb] w fun e w' => e = .returned (.bool ((List.range l.length).any p)) ∧ w.grownBy w' row := by
  have HG := Lib.hid hg
  have H0 := Lib.hid h0
  have HJ := Lib.hid hJ
  have HROW := Lib.hid hrow
  have H := Lib.hid (firstI_any p l.length)
  clear hg h0 hJ hrow
  go_enter Try.func105, Try.ntmps105
  go_wp2_with fail
  refine (indexPost_any A c l g lb p J row B _ hl hB hs HROW.out eg HJ.out HG.out H0.out).mono ?_
  rintro e w1 ⟨rfl, hb⟩
  go_wp2_with fail
  go_ret
  exact ⟨ret_bool H.out, hb⟩
theorem allPost_any (A : Option Addr) (c : Nat) (l : List Post) (g : Nat) (lb : Array Value) (q : Nat → Bool) (J : Nat → World → Prop) (row : Option Nat) (B : Nat) (w : World) (hl : l.length ≤ 1073741824) (hB : B ≤ w.heap.size)
    (hs : SlOf postC 3 w B A l) (hrow : ∀ r, row = some r → B ≤ r ∧ r < w.heap.size)
    (eg : ∀ (args : Array Value) (w : World), (callFunc g args).run Try.prog w = .ok (.enter g args) w)
    (hJ : ∀ k W W', J k W → Ext W W' → J k W')
    (hg : ∀ (k : Nat) (hk : k < l.length) (W : World), J k W → w.grownBy W row → Calls Try.prog g (#[postV l[k]] ++ lb) W fun e W' => e = .returned (.bool (q k)) ∧ J (k + 1) W' ∧ W.grownBy W' row) (h0 : J 0 w) :
    Calls Try.prog 84 #[.slice A l.length c, .func (.func g) #[] lb] w fun e w' => e = .returned (.bool ((List.range l.length).all q)) ∧ w.grownBy w' row := by
  have HG := Lib.hid hg
  have H0 := Lib.hid h0
  have HJ := Lib.hid hJ
  have HROW := Lib.hid hrow
  have HS := Lib.hid hs
  have eg2 := enters_of (P := Try.prog) Try.func106 (by kernel_rfl) rfl
  have H := Lib.hid (show (!(List.range l.length).any fun k => !q k) = (List.range l.length).all q by rw [List.all_eq_not_any_not])
  clear hg h0 hJ hrow hs
  go_enter Try.func84, Try.ntmps84
  go_wp2_with fail
  obtain ⟨w2, hw2⟩ : ∃ w2, w.alloc (.cells #[.func (.func g) #[] lb] 131) = w2 := ⟨_, rfl⟩
  rw [hw2]
  have hb2 : Ext w w2 := by rw [← hw2]; (repeat (first | (with_reducible exact Ext.refl _) | (with_reducible assumption) | (with_reducible refine Ext.alloc ?_ _) | (with_reducible refine Ext.trans ?_ (by with_reducible assumption)) | (with_reducible refine Ext.drew ?_) | (with_reducible refine Ext.setCell ?_ (by simp <;> omega) _)))
  have hx : w2.cell? ⟨w.heap.size, 0, none⟩ = some (.func (.func g) #[] lb) := by rw [← hw2]; clear hw2; go_simp
  clear hw2
  refine (containsPost_any A c l 106 #[.pointer (some ⟨w.heap.size, 0, none⟩)] (fun k => !q k) (fun k W => J k W ∧ W.cell? ⟨w.heap.size, 0, none⟩ = some (.func (.func g) #[] lb)) row B _ hl (Nat.le_trans hB hb2.size) (HS.out.below hb2 (by omega)) (fun r e => (HROW.out r e).1) eg2
    (fun k W W' h he => ⟨HJ.out k W W' h.1 he, by
      have hlt := World.block_lt_of_cell? W _ h.2
      exact ((bcell he).1 _ 0 hlt).trans h.2⟩) ?_ ⟨HJ.out 0 _ _ H0.out hb2, hx⟩).mono ?_
  · rintro k hk W ⟨hj, hcx⟩ hgw
    have HJK := Lib.hid hj
    have HGW := Lib.hid (grown_trans (ext_grownR hb2 row) hgw)
    have hlt := World.block_lt_of_cell? W _ hcx
    clear hj hgw hx hb2
    generalize hX : l[k] = x at *
    have HX := Lib.hid hX
    clear hX
    have hcz : W.heap.size ≠ w.heap.size := by simp only at hlt; omega
    go_enter Try.func106, Try.ntmps106
    go_wp2_with fail
    have hE : Ext W _ := (Ext.refl W).alloc (.cells (postV x).cells 58)
    have hG := HG.out k hk _ (HJ.out k _ _ HJK.out hE) (grown_trans HGW.out (ext_grownR hE row))
    rw [HX.out] at hG
    refine hG.mono ?_
    rintro e w3 ⟨rfl, hj3, hg3⟩
    have hcx3 : w3.cell? ⟨w.heap.size, 0, none⟩ = some (.func (.func g) #[] lb) := hg3.cell (((bcell hE).1 _ 0 hlt).trans hcx) (fun e => Nat.lt_irrefl w.heap.size (HROW.out _ e.symm).2)
    have HJ3 := Lib.hid hj3
    have HG3 := Lib.hid (grown_trans (ext_grownR hE row) hg3)
    clear hj3 hg3 hG hE
    go_wp2_with fail
    go_ret
    exact ⟨rfl, ⟨HJ3.out, hcx3⟩, HG3.out⟩
  · rintro e w3 ⟨rfl, hg3⟩
    go_wp2_with fail
    go_ret
    exact ⟨ret_bool H.out, grown_trans (ext_grownR hb2 row) hg3⟩

theorem indexGuide_any (A : Option Addr) (c : Nat) (l : List Guide) (g : Nat) (lb : Array Value) (p : Nat → Bool) (J : Nat → World → Prop) (row : Option Nat) (B : Nat) (w : World) (hl : l.length ≤ 1073741824) (hB : B ≤ w.heap.size)
    (hs : SlOf guideC 3 w B A l) (hrow : ∀ r, row = some r → B ≤ r)
    (eg : ∀ (args : Array Value) (w : World), (callFunc g args).run Try.prog w = .ok (.enter g args) w)
    (hJ : ∀ k W W', J k W → Ext W W' → J k W')
    (hg : ∀ (k : Nat) (hk : k < l.length) (W : World), J k W → w.grownBy W row → Calls Try.prog g (#[guideV l[k]] ++ lb) W fun e W' => e = .returned (.bool (p k)) ∧ J (k + 1) W' ∧ W.grownBy W' row) (h0 : J 0 w) :
    Calls Try.prog 110 #[.slice A l.length c, .func (.func g) #[] lb] w fun e w' => e = .returned (.int .i64 (firstI p l.length)) ∧ w.grownBy w' row := by
  have HG := Lib.hid hg
  have H0 := Lib.hid h0
  have HJ := Lib.hid hJ
  have HROW := Lib.hid hrow
  clear hg h0 hJ hrow
  go_enter Try.func110, Try.ntmps110
  go_wp2_with fail
  go_loopg [8] l.length (fun gk i wr => ∃ k : Nat, k + gk = l.length ∧ i = .int .i64 k ∧ (∀ j, j < k → p j = false) ∧ J k wr ∧ w.grownBy wr row)
  case atStart => exact ⟨0, by omega, rfl, fun j h => absurd h (by omega), H0.out, grown_refl _ _⟩
  case round =>
    obtain ⟨k, hk, rfl, hp, hj, hb⟩ := hrel
    have HK : k ≤ l.length := by omega
    have HKG := Lib.hid hk
    have HP := Lib.hid hp
    have HB := Lib.hid hb
    have HJK := Lib.hid hj
    clear hk hp hb hj
    by_cases hlt : k < l.length
    · obtain ⟨b, off, rfl, hb, hc⟩ := (hs.below (grown_below HB.out hB HROW.out) (Nat.le_refl _)).at_ guideC_len hlt
      have hz := HB.out.size
      have hcell := fun j v (h1 : j < 3) h2 => hc j v h1 h2
      have c0 := hcell 0 _ (by omega) rfl
      have c1 := hcell 1 _ (by omega) rfl
      have c2 := hcell (3 - 1) _ (by omega) rfl
      simp only [Nat.add_zero, Nat.mul_one, Nat.reduceSub] at c0 c1 c2
      clear hcell hc
      cases hpk : p k
      · have HPK := Lib.hid hpk
        clear hpk
        go_wp2_with fail
        refine (HG.out k hlt _ HJK.out HB.out).mono ?_
        rintro e w1 ⟨rfl, hj1, hb1⟩
        rw [HPK.out]
        have HJ1 := Lib.hid hj1
        have HB1 := Lib.hid (grown_trans HB.out hb1)
        clear hj1 hb1
        go_wp2_with fail
        go_roundg (gk - 1)
        case measure => have := HKG.out; omega
        case rel =>
          refine ⟨k + 1, by have := HKG.out; omega, by go_num, fun j hj => ?_, HJ1.out, HB1.out⟩
          by_cases hjk : j < k
          · exact HP.out j hjk
          · obtain rfl : j = k := by omega
            exact HPK.out
      · have HPK := Lib.hid hpk
        clear hpk
        go_wp2_with fail
        refine (HG.out k hlt _ HJK.out HB.out).mono ?_
        rintro e w1 ⟨rfl, hj1, hb1⟩
        rw [HPK.out]
        have HB1 := Lib.hid (grown_trans HB.out hb1)
        clear hj1 hb1
        go_wp2_with fail
        go_ret
        exact ⟨ret_int (firstI_hit p l.length k hlt (fun j h => HP.out j h) HPK.out).symm, HB1.out⟩
    · obtain rfl : k = l.length := by omega
      go_wp2_with fail
      go_ret
      exact ⟨ret_int (firstI_miss p l.length (fun j h => HP.out j h)).symm, HB.out⟩
theorem containsGuide_any (A : Option Addr) (c : Nat) (l : List Guide) (g : Nat) (lb : Array Value) (p : Nat → Bool) (J : Nat → World → Prop) (row : Option Nat) (B : Nat) (w : World) (hl : l.length ≤ 1073741824) (hB : B ≤ w.heap.size)
    (hs : SlOf guideC 3 w B A l) (hrow : ∀ r, row = some r → B ≤ r)
    (eg : ∀ (args : Array Value) (w : World), (callFunc g args).run Try.prog w = .ok (.enter g args) w)
    (hJ : ∀ k W W', J k W → Ext W W' → J k W')
    (hg : ∀ (k : Nat) (hk : k < l.length) (W : World), J k W → w.grownBy W row → Calls Try.prog g (#[guideV l[k]] ++ lb) W fun e W' => e = .returned (.bool (p k)) ∧ J (k + 1) W' ∧ W.grownBy W' row) (h0 : J 0 w) :
    Calls Try.prog 93 #[.slice A l.length c, .func (.func g) #[] lb] w fun e w' => e = .returned (.bool ((List.range l.length).any p)) ∧ w.grownBy w' row := by
  have HG := Lib.hid hg
  have H0 := Lib.hid h0
  have HJ := Lib.hid hJ
  have HROW := Lib.hid hrow
  have H := Lib.hid (firstI_any p l.length)
  clear hg h0 hJ hrow
  go_enter Try.func93, Try.ntmps93
  go_wp2_with fail
  refine (indexGuide_any A c l g lb p J row B _ hl hB hs HROW.out eg HJ.out HG.out H0.out).mono ?_
  rintro e w1 ⟨rfl, hb⟩
  go_wp2_with fail
  go_ret
  exact ⟨ret_bool H.out, hb⟩
theorem allGuide_any (A : Option Addr) (c : Nat) (l : List Guide) (g : Nat) (lb : Array Value) (q : Nat → Bool) (J : Nat → World → Prop) (row : Option Nat) (B : Nat) (w : World) (hl : l.length ≤ 1073741824) (hB : B ≤ w.heap.size)
    (hs : SlOf guideC 3 w B A l) (hrow : ∀ r, row = some r → B ≤ r ∧ r < w.heap.size)
    (eg : ∀ (args : Array Value) (w : World), (callFunc g args).run Try.prog w = .ok (.enter g args) w)
    (hJ : ∀ k W W', J k W → Ext W W' → J k W')
    (hg : ∀ (k : Nat) (hk : k < l.length) (W : World), J k W → w.grownBy W row → Calls Try.prog g (#[guideV l[k]] ++ lb) W fun e W' => e = .returned (.bool (q k)) ∧ J (k + 1) W' ∧ W.grownBy W' row) (h0 : J 0 w) :
    Calls Try.prog 66 #[.slice A l.length c, .func (.func g) #[] lb] w fun e w' => e = .returned (.bool ((List.range l.length).all q)) ∧ w.grownBy w' row := by
  have HG := Lib.hid hg
  have H0 := Lib.hid h0
  have HJ := Lib.hid hJ
  have HROW := Lib.hid hrow
  have HS := Lib.hid hs
  have eg2 := enters_of (P := Try.prog) Try.func94 (by kernel_rfl) rfl
  have H := Lib.hid (show (!(List.range l.length).any fun k => !q k) = (List.range l.length).all q by rw [List.all_eq_not_any_not])
  clear hg h0 hJ hrow hs
  go_enter Try.func66, Try.ntmps66
  go_wp2_with fail
  obtain ⟨w2, hw2⟩ : ∃ w2, w.alloc (.cells #[.func (.func g) #[] lb] 107) = w2 := ⟨_, rfl⟩
  rw [hw2]
  have hb2 : Ext w w2 := by rw [← hw2]; (repeat (first | (with_reducible exact Ext.refl _) | (with_reducible assumption) | (with_reducible refine Ext.alloc ?_ _) | (with_reducible refine Ext.trans ?_ (by with_reducible assumption)) | (with_reducible refine Ext.drew ?_) | (with_reducible refine Ext.setCell ?_ (by simp <;> omega) _)))
  have hx : w2.cell? ⟨w.heap.size, 0, none⟩ = some (.func (.func g) #[] lb) := by rw [← hw2]; clear hw2; go_simp
  clear hw2
  refine (containsGuide_any A c l 94 #[.pointer (some ⟨w.heap.size, 0, none⟩)] (fun k => !q k) (fun k W => J k W ∧ W.cell? ⟨w.heap.size, 0, none⟩ = some (.func (.func g) #[] lb)) row B _ hl (Nat.le_trans hB hb2.size) (HS.out.below hb2 (by omega)) (fun r e => (HROW.out r e).1) eg2
    (fun k W W' h he => ⟨HJ.out k W W' h.1 he, by
      have hlt := World.block_lt_of_cell? W _ h.2
      exact ((bcell he).1 _ 0 hlt).trans h.2⟩) ?_ ⟨HJ.out 0 _ _ H0.out hb2, hx⟩).mono ?_
  · rintro k hk W ⟨hj, hcx⟩ hgw
    have HJK := Lib.hid hj
    have HGW := Lib.hid (grown_trans (ext_grownR hb2 row) hgw)
    have hlt := World.block_lt_of_cell? W _ hcx
    clear hj hgw hx hb2
    generalize hX : l[k] = x at *
    have HX := Lib.hid hX
    clear hX
    have hcz : W.heap.size ≠ w.heap.size := by simp only at hlt; omega
    go_enter Try.func94, Try.ntmps94
    go_wp2_with fail
    have hE : Ext W _ := (Ext.refl W).alloc (.cells (guideV x).cells 106)
    have hG := HG.out k hk _ (HJ.out k _ _ HJK.out hE) (grown_trans HGW.out (ext_grownR hE row))
    rw [HX.out] at hG
    refine hG.mono ?_
    rintro e w3 ⟨rfl, hj3, hg3⟩
    have hcx3 : w3.cell? ⟨w.heap.size, 0, none⟩ = some (.func (.func g) #[] lb) := hg3.cell (((bcell hE).1 _ 0 hlt).trans hcx) (fun e => Nat.lt_irrefl w.heap.size (HROW.out _ e.symm).2)
    have HJ3 := Lib.hid hj3
    have HG3 := Lib.hid (grown_trans (ext_grownR hE row) hg3)
    clear hj3 hg3 hG hE
    go_wp2_with fail
    go_ret
    exact ⟨rfl, ⟨HJ3.out, hcx3⟩, HG3.out⟩
  · rintro e w3 ⟨rfl, hg3⟩
    go_wp2_with fail
    go_ret
    exact ⟨ret_bool H.out, grown_trans (ext_grownR hb2 row) hg3⟩

theorem indexRope_any (A : Option Addr) (c : Nat) (l : List RopeX) (g : Nat) (lb : Array Value) (p : Nat → Bool) (J : Nat → World → Prop) (row : Option Nat) (B : Nat) (w : World) (hl : l.length ≤ 1073741824) (hB : B ≤ w.heap.size)
    (hs : SlOf ropeC 4 w B A l) (hrow : ∀ r, row = some r → B ≤ r)
    (eg : ∀ (args : Array Value) (w : World), (callFunc g args).run Try.prog w = .ok (.enter g args) w)
    (hJ : ∀ k W W', J k W → Ext W W' → J k W')
    (hg : ∀ (k : Nat) (hk : k < l.length) (W : World), J k W → w.grownBy W row → Calls Try.prog g (#[ropeXV l[k]] ++ lb) W fun e W' => e = .returned (.bool (p k)) ∧ J (k + 1) W' ∧ W.grownBy W' row) (h0 : J 0 w) :
    Calls Try.prog 107 #[.slice A l.length c, .func (.func g) #[] lb] w fun e w' => e = .returned (.int .i64 (firstI p l.length)) ∧ w.grownBy w' row := by
  have HG := Lib.hid hg
  have H0 := Lib.hid h0
  have HJ := Lib.hid hJ
  have HROW := Lib.hid hrow
  clear hg h0 hJ hrow
  go_enter Try.func107, Try.ntmps107
  go_wp2_with fail
  go_loopg [8] l.length (fun gk i wr => ∃ k : Nat, k + gk = l.length ∧ i = .int .i64 k ∧ (∀ j, j < k → p j = false) ∧ J k wr ∧ w.grownBy wr row)
  case atStart => exact ⟨0, by omega, rfl, fun j h => absurd h (by omega), H0.out, grown_refl _ _⟩
  case round =>
    obtain ⟨k, hk, rfl, hp, hj, hb⟩ := hrel
    have HK : k ≤ l.length := by omega
    have HKG := Lib.hid hk
    have HP := Lib.hid hp
    have HB := Lib.hid hb
    have HJK := Lib.hid hj
    clear hk hp hb hj
    by_cases hlt : k < l.length
    · obtain ⟨b, off, rfl, hb, hc⟩ := (hs.below (grown_below HB.out hB HROW.out) (Nat.le_refl _)).at_ ropeC_len hlt
      have hz := HB.out.size
      have hcell := fun j v (h1 : j < 4) h2 => hc j v h1 h2
      have c0 := hcell 0 _ (by omega) rfl
      have c1 := hcell 1 _ (by omega) rfl
      have c2 := hcell (3 - 1) _ (by omega) rfl
      have c3 := hcell (4 - 1) _ (by omega) rfl
      simp only [Nat.add_zero, Nat.mul_one, Nat.reduceSub] at c0 c1 c2 c3
      clear hcell hc
      cases hpk : p k
      · have HPK := Lib.hid hpk
        clear hpk
        go_wp2_with fail
        refine (HG.out k hlt _ HJK.out HB.out).mono ?_
        rintro e w1 ⟨rfl, hj1, hb1⟩
        rw [HPK.out]
        have HJ1 := Lib.hid hj1
        have HB1 := Lib.hid (grown_trans HB.out hb1)
        clear hj1 hb1
        go_wp2_with fail
        go_roundg (gk - 1)
        case measure => have := HKG.out; omega
        case rel =>
          refine ⟨k + 1, by have := HKG.out; omega, by go_num, fun j hj => ?_, HJ1.out, HB1.out⟩
          by_cases hjk : j < k
          · exact HP.out j hjk
          · obtain rfl : j = k := by omega
            exact HPK.out
      · have HPK := Lib.hid hpk
        clear hpk
        go_wp2_with fail
        refine (HG.out k hlt _ HJK.out HB.out).mono ?_
        rintro e w1 ⟨rfl, hj1, hb1⟩
        rw [HPK.out]
        have HB1 := Lib.hid (grown_trans HB.out hb1)
        clear hj1 hb1
        go_wp2_with fail
        go_ret
        exact ⟨ret_int (firstI_hit p l.length k hlt (fun j h => HP.out j h) HPK.out).symm, HB1.out⟩
    · obtain rfl : k = l.length := by omega
      go_wp2_with fail
      go_ret
      exact ⟨ret_int (firstI_miss p l.length (fun j h => HP.out j h)).symm, HB.out⟩
theorem containsRope_any (A : Option Addr) (c : Nat) (l : List RopeX) (g : Nat) (lb : Array Value) (p : Nat → Bool) (J : Nat → World → Prop) (row : Option Nat) (B : Nat) (w : World) (hl : l.length ≤ 1073741824) (hB : B ≤ w.heap.size)
    (hs : SlOf ropeC 4 w B A l) (hrow : ∀ r, row = some r → B ≤ r)
    (eg : ∀ (args : Array Value) (w : World), (callFunc g args).run Try.prog w = .ok (.enter g args) w)
    (hJ : ∀ k W W', J k W → Ext W W' → J k W')
    (hg : ∀ (k : Nat) (hk : k < l.length) (W : World), J k W → w.grownBy W row → Calls Try.prog g (#[ropeXV l[k]] ++ lb) W fun e W' => e = .returned (.bool (p k)) ∧ J (k + 1) W' ∧ W.grownBy W' row) (h0 : J 0 w) :
    Calls Try.prog 89 #[.slice A l.length c, .func (.func g) #[] lb] w fun e w' => e = .returned (.bool ((List.range l.length).any p)) ∧ w.grownBy w' row := by
  have HG := Lib.hid hg
  have H0 := Lib.hid h0
  have HJ := Lib.hid hJ
  have HROW := Lib.hid hrow
  have H := Lib.hid (firstI_any p l.length)
  clear hg h0 hJ hrow
  go_enter Try.func89, Try.ntmps89
  go_wp2_with fail
  refine (indexRope_any A c l g lb p J row B _ hl hB hs HROW.out eg HJ.out HG.out H0.out).mono ?_
  rintro e w1 ⟨rfl, hb⟩
  go_wp2_with fail
  go_ret
  exact ⟨ret_bool H.out, hb⟩
theorem allRope_any (A : Option Addr) (c : Nat) (l : List RopeX) (g : Nat) (lb : Array Value) (q : Nat → Bool) (J : Nat → World → Prop) (row : Option Nat) (B : Nat) (w : World) (hl : l.length ≤ 1073741824) (hB : B ≤ w.heap.size)
    (hs : SlOf ropeC 4 w B A l) (hrow : ∀ r, row = some r → B ≤ r ∧ r < w.heap.size)
    (eg : ∀ (args : Array Value) (w : World), (callFunc g args).run Try.prog w = .ok (.enter g args) w)
    (hJ : ∀ k W W', J k W → Ext W W' → J k W')
    (hg : ∀ (k : Nat) (hk : k < l.length) (W : World), J k W → w.grownBy W row → Calls Try.prog g (#[ropeXV l[k]] ++ lb) W fun e W' => e = .returned (.bool (q k)) ∧ J (k + 1) W' ∧ W.grownBy W' row) (h0 : J 0 w) :
    Calls Try.prog 64 #[.slice A l.length c, .func (.func g) #[] lb] w fun e w' => e = .returned (.bool ((List.range l.length).all q)) ∧ w.grownBy w' row := by
  have HG := Lib.hid hg
  have H0 := Lib.hid h0
  have HJ := Lib.hid hJ
  have HROW := Lib.hid hrow
  have HS := Lib.hid hs
  have eg2 := enters_of (P := Try.prog) Try.func90 (by kernel_rfl) rfl
  have H := Lib.hid (show (!(List.range l.length).any fun k => !q k) = (List.range l.length).all q by rw [List.all_eq_not_any_not])
  clear hg h0 hJ hrow hs
  go_enter Try.func64, Try.ntmps64
  go_wp2_with fail
  obtain ⟨w2, hw2⟩ : ∃ w2, w.alloc (.cells #[.func (.func g) #[] lb] 108) = w2 := ⟨_, rfl⟩
  rw [hw2]
  have hb2 : Ext w w2 := by rw [← hw2]; (repeat (first | (with_reducible exact Ext.refl _) | (with_reducible assumption) | (with_reducible refine Ext.alloc ?_ _) | (with_reducible refine Ext.trans ?_ (by with_reducible assumption)) | (with_reducible refine Ext.drew ?_) | (with_reducible refine Ext.setCell ?_ (by simp <;> omega) _)))
  have hx : w2.cell? ⟨w.heap.size, 0, none⟩ = some (.func (.func g) #[] lb) := by rw [← hw2]; clear hw2; go_simp
  clear hw2
  refine (containsRope_any A c l 90 #[.pointer (some ⟨w.heap.size, 0, none⟩)] (fun k => !q k) (fun k W => J k W ∧ W.cell? ⟨w.heap.size, 0, none⟩ = some (.func (.func g) #[] lb)) row B _ hl (Nat.le_trans hB hb2.size) (HS.out.below hb2 (by omega)) (fun r e => (HROW.out r e).1) eg2
    (fun k W W' h he => ⟨HJ.out k W W' h.1 he, by
      have hlt := World.block_lt_of_cell? W _ h.2
      exact ((bcell he).1 _ 0 hlt).trans h.2⟩) ?_ ⟨HJ.out 0 _ _ H0.out hb2, hx⟩).mono ?_
  · rintro k hk W ⟨hj, hcx⟩ hgw
    have HJK := Lib.hid hj
    have HGW := Lib.hid (grown_trans (ext_grownR hb2 row) hgw)
    have hlt := World.block_lt_of_cell? W _ hcx
    clear hj hgw hx hb2
    generalize hX : l[k] = x at *
    have HX := Lib.hid hX
    clear hX
    have hcz : W.heap.size ≠ w.heap.size := by simp only at hlt; omega
    go_enter Try.func90, Try.ntmps90
    go_wp2_with fail
    have hE : Ext W _ := (Ext.refl W).alloc (.cells (ropeXV x).cells 27)
    have hG := HG.out k hk _ (HJ.out k _ _ HJK.out hE) (grown_trans HGW.out (ext_grownR hE row))
    rw [HX.out] at hG
    refine hG.mono ?_
    rintro e w3 ⟨rfl, hj3, hg3⟩
    have hcx3 : w3.cell? ⟨w.heap.size, 0, none⟩ = some (.func (.func g) #[] lb) := hg3.cell (((bcell hE).1 _ 0 hlt).trans hcx) (fun e => Nat.lt_irrefl w.heap.size (HROW.out _ e.symm).2)
    have HJ3 := Lib.hid hj3
    have HG3 := Lib.hid (grown_trans (ext_grownR hE row) hg3)
    clear hj3 hg3 hG hE
    go_wp2_with fail
    go_ret
    exact ⟨rfl, ⟨HJ3.out, hcx3⟩, HG3.out⟩
  · rintro e w3 ⟨rfl, hg3⟩
    go_wp2_with fail
    go_ret
    exact ⟨ret_bool H.out, grown_trans (ext_grownR hb2 row) hg3⟩

theorem indexInt_any (A : Option Addr) (c : Nat) (l : List Int) (g : Nat) (lb : Array Value) (p : Nat → Bool) (J : Nat → World → Prop) (row : Option Nat) (B : Nat) (w : World) (hl : l.length ≤ 1073741824) (hB : B ≤ w.heap.size)
    (hs : SlOf intC 1 w B A l) (hrow : ∀ r, row = some r → B ≤ r)
    (eg : ∀ (args : Array Value) (w : World), (callFunc g args).run Try.prog w = .ok (.enter g args) w)
    (hJ : ∀ k W W', J k W → Ext W W' → J k W')
    (hg : ∀ (k : Nat) (hk : k < l.length) (W : World), J k W → w.grownBy W row → Calls Try.prog g (#[intV l[k]] ++ lb) W fun e W' => e = .returned (.bool (p k)) ∧ J (k + 1) W' ∧ W.grownBy W' row) (h0 : J 0 w) :
    Calls Try.prog 111 #[.slice A l.length c, .func (.func g) #[] lb] w fun e w' => e = .returned (.int .i64 (firstI p l.length)) ∧ w.grownBy w' row := by
  have HG := Lib.hid hg
  have H0 := Lib.hid h0
  have HJ := Lib.hid hJ
  have HROW := Lib.hid hrow
  clear hg h0 hJ hrow
  go_enter Try.func111, Try.ntmps111
  go_wp2_with fail
  go_loopg [8] l.length (fun gk i wr => ∃ k : Nat, k + gk = l.length ∧ i = .int .i64 k ∧ (∀ j, j < k → p j = false) ∧ J k wr ∧ w.grownBy wr row)
  case atStart => exact ⟨0, by omega, rfl, fun j h => absurd h (by omega), H0.out, grown_refl _ _⟩
  case round =>
    obtain ⟨k, hk, rfl, hp, hj, hb⟩ := hrel
    have HK : k ≤ l.length := by omega
    have HKG := Lib.hid hk
    have HP := Lib.hid hp
    have HB := Lib.hid hb
    have HJK := Lib.hid hj
    clear hk hp hb hj
    by_cases hlt : k < l.length
    · obtain ⟨b, off, rfl, hb, hc⟩ := (hs.below (grown_below HB.out hB HROW.out) (Nat.le_refl _)).at_ intC_len hlt
      have hz := HB.out.size
      have hcell := fun j v (h1 : j < 1) h2 => hc j v h1 h2
      have c0 := hcell 0 _ (by omega) rfl
      simp only [Nat.add_zero, Nat.mul_one, Nat.reduceSub] at c0
      clear hcell hc
      cases hpk : p k
      · have HPK := Lib.hid hpk
        clear hpk
        go_wp2_with fail
        refine (HG.out k hlt _ HJK.out HB.out).mono ?_
        rintro e w1 ⟨rfl, hj1, hb1⟩
        rw [HPK.out]
        have HJ1 := Lib.hid hj1
        have HB1 := Lib.hid (grown_trans HB.out hb1)
        clear hj1 hb1
        go_wp2_with fail
        go_roundg (gk - 1)
        case measure => have := HKG.out; omega
        case rel =>
          refine ⟨k + 1, by have := HKG.out; omega, by go_num, fun j hj => ?_, HJ1.out, HB1.out⟩
          by_cases hjk : j < k
          · exact HP.out j hjk
          · obtain rfl : j = k := by omega
            exact HPK.out
      · have HPK := Lib.hid hpk
        clear hpk
        go_wp2_with fail
        refine (HG.out k hlt _ HJK.out HB.out).mono ?_
        rintro e w1 ⟨rfl, hj1, hb1⟩
        rw [HPK.out]
        have HB1 := Lib.hid (grown_trans HB.out hb1)
        clear hj1 hb1
        go_wp2_with fail
        go_ret
        exact ⟨ret_int (firstI_hit p l.length k hlt (fun j h => HP.out j h) HPK.out).symm, HB1.out⟩
    · obtain rfl : k = l.length := by omega
      go_wp2_with fail
      go_ret
      exact ⟨ret_int (firstI_miss p l.length (fun j h => HP.out j h)).symm, HB.out⟩
theorem containsInt_any (A : Option Addr) (c : Nat) (l : List Int) (g : Nat) (lb : Array Value) (p : Nat → Bool) (J : Nat → World → Prop) (row : Option Nat) (B : Nat) (w : World) (hl : l.length ≤ 1073741824) (hB : B ≤ w.heap.size)
    (hs : SlOf intC 1 w B A l) (hrow : ∀ r, row = some r → B ≤ r)
    (eg : ∀ (args : Array Value) (w : World), (callFunc g args).run Try.prog w = .ok (.enter g args) w)
    (hJ : ∀ k W W', J k W → Ext W W' → J k W')
    (hg : ∀ (k : Nat) (hk : k < l.length) (W : World), J k W → w.grownBy W row → Calls Try.prog g (#[intV l[k]] ++ lb) W fun e W' => e = .returned (.bool (p k)) ∧ J (k + 1) W' ∧ W.grownBy W' row) (h0 : J 0 w) :
    Calls Try.prog 95 #[.slice A l.length c, .func (.func g) #[] lb] w fun e w' => e = .returned (.bool ((List.range l.length).any p)) ∧ w.grownBy w' row := by
  have HG := Lib.hid hg
  have H0 := Lib.hid h0
  have HJ := Lib.hid hJ
  have HROW := Lib.hid hrow
  have H := Lib.hid (firstI_any p l.length)
  clear hg h0 hJ hrow
  go_enter Try.func95, Try.ntmps95
  go_wp2_with fail
  refine (indexInt_any A c l g lb p J row B _ hl hB hs HROW.out eg HJ.out HG.out H0.out).mono ?_
  rintro e w1 ⟨rfl, hb⟩
  go_wp2_with fail
  go_ret
  exact ⟨ret_bool H.out, hb⟩
theorem allInt_any (A : Option Addr) (c : Nat) (l : List Int) (g : Nat) (lb : Array Value) (q : Nat → Bool) (J : Nat → World → Prop) (row : Option Nat) (B : Nat) (w : World) (hl : l.length ≤ 1073741824) (hB : B ≤ w.heap.size)
    (hs : SlOf intC 1 w B A l) (hrow : ∀ r, row = some r → B ≤ r ∧ r < w.heap.size)
    (eg : ∀ (args : Array Value) (w : World), (callFunc g args).run Try.prog w = .ok (.enter g args) w)
    (hJ : ∀ k W W', J k W → Ext W W' → J k W')
    (hg : ∀ (k : Nat) (hk : k < l.length) (W : World), J k W → w.grownBy W row → Calls Try.prog g (#[intV l[k]] ++ lb) W fun e W' => e = .returned (.bool (q k)) ∧ J (k + 1) W' ∧ W.grownBy W' row) (h0 : J 0 w) :
    Calls Try.prog 67 #[.slice A l.length c, .func (.func g) #[] lb] w fun e w' => e = .returned (.bool ((List.range l.length).all q)) ∧ w.grownBy w' row := by
  have HG := Lib.hid hg
  have H0 := Lib.hid h0
  have HJ := Lib.hid hJ
  have HROW := Lib.hid hrow
  have HS := Lib.hid hs
  have eg2 := enters_of (P := Try.prog) Try.func96 (by kernel_rfl) rfl
  have H := Lib.hid (show (!(List.range l.length).any fun k => !q k) = (List.range l.length).all q by rw [List.all_eq_not_any_not])
  clear hg h0 hJ hrow hs
  go_enter Try.func67, Try.ntmps67
  go_wp2_with fail
  obtain ⟨w2, hw2⟩ : ∃ w2, w.alloc (.cells #[.func (.func g) #[] lb] 102) = w2 := ⟨_, rfl⟩
  rw [hw2]
  have hb2 : Ext w w2 := by rw [← hw2]; (repeat (first | (with_reducible exact Ext.refl _) | (with_reducible assumption) | (with_reducible refine Ext.alloc ?_ _) | (with_reducible refine Ext.trans ?_ (by with_reducible assumption)) | (with_reducible refine Ext.drew ?_) | (with_reducible refine Ext.setCell ?_ (by simp <;> omega) _)))
  have hx : w2.cell? ⟨w.heap.size, 0, none⟩ = some (.func (.func g) #[] lb) := by rw [← hw2]; clear hw2; go_simp
  clear hw2
  refine (containsInt_any A c l 96 #[.pointer (some ⟨w.heap.size, 0, none⟩)] (fun k => !q k) (fun k W => J k W ∧ W.cell? ⟨w.heap.size, 0, none⟩ = some (.func (.func g) #[] lb)) row B _ hl (Nat.le_trans hB hb2.size) (HS.out.below hb2 (by omega)) (fun r e => (HROW.out r e).1) eg2
    (fun k W W' h he => ⟨HJ.out k W W' h.1 he, by
      have hlt := World.block_lt_of_cell? W _ h.2
      exact ((bcell he).1 _ 0 hlt).trans h.2⟩) ?_ ⟨HJ.out 0 _ _ H0.out hb2, hx⟩).mono ?_
  · rintro k hk W ⟨hj, hcx⟩ hgw
    have HJK := Lib.hid hj
    have HGW := Lib.hid (grown_trans (ext_grownR hb2 row) hgw)
    have hlt := World.block_lt_of_cell? W _ hcx
    clear hj hgw hx hb2
    generalize hX : l[k] = x at *
    have HX := Lib.hid hX
    clear hX
    have hcz : W.heap.size ≠ w.heap.size := by simp only at hlt; omega
    go_enter Try.func96, Try.ntmps96
    go_wp2_with fail
    have hE : Ext W _ := Ext.refl W
    have hG := HG.out k hk _ (HJ.out k _ _ HJK.out hE) (grown_trans HGW.out (ext_grownR hE row))
    rw [HX.out] at hG
    refine hG.mono ?_
    rintro e w3 ⟨rfl, hj3, hg3⟩
    have hcx3 : w3.cell? ⟨w.heap.size, 0, none⟩ = some (.func (.func g) #[] lb) := hg3.cell (((bcell hE).1 _ 0 hlt).trans hcx) (fun e => Nat.lt_irrefl w.heap.size (HROW.out _ e.symm).2)
    have HJ3 := Lib.hid hj3
    have HG3 := Lib.hid (grown_trans (ext_grownR hE row) hg3)
    clear hj3 hg3 hG hE
    go_wp2_with fail
    go_ret
    exact ⟨rfl, ⟨HJ3.out, hcx3⟩, HG3.out⟩
  · rintro e w3 ⟨rfl, hg3⟩
    go_wp2_with fail
    go_ret
    exact ⟨ret_bool H.out, grown_trans (ext_grownR hb2 row) hg3⟩
end Go.Proofs.Ytchinfamepolkaa
