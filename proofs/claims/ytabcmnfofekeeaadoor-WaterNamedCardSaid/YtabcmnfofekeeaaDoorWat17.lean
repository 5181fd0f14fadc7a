import Derived.Test.YtabcmnfofekeeaaDoorWat15
import Derived.Test.YtabcmnfofekeeaaDoorWat16
namespace Go.Proofs.YtabcmnfofekeeaaDoor
open Go Go.Proofs Go.RowKit Go.Shelf
set_option maxHeartbeats 1000000
set_option maxRecDepth 20000

/-- The elements of a set that are not in another one. -/
def diffN (a b : Nat) : Nat := a ^^^ (a &&& b)
theorem diffN_bit (a b i : Nat) : (diffN a b).testBit i = (a.testBit i && !b.testBit i) := by
  unfold diffN
  rw [Nat.testBit_xor, Nat.testBit_and]
  cases a.testBit i <;> cases b.testBit i <;> rfl
theorem diffN_lt {a b : Nat} (ha : a < 256) : diffN a b < 256 := by
  unfold diffN
  exact Nat.xor_lt_two_pow (n := 8) ha (Nat.lt_of_le_of_lt Nat.and_le_left ha)
theorem andNot_is (a b : Nat) (ha : a < 256) (hb : b < 2 ^ 64) : bits .andNot .u64 (a : Int) (b : Int) = ((diffN a b : Nat) : Int) := by
  rw [u64_andNot_nat a b (by omega) (by omega)]
  congr 1
  apply Nat.eq_of_testBit_eq
  intro i
  rw [diffN_bit, Nat.testBit_and]
  rcases Nat.lt_or_ge i 64 with hi | hi
  · have : (18446744073709551615 - b).testBit i = !b.testBit i := by
      have := Nat.testBit_two_pow_sub_succ (n := 64) (x := b) hb i
      rw [show 18446744073709551615 - b = 2 ^ 64 - (b + 1) by omega, this]
      simp [hi]
    rw [this]
  · have : a.testBit i = false := Nat.testBit_lt_two_pow (Nat.lt_of_lt_of_le ha (by have : (2 : Nat) ^ 8 ≤ 2 ^ i := Nat.pow_le_pow_right (by omega) (by omega); omega))
    rw [this]; rfl

def fullN (W : Water) : Nat := 2 ^ W.springs.length - 1
def pureN (W : Water) : Nat := diffN (fullN W) (someTo (truthsW W))
def mayN (W : Water) : Nat := diffN (fullN W) (allTo (truthsW W))
theorem fullN_lt {W : Water} (h : W.springs.length ≤ 8) : fullN W < 256 := by have := pow_le8 h; unfold fullN; have : 0 < (2 : Nat) ^ W.springs.length := Nat.pow_pos (by omega); omega
theorem pureN_lt {W : Water} (h : W.springs.length ≤ 8) : pureN W < 256 := diffN_lt (fullN_lt h)
theorem mayN_lt {W : Water} (h : W.springs.length ≤ 8) : mayN W < 256 := diffN_lt (fullN_lt h)
theorem valid_spr {W : Water} (h : validB W = true) : SprOk W.springs := by
  intro s hs
  unfold validB at h
  simp only [Bool.and_eq_true, Bool.not_eq_true', List.any_eq_false] at h
  have h2 := h.1.1.1.1.1.2 s hs
  simp only [sprOk, Bool.not_eq_false, Bool.and_eq_true, decide_eq_true_eq] at h2
  have h3 := withinB_true h2.2
  omega

/-! ### the closures -/
theorem serve1_any (need : Int) (b : Nat) (As Am : Option Addr) (n cs m cm : Nat) (most misses alarms : Int) (w : World) (hb : b < w.heap.size) (hc : w.cell? ⟨b, 0, none⟩ = some (.int .i64 need)) :
    Calls Tryd.prog 45 #[wv As Am n cs m cm most misses alarms, .pointer (some ⟨b, 0, none⟩)] w fun e w' => e = .returned (.bool (withinB need 0 10000)) ∧ Ext w w' := by
  go_enter Tryd.func45, Tryd.ntmps45
  go_wp2_with (go_at_call 46; refine (between_any _ _ _ _).mono ?_; rintro e w1 ⟨rfl, rfl⟩)
  go_ret
  exact ⟨rfl, by (repeat (first | (with_reducible exact Ext.refl _) | (with_reducible assumption) | (with_reducible refine Ext.alloc ?_ _) | (with_reducible refine Ext.trans ?_ (by with_reducible assumption)) | (with_reducible refine Ext.drew ?_) | (with_reducible refine Ext.setCell ?_ (by simp <;> omega) _)))⟩
theorem pure1_any (mix : Int) (b : Nat) (As Am : Option Addr) (n cs m cm : Nat) (most misses alarms : Int) (w : World) (hn1 : 1 ≤ n) (hn : n ≤ 8) (hb : b < w.heap.size) (hc : w.cell? ⟨b, 0, none⟩ = some (.int .i64 mix)) :
    Calls Tryd.prog 54 #[wv As Am n cs m cm most misses alarms, .pointer (some ⟨b, 0, none⟩)] w fun e w' => e = .returned (.bool (withinB mix 1 (2 ^ n - 1))) ∧ Ext w w' := by
  go_enter Tryd.func54, Tryd.ntmps54
  go_wp2_with (go_at_call 55; refine (fmix_any _ _ _ _ _ _ _ _ _ _ _ hn1 hn).mono ?_; rintro e w1 ⟨rfl, hb1⟩)
  go_ret
  exact ⟨rfl, by (repeat (first | (with_reducible exact Ext.refl _) | (with_reducible assumption) | (with_reducible refine Ext.alloc ?_ _) | (with_reducible refine Ext.trans ?_ (by with_reducible assumption)) | (with_reducible refine Ext.drew ?_) | (with_reducible refine Ext.setCell ?_ (by simp <;> omega) _)))⟩

/-! ### Clean -/
theorem clean_err (As Am : Option Addr) (cs cm : Nat) (W : Water) (w : World) (hin : WaterIn w As Am W) (hE : openE W true ≠ 0) :
    Calls Tryd.prog 18 #[wvW As Am cs cm W] w fun e w' => e = .returned (.tuple #[.int .i64 0, .int .i64 0, .int .i64 (openE W true)]) ∧ Ext w w' := by
  have hE2 : (openE W true != 0) = true := by simpa using hE
  go_enter Tryd.func18, Tryd.ntmps18
  go_wp2_with fail
  refine (open_err_nil _ _ _ _ W _ (hin.ext (by (repeat (first | (with_reducible exact Ext.refl _) | (with_reducible assumption) | (with_reducible refine Ext.alloc ?_ _) | (with_reducible refine Ext.trans ?_ (by with_reducible assumption)) | (with_reducible refine Ext.drew ?_) | (with_reducible refine Ext.setCell ?_ (by simp <;> omega) _))))) hE).mono ?_
  rintro e w1 ⟨fv, rfl, ⟨As', Am', n', cs', m', cm', a', b', c', rfl⟩, hb1⟩
  go_wp2_with fail
  go_ret3
  exact ⟨rfl, by (repeat (first | (with_reducible exact Ext.refl _) | (with_reducible assumption) | (with_reducible refine Ext.alloc ?_ _) | (with_reducible refine Ext.trans ?_ (by with_reducible assumption)) | (with_reducible refine Ext.drew ?_) | (with_reducible refine Ext.setCell ?_ (by simp <;> omega) _)))⟩
theorem clean_ok (As Am : Option Addr) (cs cm : Nat) (W : Water) (w : World) (hin : WaterIn w As Am W) (hE : openE W true = 0) :
    Calls Tryd.prog 18 #[wvW As Am cs cm W] w fun e w' => e = .returned (.tuple #[.int .i64 (pureN W), .int .i64 (mayN W), .int .i64 0]) ∧ Ext w w' := by
  obtain ⟨hv, _, hne⟩ := open_zero hE
  have hlen := truthsW_len hv
  have hn := valid_len hv
  have hp := pureN_lt hn.2
  have hm := mayN_lt hn.2
  have HE := Lib.hid hE
  have HM := Lib.hid (fun t ht => truthsW_mem hv (t := t) ht)
  have hso := someTo_lt (truthsW W) HM.out
  have A1 := andNot_is (fullN W) (someTo (truthsW W)) (fullN_lt hn.2) (by omega)
  have A2 := andNot_is (fullN W) (allTo (truthsW W)) (fullN_lt hn.2) (allTo_lt _)
  have a1 : bits .andNot .u64 ((2 ^ W.springs.length - 1 : Nat) : Int) (someTo (truthsW W) : Int) = (pureN W : Int) := A1
  have a2 : bits .andNot .u64 ((2 ^ W.springs.length - 1 : Nat) : Int) (allTo (truthsW W) : Int) = (mayN W : Int) := A2
  have hp0 : (0 : Int) ≤ (pureN W : Int) := by omega
  have hp1 : (pureN W : Int) < 256 := by omega
  have hm0 : (0 : Int) ≤ (mayN W : Int) := by omega
  have hm1 : (mayN W : Int) < 256 := by omega
  clear hE hv hne A1 A2 hp hm
  go_enter Tryd.func18, Tryd.ntmps18
  go_wp2_with fail
  refine (open_ok_nil _ _ _ _ W _ (hin.ext (by (repeat (first | (with_reducible exact Ext.refl _) | (with_reducible assumption) | (with_reducible refine Ext.alloc ?_ _) | (with_reducible refine Ext.trans ?_ (by with_reducible assumption)) | (with_reducible refine Ext.drew ?_) | (with_reducible refine Ext.setCell ?_ (by simp <;> omega) _))))) HE.out).mono ?_
  rintro e w1 ⟨A, c, rfl, h1, hb1⟩
  have hs := sl_nats h1
  clear h1
  go_wp2_with fail
  refine (fouls_any _ _ (truthsW W) _ (by omega) HM.out ((hs.below (B' := w1.heap.size) (by (repeat (first | (with_reducible exact Ext.refl _) | (with_reducible assumption) | (with_reducible refine Ext.alloc ?_ _) | (with_reducible refine Ext.trans ?_ (by with_reducible assumption)) | (with_reducible refine Ext.drew ?_) | (with_reducible refine Ext.setCell ?_ (by simp <;> omega) _)))) (Nat.le_refl _)).more (by simp))).mono ?_
  rintro e w2 ⟨rfl, rfl⟩
  go_wp2_with fail
  (refine wp_region_ext (by kernel_rfl) (by kernel_rfl) (fun hX => ?_); (repeat (go_big_quiet_step ((go_at_call 44; exact quiet_ext (springs_any _ _ _ _ _ _ _ _ _ _ hn.2))))); refine wpQuiet_nil ?_; rintro w1 ⟨⟨_, hb1⟩, rfl⟩; (try dsimp only))
  go_wp2_with fail
  go_ret3
  exact ⟨rfl, by (repeat (first | (with_reducible exact Ext.refl _) | (with_reducible assumption) | (with_reducible refine Ext.alloc ?_ _) | (with_reducible refine Ext.trans ?_ (by with_reducible assumption)) | (with_reducible refine Ext.drew ?_) | (with_reducible refine Ext.setCell ?_ (by simp <;> omega) _)))⟩
/-! ### Pure -/
theorem pureFn_err (As Am : Option Addr) (cs cm : Nat) (W : Water) (mix : Int) (w : World) (hin : WaterIn w As Am W) (hE : openE W (withinB mix 1 (2 ^ W.springs.length - 1)) ≠ 0) :
    Calls Tryd.prog 26 #[wvW As Am cs cm W, .int .i64 mix] w fun e w' => e = .returned (.tuple #[.bool false, .bool false, .int .i64 (openE W (withinB mix 1 (2 ^ W.springs.length - 1)))]) ∧ Ext w w' := by
  have hE2 : (openE W (withinB mix 1 (2 ^ W.springs.length - 1)) != 0) = true := by simpa using hE
  have eg := enters_of Tryd.func54 (by kernel_rfl) rfl
  go_enter Tryd.func26, Tryd.ntmps26
  go_wp2_with fail
  refine (open_err_told _ _ _ _ W _ (hin.ext (by (repeat (first | (with_reducible exact Ext.refl _) | (with_reducible assumption) | (with_reducible refine Ext.alloc ?_ _) | (with_reducible refine Ext.trans ?_ (by with_reducible assumption)) | (with_reducible refine Ext.drew ?_) | (with_reducible refine Ext.setCell ?_ (by simp <;> omega) _))))) (tb := withinB mix 1 (2 ^ W.springs.length - 1)) _ _ eg ?_ hE).mono ?_
  · intro hv w' hb
    have hn := valid_len hv
    obtain ⟨hc, _⟩ := bcell hb
    have hsz : w.heap.size + 1 < w'.heap.size := by have := hb.size; (try simp at this); omega
    exact pure1_any mix _ _ _ _ _ _ _ _ _ _ w' hn.1 hn.2 hsz ((hc _ 0 (by simp)).trans (by go_simp))
  rintro e w1 ⟨fv, rfl, ⟨As', Am', n', cs', m', cm', a', b', c', rfl⟩, hb1⟩
  go_wp2_with fail
  go_ret3
  exact ⟨rfl, by (repeat (first | (with_reducible exact Ext.refl _) | (with_reducible assumption) | (with_reducible refine Ext.alloc ?_ _) | (with_reducible refine Ext.trans ?_ (by with_reducible assumption)) | (with_reducible refine Ext.drew ?_) | (with_reducible refine Ext.setCell ?_ (by simp <;> omega) _)))⟩
theorem pureFn_ok (As Am : Option Addr) (cs cm : Nat) (W : Water) (m : Nat) (w : World) (hin : WaterIn w As Am W) (hE : openE W true = 0) (hm1 : 1 ≤ m) (hm2 : m ≤ 2 ^ W.springs.length - 1) :
    Calls Tryd.prog 26 #[wvW As Am cs cm W, .int .i64 (m : Int)] w fun e w' => e = .returned (.tuple #[.bool ((cleanN (truthsW W) m : Int) == ((truthsW W).length : Int)), .bool (decide (0 < cleanN (truthsW W) m)), .int .i64 0]) ∧ Ext w w' := by
  have eg := enters_of Tryd.func54 (by kernel_rfl) rfl
  obtain ⟨hv, _, hne⟩ := open_zero hE
  have hlen := truthsW_len hv
  have hn := valid_len hv
  have hp := pow_le8 hn.2
  have hm : m < 256 := by omega
  have HE := Lib.hid hE
  have HM := Lib.hid (fun t ht => truthsW_mem hv (t := t) ht)
  have HW := Lib.hid (show withinB (m : Int) 1 (2 ^ W.springs.length - 1) = true by
    simp only [withinB, Bool.and_eq_true, decide_eq_true_eq]
    have : ((2 ^ W.springs.length - 1 : Nat) : Int) = 2 ^ W.springs.length - 1 := by rw [Int.ofNat_sub (Nat.pow_pos (by omega))]; simp
    omega)
  have hle := cleanN_le (truthsW W) m
  clear hE hv hne hp
  go_enter Tryd.func26, Tryd.ntmps26
  go_wp2_with fail
  refine (open_ok_told _ _ _ _ W _ (hin.ext (by (repeat (first | (with_reducible exact Ext.refl _) | (with_reducible assumption) | (with_reducible refine Ext.alloc ?_ _) | (with_reducible refine Ext.trans ?_ (by with_reducible assumption)) | (with_reducible refine Ext.drew ?_) | (with_reducible refine Ext.setCell ?_ (by simp <;> omega) _))))) _ _ eg ?_ (open_zero HE.out).1 (open_zero HE.out).2.2).mono ?_
  · intro w' hb
    obtain ⟨hc, _⟩ := bcell hb
    have hsz : w.heap.size + 1 < w'.heap.size := by have := hb.size; (try simp at this); omega
    have := pure1_any (m : Int) (w.heap.size + 1) As Am W.springs.length cs W.samples.length cm W.most W.misses W.alarms w' hn.1 hn.2 hsz ((hc _ 0 (by simp)).trans (by go_simp))
    rw [HW.out] at this
    exact this
  rintro e w1 ⟨A, c, rfl, h1, hb1⟩
  have hs := sl_nats h1
  obtain ⟨hc1, hf1⟩ := bcell hb1
  have c3 := (hc1 (w.heap.size + 1) 0 (by simp)).trans (show _ = some (.int .i64 (m : Int)) by go_simp)
  have hsz : w.heap.size + 1 < w1.heap.size := by have := hb1.size; (try simp at this); omega
  clear h1 hc1 hf1
  go_wp2_with fail
  refine (clean_any _ _ (truthsW W) m _ (by omega) HM.out hm ((hs.below (B' := w1.heap.size) (by (repeat (first | (with_reducible exact Ext.refl _) | (with_reducible assumption) | (with_reducible refine Ext.alloc ?_ _) | (with_reducible refine Ext.trans ?_ (by with_reducible assumption)) | (with_reducible refine Ext.drew ?_) | (with_reducible refine Ext.setCell ?_ (by simp <;> omega) _)))) (Nat.le_refl _)).more (by simp))).mono ?_
  rintro e w2 ⟨rfl, rfl⟩
  go_wp2_with fail
  go_ret3
  exact ⟨rfl, by (repeat (first | (with_reducible exact Ext.refl _) | (with_reducible assumption) | (with_reducible refine Ext.alloc ?_ _) | (with_reducible refine Ext.trans ?_ (by with_reducible assumption)) | (with_reducible refine Ext.drew ?_) | (with_reducible refine Ext.setCell ?_ (by simp <;> omega) _)))⟩
end Go.Proofs.YtabcmnfofekeeaaDoor
