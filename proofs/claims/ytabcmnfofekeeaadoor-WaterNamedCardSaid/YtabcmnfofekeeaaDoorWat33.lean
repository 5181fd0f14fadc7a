import Derived.Test.YtabcmnfofekeeaaDoorWat27
import Derived.Test.YtabcmnfofekeeaaDoorWat28
namespace Go.Proofs.YtabcmnfofekeeaaDoor
open Go Go.Proofs Go.RowKit Go.Shelf
set_option maxHeartbeats 1000000
set_option maxRecDepth 20000
/-! ### contracts that speak of errors and answers alike -/
theorem valid_v (As Am : Option Addr) (cs cm : Nat) (W : Water) (w : World) (hin : WaterIn w As Am W) {v : Bool} (hv : (!farB W && validB W) = v) :
    Calls Tryd.prog 12 #[wvW As Am cs cm W] w fun e w' => e = .returned (.bool v) ∧ Ext w w' := hv ▸ valid_any As Am cs cm W w hin
def truthsL (W : Water) : List Nat := if openE W true = 0 then truthsW W else []
def cleanA (W : Water) : Int := if openE W true = 0 then (pureN W : Int) else 0
def cleanB (W : Water) : Int := if openE W true = 0 then (mayN W : Int) else 0
def pureE (W : Water) (mix : Int) : Int := openE W (withinB mix 1 (2 ^ W.springs.length - 1))
def pureA (W : Water) (mix : Int) : Bool := if pureE W mix = 0 then ((cleanN (truthsW W) mix.toNat : Int) == ((truthsW W).length : Int)) else false
def pureB (W : Water) (mix : Int) : Bool := if pureE W mix = 0 then decide (0 < cleanN (truthsW W) mix.toNat) else false
theorem truths_u (As Am : Option Addr) (cs cm : Nat) (W : Water) (w : World) (hin : WaterIn w As Am W) :
    Calls Tryd.prog 14 #[wvW As Am cs cm W] w fun e w' => ∃ A c, e = .returned (.tuple #[.slice A (truthsL W).length c, .int .i64 (openE W true)]) ∧ SlOf natI 1 w' w'.heap.size A (truthsL W) ∧ Ext w w' := by
  by_cases hE : openE W true = 0
  · rw [truthsL, if_pos hE, hE]
    exact truths_ok _ _ _ _ W w hin hE
  · rw [truthsL, if_neg hE]
    exact (truths_err _ _ _ _ W w hin hE).mono fun e w' ⟨h1, h2⟩ => ⟨none, 0, h1, SlOf.nil _ _ _ _ _, h2⟩
theorem refT_u (As Am : Option Addr) (cs cm : Nat) (W : Water) (w : World) (hin : WaterIn w As Am W) (hn : W.springs.length ≤ 30) (hm : W.samples.length ≤ 1000000) :
    Calls Tryd.prog 29 #[wvW As Am cs cm W] w fun e w' => ∃ A c, e = .returned (.tuple #[.slice A (truthsL W).length c, .int .i64 (openE W true)]) ∧ SlOf natI 1 w' w'.heap.size A (truthsL W) ∧ Ext w w' := by
  by_cases hE : openE W true = 0
  · rw [truthsL, if_pos hE, hE]
    exact refT_ok _ _ _ _ W w hin hm hE
  · rw [truthsL, if_neg hE]
    exact (refT_err _ _ _ _ W w hin hn hm hE).mono fun e w' ⟨h1, h2⟩ => ⟨none, 0, h1, SlOf.nil _ _ _ _ _, h2⟩
theorem clean_u (As Am : Option Addr) (cs cm : Nat) (W : Water) (w : World) (hin : WaterIn w As Am W) :
    Calls Tryd.prog 18 #[wvW As Am cs cm W] w fun e w' => e = .returned (.tuple #[.int .i64 (cleanA W), .int .i64 (cleanB W), .int .i64 (openE W true)]) ∧ Ext w w' := by
  by_cases hE : openE W true = 0
  · rw [cleanA, cleanB, if_pos hE, if_pos hE, hE]
    exact clean_ok _ _ _ _ W w hin hE
  · rw [cleanA, cleanB, if_neg hE, if_neg hE]
    exact clean_err _ _ _ _ W w hin hE
theorem refClean_u (As Am : Option Addr) (cs cm : Nat) (W : Water) (w : World) (hin : WaterIn w As Am W) (hn : W.springs.length ≤ 30) (hm : W.samples.length ≤ 1000000) :
    Calls Tryd.prog 31 #[wvW As Am cs cm W] w fun e w' => e = .returned (.tuple #[.int .i64 (cleanA W), .int .i64 (cleanB W), .int .i64 (openE W true)]) ∧ Ext w w' := by
  by_cases hE : openE W true = 0
  · rw [cleanA, cleanB, if_pos hE, if_pos hE, hE]
    exact refClean_ok _ _ _ _ W w hin hm hE
  · rw [cleanA, cleanB, if_neg hE, if_neg hE]
    exact refClean_err _ _ _ _ W w hin hn hm hE
theorem pureE_zero {W : Water} {mix : Int} (h : pureE W mix = 0) : openE W true = 0 ∧ 1 ≤ mix.toNat ∧ mix.toNat ≤ 2 ^ W.springs.length - 1 ∧ mix = (mix.toNat : Int) := by
  unfold pureE at h
  cases hw : withinB mix 1 (2 ^ W.springs.length - 1)
  · rw [hw] at h
    exfalso
    unfold openE at h
    split at h
    · cases h
    · simp at h
  · rw [hw] at h
    have := withinB_true hw
    have e : ((2 ^ W.springs.length : Nat) : Int) = 2 ^ W.springs.length := by simp
    exact ⟨h, by omega, by omega, by omega⟩
theorem pureFn_u (As Am : Option Addr) (cs cm : Nat) (W : Water) (mix : Int) (w : World) (hin : WaterIn w As Am W) :
    Calls Tryd.prog 26 #[wvW As Am cs cm W, .int .i64 mix] w fun e w' => e = .returned (.tuple #[.bool (pureA W mix), .bool (pureB W mix), .int .i64 (pureE W mix)]) ∧ Ext w w' := by
  by_cases hE : pureE W mix = 0
  · obtain ⟨h0, h1, h2, h3⟩ := pureE_zero hE
    rw [pureA, pureB, if_pos hE, if_pos hE, hE]
    have := pureFn_ok As Am cs cm W mix.toNat w hin h0 h1 h2
    rwa [← h3] at this
  · rw [pureA, pureB, if_neg hE, if_neg hE]
    exact pureFn_err _ _ _ _ W mix w hin hE
theorem refPure_u (As Am : Option Addr) (cs cm : Nat) (W : Water) (mix : Int) (w : World) (hin : WaterIn w As Am W) (hn : W.springs.length ≤ 30) (hm : W.samples.length ≤ 1000000) :
    Calls Tryd.prog 32 #[wvW As Am cs cm W, .int .i64 mix] w fun e w' => e = .returned (.tuple #[.bool (pureA W mix), .bool (pureB W mix), .int .i64 (pureE W mix)]) ∧ Ext w w' := by
  by_cases hE : pureE W mix = 0
  · obtain ⟨h0, h1, h2, h3⟩ := pureE_zero hE
    rw [pureA, pureB, if_pos hE, if_pos hE, hE]
    have := refPure_ok As Am cs cm W mix.toNat w hin hm h0 h1 h2
    rwa [← h3] at this
  · rw [pureA, pureB, if_neg hE, if_neg hE]
    exact refPure_err _ _ _ _ W mix w hin hn hm hE
end Go.Proofs.YtabcmnfofekeeaaDoor
