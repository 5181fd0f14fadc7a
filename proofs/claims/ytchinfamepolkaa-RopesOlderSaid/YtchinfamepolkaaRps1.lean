/- Ropes: Damage and Fit, as they read. -/
import Derived.Test.YtchinfamepolkaaRps0
import Derived.Test.YtchinfamepolkaaKq
namespace Go.Proofs.Ytchinfamepolkaa
set_option linter.unusedSimpArgs false
set_option linter.unusedVariables false
set_option linter.unusedSectionVars false
open Go Go.Proofs Go.RowKit
set_option maxHeartbeats 4000000
set_option maxRecDepth 20000

def dam0 (M : Model) (R : Rope) (day : Int) (x : Int) : Int := if dayE M R day = 0 then x else 0
theorem damage_a (M : Model) (R : Rope) (day : Int) (hl : M.wears.length ≤ 1000000) (hl2 : R.falls.length ≤ 1000000) : PC Try.prog 14 [.agg (modelA M), .agg (ropeR R), .int day] (.tup [.agg [.int (dam0 M R day (damLo M R day)), .int (dam0 M R day (damHi M R day))], .int (dayE M R day)]) := by
  refine ⟨enters_of Try.func14 (by kernel_rfl) rfl, fun w S vs hn h => ?_⟩
  obtain ⟨xs, rfl, hn, hx⟩ := args_list hn h
  match xs, hn with
  | [a, b, c], _ =>
    obtain ⟨A, c', h0, h0'⟩ := enc_model (hx 0 _ rfl)
    obtain ⟨A2, c2, h1, h1'⟩ := enc_rope (hx 1 _ rfl)
    have h2 := (hx 2 _ rfl).val_eq
    simp only [List.getD_cons_zero, List.getD_cons_succ] at h0 h1 h2
    subst h0 h1 h2
    refine (damageFn_any A A2 c' c2 M R day w hl hl2 h0' h1').mono ?_
    rintro e w' ⟨rfl, hw⟩
    refine ⟨hw, _, rfl, ?_⟩
    unfold damT dam0
    by_cases hd : dayE M R day = 0
    · simp only [hd, if_true]
      exact .tup _ _ rfl fun i d hi => by
        match i, hi with
        | 0, hi => injection hi with hi; subst hi; exact .agg _ _ rfl fun i d hi => (by match i, hi with
            | 0, hi => injection hi with hi; subst hi; exact .val _
            | 1, hi => injection hi with hi; subst hi; exact .val _
            | n + 2, hi => simp at hi)
        | 1, hi => injection hi with hi; subst hi; exact .val _
        | n + 2, hi => simp at hi
    · simp only [hd, if_false]
      exact .tup _ _ rfl fun i d hi => by
        match i, hi with
        | 0, hi => injection hi with hi; subst hi; exact .agg _ _ rfl fun i d hi => (by match i, hi with
            | 0, hi => injection hi with hi; subst hi; exact .val _
            | 1, hi => injection hi with hi; subst hi; exact .val _
            | n + 2, hi => simp at hi)
        | 1, hi => injection hi with hi; subst hi; exact .val _
        | n + 2, hi => simp at hi
def fit0 (M : Model) (R : Rope) (day : Int) (x : Bool) : Bool := decide (dayE M R day = 0) && x
theorem fit_a (M : Model) (R : Rope) (day : Int) (hl : M.wears.length ≤ 1000000) (hl2 : R.falls.length ≤ 1000000) : PC Try.prog 15 [.agg (modelA M), .agg (ropeR R), .int day] (.tup [.bool (fit0 M R day (fitV M R day (damHi M R day))), .bool (fit0 M R day (fitV M R day (damLo M R day))), .int (dayE M R day)]) := by
  refine ⟨enters_of Try.func15 (by kernel_rfl) rfl, fun w S vs hn h => ?_⟩
  obtain ⟨xs, rfl, hn, hx⟩ := args_list hn h
  match xs, hn with
  | [a, b, c], _ =>
    obtain ⟨A, c', h0, h0'⟩ := enc_model (hx 0 _ rfl)
    obtain ⟨A2, c2, h1, h1'⟩ := enc_rope (hx 1 _ rfl)
    have h2 := (hx 2 _ rfl).val_eq
    simp only [List.getD_cons_zero, List.getD_cons_succ] at h0 h1 h2
    subst h0 h1 h2
    refine (fitFn_any A A2 c' c2 M R day w hl hl2 h0' h1').mono ?_
    rintro e w' ⟨rfl, hw⟩
    refine ⟨hw, _, rfl, ?_⟩
    unfold fitT fit0
    by_cases hd : dayE M R day = 0
    all_goals
      simp only [hd, if_true, if_false, decide_true, decide_false, Bool.true_and, Bool.false_and]
      exact .tup _ _ rfl fun i d hi => by
        match i, hi with
        | 0, hi => injection hi with hi; subst hi; exact .val _
        | 1, hi => injection hi with hi; subst hi; exact .val _
        | 2, hi => injection hi with hi; subst hi; exact .val _
        | n + 3, hi => simp at hi
end Go.Proofs.Ytchinfamepolkaa
