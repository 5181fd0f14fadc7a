/- Ropes: Until; FarRope. -/
import Derived.Test.YtchinfamepolkaaRps22
namespace Go.Proofs.Ytchinfamepolkaa
set_option linter.unusedSimpArgs false
set_option linter.unusedVariables false
set_option linter.unusedSectionVars false
open Go Go.Proofs Go.RowKit
set_option maxHeartbeats 4000000
set_option maxRecDepth 20000

theorem mdamage_a (M : Model) (R : Rope) (day : Int) (hm : isModelB M = true) (hr : isRopeB R = true) : PC Try.prog 48 [.agg (modelA M), .agg (ropeR R), .int day] (.agg [.int (damLo M R day), .int (damHi M R day)]) := by
  refine ⟨enters_of Try.func48 (by kernel_rfl) rfl, fun w S vs hn h => ?_⟩
  obtain ⟨xs, rfl, hn, hx⟩ := args_list hn h
  match xs, hn with
  | [a, b, c], _ =>
    obtain ⟨A, c', h0, h0'⟩ := enc_model (hx 0 _ rfl)
    obtain ⟨A2, c2, h1, h1'⟩ := enc_rope (hx 1 _ rfl)
    have h2 := (hx 2 _ rfl).val_eq
    simp only [List.getD_cons_zero, List.getD_cons_succ] at h0 h1 h2
    subst h0 h1 h2
    refine (damage_any A A2 c' c2 M R day w hm hr h0' h1').mono ?_
    rintro e w' ⟨rfl, hw⟩
    exact ⟨hw, _, rfl, .agg _ _ rfl fun i d hi => (by match i, hi with
            | 0, hi => injection hi with hi; subst hi; exact .val _
            | 1, hi => injection hi with hi; subst hi; exact .val _
            | n + 2, hi => simp at hi)⟩
theorem mfit_a (M : Model) (R : Rope) (day dmg : Int) (hm : isModelB M = true) (hr : isRopeB R = true) : PC Try.prog 49 [.agg (modelA M), .agg (ropeR R), .int day, .int dmg] (.bool (fitV M R day dmg)) := by
  refine ⟨enters_of Try.func49 (by kernel_rfl) rfl, fun w S vs hn h => ?_⟩
  obtain ⟨xs, rfl, hn, hx⟩ := args_list hn h
  match xs, hn with
  | [a, b, c, d], _ =>
    obtain ⟨A, c', h0, h0'⟩ := enc_model (hx 0 _ rfl)
    obtain ⟨A2, c2, h1, h1'⟩ := enc_rope (hx 1 _ rfl)
    have h2 := (hx 2 _ rfl).val_eq
    have h3 := (hx 3 _ rfl).val_eq
    simp only [List.getD_cons_zero, List.getD_cons_succ] at h0 h1 h2 h3
    subst h0 h1 h2 h3
    refine (fit_any A A2 c' c2 M R day dmg w hm hr).mono ?_
    rintro e w' ⟨rfl, hw⟩
    exact ⟨hw, _, rfl, .val _⟩
theorem mends_a (M : Model) (R : Rope) (first : Int) (hm : isModelB M = true) (hr : isRopeB R = true) (h1 : -1 ≤ first) (h2 : first ≤ 99999) : PC Try.prog 80 [.agg (modelA M), .agg (ropeR R), .int first] (.int (endsV M R first)) := by
  refine ⟨enters_of Try.func80 (by kernel_rfl) rfl, fun w S vs hn h => ?_⟩
  obtain ⟨xs, rfl, hn, hx⟩ := args_list hn h
  match xs, hn with
  | [a, b, c], _ =>
    obtain ⟨A, c', h0, h0'⟩ := enc_model (hx 0 _ rfl)
    obtain ⟨A2, c2, h1, h1'⟩ := enc_rope (hx 1 _ rfl)
    have h2 := (hx 2 _ rfl).val_eq
    simp only [List.getD_cons_zero, List.getD_cons_succ] at h0 h1 h2
    subst h0 h1 h2
    refine (ends_any A A2 c' c2 M R first w hm hr (by assumption) (by assumption)).mono ?_
    rintro e w' ⟨rfl, hw⟩
    exact ⟨hw, _, rfl, .val _⟩
def openA (M : Model) (R : Rope) : List AV := if ropeE M R = 0 then modelA M else [.int 0, .int 0, .int 0, .val (.slice none 0 0)]
theorem open_a (M : Model) (R : Rope) (hl : M.wears.length ≤ 1000000) (hl2 : R.falls.length ≤ 1000000) : PC Try.prog 79 [.agg (modelA M), .agg (ropeR R)] (.tup [.agg (openA M R), .int (ropeE M R)]) := by
  refine ⟨enters_of Try.func79 (by kernel_rfl) rfl, fun w S vs hn h => ?_⟩
  obtain ⟨xs, rfl, hn, hx⟩ := args_list hn h
  match xs, hn with
  | [a, b], _ =>
    obtain ⟨A, c', h0, h0'⟩ := enc_model (hx 0 _ rfl)
    obtain ⟨A2, c2, h1, h1'⟩ := enc_rope (hx 1 _ rfl)
    have hxa := hx 0 _ rfl
    simp only [List.getD_cons_zero, List.getD_cons_succ] at h0 h1 hxa
    subst h0 h1
    refine (open_any A A2 c' c2 M R w hl hl2 h0' h1').mono ?_
    rintro e w' ⟨rfl, hw⟩
    refine ⟨hw, _, rfl, ?_⟩
    unfold openM openA
    by_cases hd : ropeE M R = 0
    · simp only [hd, if_true]
      exact .tup _ _ rfl fun i d hi => by
        match i, hi with
        | 0, hi => injection hi with hi; subst hi; exact (hxa.ext hw).mono fun b hb hS _ => hS
        | 1, hi => injection hi with hi; subst hi; exact .val _
        | n + 2, hi => simp at hi
    · simp only [hd, if_false]
      exact .tup _ _ rfl fun i d hi => by
        match i, hi with
        | 0, hi => injection hi with hi; subst hi; exact .agg _ _ rfl fun i d hi => (by match i, hi with
            | 0, hi => injection hi with hi; subst hi; exact .val _
            | 1, hi => injection hi with hi; subst hi; exact .val _
            | 2, hi => injection hi with hi; subst hi; exact .val _
            | 3, hi => injection hi with hi; subst hi; exact .val _
            | n + 4, hi => simp at hi)
        | 1, hi => injection hi with hi; subst hi; exact .val _
        | n + 2, hi => simp at hi
theorem until_a (M : Model) (R : Rope) (hl : M.wears.length ≤ 1000000) (hl2 : R.falls.length ≤ 1000000) : PC Try.prog 37 [.agg (modelA M), .agg (ropeR R)] (.tup [.int (until0 M R), .int (ropeE M R)]) := by
  have h1 := open_a M R hl hl2
  unfold openA at h1
  unfold until0
  by_cases hd : ropeE M R = 0
  · obtain ⟨hm, hr⟩ := ropeE_ok hd
    obtain ⟨b1, b2, b3, b4, b5, b6⟩ := rope_first hr
    have h2 := mdamage_a M R (baseV R) hm hr
    have h3 := mfit_a M R (baseV R) (damHi M R (baseV R)) hm hr
    have h4 := mends_a M R R.first hm hr b1 b2
    have hlen : (R.falls.map fun x => (fallC x).map AV.val).length = R.falls.length := by simp
    have HB := Lib.hid (show baseV R = baseTo R R.falls.length from rfl)
    rw [if_pos hd] at h1
    rw [hd] at h1 ⊢
    rw [if_pos rfl]
    unfold untilV
    clear hd hm hr b1 b2 b3 b4 b5 b6
    generalize fitV M R (baseV R) (damHi M R (baseV R)) = fv at *
    generalize endsV M R R.first = ev at *
    generalize damHi M R (baseV R) = dh at *
    generalize damLo M R (baseV R) = dl at *
    generalize baseV R = bv at *
    unfold modelA slA at *
    unfold ropeR slA at *
    generalize (M.wears.map fun x => (wearC x).map AV.val) = rw1 at *
    (refine PC.of' Try.func37 (by kernel_rfl) rfl (by simp only [Try.ntmps37, List.length_cons, List.length_nil, Nat.reduceAdd, Nat.reduceSub, List.replicate_succ, List.replicate_zero, List.cons_append, List.nil_append]; rfl) fun w0 S hM => ?_; have hF : Wf Fence.wide := .inl rfl)
    (repeat' (first | ((first | with_reducible refine AL.id_ ?_ | with_reducible refine AE.id_ ?_); first | refine AL.build0 hF rfl rfl rfl (fun b => ⟨_, (by simp only [AV.put]; rfl), ?_⟩) | refine W.s rfl rfl (by first | exact AY.bx rfl (by simp only [evO, AV.get]; rfl) rfl | exact hEQ rfl rfl rfl | exact Step2.sound (by first | (((first | (apply Step2.a; constructor) | (apply Step2.b; constructor)) <;> first | infer_instance | skip) <;> (first | infer_instance | (refine w64c ?_; omega) | (refine wu64c ?_; omega) | (refine bits64 ?_; omega) | (refine quo64c ?_; omega) | (refine rem64 ?_; omega) | ((repeat (first | exact .head _ | refine .tail _ ?_)); done) | assumption | (simp only [List.drop_succ_cons, List.drop_zero, List.length_map, Nat.zero_add, Nat.mul_one]; rfl) | rfl | omega | (simp; done))) | fail) rfl | exact AY.call rfl rfl _ rfl (by first | exact h1)) (by simp only [AV.put]; rfl) ?_ | (refine AL.nilK (hK _ _ ?_); clear hK K) | (refine AE.nil (hK _ ?_); clear hK K) | refine W.k rfl rfl (by simp only [AV.put]; rfl) ?_ | refine AL.unguardS rfl rfl ?_ | refine AL.al hF rfl rfl rfl (by first | (simp only [Value.cells, List.map_cons, List.map_nil]; rfl) | rfl) (fun b => ⟨_, (by simp only [AV.put]; rfl), ?_⟩) | refine AL.st1 hF rfl rfl rfl rfl (by simp only [evO, AV.get]; rfl) (by first | exact hget0 | exact hget1 | exact hget2 | exact hget3 | exact hget4 | exact hget5 | exact hget6 | exact hget7) (by rfl) rfl (by rfl) (by first | (simp; done) | (simp; omega)) (by simp only [List.set]; rfl) ?_ | refine AL.stW hF rfl rfl rfl rfl (by simp only [evO, AV.get]; rfl) (by first | exact hget0 | exact hget1 | exact hget2 | exact hget3 | exact hget4 | exact hget5 | exact hget6 | exact hget7) (by rfl) (by rfl) (by rfl) (by first | rfl | simp) (by simp only [List.set]; rfl) ?_) | (with_reducible refine Awp.id_ ?_; first | refine Awp.seq ?_ | refine Awp.regionK (by first | (simp only [AV.putO, AV.put]; rfl) | rfl) (fun K hK => ?_) | refine Awp.drawE (by first | (simp only [AV.putO, AV.put]; rfl) | rfl) mixed rfl (by kernel_rfl) (fun K hK => ?_) | refine Awp.block ?_ | refine Awp.skip ?_ | refine Awp.exit ?_ | refine Awp.ret ?_ | refine Awp.condT rfl ?_ | refine Awp.condF rfl ?_) | refine thenA_n ?_ | refine thenA_e ?_ | refine thenA_r ?_ | refine inBlockA_n ?_ | refine inBlockA_r ?_ | refine inBlockA_s ?_ | refine inBlockA_d rfl ?_ | ((first | ((first | with_reducible refine AL.id_ ?_ | with_reducible refine AE.id_ ?_); (fail_if_success refine W.on rfl ?_); refine W.p rfl rfl (by simp only [AV.put]; rfl) (by simp only [AV.put]; rfl) (fun hb => ?_) (fun hb => ?_)) | (with_reducible refine Awp.id_ ?_; refine Awp.cond _ rfl (fun hb => ?_) (fun hb => ?_))) <;> (try simp only [z1, z2, z3, z4, z5, z6, z7, z8, y5, y6, y7, y8, z9, x1, x2, x3, x4, x5, x6, x7, x8] at hb; try (exfalso; omega)))))
    refine Awp.loopM [10, 29, 30, 31, 32, 33, 34, 35, 36] [8, 28] (fun n vs H => ∃ k : Nat, n + k = R.falls.length ∧ vs = [.int (baseTo R k), .int k] ∧ H = [.blk b 92 [.int M.shelf, .int M.use, .int M.bears, .sl 2 rw1]]) R.falls.length ⟨0, rfl, int2 (by unfold baseTo; simp; omega) rfl, rfl⟩ ?_
    rintro n ju vs H ⟨k, hk, rfl, rfl⟩
    (refine Awp.slots (by first | (simp only [putl, mask, AV.put]; rfl) | rfl) ?_)
    by_cases hlt : k < R.falls.length
    · have hrow : (R.falls.map fun x => (fallC x).map AV.val)[k]? = some [.int R.falls[k].day, .int R.falls[k].hlo, .int R.falls[k].hhi, .int R.falls[k].olo, .int R.falls[k].ohi] := by rw [List.getElem?_map, List.getElem?_eq_getElem hlt]; rfl
      (repeat' (first | ((first | with_reducible refine AL.id_ ?_ | with_reducible refine AE.id_ ?_); first | refine AL.build0 hF rfl rfl rfl (fun b => ⟨_, (by simp only [AV.put]; rfl), ?_⟩) | refine W.s rfl rfl (by first | exact AY.bx rfl (by simp only [evO, AV.get]; rfl) rfl | exact hEQ rfl rfl rfl | exact Step2.sound (by first | (((first | (apply Step2.a; constructor) | (apply Step2.b; constructor)) <;> first | infer_instance | skip) <;> (first | infer_instance | (refine w64c ?_; omega) | (refine wu64c ?_; omega) | (refine bits64 ?_; omega) | (refine quo64c ?_; omega) | (refine rem64 ?_; omega) | ((repeat (first | exact .head _ | refine .tail _ ?_)); done) | assumption | (simp only [List.drop_succ_cons, List.drop_zero, List.length_map, Nat.zero_add, Nat.mul_one]; rfl) | rfl | omega | (simp; done))) | fail) rfl | exact AY.call rfl rfl _ rfl (by fail)) (by simp only [AV.put]; rfl) ?_ | (refine AL.nilK (hK _ _ ?_); clear hK K) | (refine AE.nil (hK _ ?_); clear hK K) | refine W.k rfl rfl (by simp only [AV.put]; rfl) ?_ | refine AL.unguardS rfl rfl ?_ | refine AL.al hF rfl rfl rfl (by first | (simp only [Value.cells, List.map_cons, List.map_nil]; rfl) | rfl) (fun b => ⟨_, (by simp only [AV.put]; rfl), ?_⟩) | refine AL.st1 hF rfl rfl rfl rfl (by simp only [evO, AV.get]; rfl) (by first | exact hget0 | exact hget1 | exact hget2 | exact hget3 | exact hget4 | exact hget5 | exact hget6 | exact hget7) (by rfl) rfl (by rfl) (by first | (simp; done) | (simp; omega)) (by simp only [List.set]; rfl) ?_ | refine AL.stW hF rfl rfl rfl rfl (by simp only [evO, AV.get]; rfl) (by first | exact hget0 | exact hget1 | exact hget2 | exact hget3 | exact hget4 | exact hget5 | exact hget6 | exact hget7) (by rfl) (by rfl) (by rfl) (by first | rfl | simp) (by simp only [List.set]; rfl) ?_) | (with_reducible refine Awp.id_ ?_; first | refine Awp.seq ?_ | refine Awp.regionK (by first | (simp only [AV.putO, AV.put]; rfl) | rfl) (fun K hK => ?_) | refine Awp.drawE (by first | (simp only [AV.putO, AV.put]; rfl) | rfl) mixed rfl (by kernel_rfl) (fun K hK => ?_) | refine Awp.block ?_ | refine Awp.skip ?_ | refine Awp.exit ?_ | refine Awp.ret ?_ | refine Awp.condT rfl ?_ | refine Awp.condF rfl ?_) | refine thenA_n ?_ | refine thenA_e ?_ | refine thenA_r ?_ | refine inBlockA_n ?_ | refine inBlockA_r ?_ | refine inBlockA_s ?_ | refine inBlockA_d rfl ?_ | ((first | ((first | with_reducible refine AL.id_ ?_ | with_reducible refine AE.id_ ?_); (fail_if_success refine W.on rfl ?_); refine W.p rfl rfl (by simp only [AV.put]; rfl) (by simp only [AV.put]; rfl) (fun hb => ?_) (fun hb => ?_)) | (with_reducible refine Awp.id_ ?_; refine Awp.cond _ rfl (fun hb => ?_) (fun hb => ?_))) <;> (try simp only [z1, z2, z3, z4, z5, z6, z7, z8, y5, y6, y7, y8, z9, x1, x2, x3, x4, x5, x6, x7, x8] at hb; try (exfalso; omega)))))
      (refine loopEndD (n - 1) (List.sublist_cons_self _ _) (by first | (simp only [AV.putO, AV.put]; rfl) | rfl) (by omega) ?_ (by simp only [List.map, AV.get, mask, putl, AV.put]))
      exact ⟨k + 1, by omega, int2 (by rw [baseTo_succ R k hlt]; omega) rfl, rfl⟩
    · obtain rfl : k = R.falls.length := by omega
      rw [← HB.out]
      (repeat' (first | ((first | with_reducible refine AL.id_ ?_ | with_reducible refine AE.id_ ?_); first | refine AL.build0 hF rfl rfl rfl (fun b => ⟨_, (by simp only [AV.put]; rfl), ?_⟩) | refine W.s rfl rfl (by first | exact AY.bx rfl (by simp only [evO, AV.get]; rfl) rfl | exact hEQ rfl rfl rfl | exact Step2.sound (by first | (((first | (apply Step2.a; constructor) | (apply Step2.b; constructor)) <;> first | infer_instance | skip) <;> (first | infer_instance | (refine w64c ?_; omega) | (refine wu64c ?_; omega) | (refine bits64 ?_; omega) | (refine quo64c ?_; omega) | (refine rem64 ?_; omega) | ((repeat (first | exact .head _ | refine .tail _ ?_)); done) | assumption | (simp only [List.drop_succ_cons, List.drop_zero, List.length_map, Nat.zero_add, Nat.mul_one]; rfl) | rfl | omega | (simp; done))) | fail) rfl | exact AY.call rfl rfl _ rfl (by first | exact h2 | exact h3 | exact h4)) (by simp only [AV.put]; rfl) ?_ | (refine AL.nilK (hK _ _ ?_); clear hK K) | (refine AE.nil (hK _ ?_); clear hK K) | refine W.k rfl rfl (by simp only [AV.put]; rfl) ?_ | refine AL.unguardS rfl rfl ?_ | refine AL.al hF rfl rfl rfl (by first | (simp only [Value.cells, List.map_cons, List.map_nil]; rfl) | rfl) (fun b => ⟨_, (by simp only [AV.put]; rfl), ?_⟩) | refine AL.st1 hF rfl rfl rfl rfl (by simp only [evO, AV.get]; rfl) (by first | exact hget0 | exact hget1 | exact hget2 | exact hget3 | exact hget4 | exact hget5 | exact hget6 | exact hget7) (by rfl) rfl (by rfl) (by first | (simp; done) | (simp; omega)) (by simp only [List.set]; rfl) ?_ | refine AL.stW hF rfl rfl rfl rfl (by simp only [evO, AV.get]; rfl) (by first | exact hget0 | exact hget1 | exact hget2 | exact hget3 | exact hget4 | exact hget5 | exact hget6 | exact hget7) (by rfl) (by rfl) (by rfl) (by first | rfl | simp) (by simp only [List.set]; rfl) ?_) | (with_reducible refine Awp.id_ ?_; first | refine Awp.seq ?_ | refine Awp.regionK (by first | (simp only [AV.putO, AV.put]; rfl) | rfl) (fun K hK => ?_) | refine Awp.drawE (by first | (simp only [AV.putO, AV.put]; rfl) | rfl) mixed rfl (by kernel_rfl) (fun K hK => ?_) | refine Awp.block ?_ | refine Awp.skip ?_ | refine Awp.exit ?_ | refine Awp.ret ?_ | refine Awp.condT rfl ?_ | refine Awp.condF rfl ?_) | refine thenA_n ?_ | refine thenA_e ?_ | refine thenA_r ?_ | refine inBlockA_n ?_ | refine inBlockA_r ?_ | refine inBlockA_s ?_ | refine inBlockA_d rfl ?_ | ((first | ((first | with_reducible refine AL.id_ ?_ | with_reducible refine AE.id_ ?_); (fail_if_success refine W.on rfl ?_); refine W.p rfl rfl (by simp only [AV.put]; rfl) (by simp only [AV.put]; rfl) (fun hb => ?_) (fun hb => ?_)) | (with_reducible refine Awp.id_ ?_; refine Awp.cond _ rfl (fun hb => ?_) (fun hb => ?_))) <;> (try simp only [z1, z2, z3, z4, z5, z6, z7, z8, y5, y6, y7, y8, z9, x1, x2, x3, x4, x5, x6, x7, x8] at hb; try (exfalso; omega)))))
      · exact retTwo rfl (by first | (simp only [AV.get, AV.put]; done) | (simp only [AV.get, AV.put]; rfl) | rfl) (by first | (simp only [AV.get, AV.put]; done) | (simp only [AV.get, AV.put]; rfl) | rfl) (Out.int (by rw [if_neg (by simpa using hb)])) (Out.same _)
      · exact retTwo rfl (by first | (simp only [AV.get, AV.put]; done) | (simp only [AV.get, AV.put]; rfl) | rfl) (by first | (simp only [AV.get, AV.put]; done) | (simp only [AV.get, AV.put]; rfl) | rfl) (Out.int (by rw [if_pos (by simpa using hb)])) (Out.same _)
  · rw [if_neg hd] at h1 ⊢
    generalize ropeE M R = de at *
    unfold modelA slA at *
    unfold ropeR slA at *
    generalize (M.wears.map fun x => (wearC x).map AV.val) = rw1 at *
    generalize (R.falls.map fun x => (fallC x).map AV.val) = rw2 at *
    (refine PC.of' Try.func37 (by kernel_rfl) rfl (by simp only [Try.ntmps37, List.length_cons, List.length_nil, Nat.reduceAdd, Nat.reduceSub, List.replicate_succ, List.replicate_zero, List.cons_append, List.nil_append]; rfl) fun w0 S hM => ?_; have hF : Wf Fence.wide := .inl rfl)
    (repeat' (first | ((first | with_reducible refine AL.id_ ?_ | with_reducible refine AE.id_ ?_); first | refine AL.build0 hF rfl rfl rfl (fun b => ⟨_, (by simp only [AV.put]; rfl), ?_⟩) | refine W.s rfl rfl (by first | exact AY.bx rfl (by simp only [evO, AV.get]; rfl) rfl | exact hEQ rfl rfl rfl | exact Step2.sound (by first | (((first | (apply Step2.a; constructor) | (apply Step2.b; constructor)) <;> first | infer_instance | skip) <;> (first | infer_instance | (refine w64c ?_; omega) | (refine wu64c ?_; omega) | (refine bits64 ?_; omega) | (refine quo64c ?_; omega) | (refine rem64 ?_; omega) | ((repeat (first | exact .head _ | refine .tail _ ?_)); done) | assumption | (simp only [List.drop_succ_cons, List.drop_zero, List.length_map, Nat.zero_add, Nat.mul_one]; rfl) | rfl | omega | (simp; done))) | fail) rfl | exact AY.call rfl rfl _ rfl (by exact h1)) (by simp only [AV.put]; rfl) ?_ | (refine AL.nilK (hK _ _ ?_); clear hK K) | (refine AE.nil (hK _ ?_); clear hK K) | refine W.k rfl rfl (by simp only [AV.put]; rfl) ?_ | refine AL.unguardS rfl rfl ?_ | refine AL.al hF rfl rfl rfl (by first | (simp only [Value.cells, List.map_cons, List.map_nil]; rfl) | rfl) (fun b => ⟨_, (by simp only [AV.put]; rfl), ?_⟩) | refine AL.st1 hF rfl rfl rfl rfl (by simp only [evO, AV.get]; rfl) (by first | exact hget0 | exact hget1 | exact hget2 | exact hget3 | exact hget4 | exact hget5 | exact hget6 | exact hget7) (by rfl) rfl (by rfl) (by first | (simp; done) | (simp; omega)) (by simp only [List.set]; rfl) ?_ | refine AL.stW hF rfl rfl rfl rfl (by simp only [evO, AV.get]; rfl) (by first | exact hget0 | exact hget1 | exact hget2 | exact hget3 | exact hget4 | exact hget5 | exact hget6 | exact hget7) (by rfl) (by rfl) (by rfl) (by first | rfl | simp) (by simp only [List.set]; rfl) ?_) | (with_reducible refine Awp.id_ ?_; first | refine Awp.seq ?_ | refine Awp.regionK (by first | (simp only [AV.putO, AV.put]; rfl) | rfl) (fun K hK => ?_) | refine Awp.drawE (by first | (simp only [AV.putO, AV.put]; rfl) | rfl) mixed rfl (by kernel_rfl) (fun K hK => ?_) | refine Awp.block ?_ | refine Awp.skip ?_ | refine Awp.exit ?_ | refine Awp.ret ?_ | refine Awp.condT rfl ?_ | refine Awp.condF rfl ?_) | refine thenA_n ?_ | refine thenA_e ?_ | refine thenA_r ?_ | refine inBlockA_n ?_ | refine inBlockA_r ?_ | refine inBlockA_s ?_ | refine inBlockA_d rfl ?_ | ((first | ((first | with_reducible refine AL.id_ ?_ | with_reducible refine AE.id_ ?_); (fail_if_success refine W.on rfl ?_); refine W.p rfl rfl (by simp only [AV.put]; rfl) (by simp only [AV.put]; rfl) (fun hb => ?_) (fun hb => ?_)) | (with_reducible refine Awp.id_ ?_; refine Awp.cond _ rfl (fun hb => ?_) (fun hb => ?_))) <;> (try simp only [z1, z2, z3, z4, z5, z6, z7, z8, y5, y6, y7, y8, z9, x1, x2, x3, x4, x5, x6, x7, x8] at hb; try (exfalso; omega)))))
    exact retTwo rfl (by first | (simp only [AV.get, AV.put]; done) | (simp only [AV.get, AV.put]; rfl) | rfl) (by first | (simp only [AV.get, AV.put]; done) | (simp only [AV.get, AV.put]; rfl) | rfl) (Out.same _) (Out.same _)
def farRopeB (M : Model) (R : Rope) : Bool := decide (8 < M.wears.length) || decide (12 < R.falls.length)
theorem farRope_a (M : Model) (R : Rope) : PC Try.prog 10 [.agg (modelA M), .agg (ropeR R)] (.bool (farRopeB M R)) := by
  have h1 : (M.wears.map fun x => (wearC x).map AV.val).length = M.wears.length := by simp
  have h2 : (R.falls.map fun x => (fallC x).map AV.val).length = R.falls.length := by simp
  unfold modelA ropeR slA farRopeB
  rw [← h1, ← h2]
  generalize (M.wears.map fun x => (wearC x).map AV.val) = rw1 at *
  generalize (R.falls.map fun x => (fallC x).map AV.val) = rw2 at *
  clear h1 h2
  (refine PC.of' Try.func10 (by kernel_rfl) rfl (by simp only [Try.ntmps10, List.length_cons, List.length_nil, Nat.reduceAdd, Nat.reduceSub, List.replicate_succ, List.replicate_zero, List.cons_append, List.nil_append]; rfl) fun w0 S hM => ?_; have hF : Wf Fence.wide := .inl rfl)
  (repeat' (first | ((first | with_reducible refine AL.id_ ?_ | with_reducible refine AE.id_ ?_); first | refine AL.build0 hF rfl rfl rfl (fun b => ⟨_, (by simp only [AV.put]; rfl), ?_⟩) | refine W.s rfl rfl (by first | exact AY.bx rfl (by simp only [evO, AV.get]; rfl) rfl | exact hEQ rfl rfl rfl | exact Step2.sound (by first | (((first | (apply Step2.a; constructor) | (apply Step2.b; constructor)) <;> first | infer_instance | skip) <;> (first | infer_instance | (refine w64c ?_; omega) | (refine wu64c ?_; omega) | (refine bits64 ?_; omega) | (refine quo64c ?_; omega) | (refine rem64 ?_; omega) | ((repeat (first | exact .head _ | refine .tail _ ?_)); done) | assumption | (simp only [List.drop_succ_cons, List.drop_zero, List.length_map, Nat.zero_add, Nat.mul_one]; rfl) | rfl | omega | (simp; done))) | fail) rfl | exact AY.call rfl rfl _ rfl (by fail)) (by simp only [AV.put]; rfl) ?_ | (refine AL.nilK (hK _ _ ?_); clear hK K) | (refine AE.nil (hK _ ?_); clear hK K) | refine W.k rfl rfl (by simp only [AV.put]; rfl) ?_ | refine AL.unguardS rfl rfl ?_ | refine AL.al hF rfl rfl rfl (by first | (simp only [Value.cells, List.map_cons, List.map_nil]; rfl) | rfl) (fun b => ⟨_, (by simp only [AV.put]; rfl), ?_⟩) | refine AL.st1 hF rfl rfl rfl rfl (by simp only [evO, AV.get]; rfl) (by first | exact hget0 | exact hget1 | exact hget2 | exact hget3 | exact hget4 | exact hget5 | exact hget6 | exact hget7) (by rfl) rfl (by rfl) (by first | (simp; done) | (simp; omega)) (by simp only [List.set]; rfl) ?_ | refine AL.stW hF rfl rfl rfl rfl (by simp only [evO, AV.get]; rfl) (by first | exact hget0 | exact hget1 | exact hget2 | exact hget3 | exact hget4 | exact hget5 | exact hget6 | exact hget7) (by rfl) (by rfl) (by rfl) (by first | rfl | simp) (by simp only [List.set]; rfl) ?_) | (with_reducible refine Awp.id_ ?_; first | refine Awp.seq ?_ | refine Awp.regionK (by first | (simp only [AV.putO, AV.put]; rfl) | rfl) (fun K hK => ?_) | refine Awp.drawE (by first | (simp only [AV.putO, AV.put]; rfl) | rfl) mixed rfl (by kernel_rfl) (fun K hK => ?_) | refine Awp.block ?_ | refine Awp.skip ?_ | refine Awp.exit ?_ | refine Awp.ret ?_ | refine Awp.condT rfl ?_ | refine Awp.condF rfl ?_) | refine thenA_n ?_ | refine thenA_e ?_ | refine thenA_r ?_ | refine inBlockA_n ?_ | refine inBlockA_r ?_ | refine inBlockA_s ?_ | refine inBlockA_d rfl ?_ | ((first | ((first | with_reducible refine AL.id_ ?_ | with_reducible refine AE.id_ ?_); (fail_if_success refine W.on rfl ?_); refine W.p rfl rfl (by simp only [AV.put]; rfl) (by simp only [AV.put]; rfl) (fun hb => ?_) (fun hb => ?_)) | (with_reducible refine Awp.id_ ?_; refine Awp.cond _ rfl (fun hb => ?_) (fun hb => ?_))) <;> (try simp only [z1, z2, z3, z4, z5, z6, z7, z8, y5, y6, y7, y8, z9, x1, x2, x3, x4, x5, x6, x7, x8] at hb; try (exfalso; omega)))))
  all_goals (refine retOne rfl (by simp only [AV.get, AV.put]; rfl) ?_)
  all_goals refine Out.bool ?_
  all_goals (clear hM hF; rw [Bool.eq_iff_iff]; simp only [Bool.or_eq_true, decide_eq_true_eq] at *; first | omega | (simp; omega))
end Go.Proofs.Ytchinfamepolkaa
