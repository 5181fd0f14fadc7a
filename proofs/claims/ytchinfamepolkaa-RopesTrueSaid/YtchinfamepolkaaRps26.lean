/- Ropes: the law on true damages. -/
import Derived.Test.YtchinfamepolkaaRps15
import Derived.Test.YtchinfamepolkaaRps25
namespace Go.Proofs.Ytchinfamepolkaa
set_option linter.unusedSimpArgs false
set_option linter.unusedVariables false
set_option linter.unusedSectionVars false
open Go Go.Proofs Go.RowKit
set_option maxHeartbeats 4000000
set_option maxRecDepth 20000

theorem ropesTrue_bad (M : Model) (R : Rope) (day : Int) (hs os : List Int) (hf : (farRopeB M R || decide (dayE M R day ≠ 0)) = true) : PC Try.prog 3 [.agg (modelA M), .agg (ropeR R), .agg [.int day, slA intC 1 hs, slA intC 1 os]] (.bool true) := by
  have h1 := farRope_a M R
  have h2 := works_a
  have h3 : farRopeB M R = false → PC Try.prog 11 [.agg (modelA M), .agg (ropeR R), .int day] (.int (dayE M R day)) := fun hf => by
    have hl : M.wears.length ≤ 1000000 ∧ R.falls.length ≤ 1000000 := by unfold farRopeB at hf; simp at hf; omega
    exact rcheckDay_a M R day hl.1 hl.2
  cases hfr : farRopeB M R
  · have h3 := h3 hfr
    rw [hfr] at h1 hf
    clear hfr
    have hd : dayE M R day ≠ 0 := by simpa using hf
    clear hf
    generalize dayE M R day = de at *
    unfold modelA slA at *
    unfold ropeR at *
    unfold slA at *
    generalize (M.wears.map fun x => (wearC x).map AV.val) = rw1 at *
    generalize (R.falls.map fun x => (fallC x).map AV.val) = rw2 at *
    generalize (hs.map fun x => (intC x).map AV.val) = rw3 at *
    generalize (os.map fun x => (intC x).map AV.val) = rw4 at *
    (refine PC.of' Try.func3 (by kernel_rfl) rfl (by simp only [Try.ntmps3, List.length_cons, List.length_nil, Nat.reduceAdd, Nat.reduceSub, List.replicate_succ, List.replicate_zero, List.cons_append, List.nil_append]; rfl) fun w0 S hM => ?_; have hF : Wf Fence.wide := .inl rfl)
    (repeat' (first | ((first | with_reducible refine AL.id_ ?_ | with_reducible refine AE.id_ ?_); first | refine AL.build0 hF rfl rfl rfl (fun b => ⟨_, (by simp only [AV.put]; rfl), ?_⟩) | refine W.s rfl rfl (by first | exact AY.bx rfl (by simp only [evO, AV.get]; rfl) rfl | exact hEQ rfl rfl rfl | exact Step2.sound (by first | (((first | (apply Step2.a; constructor) | (apply Step2.b; constructor)) <;> first | infer_instance | skip) <;> (first | infer_instance | (refine w64c ?_; omega) | (refine wu64c ?_; omega) | (refine bits64 ?_; omega) | (refine quo64c ?_; omega) | (refine rem64 ?_; omega) | ((repeat (first | exact .head _ | refine .tail _ ?_)); done) | assumption | (simp only [List.drop_succ_cons, List.drop_zero, List.length_map, Nat.zero_add, Nat.mul_one]; rfl) | rfl | omega | (simp; done))) | fail) rfl | exact AY.call rfl rfl _ rfl (by first | exact h1 | exact h2 | exact h3)) (by simp only [AV.put]; rfl) ?_ | (refine AL.nilK (hK _ _ ?_); clear hK K) | (refine AE.nil (hK _ ?_); clear hK K) | refine W.k rfl rfl (by simp only [AV.put]; rfl) ?_ | refine AL.unguardS rfl rfl ?_ | refine AL.al hF rfl rfl rfl (by first | (simp only [Value.cells, List.map_cons, List.map_nil]; rfl) | rfl) (fun b => ⟨_, (by simp only [AV.put]; rfl), ?_⟩) | refine AL.st1 hF rfl rfl rfl rfl (by simp only [evO, AV.get]; rfl) (by first | exact hget0 | exact hget1 | exact hget2 | exact hget3 | exact hget4 | exact hget5 | exact hget6 | exact hget7) (by rfl) rfl (by rfl) (by first | (simp; done) | (simp; omega)) (by simp only [List.set]; rfl) ?_ | refine AL.stW hF rfl rfl rfl rfl (by simp only [evO, AV.get]; rfl) (by first | exact hget0 | exact hget1 | exact hget2 | exact hget3 | exact hget4 | exact hget5 | exact hget6 | exact hget7) (by rfl) (by rfl) (by rfl) (by first | rfl | simp) (by simp only [List.set]; rfl) ?_) | (with_reducible refine Awp.id_ ?_; first | refine Awp.seq ?_ | refine Awp.regionK (by first | (simp only [AV.putO, AV.put]; rfl) | rfl) (fun K hK => ?_) | refine Awp.drawE (by first | (simp only [AV.putO, AV.put]; rfl) | rfl) mixed rfl (by kernel_rfl) (fun K hK => ?_) | refine Awp.block ?_ | refine Awp.skip ?_ | refine Awp.exit ?_ | refine Awp.ret ?_ | refine Awp.condT rfl ?_ | refine Awp.condF rfl ?_) | refine thenA_n ?_ | refine thenA_e ?_ | refine thenA_r ?_ | refine inBlockA_n ?_ | refine inBlockA_r ?_ | refine inBlockA_s ?_ | refine inBlockA_d rfl ?_ | ((first | ((first | with_reducible refine AL.id_ ?_ | with_reducible refine AE.id_ ?_); (fail_if_success refine W.on rfl ?_); refine W.p rfl rfl (by simp only [AV.put]; rfl) (by simp only [AV.put]; rfl) (fun hb => ?_) (fun hb => ?_)) | (with_reducible refine Awp.id_ ?_; refine Awp.cond _ rfl (fun hb => ?_) (fun hb => ?_))) <;> (try simp only [z1, z2, z3, z4, z5, z6, z7, z8, y5, y6, y7, y8, z9, x1, x2, x3, x4, x5, x6, x7, x8] at hb; try (exfalso; omega)))))
    (refine retOne rfl (by simp only [AV.get, AV.put]; rfl) ?_)
    exact Out.same _
  · rw [hfr] at h1
    clear hfr hf h3
    unfold modelA slA at *
    unfold ropeR at *
    unfold slA at *
    generalize (M.wears.map fun x => (wearC x).map AV.val) = rw1 at *
    generalize (R.falls.map fun x => (fallC x).map AV.val) = rw2 at *
    generalize (hs.map fun x => (intC x).map AV.val) = rw3 at *
    generalize (os.map fun x => (intC x).map AV.val) = rw4 at *
    (refine PC.of' Try.func3 (by kernel_rfl) rfl (by simp only [Try.ntmps3, List.length_cons, List.length_nil, Nat.reduceAdd, Nat.reduceSub, List.replicate_succ, List.replicate_zero, List.cons_append, List.nil_append]; rfl) fun w0 S hM => ?_; have hF : Wf Fence.wide := .inl rfl)
    (repeat' (first | ((first | with_reducible refine AL.id_ ?_ | with_reducible refine AE.id_ ?_); first | refine AL.build0 hF rfl rfl rfl (fun b => ⟨_, (by simp only [AV.put]; rfl), ?_⟩) | refine W.s rfl rfl (by first | exact AY.bx rfl (by simp only [evO, AV.get]; rfl) rfl | exact hEQ rfl rfl rfl | exact Step2.sound (by first | (((first | (apply Step2.a; constructor) | (apply Step2.b; constructor)) <;> first | infer_instance | skip) <;> (first | infer_instance | (refine w64c ?_; omega) | (refine wu64c ?_; omega) | (refine bits64 ?_; omega) | (refine quo64c ?_; omega) | (refine rem64 ?_; omega) | ((repeat (first | exact .head _ | refine .tail _ ?_)); done) | assumption | (simp only [List.drop_succ_cons, List.drop_zero, List.length_map, Nat.zero_add, Nat.mul_one]; rfl) | rfl | omega | (simp; done))) | fail) rfl | exact AY.call rfl rfl _ rfl (by first | exact h1 | exact h2)) (by simp only [AV.put]; rfl) ?_ | (refine AL.nilK (hK _ _ ?_); clear hK K) | (refine AE.nil (hK _ ?_); clear hK K) | refine W.k rfl rfl (by simp only [AV.put]; rfl) ?_ | refine AL.unguardS rfl rfl ?_ | refine AL.al hF rfl rfl rfl (by first | (simp only [Value.cells, List.map_cons, List.map_nil]; rfl) | rfl) (fun b => ⟨_, (by simp only [AV.put]; rfl), ?_⟩) | refine AL.st1 hF rfl rfl rfl rfl (by simp only [evO, AV.get]; rfl) (by first | exact hget0 | exact hget1 | exact hget2 | exact hget3 | exact hget4 | exact hget5 | exact hget6 | exact hget7) (by rfl) rfl (by rfl) (by first | (simp; done) | (simp; omega)) (by simp only [List.set]; rfl) ?_ | refine AL.stW hF rfl rfl rfl rfl (by simp only [evO, AV.get]; rfl) (by first | exact hget0 | exact hget1 | exact hget2 | exact hget3 | exact hget4 | exact hget5 | exact hget6 | exact hget7) (by rfl) (by rfl) (by rfl) (by first | rfl | simp) (by simp only [List.set]; rfl) ?_) | (with_reducible refine Awp.id_ ?_; first | refine Awp.seq ?_ | refine Awp.regionK (by first | (simp only [AV.putO, AV.put]; rfl) | rfl) (fun K hK => ?_) | refine Awp.drawE (by first | (simp only [AV.putO, AV.put]; rfl) | rfl) mixed rfl (by kernel_rfl) (fun K hK => ?_) | refine Awp.block ?_ | refine Awp.skip ?_ | refine Awp.exit ?_ | refine Awp.ret ?_ | refine Awp.condT rfl ?_ | refine Awp.condF rfl ?_) | refine thenA_n ?_ | refine thenA_e ?_ | refine thenA_r ?_ | refine inBlockA_n ?_ | refine inBlockA_r ?_ | refine inBlockA_s ?_ | refine inBlockA_d rfl ?_ | ((first | ((first | with_reducible refine AL.id_ ?_ | with_reducible refine AE.id_ ?_); (fail_if_success refine W.on rfl ?_); refine W.p rfl rfl (by simp only [AV.put]; rfl) (by simp only [AV.put]; rfl) (fun hb => ?_) (fun hb => ?_)) | (with_reducible refine Awp.id_ ?_; refine Awp.cond _ rfl (fun hb => ?_) (fun hb => ?_))) <;> (try simp only [z1, z2, z3, z4, z5, z6, z7, z8, y5, y6, y7, y8, z9, x1, x2, x3, x4, x5, x6, x7, x8] at hb; try (exfalso; omega)))))
    (refine retOne rfl (by simp only [AV.get, AV.put]; rfl) ?_)
    exact Out.same _
theorem ropesTrue_ok (M : Model) (R : Rope) (day : Int) (hs os : List Int) (hf : farRopeB M R = false) (hd : dayE M R day = 0) : PC Try.prog 3 [.agg (modelA M), .agg (ropeR R), .agg [.int day, slA intC 1 hs, slA intC 1 os]] (.bool true) := by
  have hl : M.wears.length ≤ 1000000 ∧ R.falls.length ≤ 1000000 := by unfold farRopeB at hf; simp at hf; omega
  obtain ⟨hm, hr, hw⟩ := dayE_ok hd
  have b7 := withinB_true hw
  obtain ⟨a1, a2, a3, a4, a5⟩ := model_bd hm
  obtain ⟨b1, b2, b3, b4, b5, b6⟩ := rope_first hr
  have h1 := farRope_a M R
  rw [hf] at h1
  have h2 := works_a
  have h3 := rcheckDay_a M R day hl.1 hl.2
  have h4 := harmed_a M R hs os day hm hr
  have h5 := damage_a M R day hl.1 hl.2
  have h6 := fit_a M R day hl.1 hl.2
  have h7 := risfit_a M R day (harmedN M R hs os day) (by omega) (by omega) (by omega) (by omega)
  unfold dam0 at h5
  unfold fit0 at h6
  rw [if_pos hd, if_pos hd] at h5
  rw [hd] at h3 h5 h6
  simp only [decide_true, Bool.true_and] at h6
  rw [fit_isFit b7.2 b1, fit_isFit b7.2 b1] at h6
  have hq1 : harmedB R hs os = true → damLo M R day ≤ harmedN M R hs os day ∧ harmedN M R hs os day ≤ damHi M R day := fun h => by
    unfold harmedN
    rw [if_pos h]
    unfold harmedB at h
    simp only [Bool.and_eq_true, decide_eq_true_eq] at h
    exact true_between a1 b6 hs os day h.1.1 h.1.2 _ (Nat.le_refl _) h.2
  have hq2 : harmedB R hs os = true → isFitV M R day (damHi M R day) = true → isFitV M R day (harmedN M R hs os day) = true := fun h => isFit_mono (hq1 h).2
  have hq3 : harmedB R hs os = true → isFitV M R day (harmedN M R hs os day) = true → isFitV M R day (damLo M R day) = true := fun h => isFit_mono (hq1 h).1
  have hc : (hs.length ≤ 60 ∧ os.length ≤ 60) ∨ ¬ (hs.length ≤ 60 ∧ os.length ≤ 60) := Decidable.em _
  have hlenh : (hs.map fun x => (intC x).map AV.val).length = hs.length := by simp
  have hleno : (os.map fun x => (intC x).map AV.val).length = os.length := by simp
  clear hf hd hl hm hr hw b7 a1 a2 a3 a4 a5 b1 b2 b3 b4 b5 b6
  generalize isFitV M R day (damHi M R day) = f1 at *
  generalize isFitV M R day (damLo M R day) = f2 at *
  generalize isFitV M R day (harmedN M R hs os day) = f3 at *
  generalize harmedN M R hs os day = hn at *
  generalize damHi M R day = dh at *
  generalize damLo M R day = dl at *
  generalize harmedB R hs os = hbb at *
  cases hbb with
  | true =>
    have hq1 := hq1 rfl
    have hq2 := Lib.hid (hq2 rfl)
    have hq3 := Lib.hid (hq3 rfl)
    rename_i _q1 _q2 _q3
    clear _q1 _q2 _q3
    unfold modelA slA at *
    unfold ropeR at *
    unfold slA at *
    generalize (M.wears.map fun x => (wearC x).map AV.val) = rw1 at *
    generalize (R.falls.map fun x => (fallC x).map AV.val) = rw2 at *
    generalize (hs.map fun x => (intC x).map AV.val) = rw3 at *
    generalize (os.map fun x => (intC x).map AV.val) = rw4 at *
    cases f1 <;> cases f3 <;> cases f2 <;> first
      | (exfalso; have := hq2.out rfl; cases this; done)
      | (exfalso; have := hq3.out rfl; cases this; done)
      | (
        (refine PC.of' Try.func3 (by kernel_rfl) rfl (by simp only [Try.ntmps3, List.length_cons, List.length_nil, Nat.reduceAdd, Nat.reduceSub, List.replicate_succ, List.replicate_zero, List.cons_append, List.nil_append]; rfl) fun w0 S hM => ?_; have hF : Wf Fence.wide := .inl rfl)
        (repeat' (first | ((first | with_reducible refine AL.id_ ?_ | with_reducible refine AE.id_ ?_); first | refine AL.build0 hF rfl rfl rfl (fun b => ⟨_, (by simp only [AV.put]; rfl), ?_⟩) | refine W.s rfl rfl (by first | exact AY.bx rfl (by simp only [evO, AV.get]; rfl) rfl | exact hEQ rfl rfl rfl | exact Step2.sound (by first | (((first | (apply Step2.a; constructor) | (apply Step2.b; constructor)) <;> first | infer_instance | skip) <;> (first | infer_instance | (refine w64c ?_; omega) | (refine wu64c ?_; omega) | (refine bits64 ?_; omega) | (refine quo64c ?_; omega) | (refine rem64 ?_; omega) | ((repeat (first | exact .head _ | refine .tail _ ?_)); done) | assumption | (simp only [List.drop_succ_cons, List.drop_zero, List.length_map, Nat.zero_add, Nat.mul_one]; rfl) | rfl | omega | (simp; done))) | fail) rfl | exact AY.call rfl rfl _ rfl (by first | exact h1 | exact h2 | exact h3 | exact h4 | exact h5 | exact h6 | exact h7)) (by simp only [AV.put]; rfl) ?_ | (refine AL.nilK (hK _ _ ?_); clear hK K) | (refine AE.nil (hK _ ?_); clear hK K) | refine W.k rfl rfl (by simp only [AV.put]; rfl) ?_ | refine AL.unguardS rfl rfl ?_ | refine AL.al hF rfl rfl rfl (by first | (simp only [Value.cells, List.map_cons, List.map_nil]; rfl) | rfl) (fun b => ⟨_, (by simp only [AV.put]; rfl), ?_⟩) | refine AL.st1 hF rfl rfl rfl rfl (by simp only [evO, AV.get]; rfl) (by first | exact hget0 | exact hget1 | exact hget2 | exact hget3 | exact hget4 | exact hget5 | exact hget6 | exact hget7) (by rfl) rfl (by rfl) (by first | (simp; done) | (simp; omega)) (by simp only [List.set]; rfl) ?_ | refine AL.stW hF rfl rfl rfl rfl (by simp only [evO, AV.get]; rfl) (by first | exact hget0 | exact hget1 | exact hget2 | exact hget3 | exact hget4 | exact hget5 | exact hget6 | exact hget7) (by rfl) (by rfl) (by rfl) (by first | rfl | simp) (by simp only [List.set]; rfl) ?_) | (with_reducible refine Awp.id_ ?_; first | refine Awp.seq ?_ | refine Awp.regionK (by first | (simp only [AV.putO, AV.put]; rfl) | rfl) (fun K hK => ?_) | refine Awp.drawE (by first | (simp only [AV.putO, AV.put]; rfl) | rfl) mixed rfl (by kernel_rfl) (fun K hK => ?_) | refine Awp.block ?_ | refine Awp.skip ?_ | refine Awp.exit ?_ | refine Awp.ret ?_ | refine Awp.condT rfl ?_ | refine Awp.condF rfl ?_) | refine thenA_n ?_ | refine thenA_e ?_ | refine thenA_r ?_ | refine inBlockA_n ?_ | refine inBlockA_r ?_ | refine inBlockA_s ?_ | refine inBlockA_d rfl ?_ | ((first | ((first | with_reducible refine AL.id_ ?_ | with_reducible refine AE.id_ ?_); (fail_if_success refine W.on rfl ?_); refine W.p rfl rfl (by simp only [AV.put]; rfl) (by simp only [AV.put]; rfl) (fun hb => ?_) (fun hb => ?_)) | (with_reducible refine Awp.id_ ?_; refine Awp.cond _ rfl (fun hb => ?_) (fun hb => ?_))) <;> (try simp only [z1, z2, z3, z4, z5, z6, z7, z8, y5, y6, y7, y8, z9, x1, x2, x3, x4, x5, x6, x7, x8] at hb; try (exfalso; omega)))))
        all_goals ((refine retOne rfl (by simp only [AV.get, AV.put]; rfl) ?_); exact Out.same _))
  | false =>
    clear hq1 hq2 hq3
    unfold modelA slA at *
    unfold ropeR at *
    unfold slA at *
    generalize (M.wears.map fun x => (wearC x).map AV.val) = rw1 at *
    generalize (R.falls.map fun x => (fallC x).map AV.val) = rw2 at *
    generalize (hs.map fun x => (intC x).map AV.val) = rw3 at *
    generalize (os.map fun x => (intC x).map AV.val) = rw4 at *
    (refine PC.of' Try.func3 (by kernel_rfl) rfl (by simp only [Try.ntmps3, List.length_cons, List.length_nil, Nat.reduceAdd, Nat.reduceSub, List.replicate_succ, List.replicate_zero, List.cons_append, List.nil_append]; rfl) fun w0 S hM => ?_; have hF : Wf Fence.wide := .inl rfl)
    (repeat' (first | ((first | with_reducible refine AL.id_ ?_ | with_reducible refine AE.id_ ?_); first | refine AL.build0 hF rfl rfl rfl (fun b => ⟨_, (by simp only [AV.put]; rfl), ?_⟩) | refine W.s rfl rfl (by first | exact AY.bx rfl (by simp only [evO, AV.get]; rfl) rfl | exact hEQ rfl rfl rfl | exact Step2.sound (by first | (((first | (apply Step2.a; constructor) | (apply Step2.b; constructor)) <;> first | infer_instance | skip) <;> (first | infer_instance | (refine w64c ?_; omega) | (refine wu64c ?_; omega) | (refine bits64 ?_; omega) | (refine quo64c ?_; omega) | (refine rem64 ?_; omega) | ((repeat (first | exact .head _ | refine .tail _ ?_)); done) | assumption | (simp only [List.drop_succ_cons, List.drop_zero, List.length_map, Nat.zero_add, Nat.mul_one]; rfl) | rfl | omega | (simp; done))) | fail) rfl | exact AY.call rfl rfl _ rfl (by first | exact h1 | exact h2 | exact h3 | exact h4)) (by simp only [AV.put]; rfl) ?_ | (refine AL.nilK (hK _ _ ?_); clear hK K) | (refine AE.nil (hK _ ?_); clear hK K) | refine W.k rfl rfl (by simp only [AV.put]; rfl) ?_ | refine AL.unguardS rfl rfl ?_ | refine AL.al hF rfl rfl rfl (by first | (simp only [Value.cells, List.map_cons, List.map_nil]; rfl) | rfl) (fun b => ⟨_, (by simp only [AV.put]; rfl), ?_⟩) | refine AL.st1 hF rfl rfl rfl rfl (by simp only [evO, AV.get]; rfl) (by first | exact hget0 | exact hget1 | exact hget2 | exact hget3 | exact hget4 | exact hget5 | exact hget6 | exact hget7) (by rfl) rfl (by rfl) (by first | (simp; done) | (simp; omega)) (by simp only [List.set]; rfl) ?_ | refine AL.stW hF rfl rfl rfl rfl (by simp only [evO, AV.get]; rfl) (by first | exact hget0 | exact hget1 | exact hget2 | exact hget3 | exact hget4 | exact hget5 | exact hget6 | exact hget7) (by rfl) (by rfl) (by rfl) (by first | rfl | simp) (by simp only [List.set]; rfl) ?_) | (with_reducible refine Awp.id_ ?_; first | refine Awp.seq ?_ | refine Awp.regionK (by first | (simp only [AV.putO, AV.put]; rfl) | rfl) (fun K hK => ?_) | refine Awp.drawE (by first | (simp only [AV.putO, AV.put]; rfl) | rfl) mixed rfl (by kernel_rfl) (fun K hK => ?_) | refine Awp.block ?_ | refine Awp.skip ?_ | refine Awp.exit ?_ | refine Awp.ret ?_ | refine Awp.condT rfl ?_ | refine Awp.condF rfl ?_) | refine thenA_n ?_ | refine thenA_e ?_ | refine thenA_r ?_ | refine inBlockA_n ?_ | refine inBlockA_r ?_ | refine inBlockA_s ?_ | refine inBlockA_d rfl ?_ | ((first | ((first | with_reducible refine AL.id_ ?_ | with_reducible refine AE.id_ ?_); (fail_if_success refine W.on rfl ?_); refine W.p rfl rfl (by simp only [AV.put]; rfl) (by simp only [AV.put]; rfl) (fun hb => ?_) (fun hb => ?_)) | (with_reducible refine Awp.id_ ?_; refine Awp.cond _ rfl (fun hb => ?_) (fun hb => ?_))) <;> (try simp only [z1, z2, z3, z4, z5, z6, z7, z8, y5, y6, y7, y8, z9, x1, x2, x3, x4, x5, x6, x7, x8] at hb; try (exfalso; omega)))))
    all_goals ((refine retOne rfl (by simp only [AV.get, AV.put]; rfl) ?_); exact Out.same _)
theorem ropesTrue_a (M : Model) (R : Rope) (day : Int) (hs os : List Int) : PC Try.prog 3 [.agg (modelA M), .agg (ropeR R), .agg [.int day, slA intC 1 hs, slA intC 1 os]] (.bool true) := by
  cases hf : (farRopeB M R || decide (dayE M R day ≠ 0))
  · simp at hf
    exact ropesTrue_ok M R day hs os hf.1 hf.2
  · exact ropesTrue_bad M R day hs os hf
end Go.Proofs.Ytchinfamepolkaa
