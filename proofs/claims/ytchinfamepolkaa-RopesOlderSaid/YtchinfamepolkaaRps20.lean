/- Ropes: the reference's CheckRope, CheckDay. -/
import Derived.Test.YtchinfamepolkaaRps17
import Derived.Test.YtchinfamepolkaaRps18
import Derived.Test.YtchinfamepolkaaKp
namespace Go.Proofs.Ytchinfamepolkaa
set_option linter.unusedSimpArgs false
set_option linter.unusedVariables false
set_option linter.unusedSectionVars false
open Go Go.Proofs Go.RowKit
set_option maxHeartbeats 4000000
set_option maxRecDepth 20000

theorem rcheckRope_a (M : Model) (R : Rope) (hl : M.wears.length ≤ 1000000) (hl2 : R.falls.length ≤ 1000000) : PC Try.prog 41 [.agg (modelA M), .agg (ropeR R)] (.int (ropeE M R)) := by
  have h1 := rmodel_a M hl
  have h2 := rrope_a R hl2
  unfold ropeE
  unfold modelA slA at *
  unfold ropeR slA at *
  generalize isModelB M = im at *
  generalize isRopeB R = ir at *
  generalize (M.wears.map fun x => (wearC x).map AV.val) = rw1 at *
  generalize (R.falls.map fun x => (fallC x).map AV.val) = rw2 at *
  (refine PC.of' Try.func41 (by kernel_rfl) rfl (by simp only [Try.ntmps41, List.length_cons, List.length_nil, Nat.reduceAdd, Nat.reduceSub, List.replicate_succ, List.replicate_zero, List.cons_append, List.nil_append]; rfl) fun w0 S hM => ?_; have hF : Wf Fence.wide := .inl rfl)
  (repeat' (first | ((first | with_reducible refine AL.id_ ?_ | with_reducible refine AE.id_ ?_); first | refine AL.build0 hF rfl rfl rfl (fun b => ⟨_, (by simp only [AV.put]; rfl), ?_⟩) | refine W.s rfl rfl (by first | exact AY.bx rfl (by simp only [evO, AV.get]; rfl) rfl | exact hEQ rfl rfl rfl | exact Step2.sound (by first | (((first | (apply Step2.a; constructor) | (apply Step2.b; constructor)) <;> first | infer_instance | skip) <;> (first | infer_instance | (refine w64c ?_; omega) | (refine wu64c ?_; omega) | (refine bits64 ?_; omega) | (refine quo64c ?_; omega) | (refine rem64 ?_; omega) | ((repeat (first | exact .head _ | refine .tail _ ?_)); done) | assumption | (simp only [List.drop_succ_cons, List.drop_zero, List.length_map, Nat.zero_add, Nat.mul_one]; rfl) | rfl | omega | (simp; done))) | fail) rfl | exact AY.call rfl rfl _ rfl (by first | exact h1 | exact h2)) (by simp only [AV.put]; rfl) ?_ | (refine AL.nilK (hK _ _ ?_); clear hK K) | (refine AE.nil (hK _ ?_); clear hK K) | refine W.k rfl rfl (by simp only [AV.put]; rfl) ?_ | refine AL.unguardS rfl rfl ?_ | refine AL.al hF rfl rfl rfl (by first | (simp only [Value.cells, List.map_cons, List.map_nil]; rfl) | rfl) (fun b => ⟨_, (by simp only [AV.put]; rfl), ?_⟩) | refine AL.st1 hF rfl rfl rfl rfl (by simp only [evO, AV.get]; rfl) (by first | exact hget0 | exact hget1 | exact hget2 | exact hget3 | exact hget4 | exact hget5 | exact hget6 | exact hget7) (by rfl) rfl (by rfl) (by first | (simp; done) | (simp; omega)) (by simp only [List.set]; rfl) ?_ | refine AL.stW hF rfl rfl rfl rfl (by simp only [evO, AV.get]; rfl) (by first | exact hget0 | exact hget1 | exact hget2 | exact hget3 | exact hget4 | exact hget5 | exact hget6 | exact hget7) (by rfl) (by rfl) (by rfl) (by first | rfl | simp) (by simp only [List.set]; rfl) ?_) | (with_reducible refine Awp.id_ ?_; first | refine Awp.seq ?_ | refine Awp.regionK (by first | (simp only [AV.putO, AV.put]; rfl) | rfl) (fun K hK => ?_) | refine Awp.drawE (by first | (simp only [AV.putO, AV.put]; rfl) | rfl) mixed rfl (by kernel_rfl) (fun K hK => ?_) | refine Awp.block ?_ | refine Awp.skip ?_ | refine Awp.exit ?_ | refine Awp.ret ?_ | refine Awp.condT rfl ?_ | refine Awp.condF rfl ?_) | refine thenA_n ?_ | refine thenA_e ?_ | refine thenA_r ?_ | refine inBlockA_n ?_ | refine inBlockA_r ?_ | refine inBlockA_s ?_ | refine inBlockA_d rfl ?_ | ((first | ((first | with_reducible refine AL.id_ ?_ | with_reducible refine AE.id_ ?_); (fail_if_success refine W.on rfl ?_); refine W.p rfl rfl (by simp only [AV.put]; rfl) (by simp only [AV.put]; rfl) (fun hb => ?_) (fun hb => ?_)) | (with_reducible refine Awp.id_ ?_; refine Awp.cond _ rfl (fun hb => ?_) (fun hb => ?_))) <;> (try simp only [z1, z2, z3, z4, z5, z6, z7, z8, y5, y6, y7, y8, z9, x1, x2, x3, x4, x5, x6, x7, x8] at hb; try (exfalso; omega)))))
  all_goals (refine retOne rfl (by simp only [AV.get, AV.put]; rfl) ?_)
  all_goals refine Out.int ?_
  all_goals (clear h1 h2 hM hF; simp_all)
theorem rcheckDay_a (M : Model) (R : Rope) (day : Int) (hl : M.wears.length ≤ 1000000) (hl2 : R.falls.length ≤ 1000000) : PC Try.prog 11 [.agg (modelA M), .agg (ropeR R), .int day] (.int (dayE M R day)) := by
  have h1 := rcheckRope_a M R hl hl2
  have h2 := rwithin_a day R.made 99999
  have HD := Lib.hid (show dayE M R day = if ropeE M R = 0 then (if withinB day R.made 99999 = true then 0 else 1) else ropeE M R by
    unfold dayE ropeE
    cases isModelB M <;> cases isRopeB R <;> cases withinB day R.made 99999 <;> simp)
  generalize ropeE M R = re at *
  generalize dayE M R day = de at *
  generalize withinB day R.made 99999 = wd at *
  unfold modelA slA at *
  unfold ropeR slA at *
  generalize (M.wears.map fun x => (wearC x).map AV.val) = rw1 at *
  generalize (R.falls.map fun x => (fallC x).map AV.val) = rw2 at *
  (refine PC.of' Try.func11 (by kernel_rfl) rfl (by simp only [Try.ntmps11, List.length_cons, List.length_nil, Nat.reduceAdd, Nat.reduceSub, List.replicate_succ, List.replicate_zero, List.cons_append, List.nil_append]; rfl) fun w0 S hM => ?_; have hF : Wf Fence.wide := .inl rfl)
  (repeat' (first | ((first | with_reducible refine AL.id_ ?_ | with_reducible refine AE.id_ ?_); first | refine AL.build0 hF rfl rfl rfl (fun b => ⟨_, (by simp only [AV.put]; rfl), ?_⟩) | refine W.s rfl rfl (by first | exact AY.bx rfl (by simp only [evO, AV.get]; rfl) rfl | exact hEQ rfl rfl rfl | exact Step2.sound (by first | (((first | (apply Step2.a; constructor) | (apply Step2.b; constructor)) <;> first | infer_instance | skip) <;> (first | infer_instance | (refine w64c ?_; omega) | (refine wu64c ?_; omega) | (refine bits64 ?_; omega) | (refine quo64c ?_; omega) | (refine rem64 ?_; omega) | ((repeat (first | exact .head _ | refine .tail _ ?_)); done) | assumption | (simp only [List.drop_succ_cons, List.drop_zero, List.length_map, Nat.zero_add, Nat.mul_one]; rfl) | rfl | omega | (simp; done))) | fail) rfl | exact AY.call rfl rfl _ rfl (by first | exact h1 | exact h2)) (by simp only [AV.put]; rfl) ?_ | (refine AL.nilK (hK _ _ ?_); clear hK K) | (refine AE.nil (hK _ ?_); clear hK K) | refine W.k rfl rfl (by simp only [AV.put]; rfl) ?_ | refine AL.unguardS rfl rfl ?_ | refine AL.al hF rfl rfl rfl (by first | (simp only [Value.cells, List.map_cons, List.map_nil]; rfl) | rfl) (fun b => ⟨_, (by simp only [AV.put]; rfl), ?_⟩) | refine AL.st1 hF rfl rfl rfl rfl (by simp only [evO, AV.get]; rfl) (by first | exact hget0 | exact hget1 | exact hget2 | exact hget3 | exact hget4 | exact hget5 | exact hget6 | exact hget7) (by rfl) rfl (by rfl) (by first | (simp; done) | (simp; omega)) (by simp only [List.set]; rfl) ?_ | refine AL.stW hF rfl rfl rfl rfl (by simp only [evO, AV.get]; rfl) (by first | exact hget0 | exact hget1 | exact hget2 | exact hget3 | exact hget4 | exact hget5 | exact hget6 | exact hget7) (by rfl) (by rfl) (by rfl) (by first | rfl | simp) (by simp only [List.set]; rfl) ?_) | (with_reducible refine Awp.id_ ?_; first | refine Awp.seq ?_ | refine Awp.regionK (by first | (simp only [AV.putO, AV.put]; rfl) | rfl) (fun K hK => ?_) | refine Awp.drawE (by first | (simp only [AV.putO, AV.put]; rfl) | rfl) mixed rfl (by kernel_rfl) (fun K hK => ?_) | refine Awp.block ?_ | refine Awp.skip ?_ | refine Awp.exit ?_ | refine Awp.ret ?_ | refine Awp.condT rfl ?_ | refine Awp.condF rfl ?_) | refine thenA_n ?_ | refine thenA_e ?_ | refine thenA_r ?_ | refine inBlockA_n ?_ | refine inBlockA_r ?_ | refine inBlockA_s ?_ | refine inBlockA_d rfl ?_ | ((first | ((first | with_reducible refine AL.id_ ?_ | with_reducible refine AE.id_ ?_); (fail_if_success refine W.on rfl ?_); refine W.p rfl rfl (by simp only [AV.put]; rfl) (by simp only [AV.put]; rfl) (fun hb => ?_) (fun hb => ?_)) | (with_reducible refine Awp.id_ ?_; refine Awp.cond _ rfl (fun hb => ?_) (fun hb => ?_))) <;> (try simp only [z1, z2, z3, z4, z5, z6, z7, z8, y5, y6, y7, y8, z9, x1, x2, x3, x4, x5, x6, x7, x8] at hb; try (exfalso; omega)))))
  all_goals (refine retOne rfl (by simp only [AV.get, AV.put]; rfl) ?_)
  all_goals refine Out.int ?_
  all_goals (rw [HD.out]; clear h1 h2 hM hF HD; simp_all)
end Go.Proofs.Ytchinfamepolkaa
