/- Ropes: the true damage. -/
import Derived.Test.YtchinfamepolkaaRps23
namespace Go.Proofs.Ytchinfamepolkaa
set_option linter.unusedSimpArgs false
set_option linter.unusedVariables false
set_option linter.unusedSectionVars false
open Go Go.Proofs Go.RowKit
set_option maxHeartbeats 4000000
set_option maxRecDepth 20000

def harmedB (R : Rope) (hs os : List Int) : Bool := decide (hs.length = R.falls.length) && decide (os.length = R.falls.length) && trueOk R.falls hs os R.falls.length
def harmedN (M : Model) (R : Rope) (hs os : List Int) (day : Int) : Int := if harmedB R hs os = true then trueTo M.wears R.falls hs os day R.falls.length else 0
theorem trueOk_mono {fs : List Fall} {hs os : List Int} {k n : Nat} (h : k ≤ n) (h2 : trueOk fs hs os n = true) : trueOk fs hs os k = true := by
  unfold trueOk at *
  rw [List.all_eq_true] at *
  intro i hi
  exact h2 i (by simp at hi ⊢; omega)
theorem harmed_a (M : Model) (R : Rope) (hs os : List Int) (day : Int) (hm : isModelB M = true) (hr : isRopeB R = true) : PC Try.prog 13 [.agg (modelA M), .agg (ropeR R), .agg [slA intC 1 hs, slA intC 1 os], .int day] (.tup [.int (harmedN M R hs os day), .bool (harmedB R hs os)]) := by
  obtain ⟨hm1, hm2, hm3, hm4, hm5⟩ := model_bd hm
  obtain ⟨hr1, hr2, hr3, hr4, hr5, hr6⟩ := rope_first hr
  have hbt := Lib.hid (fun k => trueTo_bd (wears_bd hm1) R.falls hs os day k)
  have hfa := Lib.hid (fun k (hk : k < R.falls.length) => falls_at hr6 hk)
  have hhv := Lib.hid (fun f => (show 0 ≤ harmV M.wears f ∧ harmV M.wears f ≤ 100 from harmTo_bd (wears_bd hm1) f _))
  have hlen : (R.falls.map fun x => (fallC x).map AV.val).length = R.falls.length := by simp
  have hlenh : (hs.map fun x => (intC x).map AV.val).length = hs.length := by simp
  have hleno : (os.map fun x => (intC x).map AV.val).length = os.length := by simp
  have hh := Lib.hid (fun f => rharm_a M f (by omega))
  have HN := Lib.hid (show harmedN M R hs os day = if harmedB R hs os = true then trueTo M.wears R.falls hs os day R.falls.length else 0 from rfl)
  have HB := Lib.hid (show harmedB R hs os = (decide (hs.length = R.falls.length) && decide (os.length = R.falls.length) && trueOk R.falls hs os R.falls.length) from rfl)
  clear hm hr hm1 hr6
  generalize harmedN M R hs os day = hn at *
  generalize harmedB R hs os = hbb at *
  unfold modelA slA at *
  unfold ropeR slA
  generalize (M.wears.map fun x => (wearC x).map AV.val) = rw1 at *
  (refine PC.of' Try.func13 (by kernel_rfl) rfl (by simp only [Try.ntmps13, List.length_cons, List.length_nil, Nat.reduceAdd, Nat.reduceSub, List.replicate_succ, List.replicate_zero, List.cons_append, List.nil_append]; rfl) fun w0 S hM => ?_; have hF : Wf Fence.wide := .inl rfl)
  (repeat' (first | ((first | with_reducible refine AL.id_ ?_ | with_reducible refine AE.id_ ?_); first | refine AL.build0 hF rfl rfl rfl (fun b => ⟨_, (by simp only [AV.put]; rfl), ?_⟩) | refine W.s rfl rfl (by first | exact AY.bx rfl (by simp only [evO, AV.get]; rfl) rfl | exact hEQ rfl rfl rfl | exact Step2.sound (by first | (((first | (apply Step2.a; constructor) | (apply Step2.b; constructor)) <;> first | infer_instance | skip) <;> (first | infer_instance | (refine w64c ?_; omega) | (refine wu64c ?_; omega) | (refine bits64 ?_; omega) | (refine quo64c ?_; omega) | (refine rem64 ?_; omega) | ((repeat (first | exact .head _ | refine .tail _ ?_)); done) | assumption | (simp only [List.drop_succ_cons, List.drop_zero, List.length_map, Nat.zero_add, Nat.mul_one]; rfl) | rfl | omega | (simp; done))) | fail) rfl | exact AY.call rfl rfl _ rfl (by fail)) (by simp only [AV.put]; rfl) ?_ | (refine AL.nilK (hK _ _ ?_); clear hK K) | (refine AE.nil (hK _ ?_); clear hK K) | refine W.k rfl rfl (by simp only [AV.put]; rfl) ?_ | refine AL.unguardS rfl rfl ?_ | refine AL.al hF rfl rfl rfl (by first | (simp only [Value.cells, List.map_cons, List.map_nil]; rfl) | rfl) (fun b => ⟨_, (by simp only [AV.put]; rfl), ?_⟩) | refine AL.st1 hF rfl rfl rfl rfl (by simp only [evO, AV.get]; rfl) (by first | exact hget0 | exact hget1 | exact hget2 | exact hget3 | exact hget4 | exact hget5 | exact hget6 | exact hget7) (by rfl) rfl (by rfl) (by first | (simp; done) | (simp; omega)) (by simp only [List.set]; rfl) ?_ | refine AL.stW hF rfl rfl rfl rfl (by simp only [evO, AV.get]; rfl) (by first | exact hget0 | exact hget1 | exact hget2 | exact hget3 | exact hget4 | exact hget5 | exact hget6 | exact hget7) (by rfl) (by rfl) (by rfl) (by first | rfl | simp) (by simp only [List.set]; rfl) ?_) | (with_reducible refine Awp.id_ ?_; first | refine Awp.seq ?_ | refine Awp.regionK (by first | (simp only [AV.putO, AV.put]; rfl) | rfl) (fun K hK => ?_) | refine Awp.drawE (by first | (simp only [AV.putO, AV.put]; rfl) | rfl) mixed rfl (by kernel_rfl) (fun K hK => ?_) | refine Awp.block ?_ | refine Awp.skip ?_ | refine Awp.exit ?_ | refine Awp.ret ?_ | refine Awp.condT rfl ?_ | refine Awp.condF rfl ?_) | refine thenA_n ?_ | refine thenA_e ?_ | refine thenA_r ?_ | refine inBlockA_n ?_ | refine inBlockA_r ?_ | refine inBlockA_s ?_ | refine inBlockA_d rfl ?_ | ((first | ((first | with_reducible refine AL.id_ ?_ | with_reducible refine AE.id_ ?_); (fail_if_success refine W.on rfl ?_); refine W.p rfl rfl (by simp only [AV.put]; rfl) (by simp only [AV.put]; rfl) (fun hb => ?_) (fun hb => ?_)) | (with_reducible refine Awp.id_ ?_; refine Awp.cond _ rfl (fun hb => ?_) (fun hb => ?_))) <;> (try simp only [z1, z2, z3, z4, z5, z6, z7, z8, y5, y6, y7, y8, z9, x1, x2, x3, x4, x5, x6, x7, x8] at hb; try (exfalso; omega)))))
  · exact retTwo rfl (by first | (simp only [AV.get, AV.put]; done) | (simp only [AV.get, AV.put]; rfl) | rfl) (by first | (simp only [AV.get, AV.put]; done) | (simp only [AV.get, AV.put]; rfl) | rfl) (Out.int (by rw [HN.out, HB.out]; simp; intro h; exact absurd h (by omega))) (Out.bool (by rw [HB.out]; simp; intro h; exact absurd h (by omega)))
  · exact retTwo rfl (by first | (simp only [AV.get, AV.put]; done) | (simp only [AV.get, AV.put]; rfl) | rfl) (by first | (simp only [AV.get, AV.put]; done) | (simp only [AV.get, AV.put]; rfl) | rfl) (Out.int (by rw [HN.out, HB.out]; simp; intro _ h; exact absurd h (by omega))) (Out.bool (by rw [HB.out]; simp; intro _ h; exact absurd h (by omega)))
  have hh1 : hs.length = R.falls.length := by omega
  have ho1 : os.length = R.falls.length := by omega
  have HB2 := Lib.hid (show hbb = trueOk R.falls hs os R.falls.length by rw [HB.out]; simp [hh1, ho1])
  clear HB
  refine Awp.loopM [8, 9, 12, 29, 30, 31, 32, 33, 34, 35, 36, 37, 38, 39, 40, 41, 42, 43, 44, 45, 46, 47, 48, 49, 50, 51, 52, 53, 54, 55, 56, 57, 58, 59, 60, 61, 62, 63, 64, 65, 66, 67, 68, 69, 70, 71, 72, 73, 74, 75, 76, 77, 78, 79, 80, 81, 82, 83, 84, 85, 86, 87, 88, 89, 90, 91, 92, 93, 94, 95, 96, 97, 98, 99, 100, 101] [10, 11] (fun n vs H => ∃ k : Nat, n + k = R.falls.length ∧ vs = [.int (trueTo M.wears R.falls hs os day k), .int k] ∧ trueOk R.falls hs os k = true ∧ H = []) R.falls.length ⟨0, rfl, rfl, rfl, rfl⟩ ?_
  rintro n ju vs H ⟨k, hk, rfl, hok, rfl⟩
  have HOK := Lib.hid hok
  clear hok
  (refine Awp.slots (by first | (simp only [putl, mask, AV.put]; rfl) | rfl) ?_)
  by_cases hlt : k < R.falls.length
  · have hrow : (R.falls.map fun x => (fallC x).map AV.val)[k]? = some [.int R.falls[k].day, .int R.falls[k].hlo, .int R.falls[k].hhi, .int R.falls[k].olo, .int R.falls[k].ohi] := by rw [List.getElem?_map, List.getElem?_eq_getElem hlt]; rfl
    have hltH : k < hs.length := by omega
    have hltO : k < os.length := by omega
    have hrow2 : (hs.map fun x => (intC x).map AV.val)[k]? = some [.int hs[k]] := slA_at intC hs k hltH
    have hrow3 : (os.map fun x => (intC x).map AV.val)[k]? = some [.int os[k]] := slA_at intC os k hltO
    have hx1 := hbt.out k
    have hx3 := hfa.out k hlt
    have HS := Lib.hid (trueOk_succ R.falls hs os k hlt hltH hltO)
    have HT := Lib.hid (trueTo_succ M.wears R.falls hs os day k hlt hltH hltO)
    have HBAD := Lib.hid (show (withinB hs[k] R.falls[k].hlo R.falls[k].hhi && withinB os[k] R.falls[k].olo R.falls[k].ohi) = false → hbb = false from fun h => by
      have hx : trueOk R.falls hs os R.falls.length = false := by
        cases hx : trueOk R.falls hs os R.falls.length with
        | false => rfl
        | true =>
          have := trueOk_mono (k := k + 1) hlt hx
          rw [HS.out, HOK.out, h] at this
          cases this
      rw [HB2.out, hx])
    have hx4 := hhv.out (facV hs[k] os[k])
    have hy4 := hh.out (facV hs[k] os[k])
    have hf4 : (R.falls[k].hlo ≤ hs[k] ∧ hs[k] ≤ R.falls[k].hhi ∧ R.falls[k].olo ≤ os[k] ∧ os[k] ≤ R.falls[k].ohi) → PC Try.prog 46 [.int hs[k], .int os[k]] (.int (facV hs[k] os[k])) := fun h => rfactor_a hs[k] os[k] (by omega) (by omega) (by omega) (by omega)
    have HF4 := Lib.hid hf4
    clear hf4
    generalize harmV M.wears (facV hs[k] os[k]) = v4 at *
    generalize trueTo M.wears R.falls hs os day k = s4 at *
    (repeat' (first | ((first | with_reducible refine AL.id_ ?_ | with_reducible refine AE.id_ ?_); first | refine AL.build0 hF rfl rfl rfl (fun b => ⟨_, (by simp only [AV.put]; rfl), ?_⟩) | refine W.s rfl rfl (by first | exact AY.bx rfl (by simp only [evO, AV.get]; rfl) rfl | exact hEQ rfl rfl rfl | exact Step2.sound (by first | (((first | (apply Step2.a; constructor) | (apply Step2.b; constructor)) <;> first | infer_instance | skip) <;> (first | infer_instance | (refine w64c ?_; omega) | (refine wu64c ?_; omega) | (refine bits64 ?_; omega) | (refine quo64c ?_; omega) | (refine rem64 ?_; omega) | ((repeat (first | exact .head _ | refine .tail _ ?_)); done) | assumption | (simp only [List.drop_succ_cons, List.drop_zero, List.length_map, Nat.zero_add, Nat.mul_one]; rfl) | rfl | omega | (simp; done))) | fail) rfl | exact AY.call rfl rfl _ rfl (by first | exact HF4.out ⟨by omega, by omega, by omega, by omega⟩ | exact hy4)) (by simp only [AV.put]; rfl) ?_ | (refine AL.nilK (hK _ _ ?_); clear hK K) | (refine AE.nil (hK _ ?_); clear hK K) | refine W.k rfl rfl (by simp only [AV.put]; rfl) ?_ | refine AL.unguardS rfl rfl ?_ | refine AL.al hF rfl rfl rfl (by first | (simp only [Value.cells, List.map_cons, List.map_nil]; rfl) | rfl) (fun b => ⟨_, (by simp only [AV.put]; rfl), ?_⟩) | refine AL.st1 hF rfl rfl rfl rfl (by simp only [evO, AV.get]; rfl) (by first | exact hget0 | exact hget1 | exact hget2 | exact hget3 | exact hget4 | exact hget5 | exact hget6 | exact hget7) (by rfl) rfl (by rfl) (by first | (simp; done) | (simp; omega)) (by simp only [List.set]; rfl) ?_ | refine AL.stW hF rfl rfl rfl rfl (by simp only [evO, AV.get]; rfl) (by first | exact hget0 | exact hget1 | exact hget2 | exact hget3 | exact hget4 | exact hget5 | exact hget6 | exact hget7) (by rfl) (by rfl) (by rfl) (by first | rfl | simp) (by simp only [List.set]; rfl) ?_) | (with_reducible refine Awp.id_ ?_; first | refine Awp.seq ?_ | refine Awp.regionK (by first | (simp only [AV.putO, AV.put]; rfl) | rfl) (fun K hK => ?_) | refine Awp.drawE (by first | (simp only [AV.putO, AV.put]; rfl) | rfl) mixed rfl (by kernel_rfl) (fun K hK => ?_) | refine Awp.block ?_ | refine Awp.skip ?_ | refine Awp.exit ?_ | refine Awp.ret ?_ | refine Awp.condT rfl ?_ | refine Awp.condF rfl ?_) | refine thenA_n ?_ | refine thenA_e ?_ | refine thenA_r ?_ | refine inBlockA_n ?_ | refine inBlockA_r ?_ | refine inBlockA_s ?_ | refine inBlockA_d rfl ?_ | ((first | ((first | with_reducible refine AL.id_ ?_ | with_reducible refine AE.id_ ?_); (fail_if_success refine W.on rfl ?_); refine W.p rfl rfl (by simp only [AV.put]; rfl) (by simp only [AV.put]; rfl) (fun hb => ?_) (fun hb => ?_)) | (with_reducible refine Awp.id_ ?_; refine Awp.cond _ rfl (fun hb => ?_) (fun hb => ?_))) <;> (try simp only [z1, z2, z3, z4, z5, z6, z7, z8, y5, y6, y7, y8, z9, x1, x2, x3, x4, x5, x6, x7, x8] at hb; try (exfalso; omega)))))
    all_goals first
      | (refine retTwo rfl (by first | (simp only [AV.get, AV.put]; done) | (simp only [AV.get, AV.put]; rfl) | rfl) (by first | (simp only [AV.get, AV.put]; done) | (simp only [AV.get, AV.put]; rfl) | rfl) (Out.int ?_) (Out.bool (HBAD.out ?_).symm); (rw [HN.out, HBAD.out ?_]; rfl); all_goals (clear HF4 hy4 HBAD hM hF; unfold withinB; simp; omega))
      | ((refine loopEndD (n - 1) (List.sublist_cons_self _ _) (by first | (simp only [AV.putO, AV.put]; rfl) | rfl) (by omega) ?_ (by simp only [List.map, AV.get, mask, putl, AV.put])); refine ⟨k + 1, by omega, int2 (by rw [HT.out, if_pos (by assumption)]) rfl, ?_, rfl⟩; rw [HS.out, HOK.out]; clear HF4 hy4 HBAD hM hF; unfold withinB; simp; omega)
      | ((refine loopEndD (n - 1) (List.sublist_cons_self _ _) (by first | (simp only [AV.putO, AV.put]; rfl) | rfl) (by omega) ?_ (by simp only [List.map, AV.get, mask, putl, AV.put])); refine ⟨k + 1, by omega, int2 (by rw [HT.out, if_neg (by omega), Int.add_zero]) rfl, ?_, rfl⟩; rw [HS.out, HOK.out]; clear HF4 hy4 HBAD hM hF; unfold withinB; simp; omega)
  · obtain rfl : k = R.falls.length := by omega
    (repeat' (first | ((first | with_reducible refine AL.id_ ?_ | with_reducible refine AE.id_ ?_); first | refine AL.build0 hF rfl rfl rfl (fun b => ⟨_, (by simp only [AV.put]; rfl), ?_⟩) | refine W.s rfl rfl (by first | exact AY.bx rfl (by simp only [evO, AV.get]; rfl) rfl | exact hEQ rfl rfl rfl | exact Step2.sound (by first | (((first | (apply Step2.a; constructor) | (apply Step2.b; constructor)) <;> first | infer_instance | skip) <;> (first | infer_instance | (refine w64c ?_; omega) | (refine wu64c ?_; omega) | (refine bits64 ?_; omega) | (refine quo64c ?_; omega) | (refine rem64 ?_; omega) | ((repeat (first | exact .head _ | refine .tail _ ?_)); done) | assumption | (simp only [List.drop_succ_cons, List.drop_zero, List.length_map, Nat.zero_add, Nat.mul_one]; rfl) | rfl | omega | (simp; done))) | fail) rfl | exact AY.call rfl rfl _ rfl (by fail)) (by simp only [AV.put]; rfl) ?_ | (refine AL.nilK (hK _ _ ?_); clear hK K) | (refine AE.nil (hK _ ?_); clear hK K) | refine W.k rfl rfl (by simp only [AV.put]; rfl) ?_ | refine AL.unguardS rfl rfl ?_ | refine AL.al hF rfl rfl rfl (by first | (simp only [Value.cells, List.map_cons, List.map_nil]; rfl) | rfl) (fun b => ⟨_, (by simp only [AV.put]; rfl), ?_⟩) | refine AL.st1 hF rfl rfl rfl rfl (by simp only [evO, AV.get]; rfl) (by first | exact hget0 | exact hget1 | exact hget2 | exact hget3 | exact hget4 | exact hget5 | exact hget6 | exact hget7) (by rfl) rfl (by rfl) (by first | (simp; done) | (simp; omega)) (by simp only [List.set]; rfl) ?_ | refine AL.stW hF rfl rfl rfl rfl (by simp only [evO, AV.get]; rfl) (by first | exact hget0 | exact hget1 | exact hget2 | exact hget3 | exact hget4 | exact hget5 | exact hget6 | exact hget7) (by rfl) (by rfl) (by rfl) (by first | rfl | simp) (by simp only [List.set]; rfl) ?_) | (with_reducible refine Awp.id_ ?_; first | refine Awp.seq ?_ | refine Awp.regionK (by first | (simp only [AV.putO, AV.put]; rfl) | rfl) (fun K hK => ?_) | refine Awp.drawE (by first | (simp only [AV.putO, AV.put]; rfl) | rfl) mixed rfl (by kernel_rfl) (fun K hK => ?_) | refine Awp.block ?_ | refine Awp.skip ?_ | refine Awp.exit ?_ | refine Awp.ret ?_ | refine Awp.condT rfl ?_ | refine Awp.condF rfl ?_) | refine thenA_n ?_ | refine thenA_e ?_ | refine thenA_r ?_ | refine inBlockA_n ?_ | refine inBlockA_r ?_ | refine inBlockA_s ?_ | refine inBlockA_d rfl ?_ | ((first | ((first | with_reducible refine AL.id_ ?_ | with_reducible refine AE.id_ ?_); (fail_if_success refine W.on rfl ?_); refine W.p rfl rfl (by simp only [AV.put]; rfl) (by simp only [AV.put]; rfl) (fun hb => ?_) (fun hb => ?_)) | (with_reducible refine Awp.id_ ?_; refine Awp.cond _ rfl (fun hb => ?_) (fun hb => ?_))) <;> (try simp only [z1, z2, z3, z4, z5, z6, z7, z8, y5, y6, y7, y8, z9, x1, x2, x3, x4, x5, x6, x7, x8] at hb; try (exfalso; omega)))))
    exact retTwo rfl (by first | (simp only [AV.get, AV.put]; done) | (simp only [AV.get, AV.put]; rfl) | rfl) (by first | (simp only [AV.get, AV.put]; done) | (simp only [AV.get, AV.put]; rfl) | rfl) (Out.int (by rw [HN.out, if_pos (HB2.out.trans HOK.out)])) (Out.bool (HB2.out.trans HOK.out).symm)
end Go.Proofs.Ytchinfamepolkaa
