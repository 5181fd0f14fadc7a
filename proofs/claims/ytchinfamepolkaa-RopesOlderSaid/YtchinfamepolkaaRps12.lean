/- Ropes: the iterator over teams. -/
import Derived.Test.YtchinfamepolkaaRps11
namespace Go.Proofs.Ytchinfamepolkaa
set_option linter.unusedSimpArgs false
set_option linter.unusedVariables false
set_option linter.unusedSectionVars false
open Go Go.Proofs Go.RowKit
set_option maxHeartbeats 4000000
set_option maxRecDepth 20000

theorem teams_it (O : Outing) (one : Bool) (hl : OutLen O) (he : checkE O = 0) : IterM Try.prog one 100 [] [.rp [.rp (outingA O)]] ((teamsV O).map (argsOf one)) := by
  refine ⟨enters_of Try.func100 (by kernel_rfl) rfl, fun lp T J Jx X hcJ hcx hone hy => ?_⟩
  have hob := (check_ok he).2.2
  obtain ⟨_, _, hsp, hG4, hgb, hC6, hcb, hr6⟩ := out_bd hob
  have HNX := Lib.hid (next_m O one)
  have hleads := Lib.hid (fun (k : Nat) hk => leads_a O k hk hl.g)
  have hroped := Lib.hid (fun l rc h1 h2 => roped_m O l rc hob h1 h2)
  unfold outingA outA slA at hleads hroped ⊢
  simp only [List.cons_append, List.nil_append] at hleads hroped ⊢
  obtain ⟨gg, hgg⟩ : ∃ gg, gg = O.guides.map fun x => (guideC x).map AV.val := ⟨_, rfl⟩
  obtain ⟨cl, hcl⟩ : ∃ cl, cl = O.clients.map fun x => (intC x).map AV.val := ⟨_, rfl⟩
  rw [← hgg, ← hcl] at hleads hroped ⊢
  have hggl : gg.length = O.guides.length := by rw [hgg]; simp
  generalize AV.sl 2 (O.model.wears.map fun x => (wearC x).map AV.val) = a8 at *
  generalize AV.sl 4 (O.ropes.map fun r => ropeR r.rope) = a9 at *
  generalize AV.sl 1 ((fitA O).toList.map fun x => (natI x).map AV.val) = a10 at *
  (refine MCT.of Try.func100 (by kernel_rfl) rfl (by simp only [Try.ntmps100, List.length_cons, List.length_nil, Nat.reduceAdd, Nat.reduceSub, List.replicate_succ, List.replicate_zero, List.cons_append, List.nil_append]; rfl) fun w0 S hM hT => ?_; have hF : Wf Fence.wide := .inl rfl)
  refine Awp.seq ?_
  refine Awp.regionK (by first | (simp only [AV.putO, AV.put]; rfl) | rfl) (fun K hK => ?_)
  refine AL.ef hF rfl (EF.box rfl rfl rfl fun by_ => ?_)
  refine AL.norm (by simp only [AV.putO, AV.put]; rfl) rfl ?_
  refine AL.nilK (hK _ _ ?_)
  clear hK K
  refine thenA_n ?_
  refine Awp.seq ?_
  refine Awp.drawC hF (fun t H => ∃ b3 b4 b13 b20 : Nat, t = [.val (.func (.yield lp) #[] #[]), .rp [.rp [.int O.day, .int O.grade, .int O.spacing, .sl 3 gg, .sl 1 cl, .int O.model.shelf, .int O.model.use, .int O.model.bears, a8, a9, a10]], .val (ptr by_), .val (ptr b3), .val (ptr b4), .undef, .undef,
    .rp [.int O.day, .int O.grade, .int O.spacing, .sl 3 gg, .sl 1 cl, .int O.model.shelf, .int O.model.use, .int O.model.bears, a8, a9, a10], .rp [.int O.day, .int O.grade, .int O.spacing, .sl 3 gg, .sl 1 cl, .int O.model.shelf, .int O.model.use, .int O.model.bears, a8, a9, a10], .rp [.int O.day, .int O.grade, .int O.spacing, .sl 3 gg, .sl 1 cl, .int O.model.shelf, .int O.model.use, .int O.model.bears, a8, a9, a10], .rp [.sl 3 gg, .sl 1 cl, .int O.model.shelf, .int O.model.use, .int O.model.bears, a8, a9, a10], .sl 3 gg, .int O.guides.length, .val (.slice (some ⟨b13, 0, none⟩) O.guides.length O.guides.length),
    .rp [.int O.day, .int O.grade, .int O.spacing, .sl 3 gg, .sl 1 cl, .int O.model.shelf, .int O.model.use, .int O.model.bears, a8, a9, a10], .rp [.int O.day, .int O.grade, .int O.spacing, .sl 3 gg, .sl 1 cl, .int O.model.shelf, .int O.model.use, .int O.model.bears, a8, a9, a10], .rp [.int O.day, .int O.grade, .int O.spacing, .sl 3 gg, .sl 1 cl, .int O.model.shelf, .int O.model.use, .int O.model.bears, a8, a9, a10], .rp [.sl 3 gg, .sl 1 cl, .int O.model.shelf, .int O.model.use, .int O.model.bears, a8, a9, a10], .sl 3 gg, .int O.guides.length, .val (.slice (some ⟨b20, 0, none⟩) O.guides.length O.guides.length), .undef, .undef, .undef] ∧
    H.Perm [.blk b3 28 [.val (.slice (some ⟨b13, 0, none⟩) O.guides.length O.guides.length)], .blk b4 28 [.val (.slice (some ⟨b20, 0, none⟩) O.guides.length O.guides.length)], .blk b13 3 ((List.range (O.guides.length * 1)).map fun j => AV.val ((Value.int .i64 0).cells.getD (j % 1) undef)), .blk b20 3 ((List.range (O.guides.length * 1)).map fun j => AV.val ((Value.int .i64 0).cells.getD (j % 1) undef)),
      .blk by_ 52 [.val (.func (.yield lp) #[] #[])], .nodef, .ghost X (J 0)]) (by first | (simp only [AV.putO, AV.put]; rfl) | rfl) rfl mixed ?_ ?_
  · skip
    refine anyB_pure 0 rfl (by kernel_rfl) rfl rfl (fun H => (by first | exact Step2.sound (by first | (((first | (apply Step2.a; constructor) | (apply Step2.b; constructor)) <;> first | infer_instance | skip) <;> (first | infer_instance | (refine w64c ?_; omega) | (refine wu64c ?_; omega) | (refine bits64 ?_; omega) | (refine quo64c ?_; omega) | (refine rem64 ?_; omega) | ((repeat (first | exact .head _ | refine .tail _ ?_)); done) | assumption | (simp only [List.drop_succ_cons, List.drop_zero, List.length_map, Nat.zero_add, Nat.mul_one]; rfl) | rfl | omega | (simp; done))) | fail) rfl | exact AY.old1k 0 rfl rfl rfl (by first | assumption | rfl) | exact AY.old1k 1 rfl rfl rfl (by first | assumption | rfl) | exact AY.old1k 2 rfl rfl rfl (by first | assumption | rfl) | exact AY.oldNk 0 rfl rfl rfl (by first | omega | (simp; omega)) (by first | assumption | rfl) | exact AY.oldNk 1 rfl rfl rfl (by first | omega | (simp; omega)) (by first | assumption | rfl))) (by simp only [AV.put]; rfl) ?_
    (first | refine anyB_pure 1 rfl (by kernel_rfl) rfl rfl (fun H => (by first | exact AY.bx rfl (by simp only [evO, AV.get]; rfl) rfl | exact AY.mkFn rfl (by simp only [List.map_cons, List.map_nil, evO, AV.get]; rfl) | exact AY.mkFn1 rfl (by simp only [evO, AV.get]; rfl) (by simp only [List.map_cons, List.map_nil, evO, AV.get]; rfl) | exact hEQ rfl rfl rfl | exact Step2.sound (by first | (((first | (apply Step2.a; constructor) | (apply Step2.b; constructor)) <;> first | infer_instance | skip) <;> (first | infer_instance | (refine w64c ?_; omega) | (refine wu64c ?_; omega) | (refine bits64 ?_; omega) | (refine quo64c ?_; omega) | (refine rem64 ?_; omega) | ((repeat (first | exact .head _ | refine .tail _ ?_)); done) | assumption | (simp only [List.drop_succ_cons, List.drop_zero, List.length_map, Nat.zero_add, Nat.mul_one]; rfl) | rfl | omega | (simp; done))) | fail) rfl | exact AY.call rfl rfl _ rfl (by fail) | exact AY.slice1 rfl rfl rfl (by rfl) (by first | (simp; done) | fail) | exact AY.callF rfl _ _ rfl _ rfl (by fail) | exact AY.old1k 0 rfl rfl rfl (by first | assumption | rfl) | exact AY.old1k 1 rfl rfl rfl (by first | assumption | rfl) | exact AY.old1k 2 rfl rfl rfl (by first | assumption | rfl) | exact AY.oldNk 0 rfl rfl rfl (by first | omega | (simp; omega)) (by first | assumption | rfl) | exact AY.oldNk 1 rfl rfl rfl (by first | omega | (simp; omega)) (by first | assumption | rfl))) (by simp only [AV.put]; rfl) ?_ | refine anyB_calm 1 rfl (by kernel_rfl) rfl rfl (by first | exact AY.bx rfl (by simp only [evO, AV.get]; rfl) rfl | exact AY.mkFn rfl (by simp only [List.map_cons, List.map_nil, evO, AV.get]; rfl) | exact AY.mkFn1 rfl (by simp only [evO, AV.get]; rfl) (by simp only [List.map_cons, List.map_nil, evO, AV.get]; rfl) | exact hEQ rfl rfl rfl | exact Step2.sound (by first | (((first | (apply Step2.a; constructor) | (apply Step2.b; constructor)) <;> first | infer_instance | skip) <;> (first | infer_instance | (refine w64c ?_; omega) | (refine wu64c ?_; omega) | (refine bits64 ?_; omega) | (refine quo64c ?_; omega) | (refine rem64 ?_; omega) | ((repeat (first | exact .head _ | refine .tail _ ?_)); done) | assumption | (simp only [List.drop_succ_cons, List.drop_zero, List.length_map, Nat.zero_add, Nat.mul_one]; rfl) | rfl | omega | (simp; done))) | fail) rfl | exact AY.call rfl rfl _ rfl (by fail) | exact AY.slice1 rfl rfl rfl (by rfl) (by first | (simp; done) | fail) | exact AY.callF rfl _ _ rfl _ rfl (by fail) | exact AY.old1k 0 rfl rfl rfl (by first | assumption | rfl) | exact AY.old1k 1 rfl rfl rfl (by first | assumption | rfl) | exact AY.old1k 2 rfl rfl rfl (by first | assumption | rfl) | exact AY.oldNk 0 rfl rfl rfl (by first | omega | (simp; omega)) (by first | assumption | rfl) | exact AY.oldNk 1 rfl rfl rfl (by first | omega | (simp; omega)) (by first | assumption | rfl)) (by simp only [AV.put]; rfl) ?_)
    refine anyB_pure 2 rfl (by kernel_rfl) rfl rfl (fun H => Step2.sound (by first | (((first | (apply Step2.a; constructor) | (apply Step2.b; constructor)) <;> first | infer_instance | skip) <;> (first | infer_instance | (refine w64c ?_; omega) | (refine wu64c ?_; omega) | (refine bits64 ?_; omega) | (refine quo64c ?_; omega) | (refine rem64 ?_; omega) | ((repeat (first | exact .head _ | refine .tail _ ?_)); done) | assumption | (simp only [List.drop_succ_cons, List.drop_zero, List.length_map, Nat.zero_add, Nat.mul_one]; rfl) | rfl | omega | (simp; done))) | fail) rfl) (by simp only [AV.put]; rfl) ?_
    refine anyB_pure 3 rfl (by kernel_rfl) rfl rfl (fun H => Step2.sound (by first | (((first | (apply Step2.a; constructor) | (apply Step2.b; constructor)) <;> first | infer_instance | skip) <;> (first | infer_instance | (refine w64c ?_; omega) | (refine wu64c ?_; omega) | (refine bits64 ?_; omega) | (refine quo64c ?_; omega) | (refine rem64 ?_; omega) | ((repeat (first | exact .head _ | refine .tail _ ?_)); done) | assumption | (simp only [List.drop_succ_cons, List.drop_zero, List.length_map, Nat.zero_add, Nat.mul_one]; rfl) | rfl | omega | (simp; done))) | fail) rfl) (by simp only [AV.put]; rfl) ?_
    refine anyB_pure 4 rfl (by kernel_rfl) rfl rfl (fun H => (by first | exact Step2.sound (by first | (((first | (apply Step2.a; constructor) | (apply Step2.b; constructor)) <;> first | infer_instance | skip) <;> (first | infer_instance | (refine w64c ?_; omega) | (refine wu64c ?_; omega) | (refine bits64 ?_; omega) | (refine quo64c ?_; omega) | (refine rem64 ?_; omega) | ((repeat (first | exact .head _ | refine .tail _ ?_)); done) | assumption | (simp only [List.drop_succ_cons, List.drop_zero, List.length_map, Nat.zero_add, Nat.mul_one]; rfl) | rfl | omega | (simp; done))) | fail) rfl | exact AY.old1k 0 rfl rfl rfl (by first | assumption | rfl) | exact AY.old1k 1 rfl rfl rfl (by first | assumption | rfl) | exact AY.old1k 2 rfl rfl rfl (by first | assumption | rfl) | exact AY.oldNk 0 rfl rfl rfl (by first | omega | (simp; omega)) (by first | assumption | rfl) | exact AY.oldNk 1 rfl rfl rfl (by first | omega | (simp; omega)) (by first | assumption | rfl))) (by simp only [AV.put]; rfl) ?_
    (first | refine anyB_pure 5 rfl (by kernel_rfl) rfl rfl (fun H => (by first | exact AY.bx rfl (by simp only [evO, AV.get]; rfl) rfl | exact AY.mkFn rfl (by simp only [List.map_cons, List.map_nil, evO, AV.get]; rfl) | exact AY.mkFn1 rfl (by simp only [evO, AV.get]; rfl) (by simp only [List.map_cons, List.map_nil, evO, AV.get]; rfl) | exact hEQ rfl rfl rfl | exact Step2.sound (by first | (((first | (apply Step2.a; constructor) | (apply Step2.b; constructor)) <;> first | infer_instance | skip) <;> (first | infer_instance | (refine w64c ?_; omega) | (refine wu64c ?_; omega) | (refine bits64 ?_; omega) | (refine quo64c ?_; omega) | (refine rem64 ?_; omega) | ((repeat (first | exact .head _ | refine .tail _ ?_)); done) | assumption | (simp only [List.drop_succ_cons, List.drop_zero, List.length_map, Nat.zero_add, Nat.mul_one]; rfl) | rfl | omega | (simp; done))) | fail) rfl | exact AY.call rfl rfl _ rfl (by fail) | exact AY.slice1 rfl rfl rfl (by rfl) (by first | (simp; done) | fail) | exact AY.callF rfl _ _ rfl _ rfl (by fail) | exact AY.old1k 0 rfl rfl rfl (by first | assumption | rfl) | exact AY.old1k 1 rfl rfl rfl (by first | assumption | rfl) | exact AY.old1k 2 rfl rfl rfl (by first | assumption | rfl) | exact AY.oldNk 0 rfl rfl rfl (by first | omega | (simp; omega)) (by first | assumption | rfl) | exact AY.oldNk 1 rfl rfl rfl (by first | omega | (simp; omega)) (by first | assumption | rfl))) (by simp only [AV.put]; rfl) ?_ | refine anyB_calm 5 rfl (by kernel_rfl) rfl rfl (by first | exact AY.bx rfl (by simp only [evO, AV.get]; rfl) rfl | exact AY.mkFn rfl (by simp only [List.map_cons, List.map_nil, evO, AV.get]; rfl) | exact AY.mkFn1 rfl (by simp only [evO, AV.get]; rfl) (by simp only [List.map_cons, List.map_nil, evO, AV.get]; rfl) | exact hEQ rfl rfl rfl | exact Step2.sound (by first | (((first | (apply Step2.a; constructor) | (apply Step2.b; constructor)) <;> first | infer_instance | skip) <;> (first | infer_instance | (refine w64c ?_; omega) | (refine wu64c ?_; omega) | (refine bits64 ?_; omega) | (refine quo64c ?_; omega) | (refine rem64 ?_; omega) | ((repeat (first | exact .head _ | refine .tail _ ?_)); done) | assumption | (simp only [List.drop_succ_cons, List.drop_zero, List.length_map, Nat.zero_add, Nat.mul_one]; rfl) | rfl | omega | (simp; done))) | fail) rfl | exact AY.call rfl rfl _ rfl (by fail) | exact AY.slice1 rfl rfl rfl (by rfl) (by first | (simp; done) | fail) | exact AY.callF rfl _ _ rfl _ rfl (by fail) | exact AY.old1k 0 rfl rfl rfl (by first | assumption | rfl) | exact AY.old1k 1 rfl rfl rfl (by first | assumption | rfl) | exact AY.old1k 2 rfl rfl rfl (by first | assumption | rfl) | exact AY.oldNk 0 rfl rfl rfl (by first | omega | (simp; omega)) (by first | assumption | rfl) | exact AY.oldNk 1 rfl rfl rfl (by first | omega | (simp; omega)) (by first | assumption | rfl)) (by simp only [AV.put]; rfl) ?_)
    refine anyB_pure 7 rfl (by kernel_rfl) rfl rfl (fun H => (by first | exact Step2.sound (by first | (((first | (apply Step2.a; constructor) | (apply Step2.b; constructor)) <;> first | infer_instance | skip) <;> (first | infer_instance | (refine w64c ?_; omega) | (refine wu64c ?_; omega) | (refine bits64 ?_; omega) | (refine quo64c ?_; omega) | (refine rem64 ?_; omega) | ((repeat (first | exact .head _ | refine .tail _ ?_)); done) | assumption | (simp only [List.drop_succ_cons, List.drop_zero, List.length_map, Nat.zero_add, Nat.mul_one]; rfl) | rfl | omega | (simp; done))) | fail) rfl | exact AY.old1k 0 rfl rfl rfl (by first | assumption | rfl) | exact AY.old1k 1 rfl rfl rfl (by first | assumption | rfl) | exact AY.old1k 2 rfl rfl rfl (by first | assumption | rfl) | exact AY.oldNk 0 rfl rfl rfl (by first | omega | (simp; omega)) (by first | assumption | rfl) | exact AY.oldNk 1 rfl rfl rfl (by first | omega | (simp; omega)) (by first | assumption | rfl))) (by simp only [AV.put]; rfl) ?_
    (first | refine anyB_pure 8 rfl (by kernel_rfl) rfl rfl (fun H => (by first | exact AY.bx rfl (by simp only [evO, AV.get]; rfl) rfl | exact AY.mkFn rfl (by simp only [List.map_cons, List.map_nil, evO, AV.get]; rfl) | exact AY.mkFn1 rfl (by simp only [evO, AV.get]; rfl) (by simp only [List.map_cons, List.map_nil, evO, AV.get]; rfl) | exact hEQ rfl rfl rfl | exact Step2.sound (by first | (((first | (apply Step2.a; constructor) | (apply Step2.b; constructor)) <;> first | infer_instance | skip) <;> (first | infer_instance | (refine w64c ?_; omega) | (refine wu64c ?_; omega) | (refine bits64 ?_; omega) | (refine quo64c ?_; omega) | (refine rem64 ?_; omega) | ((repeat (first | exact .head _ | refine .tail _ ?_)); done) | assumption | (simp only [List.drop_succ_cons, List.drop_zero, List.length_map, Nat.zero_add, Nat.mul_one]; rfl) | rfl | omega | (simp; done))) | fail) rfl | exact AY.call rfl rfl _ rfl (by fail) | exact AY.slice1 rfl rfl rfl (by rfl) (by first | (simp; done) | fail) | exact AY.callF rfl _ _ rfl _ rfl (by fail) | exact AY.old1k 0 rfl rfl rfl (by first | assumption | rfl) | exact AY.old1k 1 rfl rfl rfl (by first | assumption | rfl) | exact AY.old1k 2 rfl rfl rfl (by first | assumption | rfl) | exact AY.oldNk 0 rfl rfl rfl (by first | omega | (simp; omega)) (by first | assumption | rfl) | exact AY.oldNk 1 rfl rfl rfl (by first | omega | (simp; omega)) (by first | assumption | rfl))) (by simp only [AV.put]; rfl) ?_ | refine anyB_calm 8 rfl (by kernel_rfl) rfl rfl (by first | exact AY.bx rfl (by simp only [evO, AV.get]; rfl) rfl | exact AY.mkFn rfl (by simp only [List.map_cons, List.map_nil, evO, AV.get]; rfl) | exact AY.mkFn1 rfl (by simp only [evO, AV.get]; rfl) (by simp only [List.map_cons, List.map_nil, evO, AV.get]; rfl) | exact hEQ rfl rfl rfl | exact Step2.sound (by first | (((first | (apply Step2.a; constructor) | (apply Step2.b; constructor)) <;> first | infer_instance | skip) <;> (first | infer_instance | (refine w64c ?_; omega) | (refine wu64c ?_; omega) | (refine bits64 ?_; omega) | (refine quo64c ?_; omega) | (refine rem64 ?_; omega) | ((repeat (first | exact .head _ | refine .tail _ ?_)); done) | assumption | (simp only [List.drop_succ_cons, List.drop_zero, List.length_map, Nat.zero_add, Nat.mul_one]; rfl) | rfl | omega | (simp; done))) | fail) rfl | exact AY.call rfl rfl _ rfl (by fail) | exact AY.slice1 rfl rfl rfl (by rfl) (by first | (simp; done) | fail) | exact AY.callF rfl _ _ rfl _ rfl (by fail) | exact AY.old1k 0 rfl rfl rfl (by first | assumption | rfl) | exact AY.old1k 1 rfl rfl rfl (by first | assumption | rfl) | exact AY.old1k 2 rfl rfl rfl (by first | assumption | rfl) | exact AY.oldNk 0 rfl rfl rfl (by first | omega | (simp; omega)) (by first | assumption | rfl) | exact AY.oldNk 1 rfl rfl rfl (by first | omega | (simp; omega)) (by first | assumption | rfl)) (by simp only [AV.put]; rfl) ?_)
    refine anyB_pure 9 rfl (by kernel_rfl) rfl rfl (fun H => Step2.sound (by first | (((first | (apply Step2.a; constructor) | (apply Step2.b; constructor)) <;> first | infer_instance | skip) <;> (first | infer_instance | (refine w64c ?_; omega) | (refine wu64c ?_; omega) | (refine bits64 ?_; omega) | (refine quo64c ?_; omega) | (refine rem64 ?_; omega) | ((repeat (first | exact .head _ | refine .tail _ ?_)); done) | assumption | (simp only [List.drop_succ_cons, List.drop_zero, List.length_map, Nat.zero_add, Nat.mul_one]; rfl) | rfl | omega | (simp; done))) | fail) rfl) (by simp only [AV.put]; rfl) ?_
    refine anyB_pure 10 rfl (by kernel_rfl) rfl rfl (fun H => Step2.sound (by first | (((first | (apply Step2.a; constructor) | (apply Step2.b; constructor)) <;> first | infer_instance | skip) <;> (first | infer_instance | (refine w64c ?_; omega) | (refine wu64c ?_; omega) | (refine bits64 ?_; omega) | (refine quo64c ?_; omega) | (refine rem64 ?_; omega) | ((repeat (first | exact .head _ | refine .tail _ ?_)); done) | assumption | (simp only [List.drop_succ_cons, List.drop_zero, List.length_map, Nat.zero_add, Nat.mul_one]; rfl) | rfl | omega | (simp; done))) | fail) rfl) (by simp only [AV.put]; rfl) ?_
    refine anyB_pure 11 rfl (by kernel_rfl) rfl rfl (fun H => (by first | exact Step2.sound (by first | (((first | (apply Step2.a; constructor) | (apply Step2.b; constructor)) <;> first | infer_instance | skip) <;> (first | infer_instance | (refine w64c ?_; omega) | (refine wu64c ?_; omega) | (refine bits64 ?_; omega) | (refine quo64c ?_; omega) | (refine rem64 ?_; omega) | ((repeat (first | exact .head _ | refine .tail _ ?_)); done) | assumption | (simp only [List.drop_succ_cons, List.drop_zero, List.length_map, Nat.zero_add, Nat.mul_one]; rfl) | rfl | omega | (simp; done))) | fail) rfl | exact AY.old1k 0 rfl rfl rfl (by first | assumption | rfl) | exact AY.old1k 1 rfl rfl rfl (by first | assumption | rfl) | exact AY.old1k 2 rfl rfl rfl (by first | assumption | rfl) | exact AY.oldNk 0 rfl rfl rfl (by first | omega | (simp; omega)) (by first | assumption | rfl) | exact AY.oldNk 1 rfl rfl rfl (by first | omega | (simp; omega)) (by first | assumption | rfl))) (by simp only [AV.put]; rfl) ?_
    (first | refine anyB_pure 12 rfl (by kernel_rfl) rfl rfl (fun H => (by first | exact AY.bx rfl (by simp only [evO, AV.get]; rfl) rfl | exact AY.mkFn rfl (by simp only [List.map_cons, List.map_nil, evO, AV.get]; rfl) | exact AY.mkFn1 rfl (by simp only [evO, AV.get]; rfl) (by simp only [List.map_cons, List.map_nil, evO, AV.get]; rfl) | exact hEQ rfl rfl rfl | exact Step2.sound (by first | (((first | (apply Step2.a; constructor) | (apply Step2.b; constructor)) <;> first | infer_instance | skip) <;> (first | infer_instance | (refine w64c ?_; omega) | (refine wu64c ?_; omega) | (refine bits64 ?_; omega) | (refine quo64c ?_; omega) | (refine rem64 ?_; omega) | ((repeat (first | exact .head _ | refine .tail _ ?_)); done) | assumption | (simp only [List.drop_succ_cons, List.drop_zero, List.length_map, Nat.zero_add, Nat.mul_one]; rfl) | rfl | omega | (simp; done))) | fail) rfl | exact AY.call rfl rfl _ rfl (by fail) | exact AY.slice1 rfl rfl rfl (by rfl) (by first | (simp; done) | fail) | exact AY.callF rfl _ _ rfl _ rfl (by fail) | exact AY.old1k 0 rfl rfl rfl (by first | assumption | rfl) | exact AY.old1k 1 rfl rfl rfl (by first | assumption | rfl) | exact AY.old1k 2 rfl rfl rfl (by first | assumption | rfl) | exact AY.oldNk 0 rfl rfl rfl (by first | omega | (simp; omega)) (by first | assumption | rfl) | exact AY.oldNk 1 rfl rfl rfl (by first | omega | (simp; omega)) (by first | assumption | rfl))) (by simp only [AV.put]; rfl) ?_ | refine anyB_calm 12 rfl (by kernel_rfl) rfl rfl (by first | exact AY.bx rfl (by simp only [evO, AV.get]; rfl) rfl | exact AY.mkFn rfl (by simp only [List.map_cons, List.map_nil, evO, AV.get]; rfl) | exact AY.mkFn1 rfl (by simp only [evO, AV.get]; rfl) (by simp only [List.map_cons, List.map_nil, evO, AV.get]; rfl) | exact hEQ rfl rfl rfl | exact Step2.sound (by first | (((first | (apply Step2.a; constructor) | (apply Step2.b; constructor)) <;> first | infer_instance | skip) <;> (first | infer_instance | (refine w64c ?_; omega) | (refine wu64c ?_; omega) | (refine bits64 ?_; omega) | (refine quo64c ?_; omega) | (refine rem64 ?_; omega) | ((repeat (first | exact .head _ | refine .tail _ ?_)); done) | assumption | (simp only [List.drop_succ_cons, List.drop_zero, List.length_map, Nat.zero_add, Nat.mul_one]; rfl) | rfl | omega | (simp; done))) | fail) rfl | exact AY.call rfl rfl _ rfl (by fail) | exact AY.slice1 rfl rfl rfl (by rfl) (by first | (simp; done) | fail) | exact AY.callF rfl _ _ rfl _ rfl (by fail) | exact AY.old1k 0 rfl rfl rfl (by first | assumption | rfl) | exact AY.old1k 1 rfl rfl rfl (by first | assumption | rfl) | exact AY.old1k 2 rfl rfl rfl (by first | assumption | rfl) | exact AY.oldNk 0 rfl rfl rfl (by first | omega | (simp; omega)) (by first | assumption | rfl) | exact AY.oldNk 1 rfl rfl rfl (by first | omega | (simp; omega)) (by first | assumption | rfl)) (by simp only [AV.put]; rfl) ?_)
    refine anyB_enum [6, 13, 14, 15] (by kernel_rfl) ⟨?_, ?_, ?_, ?_, trivial⟩
    · (refine opB_ef rfl rfl rfl (EF.make _ rfl rfl rfl rfl rfl (by omega) (by omega) (by first | omega | (unfold maxLen; omega)) fun b13 => ?_); refine anyB_slots (AV.putO_some (by rfl) (by simp only [AV.put]; rfl)) rfl ?_)
      refine anyB_enum [13, 14, 15] (by kernel_rfl) ⟨?_, ?_, ?_, trivial⟩
      · (refine opB_ef rfl rfl rfl (EF.make _ rfl rfl rfl rfl rfl (by omega) (by omega) (by first | omega | (unfold maxLen; omega)) fun b20 => ?_); refine anyB_slots (AV.putO_some (by rfl) (by simp only [AV.put]; rfl)) rfl ?_)
        refine anyB_enum [14, 15] (by kernel_rfl) ⟨?_, ?_, trivial⟩
        · (refine opB_ef rfl rfl rfl (EF.alloc rfl (by first | (simp only [Value.cells, List.map_cons, List.map_nil]; rfl) | rfl) fun b3 => ?_); refine anyB_slots (AV.putO_some (by rfl) (by simp only [AV.put]; rfl)) rfl ?_)
          refine anyB_enum [15] (by kernel_rfl) ⟨?_, trivial⟩
          · (refine opB_ef rfl rfl rfl (EF.alloc rfl (by first | (simp only [Value.cells, List.map_cons, List.map_nil]; rfl) | rfl) fun b4 => ?_); refine anyB_slots (AV.putO_some (by rfl) (by simp only [AV.put]; rfl)) rfl ?_)
            refine anyB_enum [16] (by kernel_rfl) ⟨?_, trivial⟩
            · refine opB_st1 1 rfl rfl rfl rfl rfl (by simp only [evO, AV.get]; rfl) rfl (by rfl) rfl (by rfl) (by simp) (by simp only [List.set]; rfl) ?_
              refine anyB_enum [17] (by kernel_rfl) ⟨?_, trivial⟩
              · refine opB_st1 0 rfl rfl rfl rfl rfl (by simp only [evO, AV.get]; rfl) rfl (by rfl) rfl (by rfl) (by simp) (by simp only [List.set]; rfl) ?_
                refine anyB_end (by kernel_rfl) ?_
                exact ⟨b3, b4, b13, b20, rfl, List.Perm.trans (List.Perm.swap _ _ _) (List.Perm.cons _ (List.Perm.cons _ (List.Perm.swap _ _ _)))⟩
        · (refine opB_ef rfl rfl rfl (EF.alloc rfl (by first | (simp only [Value.cells, List.map_cons, List.map_nil]; rfl) | rfl) fun b4 => ?_); refine anyB_slots (AV.putO_some (by rfl) (by simp only [AV.put]; rfl)) rfl ?_)
          refine anyB_enum [14] (by kernel_rfl) ⟨?_, trivial⟩
          · (refine opB_ef rfl rfl rfl (EF.alloc rfl (by first | (simp only [Value.cells, List.map_cons, List.map_nil]; rfl) | rfl) fun b3 => ?_); refine anyB_slots (AV.putO_some (by rfl) (by simp only [AV.put]; rfl)) rfl ?_)
            refine anyB_enum [16] (by kernel_rfl) ⟨?_, trivial⟩
            · refine opB_st1 0 rfl rfl rfl rfl rfl (by simp only [evO, AV.get]; rfl) rfl (by rfl) rfl (by rfl) (by simp) (by simp only [List.set]; rfl) ?_
              refine anyB_enum [17] (by kernel_rfl) ⟨?_, trivial⟩
              · refine opB_st1 1 rfl rfl rfl rfl rfl (by simp only [evO, AV.get]; rfl) rfl (by rfl) rfl (by rfl) (by simp) (by simp only [List.set]; rfl) ?_
                refine anyB_end (by kernel_rfl) ?_
                exact ⟨b3, b4, b13, b20, rfl, List.Perm.cons _ (List.Perm.cons _ (List.Perm.swap _ _ _))⟩
      · (refine opB_ef rfl rfl rfl (EF.alloc rfl (by first | (simp only [Value.cells, List.map_cons, List.map_nil]; rfl) | rfl) fun b3 => ?_); refine anyB_slots (AV.putO_some (by rfl) (by simp only [AV.put]; rfl)) rfl ?_)
        refine anyB_enum [13, 15] (by kernel_rfl) ⟨?_, ?_, trivial⟩
        · (refine opB_ef rfl rfl rfl (EF.make _ rfl rfl rfl rfl rfl (by omega) (by omega) (by first | omega | (unfold maxLen; omega)) fun b20 => ?_); refine anyB_slots (AV.putO_some (by rfl) (by simp only [AV.put]; rfl)) rfl ?_)
          refine anyB_enum [15] (by kernel_rfl) ⟨?_, trivial⟩
          · (refine opB_ef rfl rfl rfl (EF.alloc rfl (by first | (simp only [Value.cells, List.map_cons, List.map_nil]; rfl) | rfl) fun b4 => ?_); refine anyB_slots (AV.putO_some (by rfl) (by simp only [AV.put]; rfl)) rfl ?_)
            refine anyB_enum [16] (by kernel_rfl) ⟨?_, trivial⟩
            · refine opB_st1 2 rfl rfl rfl rfl rfl (by simp only [evO, AV.get]; rfl) rfl (by rfl) rfl (by rfl) (by simp) (by simp only [List.set]; rfl) ?_
              refine anyB_enum [17] (by kernel_rfl) ⟨?_, trivial⟩
              · refine opB_st1 0 rfl rfl rfl rfl rfl (by simp only [evO, AV.get]; rfl) rfl (by rfl) rfl (by rfl) (by simp) (by simp only [List.set]; rfl) ?_
                refine anyB_end (by kernel_rfl) ?_
                exact ⟨b3, b4, b13, b20, rfl, List.Perm.trans (List.Perm.cons _ (List.Perm.swap _ _ _)) (List.Perm.trans (List.Perm.cons _ (List.Perm.cons _ (List.Perm.swap _ _ _))) (List.Perm.swap _ _ _))⟩
        · (refine opB_ef rfl rfl rfl (EF.alloc rfl (by first | (simp only [Value.cells, List.map_cons, List.map_nil]; rfl) | rfl) fun b4 => ?_); refine anyB_slots (AV.putO_some (by rfl) (by simp only [AV.put]; rfl)) rfl ?_)
          refine anyB_enum [13, 16] (by kernel_rfl) ⟨?_, ?_, trivial⟩
          · (refine opB_ef rfl rfl rfl (EF.make _ rfl rfl rfl rfl rfl (by omega) (by omega) (by first | omega | (unfold maxLen; omega)) fun b20 => ?_); refine anyB_slots (AV.putO_some (by rfl) (by simp only [AV.put]; rfl)) rfl ?_)
            refine anyB_enum [16] (by kernel_rfl) ⟨?_, trivial⟩
            · refine opB_st1 2 rfl rfl rfl rfl rfl (by simp only [evO, AV.get]; rfl) rfl (by rfl) rfl (by rfl) (by simp) (by simp only [List.set]; rfl) ?_
              refine anyB_enum [17] (by kernel_rfl) ⟨?_, trivial⟩
              · refine opB_st1 1 rfl rfl rfl rfl rfl (by simp only [evO, AV.get]; rfl) rfl (by rfl) rfl (by rfl) (by simp) (by simp only [List.set]; rfl) ?_
                refine anyB_end (by kernel_rfl) ?_
                exact ⟨b3, b4, b13, b20, rfl, List.Perm.trans (List.Perm.swap _ _ _) (List.Perm.trans (List.Perm.cons _ (List.Perm.swap _ _ _)) (List.Perm.trans (List.Perm.cons _ (List.Perm.cons _ (List.Perm.swap _ _ _))) (List.Perm.swap _ _ _)))⟩
          · refine opB_st1 1 rfl rfl rfl rfl rfl (by simp only [evO, AV.get]; rfl) rfl (by rfl) rfl (by rfl) (by simp) (by simp only [List.set]; rfl) ?_
            refine anyB_enum [13] (by kernel_rfl) ⟨?_, trivial⟩
            · (refine opB_ef rfl rfl rfl (EF.make _ rfl rfl rfl rfl rfl (by omega) (by omega) (by first | omega | (unfold maxLen; omega)) fun b20 => ?_); refine anyB_slots (AV.putO_some (by rfl) (by simp only [AV.put]; rfl)) rfl ?_)
              refine anyB_enum [17] (by kernel_rfl) ⟨?_, trivial⟩
              · refine opB_st1 1 rfl rfl rfl rfl rfl (by simp only [evO, AV.get]; rfl) rfl (by rfl) rfl (by rfl) (by simp) (by simp only [List.set]; rfl) ?_
                refine anyB_end (by kernel_rfl) ?_
                exact ⟨b3, b4, b13, b20, rfl, List.Perm.trans (List.Perm.swap _ _ _) (List.Perm.trans (List.Perm.cons _ (List.Perm.swap _ _ _)) (List.Perm.trans (List.Perm.cons _ (List.Perm.cons _ (List.Perm.swap _ _ _))) (List.Perm.swap _ _ _)))⟩
      · (refine opB_ef rfl rfl rfl (EF.alloc rfl (by first | (simp only [Value.cells, List.map_cons, List.map_nil]; rfl) | rfl) fun b4 => ?_); refine anyB_slots (AV.putO_some (by rfl) (by simp only [AV.put]; rfl)) rfl ?_)
        refine anyB_enum [13, 14] (by kernel_rfl) ⟨?_, ?_, trivial⟩
        · (refine opB_ef rfl rfl rfl (EF.make _ rfl rfl rfl rfl rfl (by omega) (by omega) (by first | omega | (unfold maxLen; omega)) fun b20 => ?_); refine anyB_slots (AV.putO_some (by rfl) (by simp only [AV.put]; rfl)) rfl ?_)
          refine anyB_enum [14] (by kernel_rfl) ⟨?_, trivial⟩
          · (refine opB_ef rfl rfl rfl (EF.alloc rfl (by first | (simp only [Value.cells, List.map_cons, List.map_nil]; rfl) | rfl) fun b3 => ?_); refine anyB_slots (AV.putO_some (by rfl) (by simp only [AV.put]; rfl)) rfl ?_)
            refine anyB_enum [16] (by kernel_rfl) ⟨?_, trivial⟩
            · refine opB_st1 0 rfl rfl rfl rfl rfl (by simp only [evO, AV.get]; rfl) rfl (by rfl) rfl (by rfl) (by simp) (by simp only [List.set]; rfl) ?_
              refine anyB_enum [17] (by kernel_rfl) ⟨?_, trivial⟩
              · refine opB_st1 2 rfl rfl rfl rfl rfl (by simp only [evO, AV.get]; rfl) rfl (by rfl) rfl (by rfl) (by simp) (by simp only [List.set]; rfl) ?_
                refine anyB_end (by kernel_rfl) ?_
                exact ⟨b3, b4, b13, b20, rfl, List.Perm.trans (List.Perm.cons _ (List.Perm.swap _ _ _)) (List.Perm.cons _ (List.Perm.cons _ (List.Perm.swap _ _ _)))⟩
        · (refine opB_ef rfl rfl rfl (EF.alloc rfl (by first | (simp only [Value.cells, List.map_cons, List.map_nil]; rfl) | rfl) fun b3 => ?_); refine anyB_slots (AV.putO_some (by rfl) (by simp only [AV.put]; rfl)) rfl ?_)
          refine anyB_enum [13, 16] (by kernel_rfl) ⟨?_, ?_, trivial⟩
          · (refine opB_ef rfl rfl rfl (EF.make _ rfl rfl rfl rfl rfl (by omega) (by omega) (by first | omega | (unfold maxLen; omega)) fun b20 => ?_); refine anyB_slots (AV.putO_some (by rfl) (by simp only [AV.put]; rfl)) rfl ?_)
            refine anyB_enum [16] (by kernel_rfl) ⟨?_, trivial⟩
            · refine opB_st1 1 rfl rfl rfl rfl rfl (by simp only [evO, AV.get]; rfl) rfl (by rfl) rfl (by rfl) (by simp) (by simp only [List.set]; rfl) ?_
              refine anyB_enum [17] (by kernel_rfl) ⟨?_, trivial⟩
              · refine opB_st1 2 rfl rfl rfl rfl rfl (by simp only [evO, AV.get]; rfl) rfl (by rfl) rfl (by rfl) (by simp) (by simp only [List.set]; rfl) ?_
                refine anyB_end (by kernel_rfl) ?_
                exact ⟨b3, b4, b13, b20, rfl, List.Perm.trans (List.Perm.swap _ _ _) (List.Perm.trans (List.Perm.cons _ (List.Perm.swap _ _ _)) (List.Perm.cons _ (List.Perm.cons _ (List.Perm.swap _ _ _))))⟩
          · refine opB_st1 0 rfl rfl rfl rfl rfl (by simp only [evO, AV.get]; rfl) rfl (by rfl) rfl (by rfl) (by simp) (by simp only [List.set]; rfl) ?_
            refine anyB_enum [13] (by kernel_rfl) ⟨?_, trivial⟩
            · (refine opB_ef rfl rfl rfl (EF.make _ rfl rfl rfl rfl rfl (by omega) (by omega) (by first | omega | (unfold maxLen; omega)) fun b20 => ?_); refine anyB_slots (AV.putO_some (by rfl) (by simp only [AV.put]; rfl)) rfl ?_)
              refine anyB_enum [17] (by kernel_rfl) ⟨?_, trivial⟩
              · refine opB_st1 2 rfl rfl rfl rfl rfl (by simp only [evO, AV.get]; rfl) rfl (by rfl) rfl (by rfl) (by simp) (by simp only [List.set]; rfl) ?_
                refine anyB_end (by kernel_rfl) ?_
                exact ⟨b3, b4, b13, b20, rfl, List.Perm.trans (List.Perm.swap _ _ _) (List.Perm.trans (List.Perm.cons _ (List.Perm.swap _ _ _)) (List.Perm.cons _ (List.Perm.cons _ (List.Perm.swap _ _ _))))⟩
    · (refine opB_ef rfl rfl rfl (EF.make _ rfl rfl rfl rfl rfl (by omega) (by omega) (by first | omega | (unfold maxLen; omega)) fun b20 => ?_); refine anyB_slots (AV.putO_some (by rfl) (by simp only [AV.put]; rfl)) rfl ?_)
      refine anyB_enum [6, 14, 15] (by kernel_rfl) ⟨?_, ?_, ?_, trivial⟩
      · (refine opB_ef rfl rfl rfl (EF.make _ rfl rfl rfl rfl rfl (by omega) (by omega) (by first | omega | (unfold maxLen; omega)) fun b13 => ?_); refine anyB_slots (AV.putO_some (by rfl) (by simp only [AV.put]; rfl)) rfl ?_)
        refine anyB_enum [14, 15] (by kernel_rfl) ⟨?_, ?_, trivial⟩
        · (refine opB_ef rfl rfl rfl (EF.alloc rfl (by first | (simp only [Value.cells, List.map_cons, List.map_nil]; rfl) | rfl) fun b3 => ?_); refine anyB_slots (AV.putO_some (by rfl) (by simp only [AV.put]; rfl)) rfl ?_)
          refine anyB_enum [15] (by kernel_rfl) ⟨?_, trivial⟩
          · (refine opB_ef rfl rfl rfl (EF.alloc rfl (by first | (simp only [Value.cells, List.map_cons, List.map_nil]; rfl) | rfl) fun b4 => ?_); refine anyB_slots (AV.putO_some (by rfl) (by simp only [AV.put]; rfl)) rfl ?_)
            refine anyB_enum [16] (by kernel_rfl) ⟨?_, trivial⟩
            · refine opB_st1 1 rfl rfl rfl rfl rfl (by simp only [evO, AV.get]; rfl) rfl (by rfl) rfl (by rfl) (by simp) (by simp only [List.set]; rfl) ?_
              refine anyB_enum [17] (by kernel_rfl) ⟨?_, trivial⟩
              · refine opB_st1 0 rfl rfl rfl rfl rfl (by simp only [evO, AV.get]; rfl) rfl (by rfl) rfl (by rfl) (by simp) (by simp only [List.set]; rfl) ?_
                refine anyB_end (by kernel_rfl) ?_
                exact ⟨b3, b4, b13, b20, rfl, List.Perm.swap _ _ _⟩
        · (refine opB_ef rfl rfl rfl (EF.alloc rfl (by first | (simp only [Value.cells, List.map_cons, List.map_nil]; rfl) | rfl) fun b4 => ?_); refine anyB_slots (AV.putO_some (by rfl) (by simp only [AV.put]; rfl)) rfl ?_)
          refine anyB_enum [14] (by kernel_rfl) ⟨?_, trivial⟩
          · (refine opB_ef rfl rfl rfl (EF.alloc rfl (by first | (simp only [Value.cells, List.map_cons, List.map_nil]; rfl) | rfl) fun b3 => ?_); refine anyB_slots (AV.putO_some (by rfl) (by simp only [AV.put]; rfl)) rfl ?_)
            refine anyB_enum [16] (by kernel_rfl) ⟨?_, trivial⟩
            · refine opB_st1 0 rfl rfl rfl rfl rfl (by simp only [evO, AV.get]; rfl) rfl (by rfl) rfl (by rfl) (by simp) (by simp only [List.set]; rfl) ?_
              refine anyB_enum [17] (by kernel_rfl) ⟨?_, trivial⟩
              · refine opB_st1 1 rfl rfl rfl rfl rfl (by simp only [evO, AV.get]; rfl) rfl (by rfl) rfl (by rfl) (by simp) (by simp only [List.set]; rfl) ?_
                refine anyB_end (by kernel_rfl) ?_
                exact ⟨b3, b4, b13, b20, rfl, List.Perm.refl _⟩
      · (refine opB_ef rfl rfl rfl (EF.alloc rfl (by first | (simp only [Value.cells, List.map_cons, List.map_nil]; rfl) | rfl) fun b3 => ?_); refine anyB_slots (AV.putO_some (by rfl) (by simp only [AV.put]; rfl)) rfl ?_)
        refine anyB_enum [6, 15] (by kernel_rfl) ⟨?_, ?_, trivial⟩
        · (refine opB_ef rfl rfl rfl (EF.make _ rfl rfl rfl rfl rfl (by omega) (by omega) (by first | omega | (unfold maxLen; omega)) fun b13 => ?_); refine anyB_slots (AV.putO_some (by rfl) (by simp only [AV.put]; rfl)) rfl ?_)
          refine anyB_enum [15] (by kernel_rfl) ⟨?_, trivial⟩
          · (refine opB_ef rfl rfl rfl (EF.alloc rfl (by first | (simp only [Value.cells, List.map_cons, List.map_nil]; rfl) | rfl) fun b4 => ?_); refine anyB_slots (AV.putO_some (by rfl) (by simp only [AV.put]; rfl)) rfl ?_)
            refine anyB_enum [16] (by kernel_rfl) ⟨?_, trivial⟩
            · refine opB_st1 2 rfl rfl rfl rfl rfl (by simp only [evO, AV.get]; rfl) rfl (by rfl) rfl (by rfl) (by simp) (by simp only [List.set]; rfl) ?_
              refine anyB_enum [17] (by kernel_rfl) ⟨?_, trivial⟩
              · refine opB_st1 0 rfl rfl rfl rfl rfl (by simp only [evO, AV.get]; rfl) rfl (by rfl) rfl (by rfl) (by simp) (by simp only [List.set]; rfl) ?_
                refine anyB_end (by kernel_rfl) ?_
                exact ⟨b3, b4, b13, b20, rfl, List.Perm.trans (List.Perm.cons _ (List.Perm.swap _ _ _)) (List.Perm.swap _ _ _)⟩
        · (refine opB_ef rfl rfl rfl (EF.alloc rfl (by first | (simp only [Value.cells, List.map_cons, List.map_nil]; rfl) | rfl) fun b4 => ?_); refine anyB_slots (AV.putO_some (by rfl) (by simp only [AV.put]; rfl)) rfl ?_)
          refine anyB_enum [6] (by kernel_rfl) ⟨?_, trivial⟩
          · (refine opB_ef rfl rfl rfl (EF.make _ rfl rfl rfl rfl rfl (by omega) (by omega) (by first | omega | (unfold maxLen; omega)) fun b13 => ?_); refine anyB_slots (AV.putO_some (by rfl) (by simp only [AV.put]; rfl)) rfl ?_)
            refine anyB_enum [16] (by kernel_rfl) ⟨?_, trivial⟩
            · refine opB_st1 2 rfl rfl rfl rfl rfl (by simp only [evO, AV.get]; rfl) rfl (by rfl) rfl (by rfl) (by simp) (by simp only [List.set]; rfl) ?_
              refine anyB_enum [17] (by kernel_rfl) ⟨?_, trivial⟩
              · refine opB_st1 1 rfl rfl rfl rfl rfl (by simp only [evO, AV.get]; rfl) rfl (by rfl) rfl (by rfl) (by simp) (by simp only [List.set]; rfl) ?_
                refine anyB_end (by kernel_rfl) ?_
                exact ⟨b3, b4, b13, b20, rfl, List.Perm.trans (List.Perm.swap _ _ _) (List.Perm.trans (List.Perm.cons _ (List.Perm.swap _ _ _)) (List.Perm.swap _ _ _))⟩
      · (refine opB_ef rfl rfl rfl (EF.alloc rfl (by first | (simp only [Value.cells, List.map_cons, List.map_nil]; rfl) | rfl) fun b4 => ?_); refine anyB_slots (AV.putO_some (by rfl) (by simp only [AV.put]; rfl)) rfl ?_)
        refine anyB_enum [6, 14] (by kernel_rfl) ⟨?_, ?_, trivial⟩
        · (refine opB_ef rfl rfl rfl (EF.make _ rfl rfl rfl rfl rfl (by omega) (by omega) (by first | omega | (unfold maxLen; omega)) fun b13 => ?_); refine anyB_slots (AV.putO_some (by rfl) (by simp only [AV.put]; rfl)) rfl ?_)
          refine anyB_enum [14] (by kernel_rfl) ⟨?_, trivial⟩
          · (refine opB_ef rfl rfl rfl (EF.alloc rfl (by first | (simp only [Value.cells, List.map_cons, List.map_nil]; rfl) | rfl) fun b3 => ?_); refine anyB_slots (AV.putO_some (by rfl) (by simp only [AV.put]; rfl)) rfl ?_)
            refine anyB_enum [16] (by kernel_rfl) ⟨?_, trivial⟩
            · refine opB_st1 0 rfl rfl rfl rfl rfl (by simp only [evO, AV.get]; rfl) rfl (by rfl) rfl (by rfl) (by simp) (by simp only [List.set]; rfl) ?_
              refine anyB_enum [17] (by kernel_rfl) ⟨?_, trivial⟩
              · refine opB_st1 2 rfl rfl rfl rfl rfl (by simp only [evO, AV.get]; rfl) rfl (by rfl) rfl (by rfl) (by simp) (by simp only [List.set]; rfl) ?_
                refine anyB_end (by kernel_rfl) ?_
                exact ⟨b3, b4, b13, b20, rfl, List.Perm.cons _ (List.Perm.swap _ _ _)⟩
        · (refine opB_ef rfl rfl rfl (EF.alloc rfl (by first | (simp only [Value.cells, List.map_cons, List.map_nil]; rfl) | rfl) fun b3 => ?_); refine anyB_slots (AV.putO_some (by rfl) (by simp only [AV.put]; rfl)) rfl ?_)
          refine anyB_enum [6] (by kernel_rfl) ⟨?_, trivial⟩
          · (refine opB_ef rfl rfl rfl (EF.make _ rfl rfl rfl rfl rfl (by omega) (by omega) (by first | omega | (unfold maxLen; omega)) fun b13 => ?_); refine anyB_slots (AV.putO_some (by rfl) (by simp only [AV.put]; rfl)) rfl ?_)
            refine anyB_enum [16] (by kernel_rfl) ⟨?_, trivial⟩
            · refine opB_st1 1 rfl rfl rfl rfl rfl (by simp only [evO, AV.get]; rfl) rfl (by rfl) rfl (by rfl) (by simp) (by simp only [List.set]; rfl) ?_
              refine anyB_enum [17] (by kernel_rfl) ⟨?_, trivial⟩
              · refine opB_st1 2 rfl rfl rfl rfl rfl (by simp only [evO, AV.get]; rfl) rfl (by rfl) rfl (by rfl) (by simp) (by simp only [List.set]; rfl) ?_
                refine anyB_end (by kernel_rfl) ?_
                exact ⟨b3, b4, b13, b20, rfl, List.Perm.trans (List.Perm.swap _ _ _) (List.Perm.cons _ (List.Perm.swap _ _ _))⟩
    · (refine opB_ef rfl rfl rfl (EF.alloc rfl (by first | (simp only [Value.cells, List.map_cons, List.map_nil]; rfl) | rfl) fun b3 => ?_); refine anyB_slots (AV.putO_some (by rfl) (by simp only [AV.put]; rfl)) rfl ?_)
      refine anyB_enum [6, 13, 15] (by kernel_rfl) ⟨?_, ?_, ?_, trivial⟩
      · (refine opB_ef rfl rfl rfl (EF.make _ rfl rfl rfl rfl rfl (by omega) (by omega) (by first | omega | (unfold maxLen; omega)) fun b13 => ?_); refine anyB_slots (AV.putO_some (by rfl) (by simp only [AV.put]; rfl)) rfl ?_)
        refine anyB_enum [13, 15] (by kernel_rfl) ⟨?_, ?_, trivial⟩
        · (refine opB_ef rfl rfl rfl (EF.make _ rfl rfl rfl rfl rfl (by omega) (by omega) (by first | omega | (unfold maxLen; omega)) fun b20 => ?_); refine anyB_slots (AV.putO_some (by rfl) (by simp only [AV.put]; rfl)) rfl ?_)
          refine anyB_enum [15] (by kernel_rfl) ⟨?_, trivial⟩
          · (refine opB_ef rfl rfl rfl (EF.alloc rfl (by first | (simp only [Value.cells, List.map_cons, List.map_nil]; rfl) | rfl) fun b4 => ?_); refine anyB_slots (AV.putO_some (by rfl) (by simp only [AV.put]; rfl)) rfl ?_)
            refine anyB_enum [16] (by kernel_rfl) ⟨?_, trivial⟩
            · refine opB_st1 3 rfl rfl rfl rfl rfl (by simp only [evO, AV.get]; rfl) rfl (by rfl) rfl (by rfl) (by simp) (by simp only [List.set]; rfl) ?_
              refine anyB_enum [17] (by kernel_rfl) ⟨?_, trivial⟩
              · refine opB_st1 0 rfl rfl rfl rfl rfl (by simp only [evO, AV.get]; rfl) rfl (by rfl) rfl (by rfl) (by simp) (by simp only [List.set]; rfl) ?_
                refine anyB_end (by kernel_rfl) ?_
                exact ⟨b3, b4, b13, b20, rfl, List.Perm.trans (List.Perm.cons _ (List.Perm.swap _ _ _)) (List.Perm.trans (List.Perm.cons _ (List.Perm.cons _ (List.Perm.swap _ _ _))) (List.Perm.trans (List.Perm.cons _ (List.Perm.swap _ _ _)) (List.Perm.swap _ _ _)))⟩
        · (refine opB_ef rfl rfl rfl (EF.alloc rfl (by first | (simp only [Value.cells, List.map_cons, List.map_nil]; rfl) | rfl) fun b4 => ?_); refine anyB_slots (AV.putO_some (by rfl) (by simp only [AV.put]; rfl)) rfl ?_)
          refine anyB_enum [13, 16] (by kernel_rfl) ⟨?_, ?_, trivial⟩
          · (refine opB_ef rfl rfl rfl (EF.make _ rfl rfl rfl rfl rfl (by omega) (by omega) (by first | omega | (unfold maxLen; omega)) fun b20 => ?_); refine anyB_slots (AV.putO_some (by rfl) (by simp only [AV.put]; rfl)) rfl ?_)
            refine anyB_enum [16] (by kernel_rfl) ⟨?_, trivial⟩
            · refine opB_st1 3 rfl rfl rfl rfl rfl (by simp only [evO, AV.get]; rfl) rfl (by rfl) rfl (by rfl) (by simp) (by simp only [List.set]; rfl) ?_
              refine anyB_enum [17] (by kernel_rfl) ⟨?_, trivial⟩
              · refine opB_st1 1 rfl rfl rfl rfl rfl (by simp only [evO, AV.get]; rfl) rfl (by rfl) rfl (by rfl) (by simp) (by simp only [List.set]; rfl) ?_
                refine anyB_end (by kernel_rfl) ?_
                exact ⟨b3, b4, b13, b20, rfl, List.Perm.trans (List.Perm.swap _ _ _) (List.Perm.trans (List.Perm.cons _ (List.Perm.swap _ _ _)) (List.Perm.trans (List.Perm.cons _ (List.Perm.cons _ (List.Perm.swap _ _ _))) (List.Perm.trans (List.Perm.cons _ (List.Perm.swap _ _ _)) (List.Perm.swap _ _ _))))⟩
          · refine opB_st1 2 rfl rfl rfl rfl rfl (by simp only [evO, AV.get]; rfl) rfl (by rfl) rfl (by rfl) (by simp) (by simp only [List.set]; rfl) ?_
            refine anyB_enum [13] (by kernel_rfl) ⟨?_, trivial⟩
            · (refine opB_ef rfl rfl rfl (EF.make _ rfl rfl rfl rfl rfl (by omega) (by omega) (by first | omega | (unfold maxLen; omega)) fun b20 => ?_); refine anyB_slots (AV.putO_some (by rfl) (by simp only [AV.put]; rfl)) rfl ?_)
              refine anyB_enum [17] (by kernel_rfl) ⟨?_, trivial⟩
              · refine opB_st1 1 rfl rfl rfl rfl rfl (by simp only [evO, AV.get]; rfl) rfl (by rfl) rfl (by rfl) (by simp) (by simp only [List.set]; rfl) ?_
                refine anyB_end (by kernel_rfl) ?_
                exact ⟨b3, b4, b13, b20, rfl, List.Perm.trans (List.Perm.swap _ _ _) (List.Perm.trans (List.Perm.cons _ (List.Perm.swap _ _ _)) (List.Perm.trans (List.Perm.cons _ (List.Perm.cons _ (List.Perm.swap _ _ _))) (List.Perm.trans (List.Perm.cons _ (List.Perm.swap _ _ _)) (List.Perm.swap _ _ _))))⟩
      · (refine opB_ef rfl rfl rfl (EF.make _ rfl rfl rfl rfl rfl (by omega) (by omega) (by first | omega | (unfold maxLen; omega)) fun b20 => ?_); refine anyB_slots (AV.putO_some (by rfl) (by simp only [AV.put]; rfl)) rfl ?_)
        refine anyB_enum [6, 15] (by kernel_rfl) ⟨?_, ?_, trivial⟩
        · (refine opB_ef rfl rfl rfl (EF.make _ rfl rfl rfl rfl rfl (by omega) (by omega) (by first | omega | (unfold maxLen; omega)) fun b13 => ?_); refine anyB_slots (AV.putO_some (by rfl) (by simp only [AV.put]; rfl)) rfl ?_)
          refine anyB_enum [15] (by kernel_rfl) ⟨?_, trivial⟩
          · (refine opB_ef rfl rfl rfl (EF.alloc rfl (by first | (simp only [Value.cells, List.map_cons, List.map_nil]; rfl) | rfl) fun b4 => ?_); refine anyB_slots (AV.putO_some (by rfl) (by simp only [AV.put]; rfl)) rfl ?_)
            refine anyB_enum [16] (by kernel_rfl) ⟨?_, trivial⟩
            · refine opB_st1 3 rfl rfl rfl rfl rfl (by simp only [evO, AV.get]; rfl) rfl (by rfl) rfl (by rfl) (by simp) (by simp only [List.set]; rfl) ?_
              refine anyB_enum [17] (by kernel_rfl) ⟨?_, trivial⟩
              · refine opB_st1 0 rfl rfl rfl rfl rfl (by simp only [evO, AV.get]; rfl) rfl (by rfl) rfl (by rfl) (by simp) (by simp only [List.set]; rfl) ?_
                refine anyB_end (by kernel_rfl) ?_
                exact ⟨b3, b4, b13, b20, rfl, List.Perm.trans (List.Perm.cons _ (List.Perm.cons _ (List.Perm.swap _ _ _))) (List.Perm.trans (List.Perm.cons _ (List.Perm.swap _ _ _)) (List.Perm.swap _ _ _))⟩
        · (refine opB_ef rfl rfl rfl (EF.alloc rfl (by first | (simp only [Value.cells, List.map_cons, List.map_nil]; rfl) | rfl) fun b4 => ?_); refine anyB_slots (AV.putO_some (by rfl) (by simp only [AV.put]; rfl)) rfl ?_)
          refine anyB_enum [6] (by kernel_rfl) ⟨?_, trivial⟩
          · (refine opB_ef rfl rfl rfl (EF.make _ rfl rfl rfl rfl rfl (by omega) (by omega) (by first | omega | (unfold maxLen; omega)) fun b13 => ?_); refine anyB_slots (AV.putO_some (by rfl) (by simp only [AV.put]; rfl)) rfl ?_)
            refine anyB_enum [16] (by kernel_rfl) ⟨?_, trivial⟩
            · refine opB_st1 3 rfl rfl rfl rfl rfl (by simp only [evO, AV.get]; rfl) rfl (by rfl) rfl (by rfl) (by simp) (by simp only [List.set]; rfl) ?_
              refine anyB_enum [17] (by kernel_rfl) ⟨?_, trivial⟩
              · refine opB_st1 1 rfl rfl rfl rfl rfl (by simp only [evO, AV.get]; rfl) rfl (by rfl) rfl (by rfl) (by simp) (by simp only [List.set]; rfl) ?_
                refine anyB_end (by kernel_rfl) ?_
                exact ⟨b3, b4, b13, b20, rfl, List.Perm.trans (List.Perm.swap _ _ _) (List.Perm.trans (List.Perm.cons _ (List.Perm.cons _ (List.Perm.swap _ _ _))) (List.Perm.trans (List.Perm.cons _ (List.Perm.swap _ _ _)) (List.Perm.swap _ _ _)))⟩
      · (refine opB_ef rfl rfl rfl (EF.alloc rfl (by first | (simp only [Value.cells, List.map_cons, List.map_nil]; rfl) | rfl) fun b4 => ?_); refine anyB_slots (AV.putO_some (by rfl) (by simp only [AV.put]; rfl)) rfl ?_)
        refine anyB_enum [6, 13] (by kernel_rfl) ⟨?_, ?_, trivial⟩
        · (refine opB_ef rfl rfl rfl (EF.make _ rfl rfl rfl rfl rfl (by omega) (by omega) (by first | omega | (unfold maxLen; omega)) fun b13 => ?_); refine anyB_slots (AV.putO_some (by rfl) (by simp only [AV.put]; rfl)) rfl ?_)
          refine anyB_enum [13, 16] (by kernel_rfl) ⟨?_, ?_, trivial⟩
          · (refine opB_ef rfl rfl rfl (EF.make _ rfl rfl rfl rfl rfl (by omega) (by omega) (by first | omega | (unfold maxLen; omega)) fun b20 => ?_); refine anyB_slots (AV.putO_some (by rfl) (by simp only [AV.put]; rfl)) rfl ?_)
            refine anyB_enum [16] (by kernel_rfl) ⟨?_, trivial⟩
            · refine opB_st1 3 rfl rfl rfl rfl rfl (by simp only [evO, AV.get]; rfl) rfl (by rfl) rfl (by rfl) (by simp) (by simp only [List.set]; rfl) ?_
              refine anyB_enum [17] (by kernel_rfl) ⟨?_, trivial⟩
              · refine opB_st1 2 rfl rfl rfl rfl rfl (by simp only [evO, AV.get]; rfl) rfl (by rfl) rfl (by rfl) (by simp) (by simp only [List.set]; rfl) ?_
                refine anyB_end (by kernel_rfl) ?_
                exact ⟨b3, b4, b13, b20, rfl, List.Perm.trans (List.Perm.swap _ _ _) (List.Perm.trans (List.Perm.cons _ (List.Perm.swap _ _ _)) (List.Perm.trans (List.Perm.cons _ (List.Perm.cons _ (List.Perm.swap _ _ _))) (List.Perm.trans (List.Perm.swap _ _ _) (List.Perm.trans (List.Perm.cons _ (List.Perm.swap _ _ _)) (List.Perm.swap _ _ _)))))⟩
          · refine opB_st1 2 rfl rfl rfl rfl rfl (by simp only [evO, AV.get]; rfl) rfl (by rfl) rfl (by rfl) (by simp) (by simp only [List.set]; rfl) ?_
            refine anyB_enum [13] (by kernel_rfl) ⟨?_, trivial⟩
            · (refine opB_ef rfl rfl rfl (EF.make _ rfl rfl rfl rfl rfl (by omega) (by omega) (by first | omega | (unfold maxLen; omega)) fun b20 => ?_); refine anyB_slots (AV.putO_some (by rfl) (by simp only [AV.put]; rfl)) rfl ?_)
              refine anyB_enum [17] (by kernel_rfl) ⟨?_, trivial⟩
              · refine opB_st1 2 rfl rfl rfl rfl rfl (by simp only [evO, AV.get]; rfl) rfl (by rfl) rfl (by rfl) (by simp) (by simp only [List.set]; rfl) ?_
                refine anyB_end (by kernel_rfl) ?_
                exact ⟨b3, b4, b13, b20, rfl, List.Perm.trans (List.Perm.swap _ _ _) (List.Perm.trans (List.Perm.cons _ (List.Perm.swap _ _ _)) (List.Perm.trans (List.Perm.cons _ (List.Perm.cons _ (List.Perm.swap _ _ _))) (List.Perm.trans (List.Perm.swap _ _ _) (List.Perm.trans (List.Perm.cons _ (List.Perm.swap _ _ _)) (List.Perm.swap _ _ _)))))⟩
        · (refine opB_ef rfl rfl rfl (EF.make _ rfl rfl rfl rfl rfl (by omega) (by omega) (by first | omega | (unfold maxLen; omega)) fun b20 => ?_); refine anyB_slots (AV.putO_some (by rfl) (by simp only [AV.put]; rfl)) rfl ?_)
          refine anyB_enum [6] (by kernel_rfl) ⟨?_, trivial⟩
          · (refine opB_ef rfl rfl rfl (EF.make _ rfl rfl rfl rfl rfl (by omega) (by omega) (by first | omega | (unfold maxLen; omega)) fun b13 => ?_); refine anyB_slots (AV.putO_some (by rfl) (by simp only [AV.put]; rfl)) rfl ?_)
            refine anyB_enum [16] (by kernel_rfl) ⟨?_, trivial⟩
            · refine opB_st1 3 rfl rfl rfl rfl rfl (by simp only [evO, AV.get]; rfl) rfl (by rfl) rfl (by rfl) (by simp) (by simp only [List.set]; rfl) ?_
              refine anyB_enum [17] (by kernel_rfl) ⟨?_, trivial⟩
              · refine opB_st1 2 rfl rfl rfl rfl rfl (by simp only [evO, AV.get]; rfl) rfl (by rfl) rfl (by rfl) (by simp) (by simp only [List.set]; rfl) ?_
                refine anyB_end (by kernel_rfl) ?_
                exact ⟨b3, b4, b13, b20, rfl, List.Perm.trans (List.Perm.cons _ (List.Perm.swap _ _ _)) (List.Perm.trans (List.Perm.cons _ (List.Perm.cons _ (List.Perm.swap _ _ _))) (List.Perm.trans (List.Perm.swap _ _ _) (List.Perm.trans (List.Perm.cons _ (List.Perm.swap _ _ _)) (List.Perm.swap _ _ _))))⟩
    · (refine opB_ef rfl rfl rfl (EF.alloc rfl (by first | (simp only [Value.cells, List.map_cons, List.map_nil]; rfl) | rfl) fun b4 => ?_); refine anyB_slots (AV.putO_some (by rfl) (by simp only [AV.put]; rfl)) rfl ?_)
      refine anyB_enum [6, 13, 14] (by kernel_rfl) ⟨?_, ?_, ?_, trivial⟩
      · (refine opB_ef rfl rfl rfl (EF.make _ rfl rfl rfl rfl rfl (by omega) (by omega) (by first | omega | (unfold maxLen; omega)) fun b13 => ?_); refine anyB_slots (AV.putO_some (by rfl) (by simp only [AV.put]; rfl)) rfl ?_)
        refine anyB_enum [13, 14] (by kernel_rfl) ⟨?_, ?_, trivial⟩
        · (refine opB_ef rfl rfl rfl (EF.make _ rfl rfl rfl rfl rfl (by omega) (by omega) (by first | omega | (unfold maxLen; omega)) fun b20 => ?_); refine anyB_slots (AV.putO_some (by rfl) (by simp only [AV.put]; rfl)) rfl ?_)
          refine anyB_enum [14] (by kernel_rfl) ⟨?_, trivial⟩
          · (refine opB_ef rfl rfl rfl (EF.alloc rfl (by first | (simp only [Value.cells, List.map_cons, List.map_nil]; rfl) | rfl) fun b3 => ?_); refine anyB_slots (AV.putO_some (by rfl) (by simp only [AV.put]; rfl)) rfl ?_)
            refine anyB_enum [16] (by kernel_rfl) ⟨?_, trivial⟩
            · refine opB_st1 0 rfl rfl rfl rfl rfl (by simp only [evO, AV.get]; rfl) rfl (by rfl) rfl (by rfl) (by simp) (by simp only [List.set]; rfl) ?_
              refine anyB_enum [17] (by kernel_rfl) ⟨?_, trivial⟩
              · refine opB_st1 3 rfl rfl rfl rfl rfl (by simp only [evO, AV.get]; rfl) rfl (by rfl) rfl (by rfl) (by simp) (by simp only [List.set]; rfl) ?_
                refine anyB_end (by kernel_rfl) ?_
                exact ⟨b3, b4, b13, b20, rfl, List.Perm.trans (List.Perm.cons _ (List.Perm.swap _ _ _)) (List.Perm.trans (List.Perm.cons _ (List.Perm.cons _ (List.Perm.swap _ _ _))) (List.Perm.cons _ (List.Perm.swap _ _ _)))⟩
        · (refine opB_ef rfl rfl rfl (EF.alloc rfl (by first | (simp only [Value.cells, List.map_cons, List.map_nil]; rfl) | rfl) fun b3 => ?_); refine anyB_slots (AV.putO_some (by rfl) (by simp only [AV.put]; rfl)) rfl ?_)
          refine anyB_enum [13, 16] (by kernel_rfl) ⟨?_, ?_, trivial⟩
          · (refine opB_ef rfl rfl rfl (EF.make _ rfl rfl rfl rfl rfl (by omega) (by omega) (by first | omega | (unfold maxLen; omega)) fun b20 => ?_); refine anyB_slots (AV.putO_some (by rfl) (by simp only [AV.put]; rfl)) rfl ?_)
            refine anyB_enum [16] (by kernel_rfl) ⟨?_, trivial⟩
            · refine opB_st1 1 rfl rfl rfl rfl rfl (by simp only [evO, AV.get]; rfl) rfl (by rfl) rfl (by rfl) (by simp) (by simp only [List.set]; rfl) ?_
              refine anyB_enum [17] (by kernel_rfl) ⟨?_, trivial⟩
              · refine opB_st1 3 rfl rfl rfl rfl rfl (by simp only [evO, AV.get]; rfl) rfl (by rfl) rfl (by rfl) (by simp) (by simp only [List.set]; rfl) ?_
                refine anyB_end (by kernel_rfl) ?_
                exact ⟨b3, b4, b13, b20, rfl, List.Perm.trans (List.Perm.swap _ _ _) (List.Perm.trans (List.Perm.cons _ (List.Perm.swap _ _ _)) (List.Perm.trans (List.Perm.cons _ (List.Perm.cons _ (List.Perm.swap _ _ _))) (List.Perm.cons _ (List.Perm.swap _ _ _))))⟩
          · refine opB_st1 0 rfl rfl rfl rfl rfl (by simp only [evO, AV.get]; rfl) rfl (by rfl) rfl (by rfl) (by simp) (by simp only [List.set]; rfl) ?_
            refine anyB_enum [13] (by kernel_rfl) ⟨?_, trivial⟩
            · (refine opB_ef rfl rfl rfl (EF.make _ rfl rfl rfl rfl rfl (by omega) (by omega) (by first | omega | (unfold maxLen; omega)) fun b20 => ?_); refine anyB_slots (AV.putO_some (by rfl) (by simp only [AV.put]; rfl)) rfl ?_)
              refine anyB_enum [17] (by kernel_rfl) ⟨?_, trivial⟩
              · refine opB_st1 3 rfl rfl rfl rfl rfl (by simp only [evO, AV.get]; rfl) rfl (by rfl) rfl (by rfl) (by simp) (by simp only [List.set]; rfl) ?_
                refine anyB_end (by kernel_rfl) ?_
                exact ⟨b3, b4, b13, b20, rfl, List.Perm.trans (List.Perm.swap _ _ _) (List.Perm.trans (List.Perm.cons _ (List.Perm.swap _ _ _)) (List.Perm.trans (List.Perm.cons _ (List.Perm.cons _ (List.Perm.swap _ _ _))) (List.Perm.cons _ (List.Perm.swap _ _ _))))⟩
      · (refine opB_ef rfl rfl rfl (EF.make _ rfl rfl rfl rfl rfl (by omega) (by omega) (by first | omega | (unfold maxLen; omega)) fun b20 => ?_); refine anyB_slots (AV.putO_some (by rfl) (by simp only [AV.put]; rfl)) rfl ?_)
        refine anyB_enum [6, 14] (by kernel_rfl) ⟨?_, ?_, trivial⟩
        · (refine opB_ef rfl rfl rfl (EF.make _ rfl rfl rfl rfl rfl (by omega) (by omega) (by first | omega | (unfold maxLen; omega)) fun b13 => ?_); refine anyB_slots (AV.putO_some (by rfl) (by simp only [AV.put]; rfl)) rfl ?_)
          refine anyB_enum [14] (by kernel_rfl) ⟨?_, trivial⟩
          · (refine opB_ef rfl rfl rfl (EF.alloc rfl (by first | (simp only [Value.cells, List.map_cons, List.map_nil]; rfl) | rfl) fun b3 => ?_); refine anyB_slots (AV.putO_some (by rfl) (by simp only [AV.put]; rfl)) rfl ?_)
            refine anyB_enum [16] (by kernel_rfl) ⟨?_, trivial⟩
            · refine opB_st1 0 rfl rfl rfl rfl rfl (by simp only [evO, AV.get]; rfl) rfl (by rfl) rfl (by rfl) (by simp) (by simp only [List.set]; rfl) ?_
              refine anyB_enum [17] (by kernel_rfl) ⟨?_, trivial⟩
              · refine opB_st1 3 rfl rfl rfl rfl rfl (by simp only [evO, AV.get]; rfl) rfl (by rfl) rfl (by rfl) (by simp) (by simp only [List.set]; rfl) ?_
                refine anyB_end (by kernel_rfl) ?_
                exact ⟨b3, b4, b13, b20, rfl, List.Perm.trans (List.Perm.cons _ (List.Perm.cons _ (List.Perm.swap _ _ _))) (List.Perm.cons _ (List.Perm.swap _ _ _))⟩
        · (refine opB_ef rfl rfl rfl (EF.alloc rfl (by first | (simp only [Value.cells, List.map_cons, List.map_nil]; rfl) | rfl) fun b3 => ?_); refine anyB_slots (AV.putO_some (by rfl) (by simp only [AV.put]; rfl)) rfl ?_)
          refine anyB_enum [6] (by kernel_rfl) ⟨?_, trivial⟩
          · (refine opB_ef rfl rfl rfl (EF.make _ rfl rfl rfl rfl rfl (by omega) (by omega) (by first | omega | (unfold maxLen; omega)) fun b13 => ?_); refine anyB_slots (AV.putO_some (by rfl) (by simp only [AV.put]; rfl)) rfl ?_)
            refine anyB_enum [16] (by kernel_rfl) ⟨?_, trivial⟩
            · refine opB_st1 1 rfl rfl rfl rfl rfl (by simp only [evO, AV.get]; rfl) rfl (by rfl) rfl (by rfl) (by simp) (by simp only [List.set]; rfl) ?_
              refine anyB_enum [17] (by kernel_rfl) ⟨?_, trivial⟩
              · refine opB_st1 3 rfl rfl rfl rfl rfl (by simp only [evO, AV.get]; rfl) rfl (by rfl) rfl (by rfl) (by simp) (by simp only [List.set]; rfl) ?_
                refine anyB_end (by kernel_rfl) ?_
                exact ⟨b3, b4, b13, b20, rfl, List.Perm.trans (List.Perm.swap _ _ _) (List.Perm.trans (List.Perm.cons _ (List.Perm.cons _ (List.Perm.swap _ _ _))) (List.Perm.cons _ (List.Perm.swap _ _ _)))⟩
      · (refine opB_ef rfl rfl rfl (EF.alloc rfl (by first | (simp only [Value.cells, List.map_cons, List.map_nil]; rfl) | rfl) fun b3 => ?_); refine anyB_slots (AV.putO_some (by rfl) (by simp only [AV.put]; rfl)) rfl ?_)
        refine anyB_enum [6, 13] (by kernel_rfl) ⟨?_, ?_, trivial⟩
        · (refine opB_ef rfl rfl rfl (EF.make _ rfl rfl rfl rfl rfl (by omega) (by omega) (by first | omega | (unfold maxLen; omega)) fun b13 => ?_); refine anyB_slots (AV.putO_some (by rfl) (by simp only [AV.put]; rfl)) rfl ?_)
          refine anyB_enum [13, 16] (by kernel_rfl) ⟨?_, ?_, trivial⟩
          · (refine opB_ef rfl rfl rfl (EF.make _ rfl rfl rfl rfl rfl (by omega) (by omega) (by first | omega | (unfold maxLen; omega)) fun b20 => ?_); refine anyB_slots (AV.putO_some (by rfl) (by simp only [AV.put]; rfl)) rfl ?_)
            refine anyB_enum [16] (by kernel_rfl) ⟨?_, trivial⟩
            · refine opB_st1 2 rfl rfl rfl rfl rfl (by simp only [evO, AV.get]; rfl) rfl (by rfl) rfl (by rfl) (by simp) (by simp only [List.set]; rfl) ?_
              refine anyB_enum [17] (by kernel_rfl) ⟨?_, trivial⟩
              · refine opB_st1 3 rfl rfl rfl rfl rfl (by simp only [evO, AV.get]; rfl) rfl (by rfl) rfl (by rfl) (by simp) (by simp only [List.set]; rfl) ?_
                refine anyB_end (by kernel_rfl) ?_
                exact ⟨b3, b4, b13, b20, rfl, List.Perm.trans (List.Perm.swap _ _ _) (List.Perm.trans (List.Perm.cons _ (List.Perm.swap _ _ _)) (List.Perm.trans (List.Perm.cons _ (List.Perm.cons _ (List.Perm.swap _ _ _))) (List.Perm.trans (List.Perm.swap _ _ _) (List.Perm.cons _ (List.Perm.swap _ _ _)))))⟩
          · refine opB_st1 1 rfl rfl rfl rfl rfl (by simp only [evO, AV.get]; rfl) rfl (by rfl) rfl (by rfl) (by simp) (by simp only [List.set]; rfl) ?_
            refine anyB_enum [13] (by kernel_rfl) ⟨?_, trivial⟩
            · (refine opB_ef rfl rfl rfl (EF.make _ rfl rfl rfl rfl rfl (by omega) (by omega) (by first | omega | (unfold maxLen; omega)) fun b20 => ?_); refine anyB_slots (AV.putO_some (by rfl) (by simp only [AV.put]; rfl)) rfl ?_)
              refine anyB_enum [17] (by kernel_rfl) ⟨?_, trivial⟩
              · refine opB_st1 3 rfl rfl rfl rfl rfl (by simp only [evO, AV.get]; rfl) rfl (by rfl) rfl (by rfl) (by simp) (by simp only [List.set]; rfl) ?_
                refine anyB_end (by kernel_rfl) ?_
                exact ⟨b3, b4, b13, b20, rfl, List.Perm.trans (List.Perm.swap _ _ _) (List.Perm.trans (List.Perm.cons _ (List.Perm.swap _ _ _)) (List.Perm.trans (List.Perm.cons _ (List.Perm.cons _ (List.Perm.swap _ _ _))) (List.Perm.trans (List.Perm.swap _ _ _) (List.Perm.cons _ (List.Perm.swap _ _ _)))))⟩
        · (refine opB_ef rfl rfl rfl (EF.make _ rfl rfl rfl rfl rfl (by omega) (by omega) (by first | omega | (unfold maxLen; omega)) fun b20 => ?_); refine anyB_slots (AV.putO_some (by rfl) (by simp only [AV.put]; rfl)) rfl ?_)
          refine anyB_enum [6] (by kernel_rfl) ⟨?_, trivial⟩
          · (refine opB_ef rfl rfl rfl (EF.make _ rfl rfl rfl rfl rfl (by omega) (by omega) (by first | omega | (unfold maxLen; omega)) fun b13 => ?_); refine anyB_slots (AV.putO_some (by rfl) (by simp only [AV.put]; rfl)) rfl ?_)
            refine anyB_enum [16] (by kernel_rfl) ⟨?_, trivial⟩
            · refine opB_st1 2 rfl rfl rfl rfl rfl (by simp only [evO, AV.get]; rfl) rfl (by rfl) rfl (by rfl) (by simp) (by simp only [List.set]; rfl) ?_
              refine anyB_enum [17] (by kernel_rfl) ⟨?_, trivial⟩
              · refine opB_st1 3 rfl rfl rfl rfl rfl (by simp only [evO, AV.get]; rfl) rfl (by rfl) rfl (by rfl) (by simp) (by simp only [List.set]; rfl) ?_
                refine anyB_end (by kernel_rfl) ?_
                exact ⟨b3, b4, b13, b20, rfl, List.Perm.trans (List.Perm.cons _ (List.Perm.swap _ _ _)) (List.Perm.trans (List.Perm.cons _ (List.Perm.cons _ (List.Perm.swap _ _ _))) (List.Perm.trans (List.Perm.swap _ _ _) (List.Perm.cons _ (List.Perm.swap _ _ _))))⟩

  rintro t H ⟨b3, b4, b13, b20, rfl, hp⟩
  refine thenA_n ?_
  refine Awp.perm hp ?_
  clear hp
  rw [zeros1, show AV.val ((Value.int .i64 0).cells.getD 0 undef) = AV.int 0 from rfl, show List.replicate O.guides.length (AV.int 0) = ints (List.replicate O.guides.length 0) by unfold ints; rw [List.map_replicate]]
  (repeat' (first | ((first | with_reducible refine AL.id_ ?_ | with_reducible refine AE.id_ ?_); first | refine AL.build0 hF rfl rfl rfl (fun b => ⟨_, (by simp only [AV.put]; rfl), ?_⟩) | refine W.s rfl rfl (by first | exact AY.bx rfl (by simp only [evO, AV.get]; rfl) rfl | exact AY.mkFn rfl (by simp only [List.map_cons, List.map_nil, evO, AV.get]; rfl) | exact AY.mkFn1 rfl (by simp only [evO, AV.get]; rfl) (by simp only [List.map_cons, List.map_nil, evO, AV.get]; rfl) | exact hEQ rfl rfl rfl | exact Step2.sound (by first | (((first | (apply Step2.a; constructor) | (apply Step2.b; constructor)) <;> first | infer_instance | skip) <;> (first | infer_instance | (refine w64c ?_; omega) | (refine wu64c ?_; omega) | (refine bits64 ?_; omega) | (refine quo64c ?_; omega) | (refine rem64 ?_; omega) | ((repeat (first | exact .head _ | refine .tail _ ?_)); done) | assumption | (simp only [List.drop_succ_cons, List.drop_zero, List.length_map, Nat.zero_add, Nat.mul_one]; rfl) | rfl | omega | (simp; done))) | fail) rfl | exact AY.call rfl rfl _ rfl (by fail) | exact AY.slice1 rfl rfl rfl (by rfl) (by first | (simp; done) | fail) | exact AY.callF rfl _ _ rfl _ rfl (by fail) | exact AY.old1k 0 rfl rfl rfl (by first | assumption | rfl) | exact AY.old1k 1 rfl rfl rfl (by first | assumption | rfl) | exact AY.old1k 2 rfl rfl rfl (by first | assumption | rfl) | exact AY.oldNk 0 rfl rfl rfl (by first | omega | (simp; omega)) (by first | assumption | rfl) | exact AY.oldNk 1 rfl rfl rfl (by first | omega | (simp; omega)) (by first | assumption | rfl)) (by simp only [AV.put]; rfl) ?_ | (refine AL.nilK (hK _ _ ?_); clear hK K) | (refine AE.nil (hK _ ?_); clear hK K) | refine W.k rfl rfl (by simp only [AV.put]; rfl) ?_ | refine AL.unguardS rfl rfl ?_ | refine AL.al hF rfl rfl rfl (by first | (simp only [Value.cells, List.map_cons, List.map_nil]; rfl) | rfl) (fun b => ⟨_, (by simp only [AV.put]; rfl), ?_⟩) | refine AL.st1 hF rfl rfl rfl rfl (by simp only [evO, AV.get]; rfl) (by first | exact hget0 | exact hget1 | exact hget2 | exact hget3 | exact hget4 | exact hget5 | exact hget6 | exact hget7) (by rfl) rfl (by rfl) (by first | (simp; done) | (simp; omega) | omega) (by simp only [List.set]; rfl) ?_ | refine AL.stW hF rfl rfl rfl rfl (by simp only [evO, AV.get]; rfl) (by first | exact hget0 | exact hget1 | exact hget2 | exact hget3 | exact hget4 | exact hget5 | exact hget6 | exact hget7) (by rfl) (by rfl) (by rfl) (by first | rfl | simp) (by simp only [List.set]; rfl) ?_) | (with_reducible refine Awp.id_ ?_; first | refine Awp.seq ?_ | refine Awp.regionK (by first | (simp only [AV.putO, AV.put]; rfl) | rfl) (fun K hK => ?_) | refine Awp.drawE (by first | (simp only [AV.putO, AV.put]; rfl) | rfl) mixed rfl (by kernel_rfl) (fun K hK => ?_) | refine Awp.block ?_ | refine Awp.skip ?_ | refine Awp.exit ?_ | refine Awp.ret ?_ | refine Awp.condT rfl ?_ | refine Awp.condF rfl ?_) | refine thenA_n ?_ | refine thenA_e ?_ | refine thenA_r ?_ | refine inBlockA_n ?_ | refine inBlockA_r ?_ | refine inBlockA_s ?_ | refine inBlockA_d rfl ?_ | ((first | ((first | with_reducible refine AL.id_ ?_ | with_reducible refine AE.id_ ?_); (fail_if_success refine W.on rfl ?_); refine W.p rfl rfl (by simp only [AV.put]; rfl) (by simp only [AV.put]; rfl) (fun hb => ?_) (fun hb => ?_)) | (with_reducible refine Awp.id_ ?_; refine Awp.cond _ rfl (fun hb => ?_) (fun hb => ?_))) <;> (try simp only [z1, z2, z3, z4, z5, z6, z7, z8, y5, y6, y7, y8, z9, x1, x2, x3, x4, x5, x6, x7, x8] at hb; try (exfalso; omega)))))
  rename_i b5
  obtain ⟨dc, hdc⟩ : ∃ dc : List AV, dc = [.val (ptr b5), .rp [.rp [.int O.day, .int O.grade, .int O.spacing, .sl 3 gg, .sl 1 cl, .int O.model.shelf, .int O.model.use, .int O.model.bears, a8, a9, a10]], .val (ptr b4), .val (ptr by_), .val (ptr b3), .val (ptr b)] := ⟨_, rfl⟩
  refine AL.norm (H' := [HE.blk b 36 [.fn 101 [] dc], HE.blk b5 28 [.val (.slice none 0 0)], HE.blk b3 28 [.val (.slice (some ⟨b13, 0, none⟩) O.guides.length O.guides.length)], HE.blk b4 28 [.val (.slice (some ⟨b20, 0, none⟩) O.guides.length O.guides.length)], HE.blk b13 3 (ints (List.replicate O.guides.length 0)), HE.blk b20 3 (ints (List.replicate O.guides.length 0)), HE.blk by_ 52 [.val (.func (.yield lp) #[] #[])], .nodef, .ghost X (J 0)]) (by first | (simp only [evO, AV.get]; rfl) | rfl) (by first | (rw [hdc]; done) | (rw [hdc]; rfl)) ?_
  refine AL.ownNil 3 1 ?_
  refine AL.perm (H' := Hn b5 b4 by_ b3 b b20 b13 lp O.guides.length dc none 0 [] (List.replicate O.guides.length 0) (List.replicate O.guides.length 0) X (J 0)) (List.Perm.trans (List.Perm.cons _ (List.Perm.swap _ _ _)) (List.Perm.trans (List.Perm.cons _ (List.Perm.cons _ (List.Perm.swap _ _ _))) (List.Perm.trans (List.Perm.cons _ (List.Perm.cons _ (List.Perm.cons _ (List.Perm.swap _ _ _)))) (List.Perm.trans (List.Perm.cons _ (List.Perm.cons _ (List.Perm.cons _ (List.Perm.cons _ (List.Perm.swap _ _ _))))) (List.Perm.trans (List.Perm.cons _ (List.Perm.cons _ (List.Perm.cons _ (List.Perm.cons _ (List.Perm.cons _ (List.Perm.swap _ _ _)))))) (List.Perm.trans (List.Perm.cons _ (List.Perm.cons _ (List.Perm.cons _ (List.Perm.cons _ (List.Perm.cons _ (List.Perm.cons _ (List.Perm.swap _ _ _))))))) (List.Perm.trans (List.Perm.swap _ _ _) (List.Perm.trans (List.Perm.cons _ (List.Perm.cons _ (List.Perm.swap _ _ _))) (List.Perm.trans (List.Perm.cons _ (List.Perm.cons _ (List.Perm.cons _ (List.Perm.cons _ (List.Perm.swap _ _ _))))) (List.Perm.trans (List.Perm.cons _ (List.Perm.cons _ (List.Perm.cons _ (List.Perm.cons _ (List.Perm.cons _ (List.Perm.swap _ _ _)))))) (List.Perm.trans (List.Perm.cons _ (List.Perm.cons _ (List.Perm.cons _ (List.Perm.swap _ _ _)))) (List.Perm.cons _ (List.Perm.cons _ (List.Perm.cons _ (List.Perm.cons _ (List.Perm.swap _ _ _)))))))))))))))) ?_
  have hcn : ∀ k : Nat, k < O.clients.length → 1 ≤ cntN O.clients k ∧ cntN O.clients k ≤ 20 := fun k hk => by rw [cntN_is _ _ hk]; exact hcb _ (List.getElem_mem hk)
  have hpt : ∀ g : Nat, ((O.guides[g]?).map Guide.points).getD 0 ≤ 20 := fun g => by
    cases hx : O.guides[g]? with
    | none => simp
    | some x =>
      have := hgb x (List.mem_of_getElem? hx)
      unfold guideB at this
      simp only [Bool.and_eq_true] at this
      simpa using (withinB_true this.2).2
  have hggr : ∀ g : Nat, g < O.guides.length → ∃ x y, gg[g]? = some [x, y, .int (((O.guides[g]?).map Guide.points).getD 0)] := fun g hg => by
    rw [hgg]
    exact ⟨_, _, by rw [slA_at guideC _ g hg, List.getElem?_eq_getElem hg]; rfl⟩
  have hcll : cl.length = O.clients.length := by rw [hcl]; simp
  have hclr : ∀ k : Nat, k < O.clients.length → cl[k]? = some [.int (cntN O.clients k)] := fun k hk => by
    rw [hcl, slA_at intC _ k hk, cntN_is _ _ hk]; rfl
  have hrep : ∀ x, x ∈ List.replicate O.guides.length (0 : Int) → x = 0 := fun x hx => List.eq_of_mem_replicate hx
  have hnx := HNX.out (.int O.day) (.int O.grade) (.int O.spacing) (.int O.model.shelf) (.int O.model.use) (.int O.model.bears) a8 a9 a10 gg cl b5 b4 by_ b3 b b20 b13 lp T J Jx [.int O.day, .int O.grade, .int O.spacing, .sl 3 gg, .sl 1 cl, .int O.model.shelf, .int O.model.use, .int O.model.bears, a8, a9, a10] dc _ rfl hdc rfl hG4 hC6 hcn hpt hggl hggr hcll hclr hleads.out hroped.out hcJ hcx hone
    (fun i e hi => by
      have hlt := (List.getElem?_eq_some_iff.1 hi).1
      have := hy i (by simpa using hlt)
      rw [List.getElem_map] at this
      have h2 : (teamsV O)[i] = e := by rw [List.getElem?_eq_getElem hlt] at hi; injection hi
      rwa [h2] at this)
    O.clients.length [] (List.replicate O.guides.length 0) (List.replicate O.guides.length 0) 0 X none 0 rfl (by simp) (by simp) (fun x hx => by rw [hrep x hx]; simp) (fun x hx => by rw [hrep x hx]; omega) (fun b hb => by cases hb) (fun j e hj => by rw [Nat.zero_add]; exact hj)
  refine AL.callM (Hn b5 b4 by_ b3 b b20 b13 lp O.guides.length dc none 0 [] (List.replicate O.guides.length 0) (List.replicate O.guides.length 0) X (J 0)) [] hF (List.append_nil _).symm rfl rfl rfl [] dc (.inl (by rw [hdc]; rfl)) _ hdc hnx (fun b hA => hT b fun h => (hA.1 h).1) (fun b hb => hT b fun hlt => absurd hlt (Nat.not_lt.2 hb)) ?_ ?_ ?_
  · exact .inr ⟨fun e he => (by cases he), List.mem_append_left _ (List.mem_append_left _ (List.mem_of_getElem? (i := 8) rfl))⟩
  · exact fun r H' _ => ⟨fun h => (h (HE.ghost X (J 0)) (List.mem_append_right _ (.head _)) trivial).elim, fun _ => List.mem_append_left _ (List.mem_append_left _ (List.mem_of_getElem? (i := 8) rfl))⟩
  rintro r H' (⟨rfl, A3, c3, X3, hT3, rfl⟩ | ⟨rfl, X3, hx⟩)
  · refine AL.norm (by simp only [AV.put]; rfl) (List.append_nil _) ?_
    (repeat' (first | ((first | with_reducible refine AL.id_ ?_ | with_reducible refine AE.id_ ?_); first | refine AL.build0 hF rfl rfl rfl (fun b => ⟨_, (by simp only [AV.put]; rfl), ?_⟩) | refine W.s rfl rfl (by first | exact AY.bx rfl (by simp only [evO, AV.get]; rfl) rfl | exact AY.mkFn rfl (by simp only [List.map_cons, List.map_nil, evO, AV.get]; rfl) | exact AY.mkFn1 rfl (by simp only [evO, AV.get]; rfl) (by simp only [List.map_cons, List.map_nil, evO, AV.get]; rfl) | exact hEQ rfl rfl rfl | exact Step2.sound (by first | (((first | (apply Step2.a; constructor) | (apply Step2.b; constructor)) <;> first | infer_instance | skip) <;> (first | infer_instance | (refine w64c ?_; omega) | (refine wu64c ?_; omega) | (refine bits64 ?_; omega) | (refine quo64c ?_; omega) | (refine rem64 ?_; omega) | ((repeat (first | exact .head _ | refine .tail _ ?_)); done) | assumption | (simp only [List.drop_succ_cons, List.drop_zero, List.length_map, Nat.zero_add, Nat.mul_one]; rfl) | rfl | omega | (simp; done))) | fail) rfl | exact AY.call rfl rfl _ rfl (by fail) | exact AY.slice1 rfl rfl rfl (by rfl) (by first | (simp; done) | fail) | exact AY.callF rfl _ _ rfl _ rfl (by fail) | exact AY.old1k 0 rfl rfl rfl (by first | assumption | rfl) | exact AY.old1k 1 rfl rfl rfl (by first | assumption | rfl) | exact AY.old1k 2 rfl rfl rfl (by first | assumption | rfl) | exact AY.oldNk 0 rfl rfl rfl (by first | omega | (simp; omega)) (by first | assumption | rfl) | exact AY.oldNk 1 rfl rfl rfl (by first | omega | (simp; omega)) (by first | assumption | rfl)) (by simp only [AV.put]; rfl) ?_ | (refine AL.nilK (hK _ _ ?_); clear hK K) | (refine AE.nil (hK _ ?_); clear hK K) | refine W.k rfl rfl (by simp only [AV.put]; rfl) ?_ | refine AL.unguardS rfl rfl ?_ | refine AL.al hF rfl rfl rfl (by first | (simp only [Value.cells, List.map_cons, List.map_nil]; rfl) | rfl) (fun b => ⟨_, (by simp only [AV.put]; rfl), ?_⟩) | refine AL.st1 hF rfl rfl rfl rfl (by simp only [evO, AV.get]; rfl) (by first | exact hget0 | exact hget1 | exact hget2 | exact hget3 | exact hget4 | exact hget5 | exact hget6 | exact hget7) (by rfl) rfl (by rfl) (by first | (simp; done) | (simp; omega) | omega) (by simp only [List.set]; rfl) ?_ | refine AL.stW hF rfl rfl rfl rfl (by simp only [evO, AV.get]; rfl) (by first | exact hget0 | exact hget1 | exact hget2 | exact hget3 | exact hget4 | exact hget5 | exact hget6 | exact hget7) (by rfl) (by rfl) (by rfl) (by first | rfl | simp) (by simp only [List.set]; rfl) ?_) | (with_reducible refine Awp.id_ ?_; first | refine Awp.seq ?_ | refine Awp.regionK (by first | (simp only [AV.putO, AV.put]; rfl) | rfl) (fun K hK => ?_) | refine Awp.drawE (by first | (simp only [AV.putO, AV.put]; rfl) | rfl) mixed rfl (by kernel_rfl) (fun K hK => ?_) | refine Awp.block ?_ | refine Awp.skip ?_ | refine Awp.exit ?_ | refine Awp.ret ?_ | refine Awp.condT rfl ?_ | refine Awp.condF rfl ?_) | refine thenA_n ?_ | refine thenA_e ?_ | refine thenA_r ?_ | refine inBlockA_n ?_ | refine inBlockA_r ?_ | refine inBlockA_s ?_ | refine inBlockA_d rfl ?_ | ((first | ((first | with_reducible refine AL.id_ ?_ | with_reducible refine AE.id_ ?_); (fail_if_success refine W.on rfl ?_); refine W.p rfl rfl (by simp only [AV.put]; rfl) (by simp only [AV.put]; rfl) (fun hb => ?_) (fun hb => ?_)) | (with_reducible refine Awp.id_ ?_; refine Awp.cond _ rfl (fun hb => ?_) (fun hb => ?_))) <;> (try simp only [z1, z2, z3, z4, z5, z6, z7, z8, y5, y6, y7, y8, z9, x1, x2, x3, x4, x5, x6, x7, x8] at hb; try (exfalso; omega)))))
    refine retNoneM rfl ⟨X3, .inl ?_⟩
    rw [List.length_map]
    exact List.mem_append_right _ (by rw [Nat.zero_add]; exact .head _)
  · refine AL.norm (by simp only [AV.put]; rfl) (List.append_nil _) ?_
    (repeat' (first | ((first | with_reducible refine AL.id_ ?_ | with_reducible refine AE.id_ ?_); first | refine AL.build0 hF rfl rfl rfl (fun b => ⟨_, (by simp only [AV.put]; rfl), ?_⟩) | refine W.s rfl rfl (by first | exact AY.bx rfl (by simp only [evO, AV.get]; rfl) rfl | exact AY.mkFn rfl (by simp only [List.map_cons, List.map_nil, evO, AV.get]; rfl) | exact AY.mkFn1 rfl (by simp only [evO, AV.get]; rfl) (by simp only [List.map_cons, List.map_nil, evO, AV.get]; rfl) | exact hEQ rfl rfl rfl | exact Step2.sound (by first | (((first | (apply Step2.a; constructor) | (apply Step2.b; constructor)) <;> first | infer_instance | skip) <;> (first | infer_instance | (refine w64c ?_; omega) | (refine wu64c ?_; omega) | (refine bits64 ?_; omega) | (refine quo64c ?_; omega) | (refine rem64 ?_; omega) | ((repeat (first | exact .head _ | refine .tail _ ?_)); done) | assumption | (simp only [List.drop_succ_cons, List.drop_zero, List.length_map, Nat.zero_add, Nat.mul_one]; rfl) | rfl | omega | (simp; done))) | fail) rfl | exact AY.call rfl rfl _ rfl (by fail) | exact AY.slice1 rfl rfl rfl (by rfl) (by first | (simp; done) | fail) | exact AY.callF rfl _ _ rfl _ rfl (by fail) | exact AY.old1k 0 rfl rfl rfl (by first | assumption | rfl) | exact AY.old1k 1 rfl rfl rfl (by first | assumption | rfl) | exact AY.old1k 2 rfl rfl rfl (by first | assumption | rfl) | exact AY.oldNk 0 rfl rfl rfl (by first | omega | (simp; omega)) (by first | assumption | rfl) | exact AY.oldNk 1 rfl rfl rfl (by first | omega | (simp; omega)) (by first | assumption | rfl)) (by simp only [AV.put]; rfl) ?_ | (refine AL.nilK (hK _ _ ?_); clear hK K) | (refine AE.nil (hK _ ?_); clear hK K) | refine W.k rfl rfl (by simp only [AV.put]; rfl) ?_ | refine AL.unguardS rfl rfl ?_ | refine AL.al hF rfl rfl rfl (by first | (simp only [Value.cells, List.map_cons, List.map_nil]; rfl) | rfl) (fun b => ⟨_, (by simp only [AV.put]; rfl), ?_⟩) | refine AL.st1 hF rfl rfl rfl rfl (by simp only [evO, AV.get]; rfl) (by first | exact hget0 | exact hget1 | exact hget2 | exact hget3 | exact hget4 | exact hget5 | exact hget6 | exact hget7) (by rfl) rfl (by rfl) (by first | (simp; done) | (simp; omega) | omega) (by simp only [List.set]; rfl) ?_ | refine AL.stW hF rfl rfl rfl rfl (by simp only [evO, AV.get]; rfl) (by first | exact hget0 | exact hget1 | exact hget2 | exact hget3 | exact hget4 | exact hget5 | exact hget6 | exact hget7) (by rfl) (by rfl) (by rfl) (by first | rfl | simp) (by simp only [List.set]; rfl) ?_) | (with_reducible refine Awp.id_ ?_; first | refine Awp.seq ?_ | refine Awp.regionK (by first | (simp only [AV.putO, AV.put]; rfl) | rfl) (fun K hK => ?_) | refine Awp.drawE (by first | (simp only [AV.putO, AV.put]; rfl) | rfl) mixed rfl (by kernel_rfl) (fun K hK => ?_) | refine Awp.block ?_ | refine Awp.skip ?_ | refine Awp.exit ?_ | refine Awp.ret ?_ | refine Awp.condT rfl ?_ | refine Awp.condF rfl ?_) | refine thenA_n ?_ | refine thenA_e ?_ | refine thenA_r ?_ | refine inBlockA_n ?_ | refine inBlockA_r ?_ | refine inBlockA_s ?_ | refine inBlockA_d rfl ?_ | ((first | ((first | with_reducible refine AL.id_ ?_ | with_reducible refine AE.id_ ?_); (fail_if_success refine W.on rfl ?_); refine W.p rfl rfl (by simp only [AV.put]; rfl) (by simp only [AV.put]; rfl) (fun hb => ?_) (fun hb => ?_)) | (with_reducible refine Awp.id_ ?_; refine Awp.cond _ rfl (fun hb => ?_) (fun hb => ?_))) <;> (try simp only [z1, z2, z3, z4, z5, z6, z7, z8, y5, y6, y7, y8, z9, x1, x2, x3, x4, x5, x6, x7, x8] at hb; try (exfalso; omega)))))
    exact retNoneM rfl ⟨X3, .inr hx⟩
end Go.Proofs.Ytchinfamepolkaa
