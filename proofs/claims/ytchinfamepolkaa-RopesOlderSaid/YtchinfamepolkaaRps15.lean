/- Ropes: the law's look at the examples. -/
import Derived.Test.YtchinfamepolkaaRps14
namespace Go.Proofs.Ytchinfamepolkaa
set_option linter.unusedSimpArgs false
set_option linter.unusedVariables false
set_option linter.unusedSectionVars false
open Go Go.Proofs Go.RowKit
set_option maxHeartbeats 4000000
set_option maxRecDepth 20000

theorem exGV : guidesV exO = 2 := by decide +kernel
theorem exGE : guidesE exO = 0 := by decide +kernel
theorem exPL : propL exP 10 20 = [0, 1] := by decide +kernel
theorem exPE : propE exP 10 20 = 0 := by decide +kernel
theorem exLen : OutLen exO := ⟨by decide, by decide, by decide, by decide, by decide⟩
theorem sameInts_a (l m : List Nat) (hl : l.length ≤ 1048576) (hm : m.length ≤ 1048576) : PC Try.prog 21 [slA natI 1 l, slA natI 1 m] (.bool (decide (l = m))) := by
  refine ⟨enters_of Try.func21 (by kernel_rfl) rfl, fun w S vs hn h => ?_⟩
  obtain ⟨xs, rfl, hn, hx⟩ := args_list hn h
  match xs, hn with
  | [a, b], _ =>
    obtain ⟨A, c, h0, _, h0'⟩ := enc_slof (hx 0 _ rfl)
    obtain ⟨B, d, h1, _, h1'⟩ := enc_slof (hx 1 _ rfl)
    simp only [List.getD_cons_zero, List.getD_cons_succ] at h0 h1
    subst h0 h1
    refine (sameInts_any A B c d l m w hl hm h0' h1').mono ?_
    rintro e w' ⟨rfl, hw⟩
    exact ⟨hw, _, rfl, .val _⟩
theorem spG : Try.prog.eqGuardType Try.prog.depth 40 = false := by kernel_rfl
theorem spH : Try.prog.stoodInHeld 40 = false := by kernel_rfl
theorem spU : Try.prog.underlying 40 = some (.struct (Try.prog.fieldsOf 40)) := by kernel_rfl
theorem spF : ((Try.prog.fieldsOf 40).toList.map fun f => (f.name, f.type, f.offset)) = [("Low", 3, 0), ("High", 3, 1)] := by kernel_rfl
theorem u3 : Try.prog.underlying 3 = some (.int .i64) := by kernel_rfl
theorem eqSpan_run (x y : Operand) (a b c d : Int) (w : World) : (do eqGuard .eql 40 x y (.agg #[.int .i64 a, .int .i64 b]) (.agg #[.int .i64 c, .int .i64 d]); binOp .eql 40 (.agg #[.int .i64 a, .int .i64 b]) (.agg #[.int .i64 c, .int .i64 d]) : Sem Value).run Try.prog w = .ok (.bool (a == c && b == d)) w := by
  simp only [Sem.run_bind, run_eqGuard_agg w _ _ _ _ _ _ spG, Result.andThen_ok, run_eql_struct, run_equalIn_agg w _ _ _ _ spU spH]
  have hf := spF
  generalize (Try.prog.fieldsOf 40).toList = l at hf
  have hlen : l.length = 2 := by have := congrArg List.length hf; simpa using this
  match l, hlen, hf with
  | [f0, f1], _, hf =>
    simp only [List.map_cons, List.map_nil, List.cons.injEq, Prod.mk.injEq, and_true] at hf
    obtain ⟨⟨h1, h2, h3⟩, h4, h5, h6⟩ := hf
    simp only [Op.eqFields, h1, h2, h3, h4, h5, h6]
    by_cases hac : a = c <;> by_cases hbd : b = d <;> simp [go_sem, part, run_equalIn_int _ _ _ _ _ _ _ u3, hac, hbd, Sem.run_bind]
theorem eqSpan {w0 : Bs} {S : Nat → Prop} {H : List HE} {o : Oper} {t : List AV} {x y : Operand} {ty2 : TypeId} {a b c d : Int} (ho : o.op = .binOp .eql 40 x y ty2) (hx : evO t x = .agg [.int a, .int b]) (hy : evO t y = .agg [.int c, .int d]) : AY Try.prog w0 S H o t (.val (.bool (a == c && b == d))) := AY.of fun q w hE hH hX => by
  have h1 := hX x (by rw [ho]; simp [opl])
  have h2 := hX y (by rw [ho]; simp [opl])
  rw [hx] at h1
  rw [hy] at h2
  obtain ⟨xs, e1, hn1, k1⟩ := enc_agg h1
  obtain ⟨ys, e2, hn2, k2⟩ := enc_agg h2
  match xs, hn1, ys, hn2 with
  | [p0, p1], _, [q0, q1], _ =>
    have g0 := (k1 0 _ rfl).val_eq
    have g1 := (k1 1 _ rfl).val_eq
    have g2 := (k2 0 _ rfl).val_eq
    have g3 := (k2 1 _ rfl).val_eq
    simp only [List.getD_cons_zero, List.getD_cons_succ] at g0 g1 g2 g3
    subst g0 g1 g2 g3
    refine ⟨.bool (a == c && b == d), w, ?_, Ext.refl w, .val _⟩
    have hr := eqSpan_run x y a b c d w
    unfold execOp
    rw [ho]
    simp only [e1, e2]
    simp only [Sem.run_bind] at hr ⊢
    simp [hr]
theorem works_a : PC Try.prog 12 [] (.bool true) := by
  have hx := example_a
  have hEQ := @eqSpan
  have hd : PC Try.prog 14 [.agg (modelA exM), .agg (ropeR exR), .int 300] (.tup [.agg [.int 1, .int 5], .int 0]) := damage_a exM exR 300 (by decide) (by decide)
  have hp : PC Try.prog 19 [slA postC 3 exP, .int 10, .int 20] (.tup [slA natI 1 [0, 1], .int 0]) := by
    have := prop_a exP 10 20 (by decide)
    rwa [exPL, exPE] at this
  have hg : PC Try.prog 29 [.agg (outA exO)] (.tup [.int 2, .int 0]) := by
    have := guides_a exO exLen
    rwa [exGV, exGE] at this
  have hs : PC Try.prog 21 [slA natI 1 [0, 1], slA natI 1 [0, 1]] (.bool true) := sameInts_a [0, 1] [0, 1] (by decide) (by decide)
  have e1 : modelA exM = [.int 3650, .int 1825, .int 10, slA wearC 2 exM.wears] := rfl
  have e2 : ropeR exR = [.int 0, .int 100, .int 50, slA fallC 5 exR.falls] := rfl
  have e3 : outA exO = [.int 400, .int 3, .int 10, slA guideC 3 exO.guides, slA intC 1 exO.clients, .int 3650, .int 1825, .int 10, slA wearC 2 exM.wears, .sl 4 [[.int 0, .int 100, .int 50, slA fallC 5 exR.falls], ropeR exS]] := rfl
  have e4 : ropeR exS = [.int 300, .int (-1), .int 20, slA fallC 5 exS.falls] := rfl
  rw [e4] at e3
  rw [e1, e2] at hd
  rw [e3] at hx hg
  clear e1 e2 e3 e4
  unfold slA at hx hd hp hg hs
  generalize (exM.wears.map fun x => (wearC x).map AV.val) = v1 at *
  generalize (exR.falls.map fun x => (fallC x).map AV.val) = v2 at *
  generalize (exS.falls.map fun x => (fallC x).map AV.val) = v3 at *
  generalize (exO.guides.map fun x => (guideC x).map AV.val) = v4 at *
  generalize (exO.clients.map fun x => (intC x).map AV.val) = v5 at *
  generalize (exP.map fun x => (postC x).map AV.val) = v6 at *
  have hsl : AV.sl 1 (List.map (fun x => List.map AV.val (natI x)) [0, 1]) = .sl 1 [[.int 0], [.int 1]] := rfl
  rw [hsl] at hp hs
  (refine PC.of' Try.func12 (by kernel_rfl) rfl (by simp only [Try.ntmps12, List.length_cons, List.length_nil, Nat.reduceAdd, Nat.reduceSub, List.replicate_succ, List.replicate_zero, List.cons_append, List.nil_append]; rfl) fun w0 S hM => ?_; have hF : Wf Fence.wide := .inl rfl)
  (repeat' (first | ((first | with_reducible refine AL.id_ ?_ | with_reducible refine AE.id_ ?_); first | refine AL.build0 hF rfl rfl rfl (fun b => ⟨_, (by simp only [AV.put]; rfl), ?_⟩) | refine W.s rfl rfl (by first | exact AY.bx rfl (by simp only [evO, AV.get]; rfl) rfl | exact AY.mkFn rfl (by simp only [List.map_cons, List.map_nil, evO, AV.get]; rfl) | exact AY.mkFn1 rfl (by simp only [evO, AV.get]; rfl) (by simp only [List.map_cons, List.map_nil, evO, AV.get]; rfl) | exact hEQ rfl rfl rfl | exact Step2.sound (by first | (((first | (apply Step2.a; constructor) | (apply Step2.b; constructor)) <;> first | infer_instance | skip) <;> (first | infer_instance | (refine w64c ?_; omega) | (refine wu64c ?_; omega) | (refine bits64 ?_; omega) | (refine quo64c ?_; omega) | (refine rem64 ?_; omega) | ((repeat (first | exact .head _ | refine .tail _ ?_)); done) | assumption | (simp only [List.drop_succ_cons, List.drop_zero, List.length_map, Nat.zero_add, Nat.mul_one]; rfl) | rfl | omega | (simp; done))) | fail) rfl | exact AY.call rfl rfl _ rfl (by exact hx) | exact AY.slice1 rfl rfl rfl (by rfl) (by first | (simp; done) | fail) | exact AY.callF rfl _ _ rfl _ rfl (by exact hx) | exact AY.old1k 0 rfl rfl rfl (by first | assumption | rfl) | exact AY.old1k 1 rfl rfl rfl (by first | assumption | rfl) | exact AY.old1k 2 rfl rfl rfl (by first | assumption | rfl) | exact AY.oldNk 0 rfl rfl rfl (by first | omega | (simp; omega)) (by first | assumption | rfl) | exact AY.oldNk 1 rfl rfl rfl (by first | omega | (simp; omega)) (by first | assumption | rfl)) (by simp only [AV.put]; rfl) ?_ | (refine AL.nilK (hK _ _ ?_); clear hK K) | (refine AE.nil (hK _ ?_); clear hK K) | refine W.k rfl rfl (by simp only [AV.put]; rfl) ?_ | refine AL.unguardS rfl rfl ?_ | refine AL.al hF rfl rfl rfl (by first | (simp only [Value.cells, List.map_cons, List.map_nil]; rfl) | rfl) (fun b => ⟨_, (by simp only [AV.put]; rfl), ?_⟩) | refine AL.st1 hF rfl rfl rfl rfl (by simp only [evO, AV.get]; rfl) (by first | exact hget0 | exact hget1 | exact hget2 | exact hget3 | exact hget4 | exact hget5 | exact hget6 | exact hget7) (by rfl) rfl (by rfl) (by first | (simp; done) | (simp; omega) | omega) (by simp only [List.set]; rfl) ?_ | refine AL.stW hF rfl rfl rfl rfl (by simp only [evO, AV.get]; rfl) (by first | exact hget0 | exact hget1 | exact hget2 | exact hget3 | exact hget4 | exact hget5 | exact hget6 | exact hget7) (by rfl) (by rfl) (by rfl) (by first | rfl | simp) (by simp only [List.set]; rfl) ?_) | (with_reducible refine Awp.id_ ?_; first | refine Awp.seq ?_ | refine Awp.regionK (by first | (simp only [AV.putO, AV.put]; rfl) | rfl) (fun K hK => ?_) | refine Awp.drawE (by first | (simp only [AV.putO, AV.put]; rfl) | rfl) mixed rfl (by kernel_rfl) (fun K hK => ?_) | refine Awp.block ?_ | refine Awp.skip ?_ | refine Awp.exit ?_ | refine Awp.ret ?_ | refine Awp.condT rfl ?_ | refine Awp.condF rfl ?_) | refine thenA_n ?_ | refine thenA_e ?_ | refine thenA_r ?_ | refine inBlockA_n ?_ | refine inBlockA_r ?_ | refine inBlockA_s ?_ | refine inBlockA_d rfl ?_ | ((first | ((first | with_reducible refine AL.id_ ?_ | with_reducible refine AE.id_ ?_); (fail_if_success refine W.on rfl ?_); refine W.p rfl rfl (by simp only [AV.put]; rfl) (by simp only [AV.put]; rfl) (fun hb => ?_) (fun hb => ?_)) | (with_reducible refine Awp.id_ ?_; refine Awp.cond _ rfl (fun hb => ?_) (fun hb => ?_))) <;> (try simp only [z1, z2, z3, z4, z5, z6, z7, z8, y5, y6, y7, y8, z9, x1, x2, x3, x4, x5, x6, x7, x8] at hb; try (exfalso; omega)))))
  refine Awp.freezeBox (hM _) 1 rfl ?_
  refine Awp.slots (by simp only [AV.put]; rfl) ?_
  refine Awp.drawB hF (by first | (simp only [AV.putO, AV.put]; rfl) | rfl) rfl mixed (fun K hK => ?_)
  refine anyB_pure 0 rfl (by kernel_rfl) rfl rfl (fun H => Step2.sound (by first | (((first | (apply Step2.a; constructor) | (apply Step2.b; constructor)) <;> first | infer_instance | skip) <;> (first | infer_instance | (refine w64c ?_; omega) | (refine wu64c ?_; omega) | (refine bits64 ?_; omega) | (refine quo64c ?_; omega) | (refine rem64 ?_; omega) | ((repeat (first | exact .head _ | refine .tail _ ?_)); done) | assumption | (simp only [List.drop_succ_cons, List.drop_zero, List.length_map, Nat.zero_add, Nat.mul_one]; rfl) | rfl | omega | (simp; done))) | fail) rfl) (by simp only [AV.put]; rfl) ?_
  refine anyB_pure 1 rfl (by kernel_rfl) rfl rfl (fun H => (by first | exact Step2.sound (by first | (((first | (apply Step2.a; constructor) | (apply Step2.b; constructor)) <;> first | infer_instance | skip) <;> (first | infer_instance | (refine w64c ?_; omega) | (refine wu64c ?_; omega) | (refine bits64 ?_; omega) | (refine quo64c ?_; omega) | (refine rem64 ?_; omega) | ((repeat (first | exact .head _ | refine .tail _ ?_)); done) | assumption | (simp only [List.drop_succ_cons, List.drop_zero, List.length_map, Nat.zero_add, Nat.mul_one]; rfl) | rfl | omega | (simp; done))) | fail) rfl | exact AY.old1k 0 rfl rfl rfl (by first | assumption | rfl) | exact AY.old1k 1 rfl rfl rfl (by first | assumption | rfl) | exact AY.old1k 2 rfl rfl rfl (by first | assumption | rfl) | exact AY.oldNk 0 rfl rfl rfl (by first | omega | (simp; omega)) (by first | assumption | rfl) | exact AY.oldNk 1 rfl rfl rfl (by first | omega | (simp; omega)) (by first | assumption | rfl))) (by simp only [AV.put]; rfl) ?_
  refine anyB_pure 2 rfl (by kernel_rfl) rfl rfl (fun H => Step2.sound (by first | (((first | (apply Step2.a; constructor) | (apply Step2.b; constructor)) <;> first | infer_instance | skip) <;> (first | infer_instance | (refine w64c ?_; omega) | (refine wu64c ?_; omega) | (refine bits64 ?_; omega) | (refine quo64c ?_; omega) | (refine rem64 ?_; omega) | ((repeat (first | exact .head _ | refine .tail _ ?_)); done) | assumption | (simp only [List.drop_succ_cons, List.drop_zero, List.length_map, Nat.zero_add, Nat.mul_one]; rfl) | rfl | omega | (simp; done))) | fail) rfl) (by simp only [AV.put]; rfl) ?_
  refine anyB_pure 3 rfl (by kernel_rfl) rfl rfl (fun H => (by first | exact Step2.sound (by first | (((first | (apply Step2.a; constructor) | (apply Step2.b; constructor)) <;> first | infer_instance | skip) <;> (first | infer_instance | (refine w64c ?_; omega) | (refine wu64c ?_; omega) | (refine bits64 ?_; omega) | (refine quo64c ?_; omega) | (refine rem64 ?_; omega) | ((repeat (first | exact .head _ | refine .tail _ ?_)); done) | assumption | (simp only [List.drop_succ_cons, List.drop_zero, List.length_map, Nat.zero_add, Nat.mul_one]; rfl) | rfl | omega | (simp; done))) | fail) rfl | exact AY.old1k 0 rfl rfl rfl (by first | assumption | rfl) | exact AY.old1k 1 rfl rfl rfl (by first | assumption | rfl) | exact AY.old1k 2 rfl rfl rfl (by first | assumption | rfl) | exact AY.oldNk 0 rfl rfl rfl (by first | omega | (simp; omega)) (by first | assumption | rfl) | exact AY.oldNk 1 rfl rfl rfl (by first | omega | (simp; omega)) (by first | assumption | rfl))) (by simp only [AV.put]; rfl) ?_
  refine anyB_pure 4 rfl (by kernel_rfl) rfl rfl (fun H => Step2.sound (by first | (((first | (apply Step2.a; constructor) | (apply Step2.b; constructor)) <;> first | infer_instance | skip) <;> (first | infer_instance | (refine w64c ?_; omega) | (refine wu64c ?_; omega) | (refine bits64 ?_; omega) | (refine quo64c ?_; omega) | (refine rem64 ?_; omega) | ((repeat (first | exact .head _ | refine .tail _ ?_)); done) | assumption | (simp only [List.drop_succ_cons, List.drop_zero, List.length_map, Nat.zero_add, Nat.mul_one]; rfl) | rfl | omega | (simp; done))) | fail) rfl) (by simp only [AV.put]; rfl) ?_
  refine anyB_pure 5 rfl (by kernel_rfl) rfl rfl (fun H => (by first | exact Step2.sound (by first | (((first | (apply Step2.a; constructor) | (apply Step2.b; constructor)) <;> first | infer_instance | skip) <;> (first | infer_instance | (refine w64c ?_; omega) | (refine wu64c ?_; omega) | (refine bits64 ?_; omega) | (refine quo64c ?_; omega) | (refine rem64 ?_; omega) | ((repeat (first | exact .head _ | refine .tail _ ?_)); done) | assumption | (simp only [List.drop_succ_cons, List.drop_zero, List.length_map, Nat.zero_add, Nat.mul_one]; rfl) | rfl | omega | (simp; done))) | fail) rfl | exact AY.old1k 0 rfl rfl rfl (by first | assumption | rfl) | exact AY.old1k 1 rfl rfl rfl (by first | assumption | rfl) | exact AY.old1k 2 rfl rfl rfl (by first | assumption | rfl) | exact AY.oldNk 0 rfl rfl rfl (by first | omega | (simp; omega)) (by first | assumption | rfl) | exact AY.oldNk 1 rfl rfl rfl (by first | omega | (simp; omega)) (by first | assumption | rfl))) (by simp only [AV.put]; rfl) ?_
  refine anyB_pure 6 rfl (by kernel_rfl) rfl rfl (fun H => (by first | exact AY.call rfl rfl _ rfl (by exact hd) | exact AY.callF rfl _ _ rfl _ rfl (by exact hd))) (by simp only [AV.put]; rfl) ?_
  refine anyB_pure 7 rfl (by kernel_rfl) rfl rfl (fun H => Step2.sound (by first | (((first | (apply Step2.a; constructor) | (apply Step2.b; constructor)) <;> first | infer_instance | skip) <;> (first | infer_instance | (refine w64c ?_; omega) | (refine wu64c ?_; omega) | (refine bits64 ?_; omega) | (refine quo64c ?_; omega) | (refine rem64 ?_; omega) | ((repeat (first | exact .head _ | refine .tail _ ?_)); done) | assumption | (simp only [List.drop_succ_cons, List.drop_zero, List.length_map, Nat.zero_add, Nat.mul_one]; rfl) | rfl | omega | (simp; done))) | fail) rfl) (by simp only [AV.put]; rfl) ?_
  refine anyB_pure 8 rfl (by kernel_rfl) rfl rfl (fun H => Step2.sound (by first | (((first | (apply Step2.a; constructor) | (apply Step2.b; constructor)) <;> first | infer_instance | skip) <;> (first | infer_instance | (refine w64c ?_; omega) | (refine wu64c ?_; omega) | (refine bits64 ?_; omega) | (refine quo64c ?_; omega) | (refine rem64 ?_; omega) | ((repeat (first | exact .head _ | refine .tail _ ?_)); done) | assumption | (simp only [List.drop_succ_cons, List.drop_zero, List.length_map, Nat.zero_add, Nat.mul_one]; rfl) | rfl | omega | (simp; done))) | fail) rfl) (by simp only [AV.put]; rfl) ?_
  refine anyB_pure 9 rfl (by kernel_rfl) rfl rfl (fun H => Step2.sound (by first | (((first | (apply Step2.a; constructor) | (apply Step2.b; constructor)) <;> first | infer_instance | skip) <;> (first | infer_instance | (refine w64c ?_; omega) | (refine wu64c ?_; omega) | (refine bits64 ?_; omega) | (refine quo64c ?_; omega) | (refine rem64 ?_; omega) | ((repeat (first | exact .head _ | refine .tail _ ?_)); done) | assumption | (simp only [List.drop_succ_cons, List.drop_zero, List.length_map, Nat.zero_add, Nat.mul_one]; rfl) | rfl | omega | (simp; done))) | fail) rfl) (by simp only [AV.put]; rfl) ?_
  refine anyB_enum [10] (by kernel_rfl) ⟨?_, trivial⟩
  · (refine opB_ef rfl rfl rfl (EF.alloc rfl (by first | (simp only [Value.cells, List.map_cons, List.map_nil]; rfl) | rfl) fun b3 => ?_); refine anyB_slots (AV.putO_some (by rfl) (by simp only [AV.put]; rfl)) rfl ?_)
    refine anyB_enum [11] (by kernel_rfl) ⟨?_, trivial⟩
    · (refine opB_ef rfl rfl rfl (EF.store 0 _ _ _ _ rfl rfl rfl rfl rfl rfl (by first | rfl | decide | simp) (by first | decide | simp) (by first | (simp only [splice, List.take_succ_cons, List.take_zero, List.drop_succ_cons, List.drop_zero, List.length_cons, List.length_nil, Nat.reduceAdd, List.cons_append, List.nil_append, List.append_nil, List.drop_nil]; rfl) | rfl) ?_); refine anyB_slots (AV.putO_none (by rfl)) (by first | (simp only [List.set]; rfl) | rfl) ?_)
      refine anyB_calm 12 rfl (by kernel_rfl) rfl rfl (Step2.sound (by first | (((first | (apply Step2.a; constructor) | (apply Step2.b; constructor)) <;> first | infer_instance | skip) <;> (first | infer_instance | (refine w64c ?_; omega) | (refine wu64c ?_; omega) | (refine bits64 ?_; omega) | (refine quo64c ?_; omega) | (refine rem64 ?_; omega) | ((repeat (first | exact .head _ | refine .tail _ ?_)); done) | assumption | (simp only [List.drop_succ_cons, List.drop_zero, List.length_map, Nat.zero_add, Nat.mul_one]; rfl) | rfl | omega | (simp; done))) | fail) rfl) (by simp only [AV.put]; rfl) ?_
      refine anyB_end (by kernel_rfl) ?_
      (refine hK _ _ ?_); (repeat' (first | ((first | with_reducible refine AL.id_ ?_ | with_reducible refine AE.id_ ?_); first | refine AL.build0 hF rfl rfl rfl (fun b => ⟨_, (by simp only [AV.put]; rfl), ?_⟩) | refine W.s rfl rfl (by first | exact AY.bx rfl (by simp only [evO, AV.get]; rfl) rfl | exact AY.mkFn rfl (by simp only [List.map_cons, List.map_nil, evO, AV.get]; rfl) | exact AY.mkFn1 rfl (by simp only [evO, AV.get]; rfl) (by simp only [List.map_cons, List.map_nil, evO, AV.get]; rfl) | exact hEQ rfl rfl rfl | exact Step2.sound (by first | (((first | (apply Step2.a; constructor) | (apply Step2.b; constructor)) <;> first | infer_instance | skip) <;> (first | infer_instance | (refine w64c ?_; omega) | (refine wu64c ?_; omega) | (refine bits64 ?_; omega) | (refine quo64c ?_; omega) | (refine rem64 ?_; omega) | ((repeat (first | exact .head _ | refine .tail _ ?_)); done) | assumption | (simp only [List.drop_succ_cons, List.drop_zero, List.length_map, Nat.zero_add, Nat.mul_one]; rfl) | rfl | omega | (simp; done))) | fail) rfl | exact AY.call rfl rfl _ rfl (by first | exact hp | exact hg | exact span_a _ _ | exact hs) | exact AY.slice1 rfl rfl rfl (by rfl) (by first | (simp; done) | fail) | exact AY.callF rfl _ _ rfl _ rfl (by first | exact hp | exact hg | exact span_a _ _ | exact hs) | exact AY.old1k 0 rfl rfl rfl (by first | assumption | rfl) | exact AY.old1k 1 rfl rfl rfl (by first | assumption | rfl) | exact AY.old1k 2 rfl rfl rfl (by first | assumption | rfl) | exact AY.oldNk 0 rfl rfl rfl (by first | omega | (simp; omega)) (by first | assumption | rfl) | exact AY.oldNk 1 rfl rfl rfl (by first | omega | (simp; omega)) (by first | assumption | rfl)) (by simp only [AV.put]; rfl) ?_ | (refine AL.nilK (hK _ _ ?_); clear hK K) | (refine AE.nil (hK _ ?_); clear hK K) | refine W.k rfl rfl (by simp only [AV.put]; rfl) ?_ | refine AL.unguardS rfl rfl ?_ | refine AL.al hF rfl rfl rfl (by first | (simp only [Value.cells, List.map_cons, List.map_nil]; rfl) | rfl) (fun b => ⟨_, (by simp only [AV.put]; rfl), ?_⟩) | refine AL.st1 hF rfl rfl rfl rfl (by simp only [evO, AV.get]; rfl) (by first | exact hget0 | exact hget1 | exact hget2 | exact hget3 | exact hget4 | exact hget5 | exact hget6 | exact hget7) (by rfl) rfl (by rfl) (by first | (simp; done) | (simp; omega) | omega) (by simp only [List.set]; rfl) ?_ | refine AL.stW hF rfl rfl rfl rfl (by simp only [evO, AV.get]; rfl) (by first | exact hget0 | exact hget1 | exact hget2 | exact hget3 | exact hget4 | exact hget5 | exact hget6 | exact hget7) (by rfl) (by rfl) (by rfl) (by first | rfl | simp) (by simp only [List.set]; rfl) ?_) | (with_reducible refine Awp.id_ ?_; first | refine Awp.seq ?_ | refine Awp.regionK (by first | (simp only [AV.putO, AV.put]; rfl) | rfl) (fun K hK => ?_) | refine Awp.drawE (by first | (simp only [AV.putO, AV.put]; rfl) | rfl) mixed rfl (by kernel_rfl) (fun K hK => ?_) | refine Awp.block ?_ | refine Awp.skip ?_ | refine Awp.exit ?_ | refine Awp.ret ?_ | refine Awp.condT rfl ?_ | refine Awp.condF rfl ?_) | refine thenA_n ?_ | refine thenA_e ?_ | refine thenA_r ?_ | refine inBlockA_n ?_ | refine inBlockA_r ?_ | refine inBlockA_s ?_ | refine inBlockA_d rfl ?_ | ((first | ((first | with_reducible refine AL.id_ ?_ | with_reducible refine AE.id_ ?_); (fail_if_success refine W.on rfl ?_); refine W.p rfl rfl (by simp only [AV.put]; rfl) (by simp only [AV.put]; rfl) (fun hb => ?_) (fun hb => ?_)) | (with_reducible refine Awp.id_ ?_; refine Awp.cond _ rfl (fun hb => ?_) (fun hb => ?_))) <;> (try simp only [z1, z2, z3, z4, z5, z6, z7, z8, y5, y6, y7, y8, z9, x1, x2, x3, x4, x5, x6, x7, x8] at hb; try (exfalso; omega))))); exact retOne rfl (by simp only [AV.get, AV.put]; rfl) (Out.bool (by decide))

end Go.Proofs.Ytchinfamepolkaa
