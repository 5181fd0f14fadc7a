/- Ropes: the law on wear. -/
import Derived.Test.YtchinfamepolkaaRps15
import Derived.Test.YtchinfamepolkaaRps21
import Derived.Test.YtchinfamepolkaaRps23
namespace Go.Proofs.Ytchinfamepolkaa
set_option linter.unusedSimpArgs false
set_option linter.unusedVariables false
set_option linter.unusedSectionVars false
open Go Go.Proofs Go.RowKit
set_option maxHeartbeats 4000000
set_option maxRecDepth 20000

theorem neqSpan_run (x y : Operand) (a b : Int) (w : World) : (do eqGuard .neq 40 x y (.agg #[.int .i64 a, .int .i64 b]) (.agg #[.int .i64 a, .int .i64 b]); binOp .neq 40 (.agg #[.int .i64 a, .int .i64 b]) (.agg #[.int .i64 a, .int .i64 b]) : Sem Value).run Try.prog w = .ok (.bool false) w := by
  simp only [Sem.run_bind, run_eqGuard_agg w _ _ _ _ _ _ spG, Result.andThen_ok, run_neq_struct, run_equalIn_agg w _ _ _ _ spU spH]
  have hf := spF
  generalize (Try.prog.fieldsOf 40).toList = l at hf
  have hlen : l.length = 2 := by have := congrArg List.length hf; simpa using this
  match l, hlen, hf with
  | [f0, f1], _, hf =>
    simp only [List.map_cons, List.map_nil, List.cons.injEq, Prod.mk.injEq, and_true] at hf
    obtain ⟨⟨h1, h2, h3⟩, h4, h5, h6⟩ := hf
    simp only [Op.eqFields, h1, h2, h3, h4, h5, h6]
    simp [go_sem, part, run_equalIn_int _ _ _ _ _ _ _ u3, Sem.run_bind]
theorem neqSpan {w0 : Bs} {S : Nat → Prop} {H : List HE} {o : Oper} {t : List AV} {x y : Operand} {ty2 : TypeId} {a b : Int} (ho : o.op = .binOp .neq 40 x y ty2) (hx : evO t x = .agg [.int a, .int b]) (hy : evO t y = .agg [.int a, .int b]) : AY Try.prog w0 S H o t (.val (.bool false)) := AY.of fun q w hE hH hX => by
  have h1 := hX x (by rw [ho]; simp [opl])
  have h2 := hX y (by rw [ho]; simp [opl])
  rw [hx] at h1
  rw [hy] at h2
  obtain ⟨xs, e1, hn1, k1⟩ := enc_agg h1
  obtain ⟨ys, e2, hn2, k2⟩ := enc_agg h2
  match xs, hn1, ys, hn2 with
  | [p0, p1], _, [q0, q1], _ =>
    have g0 := (k1 0 _ rfl).val_eq
    have g1 := (k1 1 _ rfl).val_eq
    have g2 := (k2 0 _ rfl).val_eq
    have g3 := (k2 1 _ rfl).val_eq
    simp only [List.getD_cons_zero, List.getD_cons_succ] at g0 g1 g2 g3
    subst g0 g1 g2 g3
    refine ⟨.bool false, w, ?_, Ext.refl w, .val _⟩
    have hr := neqSpan_run x y a b w
    unfold execOp
    rw [ho]
    simp only [e1, e2]
    simp only [Sem.run_bind] at hr ⊢
    simp [hr]
theorem ropesWear_far (M : Model) (R : Rope) (day : Int) (hf : farRopeB M R = true) : PC Try.prog 7 [.agg (modelA M), .agg (ropeR R), .int day] (.bool true) := by
  have h1 := farRope_a M R
  have h2 := works_a
  rw [hf] at h1
  clear hf
  unfold modelA slA at *
  unfold ropeR slA at *
  generalize (M.wears.map fun x => (wearC x).map AV.val) = rw1 at *
  generalize (R.falls.map fun x => (fallC x).map AV.val) = rw2 at *
  (refine PC.of' Try.func7 (by kernel_rfl) rfl (by simp only [Try.ntmps7, List.length_cons, List.length_nil, Nat.reduceAdd, Nat.reduceSub, List.replicate_succ, List.replicate_zero, List.cons_append, List.nil_append]; rfl) fun w0 S hM => ?_; have hF : Wf Fence.wide := .inl rfl)
  (repeat' (first | ((first | with_reducible refine AL.id_ ?_ | with_reducible refine AE.id_ ?_); first | refine AL.build0 hF rfl rfl rfl (fun b => ⟨_, (by simp only [AV.put]; rfl), ?_⟩) | refine W.s rfl rfl (by first | exact AY.bx rfl (by simp only [evO, AV.get]; rfl) rfl | exact hEQ rfl rfl rfl | exact Step2.sound (by first | (((first | (apply Step2.a; constructor) | (apply Step2.b; constructor)) <;> first | infer_instance | skip) <;> (first | infer_instance | (refine w64c ?_; omega) | (refine wu64c ?_; omega) | (refine bits64 ?_; omega) | (refine quo64c ?_; omega) | (refine rem64 ?_; omega) | ((repeat (first | exact .head _ | refine .tail _ ?_)); done) | assumption | (simp only [List.drop_succ_cons, List.drop_zero, List.length_map, Nat.zero_add, Nat.mul_one]; rfl) | rfl | omega | (simp; done))) | fail) rfl | exact AY.call rfl rfl _ rfl (by first | exact h1 | exact h2)) (by simp only [AV.put]; rfl) ?_ | (refine AL.nilK (hK _ _ ?_); clear hK K) | (refine AE.nil (hK _ ?_); clear hK K) | refine W.k rfl rfl (by simp only [AV.put]; rfl) ?_ | refine AL.unguardS rfl rfl ?_ | refine AL.al hF rfl rfl rfl (by first | (simp only [Value.cells, List.map_cons, List.map_nil]; rfl) | rfl) (fun b => ⟨_, (by simp only [AV.put]; rfl), ?_⟩) | refine AL.st1 hF rfl rfl rfl rfl (by simp only [evO, AV.get]; rfl) (by first | exact hget0 | exact hget1 | exact hget2 | exact hget3 | exact hget4 | exact hget5 | exact hget6 | exact hget7) (by rfl) rfl (by rfl) (by first | (simp; done) | (simp; omega)) (by simp only [List.set]; rfl) ?_ | refine AL.stW hF rfl rfl rfl rfl (by simp only [evO, AV.get]; rfl) (by first | exact hget0 | exact hget1 | exact hget2 | exact hget3 | exact hget4 | exact hget5 | exact hget6 | exact hget7) (by rfl) (by rfl) (by rfl) (by first | rfl | simp) (by simp only [List.set]; rfl) ?_) | (with_reducible refine Awp.id_ ?_; first | refine Awp.seq ?_ | refine Awp.regionK (by first | (simp only [AV.putO, AV.put]; rfl) | rfl) (fun K hK => ?_) | refine Awp.drawE (by first | (simp only [AV.putO, AV.put]; rfl) | rfl) mixed rfl (by kernel_rfl) (fun K hK => ?_) | refine Awp.block ?_ | refine Awp.skip ?_ | refine Awp.exit ?_ | refine Awp.ret ?_ | refine Awp.condT rfl ?_ | refine Awp.condF rfl ?_) | refine thenA_n ?_ | refine thenA_e ?_ | refine thenA_r ?_ | refine inBlockA_n ?_ | refine inBlockA_r ?_ | refine inBlockA_s ?_ | refine inBlockA_d rfl ?_ | ((first | ((first | with_reducible refine AL.id_ ?_ | with_reducible refine AE.id_ ?_); (fail_if_success refine W.on rfl ?_); refine W.p rfl rfl (by simp only [AV.put]; rfl) (by simp only [AV.put]; rfl) (fun hb => ?_) (fun hb => ?_)) | (with_reducible refine Awp.id_ ?_; refine Awp.cond _ rfl (fun hb => ?_) (fun hb => ?_))) <;> (try simp only [z1, z2, z3, z4, z5, z6, z7, z8, y5, y6, y7, y8, z9, x1, x2, x3, x4, x5, x6, x7, x8] at hb; try (exfalso; omega)))))
  (refine retOne rfl (by simp only [AV.get, AV.put]; rfl) ?_)
  exact Out.same _
theorem ropesWear_near (M : Model) (R : Rope) (day : Int) (hf : farRopeB M R = false) : PC Try.prog 7 [.agg (modelA M), .agg (ropeR R), .int day] (.bool true) := by
  have hl : M.wears.length ≤ 1000000 ∧ R.falls.length ≤ 1000000 := by unfold farRopeB at hf; simp at hf; omega
  have h1 := farRope_a M R
  have h2 := works_a
  rw [hf] at h1
  have c1 := rcopyModel_a M hl.1
  have c2 := rcopyRope_a R hl.2
  have d1 := damage_a M R day hl.1 hl.2
  have d2 := rdamageFn_a M R day hl.1 hl.2
  have e1 := fit_a M R day hl.1 hl.2
  have e2 := rfit_a M R day hl.1 hl.2
  have f1 := until_a M R hl.1 hl.2
  have f2 := runtil_a M R hl.1 hl.2
  have hEQ := @neqSpan
  clear hf hl
  generalize dam0 M R day (damLo M R day) = v1 at *
  generalize dam0 M R day (damHi M R day) = v2 at *
  generalize fit0 M R day (fitV M R day (damHi M R day)) = v3 at *
  generalize fit0 M R day (fitV M R day (damLo M R day)) = v4 at *
  generalize dayE M R day = v5 at *
  generalize until0 M R = v6 at *
  generalize ropeE M R = v7 at *
  unfold modelA slA at *
  unfold ropeR slA at *
  generalize (M.wears.map fun x => (wearC x).map AV.val) = rw1 at *
  generalize (R.falls.map fun x => (fallC x).map AV.val) = rw2 at *
  (refine PC.of' Try.func7 (by kernel_rfl) rfl (by simp only [Try.ntmps7, List.length_cons, List.length_nil, Nat.reduceAdd, Nat.reduceSub, List.replicate_succ, List.replicate_zero, List.cons_append, List.nil_append]; rfl) fun w0 S hM => ?_; have hF : Wf Fence.wide := .inl rfl)
  (repeat' (first | ((first | with_reducible refine AL.id_ ?_ | with_reducible refine AE.id_ ?_); first | refine AL.build0 hF rfl rfl rfl (fun b => ⟨_, (by simp only [AV.put]; rfl), ?_⟩) | refine W.s rfl rfl (by first | exact AY.bx rfl (by simp only [evO, AV.get]; rfl) rfl | exact hEQ rfl rfl rfl | exact Step2.sound (by first | (((first | (apply Step2.a; constructor) | (apply Step2.b; constructor)) <;> first | infer_instance | skip) <;> (first | infer_instance | (refine w64c ?_; omega) | (refine wu64c ?_; omega) | (refine bits64 ?_; omega) | (refine quo64c ?_; omega) | (refine rem64 ?_; omega) | ((repeat (first | exact .head _ | refine .tail _ ?_)); done) | assumption | (simp only [List.drop_succ_cons, List.drop_zero, List.length_map, Nat.zero_add, Nat.mul_one]; rfl) | rfl | omega | (simp; done))) | fail) rfl | exact AY.call rfl rfl _ rfl (by exact h1)) (by simp only [AV.put]; rfl) ?_ | (refine AL.nilK (hK _ _ ?_); clear hK K) | (refine AE.nil (hK _ ?_); clear hK K) | refine W.k rfl rfl (by simp only [AV.put]; rfl) ?_ | refine AL.unguardS rfl rfl ?_ | refine AL.al hF rfl rfl rfl (by first | (simp only [Value.cells, List.map_cons, List.map_nil]; rfl) | rfl) (fun b => ⟨_, (by simp only [AV.put]; rfl), ?_⟩) | refine AL.st1 hF rfl rfl rfl rfl (by simp only [evO, AV.get]; rfl) (by first | exact hget0 | exact hget1 | exact hget2 | exact hget3 | exact hget4 | exact hget5 | exact hget6 | exact hget7) (by rfl) rfl (by rfl) (by first | (simp; done) | (simp; omega)) (by simp only [List.set]; rfl) ?_ | refine AL.stW hF rfl rfl rfl rfl (by simp only [evO, AV.get]; rfl) (by first | exact hget0 | exact hget1 | exact hget2 | exact hget3 | exact hget4 | exact hget5 | exact hget6 | exact hget7) (by rfl) (by rfl) (by rfl) (by first | rfl | simp) (by simp only [List.set]; rfl) ?_) | (with_reducible refine Awp.id_ ?_; first | refine Awp.seq ?_ | refine Awp.regionK (by first | (simp only [AV.putO, AV.put]; rfl) | rfl) (fun K hK => ?_) | refine Awp.drawE (by first | (simp only [AV.putO, AV.put]; rfl) | rfl) mixed rfl (by kernel_rfl) (fun K hK => ?_) | refine Awp.block ?_ | refine Awp.skip ?_ | refine Awp.exit ?_ | refine Awp.ret ?_ | refine Awp.condT rfl ?_ | refine Awp.condF rfl ?_) | refine thenA_n ?_ | refine thenA_e ?_ | refine thenA_r ?_ | refine inBlockA_n ?_ | refine inBlockA_r ?_ | refine inBlockA_s ?_ | refine inBlockA_d rfl ?_ | ((first | ((first | with_reducible refine AL.id_ ?_ | with_reducible refine AE.id_ ?_); (fail_if_success refine W.on rfl ?_); refine W.p rfl rfl (by simp only [AV.put]; rfl) (by simp only [AV.put]; rfl) (fun hb => ?_) (fun hb => ?_)) | (with_reducible refine Awp.id_ ?_; refine Awp.cond _ rfl (fun hb => ?_) (fun hb => ?_))) <;> (try simp only [z1, z2, z3, z4, z5, z6, z7, z8, y5, y6, y7, y8, z9, x1, x2, x3, x4, x5, x6, x7, x8] at hb; try (exfalso; omega)))))
  refine Awp.drawP (β := Nat × Nat) hF (fun x t => AV.put (AV.put (AV.put (AV.put (AV.put (AV.put t 27 (.agg [.int M.shelf, .int M.use, .int M.bears, .sl 2 rw1])) 28 (.agg [.int M.shelf, .int M.use, .int M.bears, .sl 2 rw1])) 29 (.agg [.int R.made, .int R.first, .int R.length, .sl 5 rw2])) 30 (.agg [.int R.made, .int R.first, .int R.length, .sl 5 rw2])) 7 (.val (.pointer (some ⟨x.1, 0, none⟩)))) 8 (.val (.pointer (some ⟨x.2, 0, none⟩)))) (fun x => [.blk x.1 24 [.int M.shelf, .int M.use, .int M.bears, .sl 2 rw1], .blk x.2 27 [.int R.made, .int R.first, .int R.length, .sl 5 rw2]]) (by first | (simp only [AV.putO, AV.put]; rfl) | rfl) rfl mixed ?_ ?_
  · skip
    refine anyB_pure 0 rfl (by kernel_rfl) rfl rfl (fun H => (Step2.sound (by first | (((first | (apply Step2.a; constructor) | (apply Step2.b; constructor)) <;> first | infer_instance | skip) <;> (first | infer_instance | (refine w64c ?_; omega) | (refine wu64c ?_; omega) | (refine bits64 ?_; omega) | (refine quo64c ?_; omega) | (refine rem64 ?_; omega) | ((repeat (first | exact .head _ | refine .tail _ ?_)); done) | assumption | (simp only [List.drop_succ_cons, List.drop_zero, List.length_map, Nat.zero_add, Nat.mul_one]; rfl) | rfl | omega | (simp; done))) | fail) rfl)) (by simp only [AV.put]; rfl) ?_
    refine anyB_pure 1 rfl (by kernel_rfl) rfl rfl (fun H => (by first | exact AY.call rfl rfl _ rfl (by first | exact c1 | exact c2) | exact AY.callF rfl _ _ rfl _ rfl (by first | exact c1 | exact c2))) (by simp only [AV.put]; rfl) ?_
    refine anyB_pure 2 rfl (by kernel_rfl) rfl rfl (fun H => (Step2.sound (by first | (((first | (apply Step2.a; constructor) | (apply Step2.b; constructor)) <;> first | infer_instance | skip) <;> (first | infer_instance | (refine w64c ?_; omega) | (refine wu64c ?_; omega) | (refine bits64 ?_; omega) | (refine quo64c ?_; omega) | (refine rem64 ?_; omega) | ((repeat (first | exact .head _ | refine .tail _ ?_)); done) | assumption | (simp only [List.drop_succ_cons, List.drop_zero, List.length_map, Nat.zero_add, Nat.mul_one]; rfl) | rfl | omega | (simp; done))) | fail) rfl)) (by simp only [AV.put]; rfl) ?_
    refine anyB_pure 3 rfl (by kernel_rfl) rfl rfl (fun H => (by first | exact AY.call rfl rfl _ rfl (by first | exact c1 | exact c2) | exact AY.callF rfl _ _ rfl _ rfl (by first | exact c1 | exact c2))) (by simp only [AV.put]; rfl) ?_
    refine anyB_enum [4, 5] (by kernel_rfl) ⟨?_, ?_, trivial⟩
    · (refine opB_ef rfl rfl rfl (EF.alloc rfl (by first | (simp only [Value.cells, List.map_cons, List.map_nil]; rfl) | rfl) fun b7 => ?_); refine anyB_slots (AV.putO_some (by rfl) (by simp only [AV.put]; rfl)) rfl ?_)
      refine anyB_enum [5] (by kernel_rfl) ⟨?_, trivial⟩
      · (refine opB_ef rfl rfl rfl (EF.alloc rfl (by first | (simp only [Value.cells, List.map_cons, List.map_nil]; rfl) | rfl) fun b8 => ?_); refine anyB_slots (AV.putO_some (by rfl) (by simp only [AV.put]; rfl)) rfl ?_)
        refine anyB_enum [6] (by kernel_rfl) ⟨?_, trivial⟩
        · (refine opB_ef rfl rfl rfl (EF.store 1 _ _ _ _ rfl rfl rfl rfl rfl rfl (by first | rfl | decide | simp) (by first | decide | simp) (by first | (simp only [splice, List.take_succ_cons, List.take_zero, List.drop_succ_cons, List.drop_zero, List.length_cons, List.length_nil, Nat.reduceAdd, List.cons_append, List.nil_append, List.append_nil, List.drop_nil]; rfl) | rfl) ?_); refine anyB_slots (AV.putO_none (by rfl)) (by first | (simp only [List.set]; rfl) | rfl) ?_)
          refine anyB_enum [7] (by kernel_rfl) ⟨?_, trivial⟩
          · (refine opB_ef rfl rfl rfl (EF.store 0 _ _ _ _ rfl rfl rfl rfl rfl rfl (by first | rfl | decide | simp) (by first | decide | simp) (by first | (simp only [splice, List.take_succ_cons, List.take_zero, List.drop_succ_cons, List.drop_zero, List.length_cons, List.length_nil, Nat.reduceAdd, List.cons_append, List.nil_append, List.append_nil, List.drop_nil]; rfl) | rfl) ?_); refine anyB_slots (AV.putO_none (by rfl)) (by first | (simp only [List.set]; rfl) | rfl) ?_)
            refine anyB_end (by kernel_rfl) ?_
            exact ⟨(b7, b8), rfl, List.Perm.swap _ _ _⟩
    · (refine opB_ef rfl rfl rfl (EF.alloc rfl (by first | (simp only [Value.cells, List.map_cons, List.map_nil]; rfl) | rfl) fun b8 => ?_); refine anyB_slots (AV.putO_some (by rfl) (by simp only [AV.put]; rfl)) rfl ?_)
      refine anyB_enum [4] (by kernel_rfl) ⟨?_, trivial⟩
      · (refine opB_ef rfl rfl rfl (EF.alloc rfl (by first | (simp only [Value.cells, List.map_cons, List.map_nil]; rfl) | rfl) fun b7 => ?_); refine anyB_slots (AV.putO_some (by rfl) (by simp only [AV.put]; rfl)) rfl ?_)
        refine anyB_enum [6] (by kernel_rfl) ⟨?_, trivial⟩
        · (refine opB_ef rfl rfl rfl (EF.store 0 _ _ _ _ rfl rfl rfl rfl rfl rfl (by first | rfl | decide | simp) (by first | decide | simp) (by first | (simp only [splice, List.take_succ_cons, List.take_zero, List.drop_succ_cons, List.drop_zero, List.length_cons, List.length_nil, Nat.reduceAdd, List.cons_append, List.nil_append, List.append_nil, List.drop_nil]; rfl) | rfl) ?_); refine anyB_slots (AV.putO_none (by rfl)) (by first | (simp only [List.set]; rfl) | rfl) ?_)
          refine anyB_enum [7] (by kernel_rfl) ⟨?_, trivial⟩
          · (refine opB_ef rfl rfl rfl (EF.store 1 _ _ _ _ rfl rfl rfl rfl rfl rfl (by first | rfl | decide | simp) (by first | decide | simp) (by first | (simp only [splice, List.take_succ_cons, List.take_zero, List.drop_succ_cons, List.drop_zero, List.length_cons, List.length_nil, Nat.reduceAdd, List.cons_append, List.nil_append, List.append_nil, List.drop_nil]; rfl) | rfl) ?_); refine anyB_slots (AV.putO_none (by rfl)) (by first | (simp only [List.set]; rfl) | rfl) ?_)
            refine anyB_end (by kernel_rfl) ?_
            exact ⟨(b7, b8), rfl, List.Perm.refl _⟩
  rintro ⟨b7, b8⟩
  refine Awp.slots (by simp only [AV.put]; rfl) ?_
  refine Awp.freezeBox (hM _) 7 rfl ?_
  refine Awp.slots (by simp only [AV.put]; rfl) ?_
  refine Awp.freezeBox (hM _) 8 rfl ?_
  refine Awp.slots (by simp only [AV.put]; rfl) ?_
  (repeat' (first | ((first | with_reducible refine AL.id_ ?_ | with_reducible refine AE.id_ ?_); first | refine AL.build0 hF rfl rfl rfl (fun b => ⟨_, (by simp only [AV.put]; rfl), ?_⟩) | refine W.s rfl rfl (by first | exact AY.bx rfl (by simp only [evO, AV.get]; rfl) rfl | exact hEQ rfl rfl rfl | exact Step2.sound (by first | (((first | (apply Step2.a; constructor) | (apply Step2.b; constructor)) <;> first | infer_instance | skip) <;> (first | infer_instance | (refine w64c ?_; omega) | (refine wu64c ?_; omega) | (refine bits64 ?_; omega) | (refine quo64c ?_; omega) | (refine rem64 ?_; omega) | ((repeat (first | exact .head _ | refine .tail _ ?_)); done) | assumption | (simp only [List.drop_succ_cons, List.drop_zero, List.length_map, Nat.zero_add, Nat.mul_one]; rfl) | rfl | omega | (simp; done))) | fail) rfl | exact AY.call rfl rfl _ rfl (by first | exact d1 | exact d2 | exact e1 | exact e2 | exact f1 | exact f2 | exact h2)) (by simp only [AV.put]; rfl) ?_ | (refine AL.nilK (hK _ _ ?_); clear hK K) | (refine AE.nil (hK _ ?_); clear hK K) | refine W.k rfl rfl (by simp only [AV.put]; rfl) ?_ | refine AL.unguardS rfl rfl ?_ | refine AL.al hF rfl rfl rfl (by first | (simp only [Value.cells, List.map_cons, List.map_nil]; rfl) | rfl) (fun b => ⟨_, (by simp only [AV.put]; rfl), ?_⟩) | refine AL.st1 hF rfl rfl rfl rfl (by simp only [evO, AV.get]; rfl) (by first | exact hget0 | exact hget1 | exact hget2 | exact hget3 | exact hget4 | exact hget5 | exact hget6 | exact hget7) (by rfl) rfl (by rfl) (by first | (simp; done) | (simp; omega)) (by simp only [List.set]; rfl) ?_ | refine AL.stW hF rfl rfl rfl rfl (by simp only [evO, AV.get]; rfl) (by first | exact hget0 | exact hget1 | exact hget2 | exact hget3 | exact hget4 | exact hget5 | exact hget6 | exact hget7) (by rfl) (by rfl) (by rfl) (by first | rfl | simp) (by simp only [List.set]; rfl) ?_) | (with_reducible refine Awp.id_ ?_; first | refine Awp.seq ?_ | refine Awp.regionK (by first | (simp only [AV.putO, AV.put]; rfl) | rfl) (fun K hK => ?_) | refine Awp.drawE (by first | (simp only [AV.putO, AV.put]; rfl) | rfl) mixed rfl (by kernel_rfl) (fun K hK => ?_) | refine Awp.block ?_ | refine Awp.skip ?_ | refine Awp.exit ?_ | refine Awp.ret ?_ | refine Awp.condT rfl ?_ | refine Awp.condF rfl ?_) | refine thenA_n ?_ | refine thenA_e ?_ | refine thenA_r ?_ | refine inBlockA_n ?_ | refine inBlockA_r ?_ | refine inBlockA_s ?_ | refine inBlockA_d rfl ?_ | ((first | ((first | with_reducible refine AL.id_ ?_ | with_reducible refine AE.id_ ?_); (fail_if_success refine W.on rfl ?_); refine W.p rfl rfl (by simp only [AV.put]; rfl) (by simp only [AV.put]; rfl) (fun hb => ?_) (fun hb => ?_)) | (with_reducible refine Awp.id_ ?_; refine Awp.cond _ rfl (fun hb => ?_) (fun hb => ?_))) <;> (try simp only [z1, z2, z3, z4, z5, z6, z7, z8, y5, y6, y7, y8, z9, x1, x2, x3, x4, x5, x6, x7, x8] at hb; try (exfalso; omega)))))
  all_goals first | (cases hb; done) | ((refine retOne rfl (by simp only [AV.get, AV.put]; rfl) ?_); first | exact Out.same _ | exact Out.bool (by simp))
theorem ropesWear_a (M : Model) (R : Rope) (day : Int) : PC Try.prog 7 [.agg (modelA M), .agg (ropeR R), .int day] (.bool true) := by
  cases hf : farRopeB M R
  · exact ropesWear_near M R day hf
  · exact ropesWear_far M R day hf
end Go.Proofs.Ytchinfamepolkaa
