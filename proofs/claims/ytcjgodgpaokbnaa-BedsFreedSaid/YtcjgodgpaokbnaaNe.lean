/- Texts DnF, DnG, DnH, DnI, DnE, DnJ, DnK in one. -/
import Derived.Test.YtcjgodgpaokbnaaNd
import Derived.Test.YtcjgodgpaokbnaaDnD
import Derived.Test.YtcjgodgpaokbnaaKc
/- Printed: what functions of the program compute. -/
namespace Go.Proofs.Ytcjgodgpaokbnaa
set_option linter.constructorNameAsVariable false
set_option linter.unusedSimpArgs false
set_option linter.unusedVariables false
set_option linter.unusedSectionVars false
open Go Go.Proofs Go.RowKit
set_option maxRecDepth 20000
noncomputable def qkB (n : Nat) : CL Try.prog := ⟨[], [], 0⟩
noncomputable def qkC (n : Nat) : Nat → St → PT (DEx × St) := fun _ _ => .fail
theorem qsI : qd (qa Try.f71) 0 = [] := by kernel_rfl
theorem qsJ : Try.f71.body = some (qa Try.f71) := by kernel_rfl
abbrev qg7 : List It := [.raw (.t 0)]
abbrev qgB : List (List It) := [[.row (.t 0) false T30 30]]
noncomputable def qeK (n : Nat) (x : qb qg7) : Option (qx qgB) := runW tab (qkB n) (qkC n) (qa Try.f71) qg7 1 8 [.tmp 2] qgB x
noncomputable def qsK (n : Nat) : Cw Try.prog := ⟨71, 1, qg7, 1, qgB, qeK n, fun _ _ h => qbb (B := tab) (cs := qkB n) (lo := qkC n) (rs := [.tmp 2]) Try.func71 (by kernel_rfl) qsJ (by kernel_rfl) (by decide) (qh qsI qe) h⟩
noncomputable def qm9 (n : Nat) : CL Try.prog := ⟨[], [], 0⟩
noncomputable def qna (n : Nat) : Nat → St → PT (DEx × St) := fun _ _ => .fail
theorem quW : qd (qa Try.f71) 0 = [] := by kernel_rfl
theorem quX : Try.f71.body = some (qa Try.f71) := by kernel_rfl
abbrev qiF : List It := [.v (.t 0) T25]
abbrev qfK : List (List It) := [[.row (.t 0) false T30 30]]
noncomputable def qgj (n : Nat) (x : qb qiF) : Option (qx qfK) := runW tab (qm9 n) (qna n) (qa Try.f71) qiF 1 8 [.tmp 2] qfK x
noncomputable def quY (n : Nat) : Cw Try.prog := ⟨71, 1, qiF, 1, qfK, qgj n, fun _ _ h => qbb (B := tab) (cs := qm9 n) (lo := qna n) (rs := [.tmp 2]) Try.func71 (by kernel_rfl) quX (by kernel_rfl) (by decide) (qh quW qe) h⟩
end Go.Proofs.Ytcjgodgpaokbnaa

/- Printed: slices.Clone. -/
namespace Go.Proofs.Ytcjgodgpaokbnaa
set_option linter.constructorNameAsVariable false
set_option linter.unusedSimpArgs false
set_option linter.unusedVariables false
set_option linter.unusedSectionVars false
open Go Go.Proofs Go.RowKit
theorem quZ (n : Nat) (c : Nat) : qeK n (.slice none 0 c, ()) = some ([], ()) := by kernel_rfl
theorem qu0 (n : Nat) (a : Addr) (c : Nat) : qeK n (.slice (some a) 0 c, ()) = some ([], ()) := by kernel_rfl
noncomputable def qn2 (n : Nat) : Cw Try.prog := qLn 71 T30 qfK (qeK n) (qgj n) ([], ()) (fun v y m0 h => (qsK n).okk (x := (v, ())) (y := y) h m0 (qGj m0)) (fun l y m0 h => (quY n).okk (x := (l, ())) (y := y) h m0 (qGj m0)) (fun A c => by cases A with | none => exact quZ n c | some a => exact qu0 n a c)
noncomputable def qu1 (n : Nat) := (qn2 n).M
end Go.Proofs.Ytcjgodgpaokbnaa

/- Printed: slices.Clone. -/
namespace Go.Proofs.Ytcjgodgpaokbnaa
set_option linter.constructorNameAsVariable false
set_option linter.unusedSimpArgs false
set_option linter.unusedVariables false
set_option linter.unusedSectionVars false
open Go Go.Proofs Go.RowKit
end Go.Proofs.Ytcjgodgpaokbnaa

/- The iterator over the spots of a request, by hand. -/
namespace Go.Proofs.Ytcjgodgpaokbnaa
set_option linter.constructorNameAsVariable false
set_option linter.unusedSimpArgs false
set_option linter.unusedVariables false
set_option linter.unusedSectionVars false
open Go Go.Proofs Go.RowKit
set_option maxHeartbeats 4000000
set_option maxRecDepth 20000

def qjM (hut : Int) (lo : Int) : Nat → List (Int × Int)
  | 0 => []
  | n + 1 => (hut, lo) :: qjM hut (lo + 1) n
def qsL (s : Int × (Int × Int)) : List (Int × Int) := qjM s.1 s.2.1 (s.2.2 + 1 - s.2.1).toNat
def qV : List (Int × (Int × Int)) → List (Int × Int)
  | [] => []
  | s :: l => qsL s ++ qV l
def qBk (l : List (Int × (Int × Int))) : Bool := Nat.ble l.length 1000000 && l.all fun s => decide (-9223372036854775808 ≤ s.2.1) && decide (s.2.2 < 9223372036854775807)
def qDL (y : Int × Int) : qk [T80] := (y, ())
theorem qFb (l : List (Int × Int)) : ((l.map qDL).map (tysA [T80])).length = l.length := by rw [List.length_map, List.length_map]
def qwD (l : List (Int × (Int × Int))) : Option (List (qk [T80])) := cond (qBk l) (some ((qV l).map qDL)) none
def qle (l : List (Int × (Int × Int))) (k : Nat) : Nat := (qV (l.take k)).length
theorem qye (h : Int) : ∀ (n : Nat) (lo : Int), (qjM h lo n).length = n
  | 0, _ => rfl
  | n + 1, lo => by simp [qjM, qye h n]
theorem qDM (h : Int) : ∀ (n : Nat) (lo : Int) (j : Nat), j < n → (qjM h lo n)[j]? = some (h, lo + j)
  | n + 1, lo, 0, _ => by simp [qjM]
  | n + 1, lo, j + 1, hj => by
    simp only [qjM, List.getElem?_cons_succ]
    rw [qDM h n (lo + 1) j (by omega)]
    congr 2
    omega
theorem qzX : ∀ (l m : List (Int × (Int × Int))), qV (l ++ m) = qV l ++ qV m
  | [], _ => rfl
  | s :: l, m => by simp [qV, qzX l m]
theorem qIg (l : List (Int × (Int × Int))) (k : Nat) (hk : k < l.length) : qle l (k + 1) = qle l k + (l[k].2.2 + 1 - l[k].2.1).toNat := by
  unfold qle
  rw [List.take_succ_eq_append_getElem hk, qzX]
  simp [qV, qsL, qye]
theorem qJc (l : List (Int × (Int × Int))) : qle l l.length = (qV l).length := by unfold qle; simp
theorem qKk (l : List (Int × (Int × Int))) (k : Nat) (hk : k < l.length) (j : Nat) (hj : j < (l[k].2.2 + 1 - l[k].2.1).toNat) : (qV l)[qle l k + j]? = some (l[k].1, l[k].2.1 + j) := by
  have h1 : l = l.take k ++ l[k] :: l.drop (k + 1) := by simp
  have h2 : qV l = qV (l.take k) ++ (qsL l[k] ++ qV (l.drop (k + 1))) := by
    conv => lhs; rw [h1]
    rw [qzX]; rfl
  rw [h2, List.getElem?_append_right (by unfold qle; omega), show qle l k + j - (qV (l.take k)).length = j by unfold qle; omega, List.getElem?_append_left (by unfold qsL; rw [qye]; exact hj)]
  exact qDM _ _ _ _ hj
theorem qK1 {a b : Int} (h : a = b) : [AV.int a] = [AV.int b] := by rw [h]
theorem qKl (x : qk [T30]) (l : List (qk [T80])) (h : qwD x.1.2.2.2.2 = some l) : qC9 Try.prog false 97 [] (qjf [T30] x) (l.map (tysA [T80])) := by
  obtain ⟨⟨ma, mb, mc, md, ss⟩, u⟩ := x
  change List (Int × (Int × Int)) at ss
  unfold qwD at h
  cases hb : qBk ss with
  | false => simp only at h; rw [hb] at h; cases h
  | true =>
  simp only at h; rw [hb] at h
  injection h with h
  subst h
  unfold qBk at hb
  simp only [Bool.and_eq_true, Nat.ble_eq, List.all_eq_true, decide_eq_true_eq] at hb
  obtain ⟨hlen, hbd⟩ := hb
  refine ⟨enters_of Try.func97 (by kernel_rfl) rfl, fun lp T J Jx X hcJ hcx hone hy => ?_⟩
  have hyk : ∀ k (hk : k < ss.length) (j : Nat), j < (ss[k].2.2 + 1 - ss[k].2.1).toNat → qC8 Try.prog T lp [.agg [.int ss[k].1, .int (ss[k].2.1 + j)]] (J (qle ss k + j)) (J (qle ss k + j + 1)) Jx := fun k hk j hj => by
    have h1 := qKk ss k hk j hj
    have h2 := (List.getElem?_eq_some_iff.1 h1).1
    have h3 := hy (qle ss k + j) (by rw [qFb]; exact h2)
    rw [List.getElem_map, List.getElem_map, (List.getElem?_eq_some_iff.1 h1).2] at h3
    exact h3
  have hY := Lib.hid hyk
  have hN := Lib.hid (qIg ss)
  have hN0 : qle ss 0 = 0 := rfl
  have hNl : qle ss ss.length = (((qV ss).map qDL).map (tysA [T80])).length := by rw [qJc, qFb]
  show MCT Try.prog T 97 [.val (.func (.yield lp) #[] #[]), .rp [.val (.int .i64 ma), .val (.int .i64 mb), .val (.int .i64 mc), .val (.int .i64 md), .sl 3 (ss.map fun s => [.val (.int .i64 s.1), .val (.int .i64 s.2.1), .val (.int .i64 s.2.2)])]] [.nodef, .ghost X (J 0)] fun _ H' => ∃ X', HE.ghost X' (J (((qV ss).map qDL).map (tysA [T80])).length) ∈ H' ∨ HE.ghost X' Jx ∈ H'
  rw [← hNl, ← hN0]
  clear hy hyk hNl
  generalize hrr : (ss.map fun s => [AV.val (.int .i64 s.1), AV.val (.int .i64 s.2.1), AV.val (.int .i64 s.2.2)]) = rr
  have hrl : rr.length = ss.length := by rw [← hrr]; simp
  have hra : ∀ k (hk : k < ss.length), rr[k]? = some [.int ss[k].1, .int ss[k].2.1, .int ss[k].2.2] := fun k hk => by rw [← hrr, List.getElem?_map, List.getElem?_eq_getElem hk]; rfl
  (refine MCT.of Try.func97 (by kernel_rfl) rfl (by simp only [Try.ntmps97, List.length_cons, List.length_nil, Nat.reduceAdd, Nat.reduceSub, List.replicate_succ, List.replicate_zero, List.cons_append, List.nil_append]; rfl) fun w0 S hM hT => ?_; have hF : Wf Fence.wide := .inl rfl)
  (repeat' (first | ((first | with_reducible refine AL.id_ ?_ | with_reducible refine AE.id_ ?_); first | refine AL.build0 hF rfl rfl rfl (fun b => ⟨_, (by simp only [AV.put]; rfl), ?_⟩) | refine W.s rfl rfl (by first | exact AY.bx rfl (by simp only [evO, AV.get]; rfl) rfl | exact AY.mkFn rfl (by simp only [List.map_cons, List.map_nil, evO, AV.get]; rfl) | exact AY.mkFn1 rfl (by simp only [evO, AV.get]; rfl) (by simp only [List.map_cons, List.map_nil, evO, AV.get]; rfl) | exact hEQ rfl rfl rfl | exact Step2.sound (by first | (((first | (apply Step2.a; constructor) | (apply Step2.b; constructor)) <;> first | infer_instance | skip) <;> (first | infer_instance | (refine w64c ?_; omega) | (refine qzb ?_; omega) | (refine qvS ?_; omega) | (refine qvT ?_; omega) | (refine qy8 ?_; omega) | ((repeat (first | exact .head _ | refine .tail _ ?_)); done) | assumption | (simp only [List.drop_succ_cons, List.drop_zero, List.length_map, Nat.zero_add, Nat.mul_one]; rfl) | rfl | omega | (simp; done))) | fail) rfl | exact AY.call rfl rfl _ rfl (by fail) | exact AY.slice1 rfl rfl rfl (by rfl) (by first | (simp; done) | fail) | exact AY.callF rfl _ _ rfl _ rfl (by fail) | exact AY.old1k 0 rfl rfl rfl (by first | assumption | rfl) | exact AY.old1k 1 rfl rfl rfl (by first | assumption | rfl) | exact AY.old1k 2 rfl rfl rfl (by first | assumption | rfl) | exact AY.oldNk 0 rfl rfl rfl (by first | omega | (simp; omega)) (by first | assumption | rfl) | exact AY.oldNk 1 rfl rfl rfl (by first | omega | (simp; omega)) (by first | assumption | rfl)) (by simp only [AV.put]; rfl) ?_ | (refine AL.nilK (hK _ _ ?_); clear hK K) | (refine AE.nil (hK _ ?_); clear hK K) | refine W.k rfl rfl (by simp only [AV.put]; rfl) ?_ | refine AL.unguardS rfl rfl ?_ | refine AL.al hF rfl rfl rfl (by first | (simp only [Value.cells, List.map_cons, List.map_nil]; rfl) | rfl) (fun b => ⟨_, (by simp only [AV.put]; rfl), ?_⟩) | refine AL.st1 hF rfl rfl rfl rfl (by simp only [evO, AV.get]; rfl) (by first | exact qom | exact qon | exact qoo | exact qop | exact qoq | exact qor | exact qos | exact qot) (by rfl) rfl (by rfl) (by first | (simp; done) | (simp; omega) | omega) (by simp only [List.set]; rfl) ?_ | refine AL.stW hF rfl rfl rfl rfl (by simp only [evO, AV.get]; rfl) (by first | exact qom | exact qon | exact qoo | exact qop | exact qoq | exact qor | exact qos | exact qot) (by rfl) (by rfl) (by rfl) (by first | rfl | simp) (by simp only [List.set]; rfl) ?_) | (with_reducible refine Awp.id_ ?_; first | refine Awp.seq ?_ | refine Awp.regionK (by first | (simp only [AV.putO, AV.put]; rfl) | rfl) (fun K hK => ?_) | refine Awp.drawE (by first | (simp only [AV.putO, AV.put]; rfl) | rfl) mixed rfl (by kernel_rfl) (fun K hK => ?_) | refine Awp.block ?_ | refine Awp.skip ?_ | refine Awp.exit ?_ | refine Awp.ret ?_ | refine Awp.condT rfl ?_ | refine Awp.condF rfl ?_) | refine qto ?_ | refine qtp ?_ | refine qtq ?_ | refine qne ?_ | refine qnf ?_ | refine qng ?_ | refine qnh rfl ?_ | ((first | ((first | with_reducible refine AL.id_ ?_ | with_reducible refine AE.id_ ?_); (fail_if_success refine W.on rfl ?_); refine W.p rfl rfl (by simp only [AV.put]; rfl) (by simp only [AV.put]; rfl) (fun hb => ?_) (fun hb => ?_)) | (with_reducible refine Awp.id_ ?_; refine Awp.cond _ rfl (fun hb => ?_) (fun hb => ?_))) <;> (try simp only [z1, z2, z3, z4, z5, z6, z7, z8, y5, y6, y7, y8, z9, x1, x2, x3, x4, x5, x6, x7, x8] at hb; try (exfalso; omega)))))
  refine Awp.loopM [4, 5, 10, 11, 12, 13, 14, 15, 16, 17, 18, 19, 20, 21, 22, 23, 24, 25, 26, 27, 28, 29, 30] [9] (fun n vs H => ∃ (k : Nat) (X' : Nat → Prop), n + k = ss.length ∧ vs = [.int k] ∧ H = [.nodef, .ghost X' (J (qle ss k))]) ss.length ⟨0, X, rfl, rfl, rfl⟩ ?_
  rintro n ju vs H ⟨k, X', hk, rfl, rfl⟩
  (refine Awp.slots (by first | (simp only [putl, mask, AV.put]; rfl) | rfl) ?_)
  by_cases hlt : k < ss.length
  · have hrow := hra k hlt
    have hYk := Lib.hid (hY.out k hlt)
    have hNk := hN.out k hlt
    obtain ⟨hb1, hb2⟩ := hbd _ (List.getElem_mem hlt)
    generalize ss[k].1 = hu at *
    generalize ss[k].2.1 = lo at *
    generalize ss[k].2.2 = hi at *
    (repeat' (first | ((first | with_reducible refine AL.id_ ?_ | with_reducible refine AE.id_ ?_); first | refine AL.build0 hF rfl rfl rfl (fun b => ⟨_, (by simp only [AV.put]; rfl), ?_⟩) | refine W.s rfl rfl (by first | exact AY.bx rfl (by simp only [evO, AV.get]; rfl) rfl | exact AY.mkFn rfl (by simp only [List.map_cons, List.map_nil, evO, AV.get]; rfl) | exact AY.mkFn1 rfl (by simp only [evO, AV.get]; rfl) (by simp only [List.map_cons, List.map_nil, evO, AV.get]; rfl) | exact hEQ rfl rfl rfl | exact Step2.sound (by first | (((first | (apply Step2.a; constructor) | (apply Step2.b; constructor)) <;> first | infer_instance | skip) <;> (first | infer_instance | (refine w64c ?_; omega) | (refine qzb ?_; omega) | (refine qvS ?_; omega) | (refine qvT ?_; omega) | (refine qy8 ?_; omega) | ((repeat (first | exact .head _ | refine .tail _ ?_)); done) | assumption | (simp only [List.drop_succ_cons, List.drop_zero, List.length_map, Nat.zero_add, Nat.mul_one]; rfl) | rfl | omega | (simp; done))) | fail) rfl | exact AY.call rfl rfl _ rfl (by fail) | exact AY.slice1 rfl rfl rfl (by rfl) (by first | (simp; done) | fail) | exact AY.callF rfl _ _ rfl _ rfl (by fail) | exact AY.old1k 0 rfl rfl rfl (by first | assumption | rfl) | exact AY.old1k 1 rfl rfl rfl (by first | assumption | rfl) | exact AY.old1k 2 rfl rfl rfl (by first | assumption | rfl) | exact AY.oldNk 0 rfl rfl rfl (by first | omega | (simp; omega)) (by first | assumption | rfl) | exact AY.oldNk 1 rfl rfl rfl (by first | omega | (simp; omega)) (by first | assumption | rfl)) (by simp only [AV.put]; rfl) ?_ | (refine AL.nilK (hK _ _ ?_); clear hK K) | (refine AE.nil (hK _ ?_); clear hK K) | refine W.k rfl rfl (by simp only [AV.put]; rfl) ?_ | refine AL.unguardS rfl rfl ?_ | refine AL.al hF rfl rfl rfl (by first | (simp only [Value.cells, List.map_cons, List.map_nil]; rfl) | rfl) (fun b => ⟨_, (by simp only [AV.put]; rfl), ?_⟩) | refine AL.st1 hF rfl rfl rfl rfl (by simp only [evO, AV.get]; rfl) (by first | exact qom | exact qon | exact qoo | exact qop | exact qoq | exact qor | exact qos | exact qot) (by rfl) rfl (by rfl) (by first | (simp; done) | (simp; omega) | omega) (by simp only [List.set]; rfl) ?_ | refine AL.stW hF rfl rfl rfl rfl (by simp only [evO, AV.get]; rfl) (by first | exact qom | exact qon | exact qoo | exact qop | exact qoq | exact qor | exact qos | exact qot) (by rfl) (by rfl) (by rfl) (by first | rfl | simp) (by simp only [List.set]; rfl) ?_) | (with_reducible refine Awp.id_ ?_; first | refine Awp.seq ?_ | refine Awp.regionK (by first | (simp only [AV.putO, AV.put]; rfl) | rfl) (fun K hK => ?_) | refine Awp.drawE (by first | (simp only [AV.putO, AV.put]; rfl) | rfl) mixed rfl (by kernel_rfl) (fun K hK => ?_) | refine Awp.block ?_ | refine Awp.skip ?_ | refine Awp.exit ?_ | refine Awp.ret ?_ | refine Awp.condT rfl ?_ | refine Awp.condF rfl ?_) | refine qto ?_ | refine qtp ?_ | refine qtq ?_ | refine qne ?_ | refine qnf ?_ | refine qng ?_ | refine qnh rfl ?_ | ((first | ((first | with_reducible refine AL.id_ ?_ | with_reducible refine AE.id_ ?_); (fail_if_success refine W.on rfl ?_); refine W.p rfl rfl (by simp only [AV.put]; rfl) (by simp only [AV.put]; rfl) (fun hb => ?_) (fun hb => ?_)) | (with_reducible refine Awp.id_ ?_; refine Awp.cond _ rfl (fun hb => ?_) (fun hb => ?_))) <;> (try simp only [z1, z2, z3, z4, z5, z6, z7, z8, y5, y6, y7, y8, z9, x1, x2, x3, x4, x5, x6, x7, x8] at hb; try (exfalso; omega)))))
    refine Awp.loopM [16, 17, 18, 19, 20, 21, 22, 23, 24, 25, 26, 27, 28, 29] [5] (fun n vs H => ∃ (j : Nat) (X3 : Nat → Prop), n + j = (hi + 1 - lo).toNat ∧ vs = [.int (lo + j)] ∧ H = [.blk b 77 [.int hu, .int lo, .int hi], .nodef, .ghost X3 (J (qle ss k + j))]) (hi + 1 - lo).toNat ⟨0, X', by omega, by simp; rfl, rfl⟩ ?_
    rintro n1 ju1 vs1 H1 ⟨j, X3, hj, rfl, rfl⟩
    (refine Awp.slots (by first | (simp only [putl, mask, AV.put]; rfl) | rfl) ?_)
    by_cases hlt2 : j < (hi + 1 - lo).toNat
    · have hle : lo + j ≤ hi := by omega
      have hye := hYk.out j hlt2
      (repeat' (first | ((first | with_reducible refine AL.id_ ?_ | with_reducible refine AE.id_ ?_); first | refine AL.build0 hF rfl rfl rfl (fun b => ⟨_, (by simp only [AV.put]; rfl), ?_⟩) | refine W.s rfl rfl (by first | exact AY.bx rfl (by simp only [evO, AV.get]; rfl) rfl | exact AY.mkFn rfl (by simp only [List.map_cons, List.map_nil, evO, AV.get]; rfl) | exact AY.mkFn1 rfl (by simp only [evO, AV.get]; rfl) (by simp only [List.map_cons, List.map_nil, evO, AV.get]; rfl) | exact AY.build rfl (by simp only [List.map_cons, List.map_nil, evO, AV.get]; rfl) (by simp only [List.map_cons, List.map_nil]; repeat (first | exact Places.nil | apply Places.cons)) (by first | (simp only [zip3, qdJ, qfD, qbW, qp, qit, List.map_cons, List.map_nil, List.length_cons, List.length_nil, List.take_succ_cons, List.take_zero, List.drop_succ_cons, List.drop_zero, List.replicate_succ, List.replicate_zero, List.cons_append, List.nil_append, List.append_nil, List.drop_nil, List.take_nil, List.toList_toArray, Nat.sub_zero, Nat.reduceSub, Nat.reduceAdd, Nat.reduceMul, Nat.zero_mul, Nat.one_mul, Nat.mul_one, Nat.zero_add, Nat.le_refl, Nat.reduceLeDiff, and_self, true_and, and_true, if_true]; rfl) | rfl) | exact AY.buildS rfl (by simp only [List.map_cons, List.map_nil, evO, AV.get]; rfl) (by first | rfl | decide) (by omega) (by first | (simp only [zip3, qdJ, qfD, qbW, qp, qit, List.map_cons, List.map_nil, List.length_cons, List.length_nil, List.take_succ_cons, List.take_zero, List.drop_succ_cons, List.drop_zero, List.replicate_succ, List.replicate_zero, List.cons_append, List.nil_append, List.append_nil, List.drop_nil, List.take_nil, List.toList_toArray, Nat.sub_zero, Nat.reduceSub, Nat.reduceAdd, Nat.reduceMul, Nat.zero_mul, Nat.one_mul, Nat.mul_one, Nat.zero_add, Nat.le_refl, Nat.reduceLeDiff, and_self, true_and, and_true, if_true]; rfl) | rfl) (by first | (simp only [zip3, qdJ, qfD, qbW, qp, qit, List.map_cons, List.map_nil, List.length_cons, List.length_nil, List.take_succ_cons, List.take_zero, List.drop_succ_cons, List.drop_zero, List.replicate_succ, List.replicate_zero, List.cons_append, List.nil_append, List.append_nil, List.drop_nil, List.take_nil, List.toList_toArray, Nat.sub_zero, Nat.reduceSub, Nat.reduceAdd, Nat.reduceMul, Nat.zero_mul, Nat.one_mul, Nat.mul_one, Nat.zero_add, Nat.le_refl, Nat.reduceLeDiff, and_self, true_and, and_true, if_true]; rfl) | rfl) | exact hEQ rfl rfl rfl | exact Step2.sound (by first | (((first | (apply Step2.a; constructor) | (apply Step2.b; constructor)) <;> first | infer_instance | skip) <;> (first | infer_instance | (refine w64c ?_; omega) | (refine qzb ?_; omega) | (refine qvS ?_; omega) | (refine qvT ?_; omega) | (refine qy8 ?_; omega) | ((repeat (first | exact .head _ | refine .tail _ ?_)); done) | assumption | (simp only [List.drop_succ_cons, List.drop_zero, List.length_map, Nat.zero_add, Nat.mul_one]; rfl) | rfl | omega | (simp; done))) | fail) rfl | exact AY.call rfl rfl _ rfl (by fail) | exact AY.slice1 rfl rfl rfl (by rfl) (by first | (simp; done) | fail) | exact AY.callF rfl _ _ rfl _ rfl (by fail) | exact AY.old1k 0 rfl rfl rfl (by first | assumption | rfl) | exact AY.old1k 1 rfl rfl rfl (by first | assumption | rfl) | exact AY.old1k 2 rfl rfl rfl (by first | assumption | rfl) | exact AY.oldNk 0 rfl rfl rfl (by first | omega | (simp; omega)) (by first | assumption | rfl) | exact AY.oldNk 1 rfl rfl rfl (by first | omega | (simp; omega)) (by first | assumption | rfl)) (by simp only [AV.put]; rfl) ?_ | (refine AL.nilK (hK _ _ ?_); clear hK K) | (refine AE.nil (hK _ ?_); clear hK K) | refine W.k rfl rfl (by simp only [AV.put]; rfl) ?_ | refine AL.unguardS rfl rfl ?_ | refine AL.al hF rfl rfl rfl (by first | (simp only [Value.cells, List.map_cons, List.map_nil]; rfl) | rfl) (fun b => ⟨_, (by simp only [AV.put]; rfl), ?_⟩) | refine AL.st1 hF rfl rfl rfl rfl (by simp only [evO, AV.get]; rfl) (by first | exact qom | exact qon | exact qoo | exact qop | exact qoq | exact qor | exact qos | exact qot) (by rfl) rfl (by rfl) (by first | (simp; done) | (simp; omega) | omega) (by simp only [List.set]; rfl) ?_ | refine AL.stW hF rfl rfl rfl rfl (by simp only [evO, AV.get]; rfl) (by first | exact qom | exact qon | exact qoo | exact qop | exact qoq | exact qor | exact qos | exact qot) (by rfl) (by rfl) (by rfl) (by first | rfl | simp) (by simp only [List.set]; rfl) ?_) | (with_reducible refine Awp.id_ ?_; first | refine Awp.seq ?_ | refine Awp.regionK (by first | (simp only [AV.putO, AV.put]; rfl) | rfl) (fun K hK => ?_) | refine Awp.drawE (by first | (simp only [AV.putO, AV.put]; rfl) | rfl) mixed rfl (by kernel_rfl) (fun K hK => ?_) | refine Awp.block ?_ | refine Awp.skip ?_ | refine Awp.exit ?_ | refine Awp.ret ?_ | refine Awp.condT rfl ?_ | refine Awp.condF rfl ?_) | refine qto ?_ | refine qtp ?_ | refine qtq ?_ | refine qne ?_ | refine qnf ?_ | refine qng ?_ | refine qnh rfl ?_ | ((first | ((first | with_reducible refine AL.id_ ?_ | with_reducible refine AE.id_ ?_); (fail_if_success refine W.on rfl ?_); refine W.p rfl rfl (by simp only [AV.put]; rfl) (by simp only [AV.put]; rfl) (fun hb => ?_) (fun hb => ?_)) | (with_reducible refine Awp.id_ ?_; refine Awp.cond _ rfl (fun hb => ?_) (fun hb => ?_))) <;> (try simp only [z1, z2, z3, z4, z5, z6, z7, z8, y5, y6, y7, y8, z9, x1, x2, x3, x4, x5, x6, x7, x8] at hb; try (exfalso; omega)))))
      have hgho : ∀ i e, ([HE.blk b 77 [.int hu, .int lo, .int hi], .nodef, .ghost X3 (J (qle ss k + j))])[i]? = some e → e.isGhost → i = 2 := fun i e h1 h2 => by
        match i, h1 with
        | 0, h1 => cases h1; exact h2.elim
        | 1, h1 => cases h1; exact h2.elim
        | 2, _ => rfl
      refine AL.yield 2 rfl rfl rfl rfl _ rfl rfl hgho (by simp) (fun b hA => hT b fun h => (hA.1 h).1) hye (hcJ _) hcx (fun X4 => ?_) (fun X4 => ?_)
      · refine AL.norm (by simp only [AV.put]; rfl) rfl ?_
        (repeat' (first | ((first | with_reducible refine AL.id_ ?_ | with_reducible refine AE.id_ ?_); first | refine AL.build0 hF rfl rfl rfl (fun b => ⟨_, (by simp only [AV.put]; rfl), ?_⟩) | refine W.s rfl rfl (by first | exact AY.bx rfl (by simp only [evO, AV.get]; rfl) rfl | exact AY.mkFn rfl (by simp only [List.map_cons, List.map_nil, evO, AV.get]; rfl) | exact AY.mkFn1 rfl (by simp only [evO, AV.get]; rfl) (by simp only [List.map_cons, List.map_nil, evO, AV.get]; rfl) | exact AY.build rfl (by simp only [List.map_cons, List.map_nil, evO, AV.get]; rfl) (by simp only [List.map_cons, List.map_nil]; repeat (first | exact Places.nil | apply Places.cons)) (by first | (simp only [zip3, qdJ, qfD, qbW, qp, qit, List.map_cons, List.map_nil, List.length_cons, List.length_nil, List.take_succ_cons, List.take_zero, List.drop_succ_cons, List.drop_zero, List.replicate_succ, List.replicate_zero, List.cons_append, List.nil_append, List.append_nil, List.drop_nil, List.take_nil, List.toList_toArray, Nat.sub_zero, Nat.reduceSub, Nat.reduceAdd, Nat.reduceMul, Nat.zero_mul, Nat.one_mul, Nat.mul_one, Nat.zero_add, Nat.le_refl, Nat.reduceLeDiff, and_self, true_and, and_true, if_true]; rfl) | rfl) | exact AY.buildS rfl (by simp only [List.map_cons, List.map_nil, evO, AV.get]; rfl) (by first | rfl | decide) (by omega) (by first | (simp only [zip3, qdJ, qfD, qbW, qp, qit, List.map_cons, List.map_nil, List.length_cons, List.length_nil, List.take_succ_cons, List.take_zero, List.drop_succ_cons, List.drop_zero, List.replicate_succ, List.replicate_zero, List.cons_append, List.nil_append, List.append_nil, List.drop_nil, List.take_nil, List.toList_toArray, Nat.sub_zero, Nat.reduceSub, Nat.reduceAdd, Nat.reduceMul, Nat.zero_mul, Nat.one_mul, Nat.mul_one, Nat.zero_add, Nat.le_refl, Nat.reduceLeDiff, and_self, true_and, and_true, if_true]; rfl) | rfl) (by first | (simp only [zip3, qdJ, qfD, qbW, qp, qit, List.map_cons, List.map_nil, List.length_cons, List.length_nil, List.take_succ_cons, List.take_zero, List.drop_succ_cons, List.drop_zero, List.replicate_succ, List.replicate_zero, List.cons_append, List.nil_append, List.append_nil, List.drop_nil, List.take_nil, List.toList_toArray, Nat.sub_zero, Nat.reduceSub, Nat.reduceAdd, Nat.reduceMul, Nat.zero_mul, Nat.one_mul, Nat.mul_one, Nat.zero_add, Nat.le_refl, Nat.reduceLeDiff, and_self, true_and, and_true, if_true]; rfl) | rfl) | exact hEQ rfl rfl rfl | exact Step2.sound (by first | (((first | (apply Step2.a; constructor) | (apply Step2.b; constructor)) <;> first | infer_instance | skip) <;> (first | infer_instance | (refine w64c ?_; omega) | (refine qzb ?_; omega) | (refine qvS ?_; omega) | (refine qvT ?_; omega) | (refine qy8 ?_; omega) | ((repeat (first | exact .head _ | refine .tail _ ?_)); done) | assumption | (simp only [List.drop_succ_cons, List.drop_zero, List.length_map, Nat.zero_add, Nat.mul_one]; rfl) | rfl | omega | (simp; done))) | fail) rfl | exact AY.call rfl rfl _ rfl (by fail) | exact AY.slice1 rfl rfl rfl (by rfl) (by first | (simp; done) | fail) | exact AY.callF rfl _ _ rfl _ rfl (by fail) | exact AY.old1k 0 rfl rfl rfl (by first | assumption | rfl) | exact AY.old1k 1 rfl rfl rfl (by first | assumption | rfl) | exact AY.old1k 2 rfl rfl rfl (by first | assumption | rfl) | exact AY.oldNk 0 rfl rfl rfl (by first | omega | (simp; omega)) (by first | assumption | rfl) | exact AY.oldNk 1 rfl rfl rfl (by first | omega | (simp; omega)) (by first | assumption | rfl)) (by simp only [AV.put]; rfl) ?_ | (refine AL.nilK (hK _ _ ?_); clear hK K) | (refine AE.nil (hK _ ?_); clear hK K) | refine W.k rfl rfl (by simp only [AV.put]; rfl) ?_ | refine AL.unguardS rfl rfl ?_ | refine AL.al hF rfl rfl rfl (by first | (simp only [Value.cells, List.map_cons, List.map_nil]; rfl) | rfl) (fun b => ⟨_, (by simp only [AV.put]; rfl), ?_⟩) | refine AL.st1 hF rfl rfl rfl rfl (by simp only [evO, AV.get]; rfl) (by first | exact qom | exact qon | exact qoo | exact qop | exact qoq | exact qor | exact qos | exact qot) (by rfl) rfl (by rfl) (by first | (simp; done) | (simp; omega) | omega) (by simp only [List.set]; rfl) ?_ | refine AL.stW hF rfl rfl rfl rfl (by simp only [evO, AV.get]; rfl) (by first | exact qom | exact qon | exact qoo | exact qop | exact qoq | exact qor | exact qos | exact qot) (by rfl) (by rfl) (by rfl) (by first | rfl | simp) (by simp only [List.set]; rfl) ?_) | (with_reducible refine Awp.id_ ?_; first | refine Awp.seq ?_ | refine Awp.regionK (by first | (simp only [AV.putO, AV.put]; rfl) | rfl) (fun K hK => ?_) | refine Awp.drawE (by first | (simp only [AV.putO, AV.put]; rfl) | rfl) mixed rfl (by kernel_rfl) (fun K hK => ?_) | refine Awp.block ?_ | refine Awp.skip ?_ | refine Awp.exit ?_ | refine Awp.ret ?_ | refine Awp.condT rfl ?_ | refine Awp.condF rfl ?_) | refine qto ?_ | refine qtp ?_ | refine qtq ?_ | refine qne ?_ | refine qnf ?_ | refine qng ?_ | refine qnh rfl ?_ | ((first | ((first | with_reducible refine AL.id_ ?_ | with_reducible refine AE.id_ ?_); (fail_if_success refine W.on rfl ?_); refine W.p rfl rfl (by simp only [AV.put]; rfl) (by simp only [AV.put]; rfl) (fun hb => ?_) (fun hb => ?_)) | (with_reducible refine Awp.id_ ?_; refine Awp.cond _ rfl (fun hb => ?_) (fun hb => ?_))) <;> (try simp only [z1, z2, z3, z4, z5, z6, z7, z8, y5, y6, y7, y8, z9, x1, x2, x3, x4, x5, x6, x7, x8] at hb; try (exfalso; omega)))))
        (refine qK6 (n1 - 1) (by first | (simp only [AV.putO, AV.put]; rfl) | rfl) (by omega) ?_ (by simp only [List.map, AV.get, mask, putl, AV.put]))
        exact ⟨j + 1, X4, by omega, qK1 (by omega), rfl⟩
      · refine AL.norm (by simp only [AV.put]; rfl) rfl ?_
        (repeat' (first | ((first | with_reducible refine AL.id_ ?_ | with_reducible refine AE.id_ ?_); first | refine AL.build0 hF rfl rfl rfl (fun b => ⟨_, (by simp only [AV.put]; rfl), ?_⟩) | refine W.s rfl rfl (by first | exact AY.bx rfl (by simp only [evO, AV.get]; rfl) rfl | exact AY.mkFn rfl (by simp only [List.map_cons, List.map_nil, evO, AV.get]; rfl) | exact AY.mkFn1 rfl (by simp only [evO, AV.get]; rfl) (by simp only [List.map_cons, List.map_nil, evO, AV.get]; rfl) | exact AY.build rfl (by simp only [List.map_cons, List.map_nil, evO, AV.get]; rfl) (by simp only [List.map_cons, List.map_nil]; repeat (first | exact Places.nil | apply Places.cons)) (by first | (simp only [zip3, qdJ, qfD, qbW, qp, qit, List.map_cons, List.map_nil, List.length_cons, List.length_nil, List.take_succ_cons, List.take_zero, List.drop_succ_cons, List.drop_zero, List.replicate_succ, List.replicate_zero, List.cons_append, List.nil_append, List.append_nil, List.drop_nil, List.take_nil, List.toList_toArray, Nat.sub_zero, Nat.reduceSub, Nat.reduceAdd, Nat.reduceMul, Nat.zero_mul, Nat.one_mul, Nat.mul_one, Nat.zero_add, Nat.le_refl, Nat.reduceLeDiff, and_self, true_and, and_true, if_true]; rfl) | rfl) | exact AY.buildS rfl (by simp only [List.map_cons, List.map_nil, evO, AV.get]; rfl) (by first | rfl | decide) (by omega) (by first | (simp only [zip3, qdJ, qfD, qbW, qp, qit, List.map_cons, List.map_nil, List.length_cons, List.length_nil, List.take_succ_cons, List.take_zero, List.drop_succ_cons, List.drop_zero, List.replicate_succ, List.replicate_zero, List.cons_append, List.nil_append, List.append_nil, List.drop_nil, List.take_nil, List.toList_toArray, Nat.sub_zero, Nat.reduceSub, Nat.reduceAdd, Nat.reduceMul, Nat.zero_mul, Nat.one_mul, Nat.mul_one, Nat.zero_add, Nat.le_refl, Nat.reduceLeDiff, and_self, true_and, and_true, if_true]; rfl) | rfl) (by first | (simp only [zip3, qdJ, qfD, qbW, qp, qit, List.map_cons, List.map_nil, List.length_cons, List.length_nil, List.take_succ_cons, List.take_zero, List.drop_succ_cons, List.drop_zero, List.replicate_succ, List.replicate_zero, List.cons_append, List.nil_append, List.append_nil, List.drop_nil, List.take_nil, List.toList_toArray, Nat.sub_zero, Nat.reduceSub, Nat.reduceAdd, Nat.reduceMul, Nat.zero_mul, Nat.one_mul, Nat.mul_one, Nat.zero_add, Nat.le_refl, Nat.reduceLeDiff, and_self, true_and, and_true, if_true]; rfl) | rfl) | exact hEQ rfl rfl rfl | exact Step2.sound (by first | (((first | (apply Step2.a; constructor) | (apply Step2.b; constructor)) <;> first | infer_instance | skip) <;> (first | infer_instance | (refine w64c ?_; omega) | (refine qzb ?_; omega) | (refine qvS ?_; omega) | (refine qvT ?_; omega) | (refine qy8 ?_; omega) | ((repeat (first | exact .head _ | refine .tail _ ?_)); done) | assumption | (simp only [List.drop_succ_cons, List.drop_zero, List.length_map, Nat.zero_add, Nat.mul_one]; rfl) | rfl | omega | (simp; done))) | fail) rfl | exact AY.call rfl rfl _ rfl (by fail) | exact AY.slice1 rfl rfl rfl (by rfl) (by first | (simp; done) | fail) | exact AY.callF rfl _ _ rfl _ rfl (by fail) | exact AY.old1k 0 rfl rfl rfl (by first | assumption | rfl) | exact AY.old1k 1 rfl rfl rfl (by first | assumption | rfl) | exact AY.old1k 2 rfl rfl rfl (by first | assumption | rfl) | exact AY.oldNk 0 rfl rfl rfl (by first | omega | (simp; omega)) (by first | assumption | rfl) | exact AY.oldNk 1 rfl rfl rfl (by first | omega | (simp; omega)) (by first | assumption | rfl)) (by simp only [AV.put]; rfl) ?_ | (refine AL.nilK (hK _ _ ?_); clear hK K) | (refine AE.nil (hK _ ?_); clear hK K) | refine W.k rfl rfl (by simp only [AV.put]; rfl) ?_ | refine AL.unguardS rfl rfl ?_ | refine AL.al hF rfl rfl rfl (by first | (simp only [Value.cells, List.map_cons, List.map_nil]; rfl) | rfl) (fun b => ⟨_, (by simp only [AV.put]; rfl), ?_⟩) | refine AL.st1 hF rfl rfl rfl rfl (by simp only [evO, AV.get]; rfl) (by first | exact qom | exact qon | exact qoo | exact qop | exact qoq | exact qor | exact qos | exact qot) (by rfl) rfl (by rfl) (by first | (simp; done) | (simp; omega) | omega) (by simp only [List.set]; rfl) ?_ | refine AL.stW hF rfl rfl rfl rfl (by simp only [evO, AV.get]; rfl) (by first | exact qom | exact qon | exact qoo | exact qop | exact qoq | exact qor | exact qos | exact qot) (by rfl) (by rfl) (by rfl) (by first | rfl | simp) (by simp only [List.set]; rfl) ?_) | (with_reducible refine Awp.id_ ?_; first | refine Awp.seq ?_ | refine Awp.regionK (by first | (simp only [AV.putO, AV.put]; rfl) | rfl) (fun K hK => ?_) | refine Awp.drawE (by first | (simp only [AV.putO, AV.put]; rfl) | rfl) mixed rfl (by kernel_rfl) (fun K hK => ?_) | refine Awp.block ?_ | refine Awp.skip ?_ | refine Awp.exit ?_ | refine Awp.ret ?_ | refine Awp.condT rfl ?_ | refine Awp.condF rfl ?_) | refine qto ?_ | refine qtp ?_ | refine qtq ?_ | refine qne ?_ | refine qnf ?_ | refine qng ?_ | refine qnh rfl ?_ | ((first | ((first | with_reducible refine AL.id_ ?_ | with_reducible refine AE.id_ ?_); (fail_if_success refine W.on rfl ?_); refine W.p rfl rfl (by simp only [AV.put]; rfl) (by simp only [AV.put]; rfl) (fun hb => ?_) (fun hb => ?_)) | (with_reducible refine Awp.id_ ?_; refine Awp.cond _ rfl (fun hb => ?_) (fun hb => ?_))) <;> (try simp only [z1, z2, z3, z4, z5, z6, z7, z8, y5, y6, y7, y8, z9, x1, x2, x3, x4, x5, x6, x7, x8] at hb; try (exfalso; omega)))))
        exact qIw rfl ⟨X4, .inr (List.mem_of_getElem? (i := 2) rfl)⟩
    · have hle : ¬ (lo + j ≤ hi) := by omega
      (repeat' (first | ((first | with_reducible refine AL.id_ ?_ | with_reducible refine AE.id_ ?_); first | refine AL.build0 hF rfl rfl rfl (fun b => ⟨_, (by simp only [AV.put]; rfl), ?_⟩) | refine W.s rfl rfl (by first | exact AY.bx rfl (by simp only [evO, AV.get]; rfl) rfl | exact AY.mkFn rfl (by simp only [List.map_cons, List.map_nil, evO, AV.get]; rfl) | exact AY.mkFn1 rfl (by simp only [evO, AV.get]; rfl) (by simp only [List.map_cons, List.map_nil, evO, AV.get]; rfl) | exact hEQ rfl rfl rfl | exact Step2.sound (by first | (((first | (apply Step2.a; constructor) | (apply Step2.b; constructor)) <;> first | infer_instance | skip) <;> (first | infer_instance | (refine w64c ?_; omega) | (refine qzb ?_; omega) | (refine qvS ?_; omega) | (refine qvT ?_; omega) | (refine qy8 ?_; omega) | ((repeat (first | exact .head _ | refine .tail _ ?_)); done) | assumption | (simp only [List.drop_succ_cons, List.drop_zero, List.length_map, Nat.zero_add, Nat.mul_one]; rfl) | rfl | omega | (simp; done))) | fail) rfl | exact AY.call rfl rfl _ rfl (by fail) | exact AY.slice1 rfl rfl rfl (by rfl) (by first | (simp; done) | fail) | exact AY.callF rfl _ _ rfl _ rfl (by fail) | exact AY.old1k 0 rfl rfl rfl (by first | assumption | rfl) | exact AY.old1k 1 rfl rfl rfl (by first | assumption | rfl) | exact AY.old1k 2 rfl rfl rfl (by first | assumption | rfl) | exact AY.oldNk 0 rfl rfl rfl (by first | omega | (simp; omega)) (by first | assumption | rfl) | exact AY.oldNk 1 rfl rfl rfl (by first | omega | (simp; omega)) (by first | assumption | rfl)) (by simp only [AV.put]; rfl) ?_ | (refine AL.nilK (hK _ _ ?_); clear hK K) | (refine AE.nil (hK _ ?_); clear hK K) | refine W.k rfl rfl (by simp only [AV.put]; rfl) ?_ | refine AL.unguardS rfl rfl ?_ | refine AL.al hF rfl rfl rfl (by first | (simp only [Value.cells, List.map_cons, List.map_nil]; rfl) | rfl) (fun b => ⟨_, (by simp only [AV.put]; rfl), ?_⟩) | refine AL.st1 hF rfl rfl rfl rfl (by simp only [evO, AV.get]; rfl) (by first | exact qom | exact qon | exact qoo | exact qop | exact qoq | exact qor | exact qos | exact qot) (by rfl) rfl (by rfl) (by first | (simp; done) | (simp; omega) | omega) (by simp only [List.set]; rfl) ?_ | refine AL.stW hF rfl rfl rfl rfl (by simp only [evO, AV.get]; rfl) (by first | exact qom | exact qon | exact qoo | exact qop | exact qoq | exact qor | exact qos | exact qot) (by rfl) (by rfl) (by rfl) (by first | rfl | simp) (by simp only [List.set]; rfl) ?_) | (with_reducible refine Awp.id_ ?_; first | refine Awp.seq ?_ | refine Awp.regionK (by first | (simp only [AV.putO, AV.put]; rfl) | rfl) (fun K hK => ?_) | refine Awp.drawE (by first | (simp only [AV.putO, AV.put]; rfl) | rfl) mixed rfl (by kernel_rfl) (fun K hK => ?_) | refine Awp.block ?_ | refine Awp.skip ?_ | refine Awp.exit ?_ | refine Awp.ret ?_ | refine Awp.condT rfl ?_ | refine Awp.condF rfl ?_) | refine qto ?_ | refine qtp ?_ | refine qtq ?_ | refine qne ?_ | refine qnf ?_ | refine qng ?_ | refine qnh rfl ?_ | ((first | ((first | with_reducible refine AL.id_ ?_ | with_reducible refine AE.id_ ?_); (fail_if_success refine W.on rfl ?_); refine W.p rfl rfl (by simp only [AV.put]; rfl) (by simp only [AV.put]; rfl) (fun hb => ?_) (fun hb => ?_)) | (with_reducible refine Awp.id_ ?_; refine Awp.cond _ rfl (fun hb => ?_) (fun hb => ?_))) <;> (try simp only [z1, z2, z3, z4, z5, z6, z7, z8, y5, y6, y7, y8, z9, x1, x2, x3, x4, x5, x6, x7, x8] at hb; try (exfalso; omega)))))
      (refine qJx (n - 1) (List.sublist_cons_self _ _) (by first | (simp only [AV.putO, AV.put]; rfl) | rfl) (by omega) ?_ (by simp only [List.map, AV.get, mask, putl, AV.put]))
      exact ⟨k + 1, X3, by omega, qK1 (by omega), by rw [hNk, show (hi + 1 - lo).toNat = j by omega]⟩
  · (repeat' (first | ((first | with_reducible refine AL.id_ ?_ | with_reducible refine AE.id_ ?_); first | refine AL.build0 hF rfl rfl rfl (fun b => ⟨_, (by simp only [AV.put]; rfl), ?_⟩) | refine W.s rfl rfl (by first | exact AY.bx rfl (by simp only [evO, AV.get]; rfl) rfl | exact AY.mkFn rfl (by simp only [List.map_cons, List.map_nil, evO, AV.get]; rfl) | exact AY.mkFn1 rfl (by simp only [evO, AV.get]; rfl) (by simp only [List.map_cons, List.map_nil, evO, AV.get]; rfl) | exact hEQ rfl rfl rfl | exact Step2.sound (by first | (((first | (apply Step2.a; constructor) | (apply Step2.b; constructor)) <;> first | infer_instance | skip) <;> (first | infer_instance | (refine w64c ?_; omega) | (refine qzb ?_; omega) | (refine qvS ?_; omega) | (refine qvT ?_; omega) | (refine qy8 ?_; omega) | ((repeat (first | exact .head _ | refine .tail _ ?_)); done) | assumption | (simp only [List.drop_succ_cons, List.drop_zero, List.length_map, Nat.zero_add, Nat.mul_one]; rfl) | rfl | omega | (simp; done))) | fail) rfl | exact AY.call rfl rfl _ rfl (by fail) | exact AY.slice1 rfl rfl rfl (by rfl) (by first | (simp; done) | fail) | exact AY.callF rfl _ _ rfl _ rfl (by fail) | exact AY.old1k 0 rfl rfl rfl (by first | assumption | rfl) | exact AY.old1k 1 rfl rfl rfl (by first | assumption | rfl) | exact AY.old1k 2 rfl rfl rfl (by first | assumption | rfl) | exact AY.oldNk 0 rfl rfl rfl (by first | omega | (simp; omega)) (by first | assumption | rfl) | exact AY.oldNk 1 rfl rfl rfl (by first | omega | (simp; omega)) (by first | assumption | rfl)) (by simp only [AV.put]; rfl) ?_ | (refine AL.nilK (hK _ _ ?_); clear hK K) | (refine AE.nil (hK _ ?_); clear hK K) | refine W.k rfl rfl (by simp only [AV.put]; rfl) ?_ | refine AL.unguardS rfl rfl ?_ | refine AL.al hF rfl rfl rfl (by first | (simp only [Value.cells, List.map_cons, List.map_nil]; rfl) | rfl) (fun b => ⟨_, (by simp only [AV.put]; rfl), ?_⟩) | refine AL.st1 hF rfl rfl rfl rfl (by simp only [evO, AV.get]; rfl) (by first | exact qom | exact qon | exact qoo | exact qop | exact qoq | exact qor | exact qos | exact qot) (by rfl) rfl (by rfl) (by first | (simp; done) | (simp; omega) | omega) (by simp only [List.set]; rfl) ?_ | refine AL.stW hF rfl rfl rfl rfl (by simp only [evO, AV.get]; rfl) (by first | exact qom | exact qon | exact qoo | exact qop | exact qoq | exact qor | exact qos | exact qot) (by rfl) (by rfl) (by rfl) (by first | rfl | simp) (by simp only [List.set]; rfl) ?_) | (with_reducible refine Awp.id_ ?_; first | refine Awp.seq ?_ | refine Awp.regionK (by first | (simp only [AV.putO, AV.put]; rfl) | rfl) (fun K hK => ?_) | refine Awp.drawE (by first | (simp only [AV.putO, AV.put]; rfl) | rfl) mixed rfl (by kernel_rfl) (fun K hK => ?_) | refine Awp.block ?_ | refine Awp.skip ?_ | refine Awp.exit ?_ | refine Awp.ret ?_ | refine Awp.condT rfl ?_ | refine Awp.condF rfl ?_) | refine qto ?_ | refine qtp ?_ | refine qtq ?_ | refine qne ?_ | refine qnf ?_ | refine qng ?_ | refine qnh rfl ?_ | ((first | ((first | with_reducible refine AL.id_ ?_ | with_reducible refine AE.id_ ?_); (fail_if_success refine W.on rfl ?_); refine W.p rfl rfl (by simp only [AV.put]; rfl) (by simp only [AV.put]; rfl) (fun hb => ?_) (fun hb => ?_)) | (with_reducible refine Awp.id_ ?_; refine Awp.cond _ rfl (fun hb => ?_) (fun hb => ?_))) <;> (try simp only [z1, z2, z3, z4, z5, z6, z7, z8, y5, y6, y7, y8, z9, x1, x2, x3, x4, x5, x6, x7, x8] at hb; try (exfalso; omega)))))
    exact qJz rfl ⟨X', .inl (by rw [show ss.length = k by omega]; exact List.mem_of_getElem? (i := 1) rfl)⟩
def qFc : Itr Try.prog := ⟨97, [T30], [T80], fun x => qwD x.1.2.2.2.2, fun x l h => qKl x l h⟩
end Go.Proofs.Ytcjgodgpaokbnaa

/- Printed: what functions of the program compute. -/
namespace Go.Proofs.Ytcjgodgpaokbnaa
set_option linter.constructorNameAsVariable false
set_option linter.unusedSimpArgs false
set_option linter.unusedVariables false
set_option linter.unusedSectionVars false
open Go Go.Proofs Go.RowKit
set_option maxRecDepth 20000
noncomputable def qAr (n : Nat) : CL Try.prog := ⟨[], [], 0⟩
noncomputable def qAs (n : Nat) : Nat → St → PT (DEx × St) := fun _ _ => .fail
theorem qGt : qd (qa Try.f67) 0 = [] := by kernel_rfl
theorem qGu : Try.f67.body = some (qa Try.f67) := by kernel_rfl
abbrev qwE : List Ar := [.d T30]
abbrev qsM : List Ty := [T30]
noncomputable def qBl (n : Nat) (x : qy qwE) : Option (qk qsM) := (qi tab (qAr n) (qAs n) (qa Try.f67) 0 (qC qwE 4 x)).run (qK0 2 97 qsM)
noncomputable def qBm (n : Nat) : Ct Try.prog := ⟨67, qwE, .fb 97 qsM, qBl n, fun _ _ h => qLQ (B := tab) (cs := qAr n) (lo := qAs n) (i := 2) (g := 97) (caps := qsM) Try.func67 (by kernel_rfl) qGu (by kernel_rfl) (qh qGt qe) h⟩
noncomputable def qrP (n : Nat) : CL Try.prog := ⟨[], [], 0⟩
noncomputable def qrQ (n : Nat) : Nat → St → PT (DEx × St) := fun _ _ => .fail
theorem qzY : qd (qa Try.f37) 0 = [] := by kernel_rfl
theorem qzZ : Try.f37.body = some (qa Try.f37) := by kernel_rfl
abbrev qmM : List It := [.v (.t 1) T80, .obj (.t 0) true 72 5, .v (.c 0 0) T69, .row (.c 0 2) true T30 30, .row (.c 0 3) true T30 30, .mpi (.c 0 4) true T80 T3]
abbrev qlG : List (List It) := [[.v (.t 0) T3, .obj (.t 1) true 72 5, .v (.c 0 0) T69, .row (.c 0 2) true T30 30, .row (.c 0 3) true T30 30, .mpi (.c 0 4) true T80 T3]]
noncomputable def qsN (n : Nat) (x : qb qmM) : Option (qx qlG) := runW tab (qrP n) (qrQ n) (qa Try.f37) qmM 2 23 [.tmp 4] qlG x
noncomputable def qz0 (n : Nat) : Cw Try.prog := ⟨37, 2, qmM, 1, qlG, qsN n, fun _ _ h => qbb (B := tab) (cs := qrP n) (lo := qrQ n) (rs := [.tmp 4]) Try.func37 (by kernel_rfl) qzZ (by kernel_rfl) (by decide) (qh qzY qe) h⟩
noncomputable def qio (n : Nat) : CL Try.prog := ⟨[qBm n], [qz0 n], 0⟩
noncomputable def qp9 (n : Nat) : Nat → St → PT (DEx × St) := fun _ _ => .fail
abbrev qcx : List It := [.obj (.t 0) true 72 5, .v (.c 0 0) T69, .row (.c 0 2) true T30 30, .row (.c 0 3) true T30 30, .mpi (.c 0 4) true T80 T3, .obj (.t 2) false 64 1, .pal (.c 4 0) 0 0, .obj (.t 3) false 30 5, .v (.c 5 0) T30, .obj (.t 4) false 80 2, .v (.c 6 0) T80, .obj (.t 5) false 3 1, .v (.c 7 0) T3]
abbrev qip : List (DEx × List It) := [(.ret, [.obj (.t 0) true 72 5, .v (.c 0 0) T69, .row (.c 0 2) true T30 30, .row (.c 0 3) true T30 30, .mpi (.c 0 4) true T80 T3, .obj (.t 4) false 80 2, .v (.c 4 0) T80, .obj (.t 5) false 3 1, .v (.c 5 0) T3])]
abbrev qqY : List Ty := [T80]
noncomputable def qqZ (n : Nat) (rec : qb qcx → Option (qb qcx ⊕ qf qip)) (s : qb qcx) (y : qk qqY) : Option (qb qcx ⊕ qf qip) := (qDz tab (qio n) (qp9 n) [10] (subC [true, false, true, false, false] (qa Try.f45)) (subC [true, false, true, false, true] (qa Try.f45)) 1 (mkS qcx 22 s) (tysD qqY y)).run (qFy 22 qcx qip (mkS qcx 22 s) rec)
noncomputable def qlH (n : Nat) : Rg Try.prog := ⟨.tmp 9, 22, qcx, qFc, qip, rgF (qqZ n)⟩
theorem qxb : qd (subC [true, false, true, false, false] (qa Try.f45)) 1 = [] := by kernel_rfl
theorem qyf : qd (subC [true, false, true, false, true] (qa Try.f45)) (1 + qjg (subC [true, false, true, false, false] (qa Try.f45))) = [] := by kernel_rfl
theorem qvB (n : Nat) (st : St) (r : DEx × St) (h : ((qlH n).go st).Is r) : DA Try.prog false (.rangeFunc (.tmp 9) ([10] : List Tmp).toArray (subC [true, false, true, false, false] (qa Try.f45)) (subC [true, false, true, false, true] (qa Try.f45))) st r := Rg.ok (L := qlH n) (B := tab) (cs := qio n) (lo := qp9 n) (id := 0) rfl rfl (qh qxb qe) (qh qyf qe) (fun _ _ _ => rfl) h
noncomputable def qq0 (n : Nat) : Nat → St → PT (DEx × St) := fun k st => match k with
  | 0 => (qlH n).go st
  | _ => .fail
theorem qyT : qd (qa Try.f45) 0 = [(0, .rangeFunc (.tmp 9) ([10] : List Tmp).toArray (subC [true, false, true, false, false] (qa Try.f45)) (subC [true, false, true, false, true] (qa Try.f45)))] := by kernel_rfl
theorem qyU : Try.f45.body = some (qa Try.f45) := by kernel_rfl
abbrev qlI : List It := [.v (.t 1) T30, .obj (.t 0) true 72 5, .v (.c 0 0) T69, .row (.c 0 2) true T30 30, .row (.c 0 3) true T30 30, .mpi (.c 0 4) true T80 T3]
abbrev qkN : List (List It) := [[.v (.t 0) T80, .v (.t 1) T3, .obj (.t 2) true 72 5, .v (.c 0 0) T69, .row (.c 0 2) true T30 30, .row (.c 0 3) true T30 30, .mpi (.c 0 4) true T80 T3]]
noncomputable def qrR (n : Nat) (x : qb qlI) : Option (qx qkN) := runW tab (qio n) (qq0 n) (qa Try.f45) qlI 2 22 [.cell 4 80, .cell 5 3] qkN x
noncomputable def qyV (n : Nat) : Cw Try.prog := ⟨45, 2, qlI, 2, qkN, qrR n, fun _ _ h => qbb (B := tab) (cs := qio n) (lo := qq0 n) (rs := [.cell 4 80, .cell 5 3]) Try.func45 (by kernel_rfl) qyU (by kernel_rfl) (by decide) (qh qyT (all_cons (fun st r h => qvB n st r h) qe)) h⟩
noncomputable def qf7 (n : Nat) : CL Try.prog := ⟨[qBm n], [qyV n], 0⟩
noncomputable def qsO (n : Nat) : Nat → St → PT (DEx × St) := fun _ _ => .fail
abbrev qdD : List It := [.nilf (.t 2), .v (.t 17) T25, .v (.t 18) T3, .v (.t 19) T3, .obj (.t 7) false 64 1, .obj (.c 0 0) false 72 5, .v (.c 1 0) T69, .row (.c 1 2) false T30 30, .row (.c 1 3) false T30 30, .mpi (.c 1 4) false T80 T3, .obj (.t 9) false 30 5, .v (.c 5 0) T30]
abbrev qkp : List (DEx × List It) := []
abbrev qtk : List Ty := [T80]
noncomputable def qtl (n : Nat) (rec : qb qdD → Option (qb qdD ⊕ qf qkp)) (s : qb qdD) (y : qk qtk) : Option (qb qdD ⊕ qf qkp) := (qDz tab (qf7 n) (qsO n) [61] (subC [true, true, false, true, false, false, true, true, false, false, true, true, true, true, true, false, false] (qa Try.f52)) (subC [true, true, false, true, false, false, true, true, false, false, true, true, true, true, true, false, true] (qa Try.f52)) 2 (mkS qdD 75 s) (tysD qtk y)).run (qFy 75 qdD qkp (mkS qdD 75 s) rec)
noncomputable def qoj (n : Nat) : Rg Try.prog := ⟨.tmp 60, 75, qdD, qFc, qkp, rgF (qtl n)⟩
theorem qz1 : qd (subC [true, true, false, true, false, false, true, true, false, false, true, true, true, true, true, false, false] (qa Try.f52)) 2 = [] := by kernel_rfl
theorem qAB : qd (subC [true, true, false, true, false, false, true, true, false, false, true, true, true, true, true, false, true] (qa Try.f52)) (2 + qjg (subC [true, true, false, true, false, false, true, true, false, false, true, true, true, true, true, false, false] (qa Try.f52))) = [] := by kernel_rfl
theorem qyg (n : Nat) (st : St) (r : DEx × St) (h : ((qoj n).go st).Is r) : DA Try.prog false (.rangeFunc (.tmp 60) ([61] : List Tmp).toArray (subC [true, true, false, true, false, false, true, true, false, false, true, true, true, true, true, false, false] (qa Try.f52)) (subC [true, true, false, true, false, false, true, true, false, false, true, true, true, true, true, false, true] (qa Try.f52))) st r := Rg.ok (L := qoj n) (B := tab) (cs := qf7 n) (lo := qsO n) (id := 1) rfl rfl (qh qz1 qe) (qh qAB qe) (fun _ _ _ => rfl) h
noncomputable def qsP (n : Nat) : Nat → St → PT (DEx × St) := fun k st => match k with
  | 1 => (qoj n).go st
  | _ => .fail
abbrev qhV : List It := [.nilf (.t 2), .v (.t 17) T25, .v (.t 18) T3, .v (.t 19) T3, .obj (.t 7) false 64 1, .obj (.c 0 0) false 72 5, .v (.c 1 0) T69, .row (.c 1 2) false T30 30, .row (.c 1 3) false T30 30, .mpi (.c 1 4) false T80 T3]
abbrev qkq : List (DEx × List It) := [(.exit 0, [.obj (.t 7) false 64 1, .obj (.c 0 0) false 72 5, .v (.c 1 0) T69, .row (.c 1 2) false T30 30, .row (.c 1 3) false T30 30, .mpi (.c 1 4) false T80 T3])]
noncomputable def qtm (n : Nat) (rec : qb qhV → Option (qf qkq)) (s : qb qhV) : Option (qf qkq) := (qi tab (qf7 n) (qsP n) (subC [true, true, false, true, false, false] (qa Try.f52)) 1 (mkS qhV 75 s)).run (Lp.leaf 75 qhV qkq rec)
noncomputable def qok (n : Nat) : Lp := ⟨75, qhV, qkq, qg n (qtm n)⟩
theorem qAC : qd (subC [true, true, false, true, false, false] (qa Try.f52)) 1 = [(1, .rangeFunc (.tmp 60) ([61] : List Tmp).toArray (subC [true, true, false, true, false, false, true, true, false, false, true, true, true, true, true, false, false] (qa Try.f52)) (subC [true, true, false, true, false, false, true, true, false, false, true, true, true, true, true, false, true] (qa Try.f52)))] := by kernel_rfl
theorem qyh (n : Nat) (st : St) (r : DEx × St) (h : ((qok n).go st).Is r) : DA Try.prog false (.loop (subC [true, true, false, true, false, false] (qa Try.f52))) st r := Lp.ok (L := qok n) (B := tab) (cs := qf7 n) (lo := qsP n) (id := 0) rfl (qh qAC (all_cons (fun st r h => qyg n st r h) qe)) (fun _ _ => rfl) h
noncomputable def qtn (n : Nat) : Nat → St → PT (DEx × St) := fun k st => match k with
  | 0 => (qok n).go st
  | _ => .fail
theorem qBn : qd (qa Try.f52) 0 = [(0, .loop (subC [true, true, false, true, false, false] (qa Try.f52)))] := by kernel_rfl
theorem qBo : Try.f52.body = some (qa Try.f52) := by kernel_rfl
abbrev qol : List It := [.v (.t 0) T69, .v (.t 1) T25, .nilf (.t 2)]
abbrev qnC : List (List It) := [[.obj (.t 0) false 72 5, .v (.c 0 0) T69, .row (.c 0 2) false T30 30, .row (.c 0 3) false T30 30, .mpi (.c 0 4) false T80 T3]]
noncomputable def quI (n : Nat) (x : qb qol) : Option (qx qnC) := runW tab (qf7 n) (qtn n) (qa Try.f52) qol 3 75 [.tmp 6] qnC x
noncomputable def qBp (n : Nat) : Cw Try.prog := ⟨52, 3, qol, 1, qnC, quI n, fun _ _ h => qbb (B := tab) (cs := qf7 n) (lo := qtn n) (rs := [.tmp 6]) Try.func52 (by kernel_rfl) qBo (by kernel_rfl) (by decide) (qh qBn (all_cons (fun st r h => qyh n st r h) qe)) h⟩
noncomputable def qAt (n : Nat) : CL Try.prog := ⟨[], [qwy n, qgN n, qgP n, qlF n, qn2 n], 1⟩
noncomputable def qAu (n : Nat) : Nat → St → PT (DEx × St) := fun _ _ => .fail
theorem qGv : qd (qa Try.f53) 0 = [] := by kernel_rfl
theorem qGw : Try.f53.body = some (qa Try.f53) := by kernel_rfl
abbrev qwF : List Ar := [.d T25]
abbrev qwG : List Ty := [T25]
noncomputable def qBq (n : Nat) (x : qy qwF) : Option (qk qwG) := (qi tab (qAt n) (qAu n) (qa Try.f53) 0 (qC qwF 15 x)).run (qbA tab [.tmp 2] qwG)
noncomputable def qGx (n : Nat) : Ct Try.prog := ⟨53, qwF, .ts qwG, qBq n, fun _ _ h => qbF (B := tab) (cs := qAt n) (lo := qAu n) (rs := [.tmp 2]) Try.func53 (by kernel_rfl) qGw (by kernel_rfl) (by decide) (qh qGv qe) h⟩
noncomputable def qxO (n : Nat) : CL Try.prog := ⟨[qwi n, qut n], [], 0⟩
noncomputable def qxP (n : Nat) : Nat → St → PT (DEx × St) := fun _ _ => .fail
theorem qEp : qd (qa Try.f49) 0 = [] := by kernel_rfl
theorem qEq : Try.f49.body = some (qa Try.f49) := by kernel_rfl
abbrev qsQ : List It := [.v (.t 0) T80, .obj (.t 1) true 69 2, .v (.c 0 0) T69]
abbrev qrn : List (List It) := [[.v (.t 0) T4, .obj (.t 1) true 69 2, .v (.c 0 0) T69]]
noncomputable def qyW (n : Nat) (x : qb qsQ) : Option (qx qrn) := runW tab (qxO n) (qxP n) (qa Try.f49) qsQ 2 16 [.tmp 3] qrn x
noncomputable def qyX (n : Nat) : Cw Try.prog := ⟨49, 2, qsQ, 1, qrn, qyW n, fun _ _ h => qbb (B := tab) (cs := qxO n) (lo := qxP n) (rs := [.tmp 3]) Try.func49 (by kernel_rfl) qEq (by kernel_rfl) (by decide) (qh qEp qe) h⟩
noncomputable def qcm (n : Nat) : CL Try.prog := ⟨[], [qyX n], 0⟩
noncomputable def qgQ (n : Nat) : Nat → St → PT (DEx × St) := fun _ _ => .fail
abbrev qbk : List It := [.v (.t 0) T93, .v (.t 7) T3, .v (.t 8) T3, .fnc (.t 1) 49 [.box true 69 2], .v (.c 0 0) T69]
abbrev qcn : List (DEx × List It) := [(.exit 0, [.fnc (.t 1) 49 [.box true 69 2], .v (.c 0 0) T69]), (.ret, [.v (.t 4) T3, .fnc (.t 1) 49 [.box true 69 2], .v (.c 0 0) T69])]
noncomputable def qg9 (n : Nat) (rec : qb qbk → Option (qf qcn)) (s : qb qbk) : Option (qf qcn) := (qi tab (qcm n) (qgQ n) (subC [true, false, true, false, false] (qa Try.f69)) 1 (mkS qbk 19 s)).run (Lp.leaf 19 qbk qcn rec)
noncomputable def qed (n : Nat) : Lp := ⟨19, qbk, qcn, qg n (qg9 n)⟩
theorem qm3 : qd (subC [true, false, true, false, false] (qa Try.f69)) 1 = [] := by kernel_rfl
theorem qlJ (n : Nat) (st : St) (r : DEx × St) (h : ((qed n).go st).Is r) : DA Try.prog false (.loop (subC [true, false, true, false, false] (qa Try.f69))) st r := Lp.ok (L := qed n) (B := tab) (cs := qcm n) (lo := qgQ n) (id := 0) rfl (qh qm3 qe) (fun _ _ => rfl) h
noncomputable def qha (n : Nat) : Nat → St → PT (DEx × St) := fun k st => match k with
  | 0 => (qed n).go st
  | _ => .fail
theorem qnD : qd (qa Try.f69) 0 = [(0, .loop (subC [true, false, true, false, false] (qa Try.f69)))] := by kernel_rfl
theorem qnE : Try.f69.body = some (qa Try.f69) := by kernel_rfl
abbrev qee : List It := [.v (.t 0) T93, .fnc (.t 1) 49 [.box true 69 2], .v (.c 0 0) T69]
abbrev qdZ : List (List It) := [[.v (.t 0) T3, .obj (.t 1) true 69 2, .v (.c 0 0) T69]]
noncomputable def qhs (n : Nat) (x : qb qee) : Option (qx qdZ) := runW tab (qcm n) (qha n) (qa Try.f69) qee 2 19 [.tmp 4] qdZ x
noncomputable def qnF (n : Nat) : Cw Try.prog := ⟨69, 2, qee, 1, qdZ, qhs n, fun _ _ h => qbb (B := tab) (cs := qcm n) (lo := qha n) (rs := [.tmp 4]) Try.func69 (by kernel_rfl) qnE (by kernel_rfl) (by decide) (qh qnD (all_cons (fun st r h => qlJ n st r h) qe)) h⟩
noncomputable def qgg (n : Nat) : CL Try.prog := ⟨[], [qyX n, qnF n], 0⟩
noncomputable def qgh (n : Nat) : Nat → St → PT (DEx × St) := fun _ _ => .fail
theorem ql4 : qd (qa Try.f48) 0 = [] := by kernel_rfl
theorem ql5 : Try.f48.body = some (qa Try.f48) := by kernel_rfl
abbrev qdo : List It := [.v (.t 0) T93, .fnc (.t 1) 49 [.box true 69 2], .v (.c 0 0) T69]
abbrev qde : List (List It) := [[.v (.t 0) T4, .obj (.t 1) true 69 2, .v (.c 0 0) T69]]
noncomputable def qgy (n : Nat) (x : qb qdo) : Option (qx qde) := runW tab (qgg n) (qgh n) (qa Try.f48) qdo 2 9 [.tmp 4] qde x
noncomputable def ql6 (n : Nat) : Cw Try.prog := ⟨48, 2, qdo, 1, qde, qgy n, fun _ _ h => qbb (B := tab) (cs := qgg n) (lo := qgh n) (rs := [.tmp 4]) Try.func48 (by kernel_rfl) ql5 (by kernel_rfl) (by decide) (qh ql4 qe) h⟩
noncomputable def qAv (n : Nat) : CL Try.prog := ⟨[qGs n, qGx n], [ql6 n, qBp n], 4⟩
noncomputable def qAw (n : Nat) : Nat → St → PT (DEx × St) := fun _ _ => .fail
theorem qGy : qd (qa Try.f31) 0 = [] := by kernel_rfl
theorem qGz : Try.f31.body = some (qa Try.f31) := by kernel_rfl
abbrev qu2 : List It := [.v (.t 0) T24, .v (.t 1) T25, .v (.t 2) T93]
abbrev qtO : List (List It) := [[.v (.t 1) T33, .obj (.t 0) false 72 5, .v (.c 0 0) T69, .row (.c 0 2) false T30 30, .row (.c 0 3) false T30 30, .mpi (.c 0 4) false T80 T3], [.nilp (.t 0), .v (.t 1) T33]]
noncomputable def qBr (n : Nat) (x : qb qu2) : Option (qx qtO) := runW tab (qAv n) (qAw n) (qa Try.f31) qu2 3 25 [.tmp 6, .tmp 7] qtO x
noncomputable def qBs (n : Nat) : Cw Try.prog := ⟨31, 3, qu2, 2, qtO, qBr n, fun _ _ h => qbb (B := tab) (cs := qAv n) (lo := qAw n) (rs := [.tmp 6, .tmp 7]) Try.func31 (by kernel_rfl) qGz (by kernel_rfl) (by decide) (qh qGy qe) h⟩
noncomputable def qwH (n : Nat) : CL Try.prog := ⟨[], [qBs n, qCr n, qBi n], 4⟩
noncomputable def qwI (n : Nat) : Nat → St → PT (DEx × St) := fun _ _ => .fail
theorem qDN : qd (qa Try.f12) 0 = [] := by kernel_rfl
theorem qDO : Try.f12.body = some (qa Try.f12) := by kernel_rfl
abbrev qsR : List Ar := [.d T24, .d T25]
abbrev qsS : List Ty := [T32, T33]
noncomputable def qxQ (n : Nat) (x : qy qsR) : Option (qk qsS) := (qi tab (qwH n) (qwI n) (qa Try.f12) 0 (qC qsR 26 x)).run (qbA tab [.tmp 4, .tmp 5] qsS)
noncomputable def qxR (n : Nat) : Ct Try.prog := ⟨12, qsR, .ts qsS, qxQ n, fun _ _ h => qbF (B := tab) (cs := qwH n) (lo := qwI n) (rs := [.tmp 4, .tmp 5]) Try.func12 (by kernel_rfl) qDO (by kernel_rfl) (by decide) (qh qDN qe) h⟩
noncomputable def qxS (n : Nat) : CL Try.prog := ⟨[], [qBs n, qCr n], 4⟩
noncomputable def qxT (n : Nat) : Nat → St → PT (DEx × St) := fun _ _ => .fail
theorem qEr : qd (qa Try.f13) 0 = [] := by kernel_rfl
theorem qEs : Try.f13.body = some (qa Try.f13) := by kernel_rfl
abbrev qtP : List Ar := [.d T24, .d T25]
abbrev qtQ : List Ty := [T32, T33]
noncomputable def qyY (n : Nat) (x : qy qtP) : Option (qk qtQ) := (qi tab (qxS n) (qxT n) (qa Try.f13) 0 (qC qtP 22 x)).run (qbA tab [.tmp 4, .tmp 5] qtQ)
noncomputable def qyZ (n : Nat) : Ct Try.prog := ⟨13, qtP, .ts qtQ, qyY n, fun _ _ h => qbF (B := tab) (cs := qxS n) (lo := qxT n) (rs := [.tmp 4, .tmp 5]) Try.func13 (by kernel_rfl) qEs (by kernel_rfl) (by decide) (qh qEr qe) h⟩
end Go.Proofs.Ytcjgodgpaokbnaa

/- Printed: what functions of the program compute. -/
namespace Go.Proofs.Ytcjgodgpaokbnaa
set_option linter.constructorNameAsVariable false
set_option linter.unusedSimpArgs false
set_option linter.unusedVariables false
set_option linter.unusedSectionVars false
open Go Go.Proofs Go.RowKit
set_option maxRecDepth 20000
noncomputable def qrS (n : Nat) : CL Try.prog := ⟨[qxR n, qyZ n, qxa n, qyd n], [], 0⟩
noncomputable def qrT (n : Nat) : Nat → St → PT (DEx × St) := fun _ _ => .fail
theorem qz2 : qd (qa Try.f10) 0 = [] := by kernel_rfl
theorem qz3 : Try.f10.body = some (qa Try.f10) := by kernel_rfl
abbrev qnG : List Ar := []
abbrev qnH : List Ty := [T4]
noncomputable def qsT (n : Nat) (x : qy qnG) : Option (qk qnH) := (qi tab (qrS n) (qrT n) (qa Try.f10) 0 (qC qnG 39 x)).run (qbA tab [.tmp 0] qnH)
noncomputable def qz4 (n : Nat) : Ct Try.prog := ⟨10, qnG, .ts qnH, qsT n, fun _ _ h => qbF (B := tab) (cs := qrS n) (lo := qrT n) (rs := [.tmp 0]) Try.func10 (by kernel_rfl) qz3 (by kernel_rfl) (by decide) (qh qz2 qe) h⟩
noncomputable def qbI (n : Nat) : CL Try.prog := ⟨[qzW n, qz4 n, qx9 n, qxR n, qyZ n, qw7 n, qzQ n, qyJ n], [], 0⟩
noncomputable def qn3 (n : Nat) : Nat → St → PT (DEx × St) := fun _ _ => .fail
abbrev qeL : List It := [.v (.t 1) T25, .v (.t 2) T3, .v (.t 9) T32, .v (.t 11) T25, .v (.t 12) T3, .v (.t 13) T3, .v (.t 14) T3, .v (.t 15) T3, .obj (.t 3) false 24 2, .v (.c 0 0) T24]
abbrev qgU : List (DEx × List It) := [(.exit 4, [.v (.t 1) T25, .v (.t 2) T3, .v (.t 9) T32, .v (.t 11) T25, .v (.t 12) T3, .v (.t 13) T3, .v (.t 14) T3, .obj (.t 3) false 24 2, .v (.c 0 0) T24]), (.ret, [.v (.t 6) T4])]
noncomputable def qoE (n : Nat) (rec : qb qeL → Option (qf qgU)) (s : qb qeL) : Option (qf qgU) := (qi tab (qbI n) (qn3 n) (subC [true, true, true, true, true, true, true, true, true, true, true, false, true, false, false, true, false, false, true, false, false] (qa Try.f4)) 3 (mkS qeL 158 s)).run (Lp.leaf 158 qeL qgU rec)
noncomputable def qjt (n : Nat) : Lp := ⟨158, qeL, qgU, qg n (qoE n)⟩
theorem qvC : qd (subC [true, true, true, true, true, true, true, true, true, true, true, false, true, false, false, true, false, false, true, false, false] (qa Try.f4)) 3 = [] := by kernel_rfl
theorem qtR (n : Nat) (st : St) (r : DEx × St) (h : ((qjt n).go st).Is r) : DA Try.prog false (.loop (subC [true, true, true, true, true, true, true, true, true, true, true, false, true, false, false, true, false, false, true, false, false] (qa Try.f4))) st r := Lp.ok (L := qjt n) (B := tab) (cs := qbI n) (lo := qn3 n) (id := 2) rfl (qh qvC qe) (fun _ _ => rfl) h
noncomputable def qn4 (n : Nat) : Nat → St → PT (DEx × St) := fun k st => match k with
  | 2 => (qjt n).go st
  | _ => .fail
abbrev qeM : List It := [.v (.t 1) T25, .v (.t 2) T3, .v (.t 9) T32, .v (.t 11) T25, .v (.t 12) T3, .v (.t 13) T3, .v (.t 14) T3, .obj (.t 3) false 24 2, .v (.c 0 0) T24]
abbrev qgV : List (DEx × List It) := [(.exit 2, [.v (.t 1) T25, .v (.t 2) T3, .v (.t 9) T32, .obj (.t 3) false 24 2, .v (.c 0 0) T24]), (.ret, [.v (.t 6) T4])]
noncomputable def qoF (n : Nat) (rec : qb qeM → Option (qf qgV)) (s : qb qeM) : Option (qf qgV) := (qi tab (qbI n) (qn4 n) (subC [true, true, true, true, true, true, true, true, true, true, true, false, true, false, false] (qa Try.f4)) 2 (mkS qeM 158 s)).run (Lp.leaf 158 qeM qgV rec)
noncomputable def qju (n : Nat) : Lp := ⟨158, qeM, qgV, qg n (qoF n)⟩
theorem qvD : qd (subC [true, true, true, true, true, true, true, true, true, true, true, false, true, false, false] (qa Try.f4)) 2 = [(2, .loop (subC [true, true, true, true, true, true, true, true, true, true, true, false, true, false, false, true, false, false, true, false, false] (qa Try.f4)))] := by kernel_rfl
theorem qtS (n : Nat) (st : St) (r : DEx × St) (h : ((qju n).go st).Is r) : DA Try.prog false (.loop (subC [true, true, true, true, true, true, true, true, true, true, true, false, true, false, false] (qa Try.f4))) st r := Lp.ok (L := qju n) (B := tab) (cs := qbI n) (lo := qn4 n) (id := 1) rfl (qh qvD (all_cons (fun st r h => qtR n st r h) qe)) (fun _ _ => rfl) h
noncomputable def qn5 (n : Nat) : Nat → St → PT (DEx × St) := fun _ _ => .fail
abbrev qeN : List It := [.v (.t 1) T25, .v (.t 2) T3, .v (.t 9) T32, .v (.t 11) T25, .v (.t 12) T3, .v (.t 13) T3, .obj (.t 3) false 24 2, .v (.c 0 0) T24]
abbrev qgW : List (DEx × List It) := [(.exit 0, [.v (.t 1) T25, .v (.t 2) T3, .v (.t 9) T32, .v (.t 11) T25, .v (.t 12) T3, .v (.t 13) T3, .obj (.t 3) false 24 2, .v (.c 0 0) T24])]
noncomputable def qoG (n : Nat) (rec : qb qeN → Option (qf qgW)) (s : qb qeN) : Option (qf qgW) := (qi tab (qbI n) (qn5 n) (subC [true, true, true, true, true, true, true, true, false, false, false] (qa Try.f4)) 1 (mkS qeN 158 s)).run (Lp.leaf 158 qeN qgW rec)
noncomputable def qjv (n : Nat) : Lp := ⟨158, qeN, qgW, qg n (qoG n)⟩
theorem qvE : qd (subC [true, true, true, true, true, true, true, true, false, false, false] (qa Try.f4)) 1 = [] := by kernel_rfl
theorem qtT (n : Nat) (st : St) (r : DEx × St) (h : ((qjv n).go st).Is r) : DA Try.prog false (.loop (subC [true, true, true, true, true, true, true, true, false, false, false] (qa Try.f4))) st r := Lp.ok (L := qjv n) (B := tab) (cs := qbI n) (lo := qn5 n) (id := 0) rfl (qh qvE qe) (fun _ _ => rfl) h
noncomputable def qoH (n : Nat) : Nat → St → PT (DEx × St) := fun k st => match k with
  | 0 => (qjv n).go st
  | 1 => (qju n).go st
  | _ => .fail
theorem qwJ : qd (qa Try.f4) 0 = [(0, .loop (subC [true, true, true, true, true, true, true, true, false, false, false] (qa Try.f4))), (1, .loop (subC [true, true, true, true, true, true, true, true, true, true, true, false, true, false, false] (qa Try.f4)))] := by kernel_rfl
theorem qwK : Try.f4.body = some (qa Try.f4) := by kernel_rfl
abbrev qfv : List Ar := [.d T24, .d T25, .d T3]
abbrev qke : List Ty := [T4]
noncomputable def qpq (n : Nat) (x : qy qfv) : Option (qk qke) := (qi tab (qbI n) (qoH n) (qa Try.f4) 0 (qC qfv 158 x)).run (qbA tab [.tmp 6] qke)
noncomputable def qpr (n : Nat) : Ct Try.prog := ⟨4, qfv, .ts qke, qpq n, fun _ _ h => qbF (B := tab) (cs := qbI n) (lo := qoH n) (rs := [.tmp 6]) Try.func4 (by kernel_rfl) qwK (by kernel_rfl) (by decide) (qh qwJ (all_cons (fun st r h => qtT n st r h) (all_cons (fun st r h => qtS n st r h) qe))) h⟩
end Go.Proofs.Ytcjgodgpaokbnaa

/- Printed: what functions of the program compute. -/
namespace Go.Proofs.Ytcjgodgpaokbnaa
set_option linter.constructorNameAsVariable false
set_option linter.unusedSimpArgs false
set_option linter.unusedVariables false
set_option linter.unusedSectionVars false
open Go Go.Proofs Go.RowKit
set_option maxRecDepth 20000
end Go.Proofs.Ytcjgodgpaokbnaa
