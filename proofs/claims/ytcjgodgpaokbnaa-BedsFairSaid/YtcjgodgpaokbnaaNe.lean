/- Texts DnF, DnG, DnH, DnI, DnE, DnJ, DnK in one. -/
import Derived.Test.YtcjgodgpaokbnaaNd
import Derived.Test.YtcjgodgpaokbnaaDnD
import Derived.Test.YtcjgodgpaokbnaaKc
/- Printed: what functions of the program compute. -/
namespace Go.Proofs.Ytcjgodgpaokbnaa
set_option linter.constructorNameAsVariable false
set_option linter.unusedSimpArgs false
set_option linter.unusedVariables false
set_option linter.unusedSectionVars false
open Go Go.Proofs Go.RowKit
set_option maxRecDepth 20000
noncomputable def qk5 (n : Nat) : CL Try.prog := ⟨[], [], 0⟩
noncomputable def qk6 (n : Nat) : Nat → St → PT (DEx × St) := fun _ _ => .fail
theorem qtB : qd (qa Try.f71) 0 = [] := by kernel_rfl
theorem qtC : Try.f71.body = some (qa Try.f71) := by kernel_rfl
abbrev qht : List It := [.raw (.t 0)]
abbrev qg0 : List (List It) := [[.row (.t 0) false T30 30]]
noncomputable def qe3 (n : Nat) (x : qb qht) : Option (qq qg0) := runW tab (qk5 n) (qk6 n) (qa Try.f71) qht 1 8 [.tmp 2] qg0 x
noncomputable def qtD (n : Nat) : Cw Try.prog := ⟨71, 1, qht, 1, qg0, qe3 n, fun _ _ h => qP (B := tab) (cs := qk5 n) (lo := qk6 n) (rs := [.tmp 2]) Try.func71 (by kernel_rfl) qtC (by kernel_rfl) (by decide) (qh qtB qe) h⟩
noncomputable def qnR (n : Nat) : CL Try.prog := ⟨[], [], 0⟩
noncomputable def qnS (n : Nat) : Nat → St → PT (DEx × St) := fun _ _ => .fail
theorem qv4 : qd (qa Try.f71) 0 = [] := by kernel_rfl
theorem qv5 : Try.f71.body = some (qa Try.f71) := by kernel_rfl
abbrev qi7 : List It := [.v (.t 0) T25]
abbrev qf1 : List (List It) := [[.row (.t 0) false T30 30]]
noncomputable def qgH (n : Nat) (x : qb qi7) : Option (qq qf1) := runW tab (qnR n) (qnS n) (qa Try.f71) qi7 1 8 [.tmp 2] qf1 x
noncomputable def qv6 (n : Nat) : Cw Try.prog := ⟨71, 1, qi7, 1, qf1, qgH n, fun _ _ h => qP (B := tab) (cs := qnR n) (lo := qnS n) (rs := [.tmp 2]) Try.func71 (by kernel_rfl) qv5 (by kernel_rfl) (by decide) (qh qv4 qe) h⟩
end Go.Proofs.Ytcjgodgpaokbnaa

/- Printed: slices.Clone. -/
namespace Go.Proofs.Ytcjgodgpaokbnaa
set_option linter.constructorNameAsVariable false
set_option linter.unusedSimpArgs false
set_option linter.unusedVariables false
set_option linter.unusedSectionVars false
open Go Go.Proofs Go.RowKit
theorem qv7 (n : Nat) (c : Nat) : qe3 n (.slice none 0 c, ()) = some ([], ()) := by kernel_rfl
theorem qv8 (n : Nat) (a : Addr) (c : Nat) : qe3 n (.slice (some a) 0 c, ()) = some ([], ()) := by kernel_rfl
noncomputable def qoI (n : Nat) : Cw Try.prog := qM6 71 T30 qf1 (qe3 n) (qgH n) ([], ()) (fun v y m0 h => (qtD n).okk (x := (v, ())) (y := y) h m0 (qHT m0)) (fun l y m0 h => (qv6 n).okk (x := (l, ())) (y := y) h m0 (qHT m0)) (fun A c => by cases A with | none => exact qv7 n c | some a => exact qv8 n a c)
noncomputable def qv9 (n : Nat) := (qoI n).M
end Go.Proofs.Ytcjgodgpaokbnaa

/- Printed: slices.Clone. -/
namespace Go.Proofs.Ytcjgodgpaokbnaa
set_option linter.constructorNameAsVariable false
set_option linter.unusedSimpArgs false
set_option linter.unusedVariables false
set_option linter.unusedSectionVars false
open Go Go.Proofs Go.RowKit
end Go.Proofs.Ytcjgodgpaokbnaa

/- The iterator over the spots of a request, by hand. -/
namespace Go.Proofs.Ytcjgodgpaokbnaa
set_option linter.constructorNameAsVariable false
set_option linter.unusedSimpArgs false
set_option linter.unusedVariables false
set_option linter.unusedSectionVars false
open Go Go.Proofs Go.RowKit
set_option maxHeartbeats 4000000
set_option maxRecDepth 20000

def qkf (hut : Int) (lo : Int) : Nat → List (Int × Int)
  | 0 => []
  | n + 1 => (hut, lo) :: qkf hut (lo + 1) n
def qtE (s : Int × (Int × Int)) : List (Int × Int) := qkf s.1 s.2.1 (s.2.2 + 1 - s.2.1).toNat
def qbe : List (Int × (Int × Int)) → List (Int × Int)
  | [] => []
  | s :: l => qtE s ++ qbe l
def qCG (l : List (Int × (Int × Int))) : Bool := Nat.ble l.length 1000000 && l.all fun s => decide (-9223372036854775808 ≤ s.2.1) && decide (s.2.2 < 9223372036854775807)
def qFb (y : Int × Int) : qk [T80] := (y, ())
theorem qGK (l : List (Int × Int)) : ((l.map qFb).map (tysA [T80])).length = l.length := by rw [List.length_map, List.length_map]
def qvI (l : List (Int × (Int × Int))) : Option (List (qk [T80])) := cond (qCG l) (some ((qbe l).map qFb)) none
def qlM (l : List (Int × (Int × Int))) (k : Nat) : Nat := (qbe (l.take k)).length
theorem qzj (h : Int) : ∀ (n : Nat) (lo : Int), (qkf h lo n).length = n
  | 0, _ => rfl
  | n + 1, lo => by simp [qkf, qzj h n]
theorem qFc (h : Int) : ∀ (n : Nat) (lo : Int) (j : Nat), j < n → (qkf h lo n)[j]? = some (h, lo + j)
  | n + 1, lo, 0, _ => by simp [qkf]
  | n + 1, lo, j + 1, hj => by
    simp only [qkf, List.getElem?_cons_succ]
    rw [qFc h n (lo + 1) j (by omega)]
    congr 2
    omega
theorem qA9 : ∀ (l m : List (Int × (Int × Int))), qbe (l ++ m) = qbe l ++ qbe m
  | [], _ => rfl
  | s :: l, m => by simp [qbe, qA9 l m]
theorem qJT (l : List (Int × (Int × Int))) (k : Nat) (hk : k < l.length) : qlM l (k + 1) = qlM l k + (l[k].2.2 + 1 - l[k].2.1).toNat := by
  unfold qlM
  rw [List.take_succ_eq_append_getElem hk, qA9]
  simp [qbe, qtE, qzj]
theorem qKS (l : List (Int × (Int × Int))) : qlM l l.length = (qbe l).length := by unfold qlM; simp
theorem qL4 (l : List (Int × (Int × Int))) (k : Nat) (hk : k < l.length) (j : Nat) (hj : j < (l[k].2.2 + 1 - l[k].2.1).toNat) : (qbe l)[qlM l k + j]? = some (l[k].1, l[k].2.1 + j) := by
  have h1 : l = l.take k ++ l[k] :: l.drop (k + 1) := by simp
  have h2 : qbe l = qbe (l.take k) ++ (qtE l[k] ++ qbe (l.drop (k + 1))) := by
    conv => lhs; rw [h1]
    rw [qA9]; rfl
  rw [h2, List.getElem?_append_right (by unfold qlM; omega), show qlM l k + j - (qbe (l.take k)).length = j by unfold qlM; omega, List.getElem?_append_left (by unfold qtE; rw [qzj]; exact hj)]
  exact qFc _ _ _ _ hj
theorem qMK {a b : Int} (h : a = b) : [AV.int a] = [AV.int b] := by rw [h]
theorem qL5 (x : qk [T30]) (l : List (qk [T80])) (h : qvI x.1.2.2.2.2 = some l) : qEz Try.prog false 97 [] (qjG [T30] x) (l.map (tysA [T80])) := by
  obtain ⟨⟨ma, mb, mc, md, ss⟩, u⟩ := x
  change List (Int × (Int × Int)) at ss
  unfold qvI at h
  cases hb : qCG ss with
  | false => simp only at h; rw [hb] at h; cases h
  | true =>
  simp only at h; rw [hb] at h
  injection h with h
  subst h
  unfold qCG at hb
  simp only [Bool.and_eq_true, Nat.ble_eq, List.all_eq_true, decide_eq_true_eq] at hb
  obtain ⟨hlen, hbd⟩ := hb
  refine ⟨enters_of Try.func97 (by kernel_rfl) rfl, fun lp T J Jx X hcJ hcx hone hy => ?_⟩
  have hyk : ∀ k (hk : k < ss.length) (j : Nat), j < (ss[k].2.2 + 1 - ss[k].2.1).toNat → qEy Try.prog T lp [.agg [.int ss[k].1, .int (ss[k].2.1 + j)]] (J (qlM ss k + j)) (J (qlM ss k + j + 1)) Jx := fun k hk j hj => by
    have h1 := qL4 ss k hk j hj
    have h2 := (List.getElem?_eq_some_iff.1 h1).1
    have h3 := hy (qlM ss k + j) (by rw [qGK]; exact h2)
    rw [List.getElem_map, List.getElem_map, (List.getElem?_eq_some_iff.1 h1).2] at h3
    exact h3
  have hY := Lib.hid hyk
  have hN := Lib.hid (qJT ss)
  have hN0 : qlM ss 0 = 0 := rfl
  have hNl : qlM ss ss.length = (((qbe ss).map qFb).map (tysA [T80])).length := by rw [qKS, qGK]
  show MCT Try.prog T 97 [.val (.func (.yield lp) #[] #[]), .rp [.val (.int .i64 ma), .val (.int .i64 mb), .val (.int .i64 mc), .val (.int .i64 md), .sl 3 (ss.map fun s => [.val (.int .i64 s.1), .val (.int .i64 s.2.1), .val (.int .i64 s.2.2)])]] [.nodef, .ghost X (J 0)] fun _ H' => ∃ X', HE.ghost X' (J (((qbe ss).map qFb).map (tysA [T80])).length) ∈ H' ∨ HE.ghost X' Jx ∈ H'
  rw [← hNl, ← hN0]
  clear hy hyk hNl
  generalize hrr : (ss.map fun s => [AV.val (.int .i64 s.1), AV.val (.int .i64 s.2.1), AV.val (.int .i64 s.2.2)]) = rr
  have hrl : rr.length = ss.length := by rw [← hrr]; simp
  have hra : ∀ k (hk : k < ss.length), rr[k]? = some [.int ss[k].1, .int ss[k].2.1, .int ss[k].2.2] := fun k hk => by rw [← hrr, List.getElem?_map, List.getElem?_eq_getElem hk]; rfl
  (refine MCT.of Try.func97 (by kernel_rfl) rfl (by simp only [Try.ntmps97, List.length_cons, List.length_nil, Nat.reduceAdd, Nat.reduceSub, List.replicate_succ, List.replicate_zero, List.cons_append, List.nil_append]; rfl) fun w0 S hM hT => ?_; have hF : Wf Fence.wide := .inl rfl)
  (repeat' (first | ((first | with_reducible refine AL.id_ ?_ | with_reducible refine AE.id_ ?_); first | refine AL.build0 hF rfl rfl rfl (fun b => ⟨_, (by simp only [AV.put]; rfl), ?_⟩) | refine W.s rfl rfl (by first | exact AY.bx rfl (by simp only [evO, AV.get]; rfl) rfl | exact AY.mkFn rfl (by simp only [List.map_cons, List.map_nil, evO, AV.get]; rfl) | exact AY.mkFn1 rfl (by simp only [evO, AV.get]; rfl) (by simp only [List.map_cons, List.map_nil, evO, AV.get]; rfl) | exact hEQ rfl rfl rfl | exact Step2.sound (by first | (((first | (apply Step2.a; constructor) | (apply Step2.b; constructor)) <;> first | infer_instance | skip) <;> (first | infer_instance | (refine w64c ?_; omega) | (refine qAl ?_; omega) | (refine qwW ?_; omega) | (refine qwX ?_; omega) | (refine qAi ?_; omega) | ((repeat (first | exact .head _ | refine .tail _ ?_)); done) | assumption | (simp only [List.drop_succ_cons, List.drop_zero, List.length_map, Nat.zero_add, Nat.mul_one]; rfl) | rfl | omega | (simp; done))) | fail) rfl | exact AY.call rfl rfl _ rfl (by fail) | exact AY.slice1 rfl rfl rfl (by rfl) (by first | (simp; done) | fail) | exact AY.callF rfl _ _ rfl _ rfl (by fail) | exact AY.old1k 0 rfl rfl rfl (by first | assumption | rfl) | exact AY.old1k 1 rfl rfl rfl (by first | assumption | rfl) | exact AY.old1k 2 rfl rfl rfl (by first | assumption | rfl) | exact AY.oldNk 0 rfl rfl rfl (by first | omega | (simp; omega)) (by first | assumption | rfl) | exact AY.oldNk 1 rfl rfl rfl (by first | omega | (simp; omega)) (by first | assumption | rfl)) (by simp only [AV.put]; rfl) ?_ | (refine AL.nilK (hK _ _ ?_); clear hK K) | (refine AE.nil (hK _ ?_); clear hK K) | refine W.k rfl rfl (by simp only [AV.put]; rfl) ?_ | refine AL.unguardS rfl rfl ?_ | refine AL.al hF rfl rfl rfl (by first | (simp only [Value.cells, List.map_cons, List.map_nil]; rfl) | rfl) (fun b => ⟨_, (by simp only [AV.put]; rfl), ?_⟩) | refine AL.st1 hF rfl rfl rfl rfl (by simp only [evO, AV.get]; rfl) (by first | exact qo2 | exact qo3 | exact qo4 | exact qo5 | exact qo6 | exact qo7 | exact qo8 | exact qo9) (by rfl) rfl (by rfl) (by first | (simp; done) | (simp; omega) | omega) (by simp only [List.set]; rfl) ?_ | refine AL.stW hF rfl rfl rfl rfl (by simp only [evO, AV.get]; rfl) (by first | exact qo2 | exact qo3 | exact qo4 | exact qo5 | exact qo6 | exact qo7 | exact qo8 | exact qo9) (by rfl) (by rfl) (by rfl) (by first | rfl | simp) (by simp only [List.set]; rfl) ?_) | (with_reducible refine Awp.id_ ?_; first | refine Awp.seq ?_ | refine Awp.regionK (by first | (simp only [AV.putO, AV.put]; rfl) | rfl) (fun K hK => ?_) | refine Awp.drawE (by first | (simp only [AV.putO, AV.put]; rfl) | rfl) mixed rfl (by kernel_rfl) (fun K hK => ?_) | refine Awp.block ?_ | refine Awp.skip ?_ | refine Awp.exit ?_ | refine Awp.ret ?_ | refine Awp.condT rfl ?_ | refine Awp.condF rfl ?_) | refine qup ?_ | refine quq ?_ | refine qur ?_ | refine qnV ?_ | refine qnW ?_ | refine qnX ?_ | refine qnY rfl ?_ | ((first | ((first | with_reducible refine AL.id_ ?_ | with_reducible refine AE.id_ ?_); (fail_if_success refine W.on rfl ?_); refine W.p rfl rfl (by simp only [AV.put]; rfl) (by simp only [AV.put]; rfl) (fun hb => ?_) (fun hb => ?_)) | (with_reducible refine Awp.id_ ?_; refine Awp.cond _ rfl (fun hb => ?_) (fun hb => ?_))) <;> (try simp only [z1, z2, z3, z4, z5, z6, z7, z8, y5, y6, y7, y8, z9, x1, x2, x3, x4, x5, x6, x7, x8] at hb; try (exfalso; omega)))))
  refine Awp.loopM [4, 5, 10, 11, 12, 13, 14, 15, 16, 17, 18, 19, 20, 21, 22, 23, 24, 25, 26, 27, 28, 29, 30] [9] (fun n vs H => ∃ (k : Nat) (X' : Nat → Prop), n + k = ss.length ∧ vs = [.int k] ∧ H = [.nodef, .ghost X' (J (qlM ss k))]) ss.length ⟨0, X, rfl, rfl, rfl⟩ ?_
  rintro n ju vs H ⟨k, X', hk, rfl, rfl⟩
  (refine Awp.slots (by first | (simp only [putl, mask, AV.put]; rfl) | rfl) ?_)
  by_cases hlt : k < ss.length
  · have hrow := hra k hlt
    have hYk := Lib.hid (hY.out k hlt)
    have hNk := hN.out k hlt
    obtain ⟨hb1, hb2⟩ := hbd _ (List.getElem_mem hlt)
    generalize ss[k].1 = hu at *
    generalize ss[k].2.1 = lo at *
    generalize ss[k].2.2 = hi at *
    (repeat' (first | ((first | with_reducible refine AL.id_ ?_ | with_reducible refine AE.id_ ?_); first | refine AL.build0 hF rfl rfl rfl (fun b => ⟨_, (by simp only [AV.put]; rfl), ?_⟩) | refine W.s rfl rfl (by first | exact AY.bx rfl (by simp only [evO, AV.get]; rfl) rfl | exact AY.mkFn rfl (by simp only [List.map_cons, List.map_nil, evO, AV.get]; rfl) | exact AY.mkFn1 rfl (by simp only [evO, AV.get]; rfl) (by simp only [List.map_cons, List.map_nil, evO, AV.get]; rfl) | exact hEQ rfl rfl rfl | exact Step2.sound (by first | (((first | (apply Step2.a; constructor) | (apply Step2.b; constructor)) <;> first | infer_instance | skip) <;> (first | infer_instance | (refine w64c ?_; omega) | (refine qAl ?_; omega) | (refine qwW ?_; omega) | (refine qwX ?_; omega) | (refine qAi ?_; omega) | ((repeat (first | exact .head _ | refine .tail _ ?_)); done) | assumption | (simp only [List.drop_succ_cons, List.drop_zero, List.length_map, Nat.zero_add, Nat.mul_one]; rfl) | rfl | omega | (simp; done))) | fail) rfl | exact AY.call rfl rfl _ rfl (by fail) | exact AY.slice1 rfl rfl rfl (by rfl) (by first | (simp; done) | fail) | exact AY.callF rfl _ _ rfl _ rfl (by fail) | exact AY.old1k 0 rfl rfl rfl (by first | assumption | rfl) | exact AY.old1k 1 rfl rfl rfl (by first | assumption | rfl) | exact AY.old1k 2 rfl rfl rfl (by first | assumption | rfl) | exact AY.oldNk 0 rfl rfl rfl (by first | omega | (simp; omega)) (by first | assumption | rfl) | exact AY.oldNk 1 rfl rfl rfl (by first | omega | (simp; omega)) (by first | assumption | rfl)) (by simp only [AV.put]; rfl) ?_ | (refine AL.nilK (hK _ _ ?_); clear hK K) | (refine AE.nil (hK _ ?_); clear hK K) | refine W.k rfl rfl (by simp only [AV.put]; rfl) ?_ | refine AL.unguardS rfl rfl ?_ | refine AL.al hF rfl rfl rfl (by first | (simp only [Value.cells, List.map_cons, List.map_nil]; rfl) | rfl) (fun b => ⟨_, (by simp only [AV.put]; rfl), ?_⟩) | refine AL.st1 hF rfl rfl rfl rfl (by simp only [evO, AV.get]; rfl) (by first | exact qo2 | exact qo3 | exact qo4 | exact qo5 | exact qo6 | exact qo7 | exact qo8 | exact qo9) (by rfl) rfl (by rfl) (by first | (simp; done) | (simp; omega) | omega) (by simp only [List.set]; rfl) ?_ | refine AL.stW hF rfl rfl rfl rfl (by simp only [evO, AV.get]; rfl) (by first | exact qo2 | exact qo3 | exact qo4 | exact qo5 | exact qo6 | exact qo7 | exact qo8 | exact qo9) (by rfl) (by rfl) (by rfl) (by first | rfl | simp) (by simp only [List.set]; rfl) ?_) | (with_reducible refine Awp.id_ ?_; first | refine Awp.seq ?_ | refine Awp.regionK (by first | (simp only [AV.putO, AV.put]; rfl) | rfl) (fun K hK => ?_) | refine Awp.drawE (by first | (simp only [AV.putO, AV.put]; rfl) | rfl) mixed rfl (by kernel_rfl) (fun K hK => ?_) | refine Awp.block ?_ | refine Awp.skip ?_ | refine Awp.exit ?_ | refine Awp.ret ?_ | refine Awp.condT rfl ?_ | refine Awp.condF rfl ?_) | refine qup ?_ | refine quq ?_ | refine qur ?_ | refine qnV ?_ | refine qnW ?_ | refine qnX ?_ | refine qnY rfl ?_ | ((first | ((first | with_reducible refine AL.id_ ?_ | with_reducible refine AE.id_ ?_); (fail_if_success refine W.on rfl ?_); refine W.p rfl rfl (by simp only [AV.put]; rfl) (by simp only [AV.put]; rfl) (fun hb => ?_) (fun hb => ?_)) | (with_reducible refine Awp.id_ ?_; refine Awp.cond _ rfl (fun hb => ?_) (fun hb => ?_))) <;> (try simp only [z1, z2, z3, z4, z5, z6, z7, z8, y5, y6, y7, y8, z9, x1, x2, x3, x4, x5, x6, x7, x8] at hb; try (exfalso; omega)))))
    refine Awp.loopM [16, 17, 18, 19, 20, 21, 22, 23, 24, 25, 26, 27, 28, 29] [5] (fun n vs H => ∃ (j : Nat) (X3 : Nat → Prop), n + j = (hi + 1 - lo).toNat ∧ vs = [.int (lo + j)] ∧ H = [.blk b 77 [.int hu, .int lo, .int hi], .nodef, .ghost X3 (J (qlM ss k + j))]) (hi + 1 - lo).toNat ⟨0, X', by omega, by simp; rfl, rfl⟩ ?_
    rintro n1 ju1 vs1 H1 ⟨j, X3, hj, rfl, rfl⟩
    (refine Awp.slots (by first | (simp only [putl, mask, AV.put]; rfl) | rfl) ?_)
    by_cases hlt2 : j < (hi + 1 - lo).toNat
    · have hle : lo + j ≤ hi := by omega
      have hye := hYk.out j hlt2
      (repeat' (first | ((first | with_reducible refine AL.id_ ?_ | with_reducible refine AE.id_ ?_); first | refine AL.build0 hF rfl rfl rfl (fun b => ⟨_, (by simp only [AV.put]; rfl), ?_⟩) | refine W.s rfl rfl (by first | exact AY.bx rfl (by simp only [evO, AV.get]; rfl) rfl | exact AY.mkFn rfl (by simp only [List.map_cons, List.map_nil, evO, AV.get]; rfl) | exact AY.mkFn1 rfl (by simp only [evO, AV.get]; rfl) (by simp only [List.map_cons, List.map_nil, evO, AV.get]; rfl) | exact AY.build rfl (by simp only [List.map_cons, List.map_nil, evO, AV.get]; rfl) (by simp only [List.map_cons, List.map_nil]; repeat (first | exact Places.nil | apply Places.cons)) (by first | (simp only [zip3, qdV, qfU, qb3, qr, qiU, List.map_cons, List.map_nil, List.length_cons, List.length_nil, List.take_succ_cons, List.take_zero, List.drop_succ_cons, List.drop_zero, List.replicate_succ, List.replicate_zero, List.cons_append, List.nil_append, List.append_nil, List.drop_nil, List.take_nil, List.toList_toArray, Nat.sub_zero, Nat.reduceSub, Nat.reduceAdd, Nat.reduceMul, Nat.zero_mul, Nat.one_mul, Nat.mul_one, Nat.zero_add, Nat.le_refl, Nat.reduceLeDiff, and_self, true_and, and_true, if_true]; rfl) | rfl) | exact AY.buildS rfl (by simp only [List.map_cons, List.map_nil, evO, AV.get]; rfl) (by first | rfl | decide) (by omega) (by first | (simp only [zip3, qdV, qfU, qb3, qr, qiU, List.map_cons, List.map_nil, List.length_cons, List.length_nil, List.take_succ_cons, List.take_zero, List.drop_succ_cons, List.drop_zero, List.replicate_succ, List.replicate_zero, List.cons_append, List.nil_append, List.append_nil, List.drop_nil, List.take_nil, List.toList_toArray, Nat.sub_zero, Nat.reduceSub, Nat.reduceAdd, Nat.reduceMul, Nat.zero_mul, Nat.one_mul, Nat.mul_one, Nat.zero_add, Nat.le_refl, Nat.reduceLeDiff, and_self, true_and, and_true, if_true]; rfl) | rfl) (by first | (simp only [zip3, qdV, qfU, qb3, qr, qiU, List.map_cons, List.map_nil, List.length_cons, List.length_nil, List.take_succ_cons, List.take_zero, List.drop_succ_cons, List.drop_zero, List.replicate_succ, List.replicate_zero, List.cons_append, List.nil_append, List.append_nil, List.drop_nil, List.take_nil, List.toList_toArray, Nat.sub_zero, Nat.reduceSub, Nat.reduceAdd, Nat.reduceMul, Nat.zero_mul, Nat.one_mul, Nat.mul_one, Nat.zero_add, Nat.le_refl, Nat.reduceLeDiff, and_self, true_and, and_true, if_true]; rfl) | rfl) | exact hEQ rfl rfl rfl | exact Step2.sound (by first | (((first | (apply Step2.a; constructor) | (apply Step2.b; constructor)) <;> first | infer_instance | skip) <;> (first | infer_instance | (refine w64c ?_; omega) | (refine qAl ?_; omega) | (refine qwW ?_; omega) | (refine qwX ?_; omega) | (refine qAi ?_; omega) | ((repeat (first | exact .head _ | refine .tail _ ?_)); done) | assumption | (simp only [List.drop_succ_cons, List.drop_zero, List.length_map, Nat.zero_add, Nat.mul_one]; rfl) | rfl | omega | (simp; done))) | fail) rfl | exact AY.call rfl rfl _ rfl (by fail) | exact AY.slice1 rfl rfl rfl (by rfl) (by first | (simp; done) | fail) | exact AY.callF rfl _ _ rfl _ rfl (by fail) | exact AY.old1k 0 rfl rfl rfl (by first | assumption | rfl) | exact AY.old1k 1 rfl rfl rfl (by first | assumption | rfl) | exact AY.old1k 2 rfl rfl rfl (by first | assumption | rfl) | exact AY.oldNk 0 rfl rfl rfl (by first | omega | (simp; omega)) (by first | assumption | rfl) | exact AY.oldNk 1 rfl rfl rfl (by first | omega | (simp; omega)) (by first | assumption | rfl)) (by simp only [AV.put]; rfl) ?_ | (refine AL.nilK (hK _ _ ?_); clear hK K) | (refine AE.nil (hK _ ?_); clear hK K) | refine W.k rfl rfl (by simp only [AV.put]; rfl) ?_ | refine AL.unguardS rfl rfl ?_ | refine AL.al hF rfl rfl rfl (by first | (simp only [Value.cells, List.map_cons, List.map_nil]; rfl) | rfl) (fun b => ⟨_, (by simp only [AV.put]; rfl), ?_⟩) | refine AL.st1 hF rfl rfl rfl rfl (by simp only [evO, AV.get]; rfl) (by first | exact qo2 | exact qo3 | exact qo4 | exact qo5 | exact qo6 | exact qo7 | exact qo8 | exact qo9) (by rfl) rfl (by rfl) (by first | (simp; done) | (simp; omega) | omega) (by simp only [List.set]; rfl) ?_ | refine AL.stW hF rfl rfl rfl rfl (by simp only [evO, AV.get]; rfl) (by first | exact qo2 | exact qo3 | exact qo4 | exact qo5 | exact qo6 | exact qo7 | exact qo8 | exact qo9) (by rfl) (by rfl) (by rfl) (by first | rfl | simp) (by simp only [List.set]; rfl) ?_) | (with_reducible refine Awp.id_ ?_; first | refine Awp.seq ?_ | refine Awp.regionK (by first | (simp only [AV.putO, AV.put]; rfl) | rfl) (fun K hK => ?_) | refine Awp.drawE (by first | (simp only [AV.putO, AV.put]; rfl) | rfl) mixed rfl (by kernel_rfl) (fun K hK => ?_) | refine Awp.block ?_ | refine Awp.skip ?_ | refine Awp.exit ?_ | refine Awp.ret ?_ | refine Awp.condT rfl ?_ | refine Awp.condF rfl ?_) | refine qup ?_ | refine quq ?_ | refine qur ?_ | refine qnV ?_ | refine qnW ?_ | refine qnX ?_ | refine qnY rfl ?_ | ((first | ((first | with_reducible refine AL.id_ ?_ | with_reducible refine AE.id_ ?_); (fail_if_success refine W.on rfl ?_); refine W.p rfl rfl (by simp only [AV.put]; rfl) (by simp only [AV.put]; rfl) (fun hb => ?_) (fun hb => ?_)) | (with_reducible refine Awp.id_ ?_; refine Awp.cond _ rfl (fun hb => ?_) (fun hb => ?_))) <;> (try simp only [z1, z2, z3, z4, z5, z6, z7, z8, y5, y6, y7, y8, z9, x1, x2, x3, x4, x5, x6, x7, x8] at hb; try (exfalso; omega)))))
      have hgho : ∀ i e, ([HE.blk b 77 [.int hu, .int lo, .int hi], .nodef, .ghost X3 (J (qlM ss k + j))])[i]? = some e → e.isGhost → i = 2 := fun i e h1 h2 => by
        match i, h1 with
        | 0, h1 => cases h1; exact h2.elim
        | 1, h1 => cases h1; exact h2.elim
        | 2, _ => rfl
      refine AL.yield 2 rfl rfl rfl rfl _ rfl rfl hgho (by simp) (fun b hA => hT b fun h => (hA.1 h).1) hye (hcJ _) hcx (fun X4 => ?_) (fun X4 => ?_)
      · refine AL.norm (by simp only [AV.put]; rfl) rfl ?_
        (repeat' (first | ((first | with_reducible refine AL.id_ ?_ | with_reducible refine AE.id_ ?_); first | refine AL.build0 hF rfl rfl rfl (fun b => ⟨_, (by simp only [AV.put]; rfl), ?_⟩) | refine W.s rfl rfl (by first | exact AY.bx rfl (by simp only [evO, AV.get]; rfl) rfl | exact AY.mkFn rfl (by simp only [List.map_cons, List.map_nil, evO, AV.get]; rfl) | exact AY.mkFn1 rfl (by simp only [evO, AV.get]; rfl) (by simp only [List.map_cons, List.map_nil, evO, AV.get]; rfl) | exact AY.build rfl (by simp only [List.map_cons, List.map_nil, evO, AV.get]; rfl) (by simp only [List.map_cons, List.map_nil]; repeat (first | exact Places.nil | apply Places.cons)) (by first | (simp only [zip3, qdV, qfU, qb3, qr, qiU, List.map_cons, List.map_nil, List.length_cons, List.length_nil, List.take_succ_cons, List.take_zero, List.drop_succ_cons, List.drop_zero, List.replicate_succ, List.replicate_zero, List.cons_append, List.nil_append, List.append_nil, List.drop_nil, List.take_nil, List.toList_toArray, Nat.sub_zero, Nat.reduceSub, Nat.reduceAdd, Nat.reduceMul, Nat.zero_mul, Nat.one_mul, Nat.mul_one, Nat.zero_add, Nat.le_refl, Nat.reduceLeDiff, and_self, true_and, and_true, if_true]; rfl) | rfl) | exact AY.buildS rfl (by simp only [List.map_cons, List.map_nil, evO, AV.get]; rfl) (by first | rfl | decide) (by omega) (by first | (simp only [zip3, qdV, qfU, qb3, qr, qiU, List.map_cons, List.map_nil, List.length_cons, List.length_nil, List.take_succ_cons, List.take_zero, List.drop_succ_cons, List.drop_zero, List.replicate_succ, List.replicate_zero, List.cons_append, List.nil_append, List.append_nil, List.drop_nil, List.take_nil, List.toList_toArray, Nat.sub_zero, Nat.reduceSub, Nat.reduceAdd, Nat.reduceMul, Nat.zero_mul, Nat.one_mul, Nat.mul_one, Nat.zero_add, Nat.le_refl, Nat.reduceLeDiff, and_self, true_and, and_true, if_true]; rfl) | rfl) (by first | (simp only [zip3, qdV, qfU, qb3, qr, qiU, List.map_cons, List.map_nil, List.length_cons, List.length_nil, List.take_succ_cons, List.take_zero, List.drop_succ_cons, List.drop_zero, List.replicate_succ, List.replicate_zero, List.cons_append, List.nil_append, List.append_nil, List.drop_nil, List.take_nil, List.toList_toArray, Nat.sub_zero, Nat.reduceSub, Nat.reduceAdd, Nat.reduceMul, Nat.zero_mul, Nat.one_mul, Nat.mul_one, Nat.zero_add, Nat.le_refl, Nat.reduceLeDiff, and_self, true_and, and_true, if_true]; rfl) | rfl) | exact hEQ rfl rfl rfl | exact Step2.sound (by first | (((first | (apply Step2.a; constructor) | (apply Step2.b; constructor)) <;> first | infer_instance | skip) <;> (first | infer_instance | (refine w64c ?_; omega) | (refine qAl ?_; omega) | (refine qwW ?_; omega) | (refine qwX ?_; omega) | (refine qAi ?_; omega) | ((repeat (first | exact .head _ | refine .tail _ ?_)); done) | assumption | (simp only [List.drop_succ_cons, List.drop_zero, List.length_map, Nat.zero_add, Nat.mul_one]; rfl) | rfl | omega | (simp; done))) | fail) rfl | exact AY.call rfl rfl _ rfl (by fail) | exact AY.slice1 rfl rfl rfl (by rfl) (by first | (simp; done) | fail) | exact AY.callF rfl _ _ rfl _ rfl (by fail) | exact AY.old1k 0 rfl rfl rfl (by first | assumption | rfl) | exact AY.old1k 1 rfl rfl rfl (by first | assumption | rfl) | exact AY.old1k 2 rfl rfl rfl (by first | assumption | rfl) | exact AY.oldNk 0 rfl rfl rfl (by first | omega | (simp; omega)) (by first | assumption | rfl) | exact AY.oldNk 1 rfl rfl rfl (by first | omega | (simp; omega)) (by first | assumption | rfl)) (by simp only [AV.put]; rfl) ?_ | (refine AL.nilK (hK _ _ ?_); clear hK K) | (refine AE.nil (hK _ ?_); clear hK K) | refine W.k rfl rfl (by simp only [AV.put]; rfl) ?_ | refine AL.unguardS rfl rfl ?_ | refine AL.al hF rfl rfl rfl (by first | (simp only [Value.cells, List.map_cons, List.map_nil]; rfl) | rfl) (fun b => ⟨_, (by simp only [AV.put]; rfl), ?_⟩) | refine AL.st1 hF rfl rfl rfl rfl (by simp only [evO, AV.get]; rfl) (by first | exact qo2 | exact qo3 | exact qo4 | exact qo5 | exact qo6 | exact qo7 | exact qo8 | exact qo9) (by rfl) rfl (by rfl) (by first | (simp; done) | (simp; omega) | omega) (by simp only [List.set]; rfl) ?_ | refine AL.stW hF rfl rfl rfl rfl (by simp only [evO, AV.get]; rfl) (by first | exact qo2 | exact qo3 | exact qo4 | exact qo5 | exact qo6 | exact qo7 | exact qo8 | exact qo9) (by rfl) (by rfl) (by rfl) (by first | rfl | simp) (by simp only [List.set]; rfl) ?_) | (with_reducible refine Awp.id_ ?_; first | refine Awp.seq ?_ | refine Awp.regionK (by first | (simp only [AV.putO, AV.put]; rfl) | rfl) (fun K hK => ?_) | refine Awp.drawE (by first | (simp only [AV.putO, AV.put]; rfl) | rfl) mixed rfl (by kernel_rfl) (fun K hK => ?_) | refine Awp.block ?_ | refine Awp.skip ?_ | refine Awp.exit ?_ | refine Awp.ret ?_ | refine Awp.condT rfl ?_ | refine Awp.condF rfl ?_) | refine qup ?_ | refine quq ?_ | refine qur ?_ | refine qnV ?_ | refine qnW ?_ | refine qnX ?_ | refine qnY rfl ?_ | ((first | ((first | with_reducible refine AL.id_ ?_ | with_reducible refine AE.id_ ?_); (fail_if_success refine W.on rfl ?_); refine W.p rfl rfl (by simp only [AV.put]; rfl) (by simp only [AV.put]; rfl) (fun hb => ?_) (fun hb => ?_)) | (with_reducible refine Awp.id_ ?_; refine Awp.cond _ rfl (fun hb => ?_) (fun hb => ?_))) <;> (try simp only [z1, z2, z3, z4, z5, z6, z7, z8, y5, y6, y7, y8, z9, x1, x2, x3, x4, x5, x6, x7, x8] at hb; try (exfalso; omega)))))
        (refine qMP (n1 - 1) (by first | (simp only [AV.putO, AV.put]; rfl) | rfl) (by omega) ?_ (by simp only [List.map, AV.get, mask, putl, AV.put]))
        exact ⟨j + 1, X4, by omega, qMK (by omega), rfl⟩
      · refine AL.norm (by simp only [AV.put]; rfl) rfl ?_
        (repeat' (first | ((first | with_reducible refine AL.id_ ?_ | with_reducible refine AE.id_ ?_); first | refine AL.build0 hF rfl rfl rfl (fun b => ⟨_, (by simp only [AV.put]; rfl), ?_⟩) | refine W.s rfl rfl (by first | exact AY.bx rfl (by simp only [evO, AV.get]; rfl) rfl | exact AY.mkFn rfl (by simp only [List.map_cons, List.map_nil, evO, AV.get]; rfl) | exact AY.mkFn1 rfl (by simp only [evO, AV.get]; rfl) (by simp only [List.map_cons, List.map_nil, evO, AV.get]; rfl) | exact AY.build rfl (by simp only [List.map_cons, List.map_nil, evO, AV.get]; rfl) (by simp only [List.map_cons, List.map_nil]; repeat (first | exact Places.nil | apply Places.cons)) (by first | (simp only [zip3, qdV, qfU, qb3, qr, qiU, List.map_cons, List.map_nil, List.length_cons, List.length_nil, List.take_succ_cons, List.take_zero, List.drop_succ_cons, List.drop_zero, List.replicate_succ, List.replicate_zero, List.cons_append, List.nil_append, List.append_nil, List.drop_nil, List.take_nil, List.toList_toArray, Nat.sub_zero, Nat.reduceSub, Nat.reduceAdd, Nat.reduceMul, Nat.zero_mul, Nat.one_mul, Nat.mul_one, Nat.zero_add, Nat.le_refl, Nat.reduceLeDiff, and_self, true_and, and_true, if_true]; rfl) | rfl) | exact AY.buildS rfl (by simp only [List.map_cons, List.map_nil, evO, AV.get]; rfl) (by first | rfl | decide) (by omega) (by first | (simp only [zip3, qdV, qfU, qb3, qr, qiU, List.map_cons, List.map_nil, List.length_cons, List.length_nil, List.take_succ_cons, List.take_zero, List.drop_succ_cons, List.drop_zero, List.replicate_succ, List.replicate_zero, List.cons_append, List.nil_append, List.append_nil, List.drop_nil, List.take_nil, List.toList_toArray, Nat.sub_zero, Nat.reduceSub, Nat.reduceAdd, Nat.reduceMul, Nat.zero_mul, Nat.one_mul, Nat.mul_one, Nat.zero_add, Nat.le_refl, Nat.reduceLeDiff, and_self, true_and, and_true, if_true]; rfl) | rfl) (by first | (simp only [zip3, qdV, qfU, qb3, qr, qiU, List.map_cons, List.map_nil, List.length_cons, List.length_nil, List.take_succ_cons, List.take_zero, List.drop_succ_cons, List.drop_zero, List.replicate_succ, List.replicate_zero, List.cons_append, List.nil_append, List.append_nil, List.drop_nil, List.take_nil, List.toList_toArray, Nat.sub_zero, Nat.reduceSub, Nat.reduceAdd, Nat.reduceMul, Nat.zero_mul, Nat.one_mul, Nat.mul_one, Nat.zero_add, Nat.le_refl, Nat.reduceLeDiff, and_self, true_and, and_true, if_true]; rfl) | rfl) | exact hEQ rfl rfl rfl | exact Step2.sound (by first | (((first | (apply Step2.a; constructor) | (apply Step2.b; constructor)) <;> first | infer_instance | skip) <;> (first | infer_instance | (refine w64c ?_; omega) | (refine qAl ?_; omega) | (refine qwW ?_; omega) | (refine qwX ?_; omega) | (refine qAi ?_; omega) | ((repeat (first | exact .head _ | refine .tail _ ?_)); done) | assumption | (simp only [List.drop_succ_cons, List.drop_zero, List.length_map, Nat.zero_add, Nat.mul_one]; rfl) | rfl | omega | (simp; done))) | fail) rfl | exact AY.call rfl rfl _ rfl (by fail) | exact AY.slice1 rfl rfl rfl (by rfl) (by first | (simp; done) | fail) | exact AY.callF rfl _ _ rfl _ rfl (by fail) | exact AY.old1k 0 rfl rfl rfl (by first | assumption | rfl) | exact AY.old1k 1 rfl rfl rfl (by first | assumption | rfl) | exact AY.old1k 2 rfl rfl rfl (by first | assumption | rfl) | exact AY.oldNk 0 rfl rfl rfl (by first | omega | (simp; omega)) (by first | assumption | rfl) | exact AY.oldNk 1 rfl rfl rfl (by first | omega | (simp; omega)) (by first | assumption | rfl)) (by simp only [AV.put]; rfl) ?_ | (refine AL.nilK (hK _ _ ?_); clear hK K) | (refine AE.nil (hK _ ?_); clear hK K) | refine W.k rfl rfl (by simp only [AV.put]; rfl) ?_ | refine AL.unguardS rfl rfl ?_ | refine AL.al hF rfl rfl rfl (by first | (simp only [Value.cells, List.map_cons, List.map_nil]; rfl) | rfl) (fun b => ⟨_, (by simp only [AV.put]; rfl), ?_⟩) | refine AL.st1 hF rfl rfl rfl rfl (by simp only [evO, AV.get]; rfl) (by first | exact qo2 | exact qo3 | exact qo4 | exact qo5 | exact qo6 | exact qo7 | exact qo8 | exact qo9) (by rfl) rfl (by rfl) (by first | (simp; done) | (simp; omega) | omega) (by simp only [List.set]; rfl) ?_ | refine AL.stW hF rfl rfl rfl rfl (by simp only [evO, AV.get]; rfl) (by first | exact qo2 | exact qo3 | exact qo4 | exact qo5 | exact qo6 | exact qo7 | exact qo8 | exact qo9) (by rfl) (by rfl) (by rfl) (by first | rfl | simp) (by simp only [List.set]; rfl) ?_) | (with_reducible refine Awp.id_ ?_; first | refine Awp.seq ?_ | refine Awp.regionK (by first | (simp only [AV.putO, AV.put]; rfl) | rfl) (fun K hK => ?_) | refine Awp.drawE (by first | (simp only [AV.putO, AV.put]; rfl) | rfl) mixed rfl (by kernel_rfl) (fun K hK => ?_) | refine Awp.block ?_ | refine Awp.skip ?_ | refine Awp.exit ?_ | refine Awp.ret ?_ | refine Awp.condT rfl ?_ | refine Awp.condF rfl ?_) | refine qup ?_ | refine quq ?_ | refine qur ?_ | refine qnV ?_ | refine qnW ?_ | refine qnX ?_ | refine qnY rfl ?_ | ((first | ((first | with_reducible refine AL.id_ ?_ | with_reducible refine AE.id_ ?_); (fail_if_success refine W.on rfl ?_); refine W.p rfl rfl (by simp only [AV.put]; rfl) (by simp only [AV.put]; rfl) (fun hb => ?_) (fun hb => ?_)) | (with_reducible refine Awp.id_ ?_; refine Awp.cond _ rfl (fun hb => ?_) (fun hb => ?_))) <;> (try simp only [z1, z2, z3, z4, z5, z6, z7, z8, y5, y6, y7, y8, z9, x1, x2, x3, x4, x5, x6, x7, x8] at hb; try (exfalso; omega)))))
        exact qKc rfl ⟨X4, .inr (List.mem_of_getElem? (i := 2) rfl)⟩
    · have hle : ¬ (lo + j ≤ hi) := by omega
      (repeat' (first | ((first | with_reducible refine AL.id_ ?_ | with_reducible refine AE.id_ ?_); first | refine AL.build0 hF rfl rfl rfl (fun b => ⟨_, (by simp only [AV.put]; rfl), ?_⟩) | refine W.s rfl rfl (by first | exact AY.bx rfl (by simp only [evO, AV.get]; rfl) rfl | exact AY.mkFn rfl (by simp only [List.map_cons, List.map_nil, evO, AV.get]; rfl) | exact AY.mkFn1 rfl (by simp only [evO, AV.get]; rfl) (by simp only [List.map_cons, List.map_nil, evO, AV.get]; rfl) | exact hEQ rfl rfl rfl | exact Step2.sound (by first | (((first | (apply Step2.a; constructor) | (apply Step2.b; constructor)) <;> first | infer_instance | skip) <;> (first | infer_instance | (refine w64c ?_; omega) | (refine qAl ?_; omega) | (refine qwW ?_; omega) | (refine qwX ?_; omega) | (refine qAi ?_; omega) | ((repeat (first | exact .head _ | refine .tail _ ?_)); done) | assumption | (simp only [List.drop_succ_cons, List.drop_zero, List.length_map, Nat.zero_add, Nat.mul_one]; rfl) | rfl | omega | (simp; done))) | fail) rfl | exact AY.call rfl rfl _ rfl (by fail) | exact AY.slice1 rfl rfl rfl (by rfl) (by first | (simp; done) | fail) | exact AY.callF rfl _ _ rfl _ rfl (by fail) | exact AY.old1k 0 rfl rfl rfl (by first | assumption | rfl) | exact AY.old1k 1 rfl rfl rfl (by first | assumption | rfl) | exact AY.old1k 2 rfl rfl rfl (by first | assumption | rfl) | exact AY.oldNk 0 rfl rfl rfl (by first | omega | (simp; omega)) (by first | assumption | rfl) | exact AY.oldNk 1 rfl rfl rfl (by first | omega | (simp; omega)) (by first | assumption | rfl)) (by simp only [AV.put]; rfl) ?_ | (refine AL.nilK (hK _ _ ?_); clear hK K) | (refine AE.nil (hK _ ?_); clear hK K) | refine W.k rfl rfl (by simp only [AV.put]; rfl) ?_ | refine AL.unguardS rfl rfl ?_ | refine AL.al hF rfl rfl rfl (by first | (simp only [Value.cells, List.map_cons, List.map_nil]; rfl) | rfl) (fun b => ⟨_, (by simp only [AV.put]; rfl), ?_⟩) | refine AL.st1 hF rfl rfl rfl rfl (by simp only [evO, AV.get]; rfl) (by first | exact qo2 | exact qo3 | exact qo4 | exact qo5 | exact qo6 | exact qo7 | exact qo8 | exact qo9) (by rfl) rfl (by rfl) (by first | (simp; done) | (simp; omega) | omega) (by simp only [List.set]; rfl) ?_ | refine AL.stW hF rfl rfl rfl rfl (by simp only [evO, AV.get]; rfl) (by first | exact qo2 | exact qo3 | exact qo4 | exact qo5 | exact qo6 | exact qo7 | exact qo8 | exact qo9) (by rfl) (by rfl) (by rfl) (by first | rfl | simp) (by simp only [List.set]; rfl) ?_) | (with_reducible refine Awp.id_ ?_; first | refine Awp.seq ?_ | refine Awp.regionK (by first | (simp only [AV.putO, AV.put]; rfl) | rfl) (fun K hK => ?_) | refine Awp.drawE (by first | (simp only [AV.putO, AV.put]; rfl) | rfl) mixed rfl (by kernel_rfl) (fun K hK => ?_) | refine Awp.block ?_ | refine Awp.skip ?_ | refine Awp.exit ?_ | refine Awp.ret ?_ | refine Awp.condT rfl ?_ | refine Awp.condF rfl ?_) | refine qup ?_ | refine quq ?_ | refine qur ?_ | refine qnV ?_ | refine qnW ?_ | refine qnX ?_ | refine qnY rfl ?_ | ((first | ((first | with_reducible refine AL.id_ ?_ | with_reducible refine AE.id_ ?_); (fail_if_success refine W.on rfl ?_); refine W.p rfl rfl (by simp only [AV.put]; rfl) (by simp only [AV.put]; rfl) (fun hb => ?_) (fun hb => ?_)) | (with_reducible refine Awp.id_ ?_; refine Awp.cond _ rfl (fun hb => ?_) (fun hb => ?_))) <;> (try simp only [z1, z2, z3, z4, z5, z6, z7, z8, y5, y6, y7, y8, z9, x1, x2, x3, x4, x5, x6, x7, x8] at hb; try (exfalso; omega)))))
      (refine qLh (n - 1) (List.sublist_cons_self _ _) (by first | (simp only [AV.putO, AV.put]; rfl) | rfl) (by omega) ?_ (by simp only [List.map, AV.get, mask, putl, AV.put]))
      exact ⟨k + 1, X3, by omega, qMK (by omega), by rw [hNk, show (hi + 1 - lo).toNat = j by omega]⟩
  · (repeat' (first | ((first | with_reducible refine AL.id_ ?_ | with_reducible refine AE.id_ ?_); first | refine AL.build0 hF rfl rfl rfl (fun b => ⟨_, (by simp only [AV.put]; rfl), ?_⟩) | refine W.s rfl rfl (by first | exact AY.bx rfl (by simp only [evO, AV.get]; rfl) rfl | exact AY.mkFn rfl (by simp only [List.map_cons, List.map_nil, evO, AV.get]; rfl) | exact AY.mkFn1 rfl (by simp only [evO, AV.get]; rfl) (by simp only [List.map_cons, List.map_nil, evO, AV.get]; rfl) | exact hEQ rfl rfl rfl | exact Step2.sound (by first | (((first | (apply Step2.a; constructor) | (apply Step2.b; constructor)) <;> first | infer_instance | skip) <;> (first | infer_instance | (refine w64c ?_; omega) | (refine qAl ?_; omega) | (refine qwW ?_; omega) | (refine qwX ?_; omega) | (refine qAi ?_; omega) | ((repeat (first | exact .head _ | refine .tail _ ?_)); done) | assumption | (simp only [List.drop_succ_cons, List.drop_zero, List.length_map, Nat.zero_add, Nat.mul_one]; rfl) | rfl | omega | (simp; done))) | fail) rfl | exact AY.call rfl rfl _ rfl (by fail) | exact AY.slice1 rfl rfl rfl (by rfl) (by first | (simp; done) | fail) | exact AY.callF rfl _ _ rfl _ rfl (by fail) | exact AY.old1k 0 rfl rfl rfl (by first | assumption | rfl) | exact AY.old1k 1 rfl rfl rfl (by first | assumption | rfl) | exact AY.old1k 2 rfl rfl rfl (by first | assumption | rfl) | exact AY.oldNk 0 rfl rfl rfl (by first | omega | (simp; omega)) (by first | assumption | rfl) | exact AY.oldNk 1 rfl rfl rfl (by first | omega | (simp; omega)) (by first | assumption | rfl)) (by simp only [AV.put]; rfl) ?_ | (refine AL.nilK (hK _ _ ?_); clear hK K) | (refine AE.nil (hK _ ?_); clear hK K) | refine W.k rfl rfl (by simp only [AV.put]; rfl) ?_ | refine AL.unguardS rfl rfl ?_ | refine AL.al hF rfl rfl rfl (by first | (simp only [Value.cells, List.map_cons, List.map_nil]; rfl) | rfl) (fun b => ⟨_, (by simp only [AV.put]; rfl), ?_⟩) | refine AL.st1 hF rfl rfl rfl rfl (by simp only [evO, AV.get]; rfl) (by first | exact qo2 | exact qo3 | exact qo4 | exact qo5 | exact qo6 | exact qo7 | exact qo8 | exact qo9) (by rfl) rfl (by rfl) (by first | (simp; done) | (simp; omega) | omega) (by simp only [List.set]; rfl) ?_ | refine AL.stW hF rfl rfl rfl rfl (by simp only [evO, AV.get]; rfl) (by first | exact qo2 | exact qo3 | exact qo4 | exact qo5 | exact qo6 | exact qo7 | exact qo8 | exact qo9) (by rfl) (by rfl) (by rfl) (by first | rfl | simp) (by simp only [List.set]; rfl) ?_) | (with_reducible refine Awp.id_ ?_; first | refine Awp.seq ?_ | refine Awp.regionK (by first | (simp only [AV.putO, AV.put]; rfl) | rfl) (fun K hK => ?_) | refine Awp.drawE (by first | (simp only [AV.putO, AV.put]; rfl) | rfl) mixed rfl (by kernel_rfl) (fun K hK => ?_) | refine Awp.block ?_ | refine Awp.skip ?_ | refine Awp.exit ?_ | refine Awp.ret ?_ | refine Awp.condT rfl ?_ | refine Awp.condF rfl ?_) | refine qup ?_ | refine quq ?_ | refine qur ?_ | refine qnV ?_ | refine qnW ?_ | refine qnX ?_ | refine qnY rfl ?_ | ((first | ((first | with_reducible refine AL.id_ ?_ | with_reducible refine AE.id_ ?_); (fail_if_success refine W.on rfl ?_); refine W.p rfl rfl (by simp only [AV.put]; rfl) (by simp only [AV.put]; rfl) (fun hb => ?_) (fun hb => ?_)) | (with_reducible refine Awp.id_ ?_; refine Awp.cond _ rfl (fun hb => ?_) (fun hb => ?_))) <;> (try simp only [z1, z2, z3, z4, z5, z6, z7, z8, y5, y6, y7, y8, z9, x1, x2, x3, x4, x5, x6, x7, x8] at hb; try (exfalso; omega)))))
    exact qLj rfl ⟨X', .inl (by rw [show ss.length = k by omega]; exact List.mem_of_getElem? (i := 1) rfl)⟩
def qCH : Itr Try.prog := ⟨97, [T30], [T80], fun x => qvI x.1.2.2.2.2, fun x l h => qL5 x l h⟩
end Go.Proofs.Ytcjgodgpaokbnaa

/- Printed: what functions of the program compute. -/
namespace Go.Proofs.Ytcjgodgpaokbnaa
set_option linter.constructorNameAsVariable false
set_option linter.unusedSimpArgs false
set_option linter.unusedVariables false
set_option linter.unusedSectionVars false
open Go Go.Proofs Go.RowKit
set_option maxRecDepth 20000
noncomputable def qBG (n : Nat) : CL Try.prog := ⟨[], [], 0⟩
noncomputable def qBH (n : Nat) : Nat → St → PT (DEx × St) := fun _ _ => .fail
theorem qH3 : qd (qa Try.f67) 0 = [] := by kernel_rfl
theorem qH4 : Try.f67.body = some (qa Try.f67) := by kernel_rfl
abbrev qxH : List Ar := [.d T30]
abbrev qtF : List Ty := [T30]
noncomputable def qCI (n : Nat) (x : qz qxH) : Option (qk qtF) := (qi tab (qBG n) (qBH n) (qa Try.f67) 0 (qB qxH 4 x)).run (qMJ 2 97 qtF)
noncomputable def qxI (n : Nat) : Ct Try.prog := ⟨67, qxH, .fb 97 qtF, qCI n, fun _ _ h => qNE (B := tab) (cs := qBG n) (lo := qBH n) (i := 2) (g := 97) (caps := qtF) Try.func67 (by kernel_rfl) qH4 (by kernel_rfl) (qh qH3 qe) h⟩
noncomputable def qsC (n : Nat) : CL Try.prog := ⟨[], [], 0⟩
noncomputable def qsD (n : Nat) : Nat → St → PT (DEx × St) := fun _ _ => .fail
theorem qBa : qd (qa Try.f37) 0 = [] := by kernel_rfl
theorem qBb : Try.f37.body = some (qa Try.f37) := by kernel_rfl
abbrev qnl : List It := [.v (.t 1) T80, .obj (.t 0) true 72 5, .v (.c 0 0) T69, .row (.c 0 2) true T30 30, .row (.c 0 3) true T30 30, .mpi (.c 0 4) true T80 T3]
abbrev qma : List (List It) := [[.v (.t 0) T3, .obj (.t 1) true 72 5, .v (.c 0 0) T69, .row (.c 0 2) true T30 30, .row (.c 0 3) true T30 30, .mpi (.c 0 4) true T80 T3]]
noncomputable def qtG (n : Nat) (x : qb qnl) : Option (qq qma) := runW tab (qsC n) (qsD n) (qa Try.f37) qnl 2 23 [.tmp 4] qma x
noncomputable def qtH (n : Nat) : Cw Try.prog := ⟨37, 2, qnl, 1, qma, qtG n, fun _ _ h => qP (B := tab) (cs := qsC n) (lo := qsD n) (rs := [.tmp 4]) Try.func37 (by kernel_rfl) qBb (by kernel_rfl) (by decide) (qh qBa qe) h⟩
noncomputable def qiN (n : Nat) : CL Try.prog := ⟨[qxI n], [qtH n], 0⟩
noncomputable def qqP (n : Nat) : Nat → St → PT (DEx × St) := fun _ _ => .fail
abbrev qcF : List It := [.obj (.t 0) true 72 5, .v (.c 0 0) T69, .row (.c 0 2) true T30 30, .row (.c 0 3) true T30 30, .mpi (.c 0 4) true T80 T3, .obj (.t 2) false 64 1, .pal (.c 4 0) 0 0, .obj (.t 3) false 30 5, .v (.c 5 0) T30, .obj (.t 4) false 80 2, .v (.c 6 0) T80, .obj (.t 5) false 3 1, .v (.c 7 0) T3]
abbrev qiO : List (DEx × List It) := [(.ret, [.obj (.t 0) true 72 5, .v (.c 0 0) T69, .row (.c 0 2) true T30 30, .row (.c 0 3) true T30 30, .mpi (.c 0 4) true T80 T3, .obj (.t 4) false 80 2, .v (.c 4 0) T80, .obj (.t 5) false 3 1, .v (.c 5 0) T3])]
abbrev qrH : List Ty := [T80]
noncomputable def qrI (n : Nat) (rec : qb qcF → Option (qb qcF ⊕ qf qiO)) (s : qb qcF) (y : qk qrH) : Option (qb qcF ⊕ qf qiO) := (qCp tab (qiN n) (qqP n) [10] (subC [true, false, true, false, false] (qa Try.f45)) (subC [true, false, true, false, true] (qa Try.f45)) 1 (mkS qcF 22 s) (tysD qrH y)).run (qEZ 22 qcF qiO (mkS qcF 22 s) rec)
noncomputable def qmb (n : Nat) : Rg Try.prog := ⟨.tmp 9, 22, qcF, qCH, qiO, rgF (qrI n)⟩
theorem qyf : qd (subC [true, false, true, false, false] (qa Try.f45)) 1 = [] := by kernel_rfl
theorem qzk : qd (subC [true, false, true, false, true] (qa Try.f45)) (1 + qiW (subC [true, false, true, false, false] (qa Try.f45))) = [] := by kernel_rfl
theorem qwK (n : Nat) (st : St) (r : DEx × St) (h : ((qmb n).go st).Is r) : DA Try.prog false (.rangeFunc (.tmp 9) ([10] : List Tmp).toArray (subC [true, false, true, false, false] (qa Try.f45)) (subC [true, false, true, false, true] (qa Try.f45))) st r := Rg.ok (L := qmb n) (B := tab) (cs := qiN n) (lo := qqP n) (id := 0) rfl rfl (qh qyf qe) (qh qzk qe) (fun _ _ _ => rfl) h
noncomputable def qrJ (n : Nat) : Nat → St → PT (DEx × St) := fun k st => match k with
  | 0 => (qmb n).go st
  | _ => .fail
theorem qz1 : qd (qa Try.f45) 0 = [(0, .rangeFunc (.tmp 9) ([10] : List Tmp).toArray (subC [true, false, true, false, false] (qa Try.f45)) (subC [true, false, true, false, true] (qa Try.f45)))] := by kernel_rfl
theorem qz2 : Try.f45.body = some (qa Try.f45) := by kernel_rfl
abbrev qmc : List It := [.v (.t 1) T30, .obj (.t 0) true 72 5, .v (.c 0 0) T69, .row (.c 0 2) true T30 30, .row (.c 0 3) true T30 30, .mpi (.c 0 4) true T80 T3]
abbrev qlg : List (List It) := [[.v (.t 0) T80, .v (.t 1) T3, .obj (.t 2) true 72 5, .v (.c 0 0) T69, .row (.c 0 2) true T30 30, .row (.c 0 3) true T30 30, .mpi (.c 0 4) true T80 T3]]
noncomputable def qsE (n : Nat) (x : qb qmc) : Option (qq qlg) := runW tab (qiN n) (qrJ n) (qa Try.f45) qmc 2 22 [.cell 4 80, .cell 5 3] qlg x
noncomputable def qnm (n : Nat) : Cw Try.prog := ⟨45, 2, qmc, 2, qlg, qsE n, fun _ _ h => qP (B := tab) (cs := qiN n) (lo := qrJ n) (rs := [.cell 4 80, .cell 5 3]) Try.func45 (by kernel_rfl) qz2 (by kernel_rfl) (by decide) (qh qz1 (all_cons (fun st r h => qwK n st r h) qe)) h⟩
noncomputable def qgt (n : Nat) : CL Try.prog := ⟨[qxI n], [qnm n], 0⟩
noncomputable def qtI (n : Nat) : Nat → St → PT (DEx × St) := fun _ _ => .fail
abbrev qdO : List It := [.nilf (.t 2), .v (.t 17) T25, .v (.t 18) T3, .v (.t 19) T3, .obj (.t 7) false 64 1, .obj (.c 0 0) false 72 5, .v (.c 1 0) T69, .row (.c 1 2) false T30 30, .row (.c 1 3) false T30 30, .mpi (.c 1 4) false T80 T3, .obj (.t 9) false 30 5, .v (.c 5 0) T30]
abbrev qkS : List (DEx × List It) := []
abbrev quk : List Ty := [T80]
noncomputable def qul (n : Nat) (rec : qb qdO → Option (qb qdO ⊕ qf qkS)) (s : qb qdO) (y : qk quk) : Option (qb qdO ⊕ qf qkS) := (qCp tab (qgt n) (qtI n) [61] (subC [true, true, false, true, false, false, true, true, false, false, true, true, true, true, true, false, false] (qa Try.f52)) (subC [true, true, false, true, false, false, true, true, false, false, true, true, true, true, true, false, true] (qa Try.f52)) 2 (mkS qdO 75 s) (tysD quk y)).run (qEZ 75 qdO qkS (mkS qdO 75 s) rec)
noncomputable def qoZ (n : Nat) : Rg Try.prog := ⟨.tmp 60, 75, qdO, qCH, qkS, rgF (qul n)⟩
theorem qBc : qd (subC [true, true, false, true, false, false, true, true, false, false, true, true, true, true, true, false, false] (qa Try.f52)) 2 = [] := by kernel_rfl
theorem qBV : qd (subC [true, true, false, true, false, false, true, true, false, false, true, true, true, true, true, false, true] (qa Try.f52)) (2 + qiW (subC [true, true, false, true, false, false, true, true, false, false, true, true, true, true, true, false, false] (qa Try.f52))) = [] := by kernel_rfl
theorem qzl (n : Nat) (st : St) (r : DEx × St) (h : ((qoZ n).go st).Is r) : DA Try.prog false (.rangeFunc (.tmp 60) ([61] : List Tmp).toArray (subC [true, true, false, true, false, false, true, true, false, false, true, true, true, true, true, false, false] (qa Try.f52)) (subC [true, true, false, true, false, false, true, true, false, false, true, true, true, true, true, false, true] (qa Try.f52))) st r := Rg.ok (L := qoZ n) (B := tab) (cs := qgt n) (lo := qtI n) (id := 1) rfl rfl (qh qBc qe) (qh qBV qe) (fun _ _ _ => rfl) h
noncomputable def qtJ (n : Nat) : Nat → St → PT (DEx × St) := fun k st => match k with
  | 1 => (qoZ n).go st
  | _ => .fail
abbrev qih : List It := [.nilf (.t 2), .v (.t 17) T25, .v (.t 18) T3, .v (.t 19) T3, .obj (.t 7) false 64 1, .obj (.c 0 0) false 72 5, .v (.c 1 0) T69, .row (.c 1 2) false T30 30, .row (.c 1 3) false T30 30, .mpi (.c 1 4) false T80 T3]
abbrev qkT : List (DEx × List It) := [(.exit 0, [.obj (.t 7) false 64 1, .obj (.c 0 0) false 72 5, .v (.c 1 0) T69, .row (.c 1 2) false T30 30, .row (.c 1 3) false T30 30, .mpi (.c 1 4) false T80 T3])]
noncomputable def qum (n : Nat) (rec : qb qih → Option (qf qkT)) (s : qb qih) : Option (qf qkT) := (qi tab (qgt n) (qtJ n) (subC [true, true, false, true, false, false] (qa Try.f52)) 1 (mkS qih 75 s)).run (Lp.leaf 75 qih qkT rec)
noncomputable def qo0 (n : Nat) : Lp := ⟨75, qih, qkT, qg n (qum n)⟩
theorem qBW : qd (subC [true, true, false, true, false, false] (qa Try.f52)) 1 = [(1, .rangeFunc (.tmp 60) ([61] : List Tmp).toArray (subC [true, true, false, true, false, false, true, true, false, false, true, true, true, true, true, false, false] (qa Try.f52)) (subC [true, true, false, true, false, false, true, true, false, false, true, true, true, true, true, false, true] (qa Try.f52)))] := by kernel_rfl
theorem qzm (n : Nat) (st : St) (r : DEx × St) (h : ((qo0 n).go st).Is r) : DA Try.prog false (.loop (subC [true, true, false, true, false, false] (qa Try.f52))) st r := Lp.ok (L := qo0 n) (B := tab) (cs := qgt n) (lo := qtJ n) (id := 0) rfl (qh qBW (all_cons (fun st r h => qzl n st r h) qe)) (fun _ _ => rfl) h
noncomputable def qun (n : Nat) : Nat → St → PT (DEx × St) := fun k st => match k with
  | 0 => (qo0 n).go st
  | _ => .fail
theorem qCJ : qd (qa Try.f52) 0 = [(0, .loop (subC [true, true, false, true, false, false] (qa Try.f52)))] := by kernel_rfl
theorem qCK : Try.f52.body = some (qa Try.f52) := by kernel_rfl
abbrev qo1 : List It := [.v (.t 0) T69, .v (.t 1) T25, .nilf (.t 2)]
abbrev qoi : List (List It) := [[.obj (.t 0) false 72 5, .v (.c 0 0) T69, .row (.c 0 2) false T30 30, .row (.c 0 3) false T30 30, .mpi (.c 0 4) false T80 T3]]
noncomputable def qvJ (n : Nat) (x : qb qo1) : Option (qq qoi) := runW tab (qgt n) (qun n) (qa Try.f52) qo1 3 75 [.tmp 6] qoi x
noncomputable def qvK (n : Nat) : Cw Try.prog := ⟨52, 3, qo1, 1, qoi, qvJ n, fun _ _ h => qP (B := tab) (cs := qgt n) (lo := qun n) (rs := [.tmp 6]) Try.func52 (by kernel_rfl) qCK (by kernel_rfl) (by decide) (qh qCJ (all_cons (fun st r h => qzm n st r h) qe)) h⟩
noncomputable def qBI (n : Nat) : CL Try.prog := ⟨[], [qxC n, qhb n, qhd n, ql9 n, qoI n], 1⟩
noncomputable def qBJ (n : Nat) : Nat → St → PT (DEx × St) := fun _ _ => .fail
theorem qH5 : qd (qa Try.f53) 0 = [] := by kernel_rfl
theorem qH6 : Try.f53.body = some (qa Try.f53) := by kernel_rfl
abbrev qxJ : List Ar := [.d T25]
abbrev qxK : List Ty := [T25]
noncomputable def qCL (n : Nat) (x : qz qxJ) : Option (qk qxK) := (qi tab (qBI n) (qBJ n) (qa Try.f53) 0 (qB qxJ 15 x)).run (qbz tab [.tmp 2] qxK)
noncomputable def qCM (n : Nat) : Ct Try.prog := ⟨53, qxJ, .ts qxK, qCL n, fun _ _ h => qbF (B := tab) (cs := qBI n) (lo := qBJ n) (rs := [.tmp 2]) Try.func53 (by kernel_rfl) qH6 (by kernel_rfl) (by decide) (qh qH5 qe) h⟩
noncomputable def qyV (n : Nat) : CL Try.prog := ⟨[qxm n, qvt n], [], 0⟩
noncomputable def qyW (n : Nat) : Nat → St → PT (DEx × St) := fun _ _ => .fail
theorem qFV : qd (qa Try.f49) 0 = [] := by kernel_rfl
theorem qFW : Try.f49.body = some (qa Try.f49) := by kernel_rfl
abbrev qtK : List It := [.v (.t 0) T80, .obj (.t 1) true 69 2, .v (.c 0 0) T69]
abbrev qr5 : List (List It) := [[.v (.t 0) T4, .obj (.t 1) true 69 2, .v (.c 0 0) T69]]
noncomputable def qz3 (n : Nat) (x : qb qtK) : Option (qq qr5) := runW tab (qyV n) (qyW n) (qa Try.f49) qtK 2 16 [.tmp 3] qr5 x
noncomputable def qz4 (n : Nat) : Cw Try.prog := ⟨49, 2, qtK, 1, qr5, qz3 n, fun _ _ h => qP (B := tab) (cs := qyV n) (lo := qyW n) (rs := [.tmp 3]) Try.func49 (by kernel_rfl) qFW (by kernel_rfl) (by decide) (qh qFV qe) h⟩
noncomputable def qcu (n : Nat) : CL Try.prog := ⟨[], [qz4 n], 0⟩
noncomputable def qhe (n : Nat) : Nat → St → PT (DEx × St) := fun _ _ => .fail
abbrev qbr : List It := [.v (.t 0) T93, .v (.t 7) T3, .v (.t 8) T3, .fnc (.t 1) 49 [.box true 69 2], .v (.c 0 0) T69]
abbrev qcv : List (DEx × List It) := [(.exit 0, [.fnc (.t 1) 49 [.box true 69 2], .v (.c 0 0) T69]), (.ret, [.v (.t 4) T3, .fnc (.t 1) 49 [.box true 69 2], .v (.c 0 0) T69])]
noncomputable def qhv (n : Nat) (rec : qb qbr → Option (qf qcv)) (s : qb qbr) : Option (qf qcv) := (qi tab (qcu n) (qhe n) (subC [true, false, true, false, false] (qa Try.f69)) 1 (mkS qbr 19 s)).run (Lp.leaf 19 qbr qcv rec)
noncomputable def qes (n : Nat) : Lp := ⟨19, qbr, qcv, qg n (qhv n)⟩
theorem qnL : qd (subC [true, false, true, false, false] (qa Try.f69)) 1 = [] := by kernel_rfl
theorem qmd (n : Nat) (st : St) (r : DEx × St) (h : ((qes n).go st).Is r) : DA Try.prog false (.loop (subC [true, false, true, false, false] (qa Try.f69))) st r := Lp.ok (L := qes n) (B := tab) (cs := qcu n) (lo := qhe n) (id := 0) rfl (qh qnL qe) (fun _ _ => rfl) h
noncomputable def qhw (n : Nat) : Nat → St → PT (DEx × St) := fun k st => match k with
  | 0 => (qes n).go st
  | _ => .fail
theorem qoj : qd (qa Try.f69) 0 = [(0, .loop (subC [true, false, true, false, false] (qa Try.f69)))] := by kernel_rfl
theorem qok : Try.f69.body = some (qa Try.f69) := by kernel_rfl
abbrev qet : List It := [.v (.t 0) T93, .fnc (.t 1) 49 [.box true 69 2], .v (.c 0 0) T69]
abbrev qeb : List (List It) := [[.v (.t 0) T3, .obj (.t 1) true 69 2, .v (.c 0 0) T69]]
noncomputable def qhP (n : Nat) (x : qb qet) : Option (qq qeb) := runW tab (qcu n) (qhw n) (qa Try.f69) qet 2 19 [.tmp 4] qeb x
noncomputable def qol (n : Nat) : Cw Try.prog := ⟨69, 2, qet, 1, qeb, qhP n, fun _ _ h => qP (B := tab) (cs := qcu n) (lo := qhw n) (rs := [.tmp 4]) Try.func69 (by kernel_rfl) qok (by kernel_rfl) (by decide) (qh qoj (all_cons (fun st r h => qmd n st r h) qe)) h⟩
noncomputable def qgC (n : Nat) : CL Try.prog := ⟨[], [qz4 n, qol n], 0⟩
noncomputable def qgD (n : Nat) : Nat → St → PT (DEx × St) := fun _ _ => .fail
theorem qmz : qd (qa Try.f48) 0 = [] := by kernel_rfl
theorem qmA : Try.f48.body = some (qa Try.f48) := by kernel_rfl
abbrev qdx : List It := [.v (.t 0) T93, .fnc (.t 1) 49 [.box true 69 2], .v (.c 0 0) T69]
abbrev qdl : List (List It) := [[.v (.t 0) T4, .obj (.t 1) true 69 2, .v (.c 0 0) T69]]
noncomputable def qgW (n : Nat) (x : qb qdx) : Option (qq qdl) := runW tab (qgC n) (qgD n) (qa Try.f48) qdx 2 9 [.tmp 4] qdl x
noncomputable def qmB (n : Nat) : Cw Try.prog := ⟨48, 2, qdx, 1, qdl, qgW n, fun _ _ h => qP (B := tab) (cs := qgC n) (lo := qgD n) (rs := [.tmp 4]) Try.func48 (by kernel_rfl) qmA (by kernel_rfl) (by decide) (qh qmz qe) h⟩
noncomputable def qBK (n : Nat) : CL Try.prog := ⟨[qH2 n, qCM n], [qmB n, qvK n], 4⟩
noncomputable def qBL (n : Nat) : Nat → St → PT (DEx × St) := fun _ _ => .fail
theorem qH7 : qd (qa Try.f31) 0 = [] := by kernel_rfl
theorem qH8 : Try.f31.body = some (qa Try.f31) := by kernel_rfl
abbrev qwa : List It := [.v (.t 0) T24, .v (.t 1) T25, .v (.t 2) T93]
abbrev quP : List (List It) := [[.v (.t 1) T33, .obj (.t 0) false 72 5, .v (.c 0 0) T69, .row (.c 0 2) false T30 30, .row (.c 0 3) false T30 30, .mpi (.c 0 4) false T80 T3], [.nilp (.t 0), .v (.t 1) T33]]
noncomputable def qCN (n : Nat) (x : qb qwa) : Option (qq quP) := runW tab (qBK n) (qBL n) (qa Try.f31) qwa 3 25 [.tmp 6, .tmp 7] quP x
noncomputable def qtL (n : Nat) : Cw Try.prog := ⟨31, 3, qwa, 2, quP, qCN n, fun _ _ h => qP (B := tab) (cs := qBK n) (lo := qBL n) (rs := [.tmp 6, .tmp 7]) Try.func31 (by kernel_rfl) qH8 (by kernel_rfl) (by decide) (qh qH7 qe) h⟩
noncomputable def qxL (n : Nat) : CL Try.prog := ⟨[], [qtL n, qDO n, qCE n], 4⟩
noncomputable def qxM (n : Nat) : Nat → St → PT (DEx × St) := fun _ _ => .fail
theorem qFd : qd (qa Try.f12) 0 = [] := by kernel_rfl
theorem qFe : Try.f12.body = some (qa Try.f12) := by kernel_rfl
abbrev qtM : List Ar := [.d T24, .d T25]
abbrev qtN : List Ty := [T32, T33]
noncomputable def qyX (n : Nat) (x : qz qtM) : Option (qk qtN) := (qi tab (qxL n) (qxM n) (qa Try.f12) 0 (qB qtM 26 x)).run (qbz tab [.tmp 4, .tmp 5] qtN)
noncomputable def qyY (n : Nat) : Ct Try.prog := ⟨12, qtM, .ts qtN, qyX n, fun _ _ h => qbF (B := tab) (cs := qxL n) (lo := qxM n) (rs := [.tmp 4, .tmp 5]) Try.func12 (by kernel_rfl) qFe (by kernel_rfl) (by decide) (qh qFd qe) h⟩
noncomputable def qyZ (n : Nat) : CL Try.prog := ⟨[], [qtL n, qDO n], 4⟩
noncomputable def qy0 (n : Nat) : Nat → St → PT (DEx × St) := fun _ _ => .fail
theorem qFX : qd (qa Try.f13) 0 = [] := by kernel_rfl
theorem qFY : Try.f13.body = some (qa Try.f13) := by kernel_rfl
abbrev quQ : List Ar := [.d T24, .d T25]
abbrev quR : List Ty := [T32, T33]
noncomputable def qz5 (n : Nat) (x : qz quQ) : Option (qk quR) := (qi tab (qyZ n) (qy0 n) (qa Try.f13) 0 (qB quQ 22 x)).run (qbz tab [.tmp 4, .tmp 5] quR)
noncomputable def qz6 (n : Nat) : Ct Try.prog := ⟨13, quQ, .ts quR, qz5 n, fun _ _ h => qbF (B := tab) (cs := qyZ n) (lo := qy0 n) (rs := [.tmp 4, .tmp 5]) Try.func13 (by kernel_rfl) qFY (by kernel_rfl) (by decide) (qh qFX qe) h⟩
noncomputable def qCO (n : Nat) : CL Try.prog := ⟨[], [qtL n, qtH n], 4⟩
noncomputable def qCP (n : Nat) : Nat → St → PT (DEx × St) := fun _ _ => .fail
theorem qIF : qd (qa Try.f20) 0 = [] := by kernel_rfl
theorem qIG : Try.f20.body = some (qa Try.f20) := by kernel_rfl
abbrev qzn : List Ar := [.d T24, .d T25, .d T3, .d T3]
abbrev qzo : List Ty := [T3, T33]
noncomputable def qDP (n : Nat) (x : qz qzn) : Option (qk qzo) := (qi tab (qCO n) (qCP n) (qa Try.f20) 0 (qB qzn 30 x)).run (qbz tab [.tmp 8, .tmp 9] qzo)
noncomputable def qIH (n : Nat) : Ct Try.prog := ⟨20, qzn, .ts qzo, qDP n, fun _ _ h => qbF (B := tab) (cs := qCO n) (lo := qCP n) (rs := [.tmp 8, .tmp 9]) Try.func20 (by kernel_rfl) qIG (by kernel_rfl) (by decide) (qh qIF qe) h⟩
end Go.Proofs.Ytcjgodgpaokbnaa

/- Printed: what functions of the program compute. -/
namespace Go.Proofs.Ytcjgodgpaokbnaa
set_option linter.constructorNameAsVariable false
set_option linter.unusedSimpArgs false
set_option linter.unusedVariables false
set_option linter.unusedSectionVars false
open Go Go.Proofs Go.RowKit
set_option maxRecDepth 20000
noncomputable def qsF (n : Nat) : CL Try.prog := ⟨[qyY n, qz6 n, qye n, qzi n], [], 0⟩
noncomputable def qsG (n : Nat) : Nat → St → PT (DEx × St) := fun _ _ => .fail
theorem qBd : qd (qa Try.f10) 0 = [] := by kernel_rfl
theorem qBe : Try.f10.body = some (qa Try.f10) := by kernel_rfl
abbrev qom : List Ar := []
abbrev qon : List Ty := [T4]
noncomputable def qtO (n : Nat) (x : qz qom) : Option (qk qon) := (qi tab (qsF n) (qsG n) (qa Try.f10) 0 (qB qom 39 x)).run (qbz tab [.tmp 0] qon)
noncomputable def qBf (n : Nat) : Ct Try.prog := ⟨10, qom, .ts qon, qtO n, fun _ _ h => qbF (B := tab) (cs := qsF n) (lo := qsG n) (rs := [.tmp 0]) Try.func10 (by kernel_rfl) qBe (by kernel_rfl) (by decide) (qh qBd qe) h⟩
end Go.Proofs.Ytcjgodgpaokbnaa

/- Printed: what functions of the program compute. -/
namespace Go.Proofs.Ytcjgodgpaokbnaa
set_option linter.constructorNameAsVariable false
set_option linter.unusedSimpArgs false
set_option linter.unusedVariables false
set_option linter.unusedSectionVars false
open Go Go.Proofs Go.RowKit
set_option maxRecDepth 20000
noncomputable def qxN (n : Nat) : CL Try.prog := ⟨[], [], 0⟩
noncomputable def qxO (n : Nat) : Nat → St → PT (DEx × St) := fun _ _ => .fail
theorem qFf : qd (qa Try.f65) 0 = [] := by kernel_rfl
theorem qFg : Try.f65.body = some (qa Try.f65) := by kernel_rfl
abbrev qr6 : List It := [.v (.t 0) T30, .obj (.t 1) true 3 1, .v (.c 0 0) T3]
abbrev qrg : List (List It) := [[.v (.t 0) T4, .obj (.t 1) true 3 1, .v (.c 0 0) T3]]
noncomputable def qy1 (n : Nat) (x : qb qr6) : Option (qq qrg) := runW tab (qxN n) (qxO n) (qa Try.f65) qr6 2 8 [.tmp 3] qrg x
noncomputable def qFh (n : Nat) : Cw Try.prog := ⟨65, 2, qr6, 1, qrg, qy1 n, fun _ _ h => qP (B := tab) (cs := qxN n) (lo := qxO n) (rs := [.tmp 3]) Try.func65 (by kernel_rfl) qFg (by kernel_rfl) (by decide) (qh qFf qe) h⟩
noncomputable def qb0 (n : Nat) : CL Try.prog := ⟨[], [qFh n], 0⟩
noncomputable def qgq (n : Nat) : Nat → St → PT (DEx × St) := fun _ _ => .fail
abbrev qbf : List It := [.v (.t 0) T25, .v (.t 7) T3, .v (.t 8) T3, .fnc (.t 1) 65 [.box true 3 1], .v (.c 0 0) T3]
abbrev qb1 : List (DEx × List It) := [(.exit 0, [.fnc (.t 1) 65 [.box true 3 1], .v (.c 0 0) T3]), (.ret, [.v (.t 4) T3, .fnc (.t 1) 65 [.box true 3 1], .v (.c 0 0) T3])]
noncomputable def qgE (n : Nat) (rec : qb qbf → Option (qf qb1)) (s : qb qbf) : Option (qf qb1) := (qi tab (qb0 n) (qgq n) (subC [true, false, true, false, false] (qa Try.f64)) 1 (mkS qbf 19 s)).run (Lp.leaf 19 qbf qb1 rec)
noncomputable def qdy (n : Nat) : Lp := ⟨19, qbf, qb1, qg n (qgE n)⟩
theorem qme : qd (subC [true, false, true, false, false] (qa Try.f64)) 1 = [] := by kernel_rfl
theorem qkY (n : Nat) (st : St) (r : DEx × St) (h : ((qdy n).go st).Is r) : DA Try.prog false (.loop (subC [true, false, true, false, false] (qa Try.f64))) st r := Lp.ok (L := qdy n) (B := tab) (cs := qb0 n) (lo := qgq n) (id := 0) rfl (qh qme qe) (fun _ _ => rfl) h
noncomputable def qgF (n : Nat) : Nat → St → PT (DEx × St) := fun k st => match k with
  | 0 => (qdy n).go st
  | _ => .fail
theorem qmC : qd (qa Try.f64) 0 = [(0, .loop (subC [true, false, true, false, false] (qa Try.f64)))] := by kernel_rfl
theorem qmD : Try.f64.body = some (qa Try.f64) := by kernel_rfl
abbrev qdz : List It := [.v (.t 0) T25, .fnc (.t 1) 65 [.box true 3 1], .v (.c 0 0) T3]
abbrev qdm : List (List It) := [[.v (.t 0) T3, .obj (.t 1) true 3 1, .v (.c 0 0) T3]]
noncomputable def qgX (n : Nat) (x : qb qdz) : Option (qq qdm) := runW tab (qb0 n) (qgF n) (qa Try.f64) qdz 2 19 [.tmp 4] qdm x
noncomputable def qmE (n : Nat) : Cw Try.prog := ⟨64, 2, qdz, 1, qdm, qgX n, fun _ _ h => qP (B := tab) (cs := qb0 n) (lo := qgF n) (rs := [.tmp 4]) Try.func64 (by kernel_rfl) qmD (by kernel_rfl) (by decide) (qh qmC (all_cons (fun st r h => qkY n st r h) qe)) h⟩
noncomputable def qxP (n : Nat) : CL Try.prog := ⟨[], [], 0⟩
noncomputable def qxQ (n : Nat) : Nat → St → PT (DEx × St) := fun _ _ => .fail
theorem qFi : qd (qa Try.f66) 0 = [] := by kernel_rfl
theorem qFj : Try.f66.body = some (qa Try.f66) := by kernel_rfl
abbrev qr7 : List It := [.v (.t 1) T30, .obj (.t 0) true 72 5, .v (.c 0 0) T69, .row (.c 0 2) true T30 30, .row (.c 0 3) true T30 30, .mpi (.c 0 4) true T80 T3, .obj (.t 2) true 3 1, .v (.c 4 0) T3]
abbrev qrh : List (List It) := [[.v (.t 0) T4, .obj (.t 1) true 72 5, .v (.c 0 0) T69, .row (.c 0 2) true T30 30, .row (.c 0 3) true T30 30, .mpi (.c 0 4) true T80 T3, .obj (.t 5) true 3 1, .v (.c 4 0) T3]]
noncomputable def qy2 (n : Nat) (x : qb qr7) : Option (qq qrh) := runW tab (qxP n) (qxQ n) (qa Try.f66) qr7 3 10 [.tmp 5] qrh x
noncomputable def qFk (n : Nat) : Cw Try.prog := ⟨66, 3, qr7, 1, qrh, qy2 n, fun _ _ h => qP (B := tab) (cs := qxP n) (lo := qxQ n) (rs := [.tmp 5]) Try.func66 (by kernel_rfl) qFj (by kernel_rfl) (by decide) (qh qFi qe) h⟩
noncomputable def qcQ (n : Nat) : CL Try.prog := ⟨[qxI n], [qnm n, qFk n], 0⟩
noncomputable def qmr (n : Nat) : Nat → St → PT (DEx × St) := fun _ _ => .fail
abbrev qbo : List It := [.v (.t 17) T25, .v (.t 18) T3, .v (.t 19) T3, .fnc (.t 2) 66 [.box true 3 1], .v (.c 0 0) T3, .obj (.t 7) false 64 1, .obj (.c 1 0) false 72 5, .v (.c 2 0) T69, .row (.c 2 2) false T30 30, .row (.c 2 3) false T30 30, .mpi (.c 2 4) false T80 T3, .obj (.t 9) false 30 5, .v (.c 6 0) T30]
abbrev qf2 : List (DEx × List It) := []
abbrev qnn : List Ty := [T80]
noncomputable def qno (n : Nat) (rec : qb qbo → Option (qb qbo ⊕ qf qf2)) (s : qb qbo) (y : qk qnn) : Option (qb qbo ⊕ qf qf2) := (qCp tab (qcQ n) (qmr n) [61] (subC [true, true, false, true, false, false, true, true, false, false, true, true, true, true, true, false, false] (qa Try.f52)) (subC [true, true, false, true, false, false, true, true, false, false, true, true, true, true, true, false, true] (qa Try.f52)) 2 (mkS qbo 75 s) (tysD qnn y)).run (qEZ 75 qbo qf2 (mkS qbo 75 s) rec)
noncomputable def qiw (n : Nat) : Rg Try.prog := ⟨.tmp 60, 75, qbo, qCH, qf2, rgF (qno n)⟩
theorem qt9 : qd (subC [true, true, false, true, false, false, true, true, false, false, true, true, true, true, true, false, false] (qa Try.f52)) 2 = [] := by kernel_rfl
theorem quS : qd (subC [true, true, false, true, false, false, true, true, false, false, true, true, true, true, true, false, true] (qa Try.f52)) (2 + qiW (subC [true, true, false, true, false, false, true, true, false, false, true, true, true, true, true, false, false] (qa Try.f52))) = [] := by kernel_rfl
theorem qsY (n : Nat) (st : St) (r : DEx × St) (h : ((qiw n).go st).Is r) : DA Try.prog false (.rangeFunc (.tmp 60) ([61] : List Tmp).toArray (subC [true, true, false, true, false, false, true, true, false, false, true, true, true, true, true, false, false] (qa Try.f52)) (subC [true, true, false, true, false, false, true, true, false, false, true, true, true, true, true, false, true] (qa Try.f52))) st r := Rg.ok (L := qiw n) (B := tab) (cs := qcQ n) (lo := qmr n) (id := 1) rfl rfl (qh qt9 qe) (qh quS qe) (fun _ _ _ => rfl) h
noncomputable def qms (n : Nat) : Nat → St → PT (DEx × St) := fun k st => match k with
  | 1 => (qiw n).go st
  | _ => .fail
abbrev qec : List It := [.v (.t 17) T25, .v (.t 18) T3, .v (.t 19) T3, .fnc (.t 2) 66 [.box true 3 1], .v (.c 0 0) T3, .obj (.t 7) false 64 1, .obj (.c 1 0) false 72 5, .v (.c 2 0) T69, .row (.c 2 2) false T30 30, .row (.c 2 3) false T30 30, .mpi (.c 2 4) false T80 T3]
abbrev qf3 : List (DEx × List It) := [(.exit 0, [.fnc (.t 2) 66 [.box true 3 1], .v (.c 0 0) T3, .obj (.t 7) false 64 1, .obj (.c 1 0) false 72 5, .v (.c 2 0) T69, .row (.c 2 2) false T30 30, .row (.c 2 3) false T30 30, .mpi (.c 2 4) false T80 T3])]
noncomputable def qnp (n : Nat) (rec : qb qec → Option (qf qf3)) (s : qb qec) : Option (qf qf3) := (qi tab (qcQ n) (qms n) (subC [true, true, false, true, false, false] (qa Try.f52)) 1 (mkS qec 75 s)).run (Lp.leaf 75 qec qf3 rec)
noncomputable def qix (n : Nat) : Lp := ⟨75, qec, qf3, qg n (qnp n)⟩
theorem quT : qd (subC [true, true, false, true, false, false] (qa Try.f52)) 1 = [(1, .rangeFunc (.tmp 60) ([61] : List Tmp).toArray (subC [true, true, false, true, false, false, true, true, false, false, true, true, true, true, true, false, false] (qa Try.f52)) (subC [true, true, false, true, false, false, true, true, false, false, true, true, true, true, true, false, true] (qa Try.f52)))] := by kernel_rfl
theorem qsZ (n : Nat) (st : St) (r : DEx × St) (h : ((qix n).go st).Is r) : DA Try.prog false (.loop (subC [true, true, false, true, false, false] (qa Try.f52))) st r := Lp.ok (L := qix n) (B := tab) (cs := qcQ n) (lo := qms n) (id := 0) rfl (qh quT (all_cons (fun st r h => qsY n st r h) qe)) (fun _ _ => rfl) h
noncomputable def qnq (n : Nat) : Nat → St → PT (DEx × St) := fun k st => match k with
  | 0 => (qix n).go st
  | _ => .fail
theorem qvL : qd (qa Try.f52) 0 = [(0, .loop (subC [true, true, false, true, false, false] (qa Try.f52)))] := by kernel_rfl
theorem qvM : Try.f52.body = some (qa Try.f52) := by kernel_rfl
abbrev qiy : List It := [.v (.t 0) T69, .v (.t 1) T25, .fnc (.t 2) 66 [.box true 3 1], .v (.c 0 0) T3]
abbrev qh6 : List (List It) := [[.obj (.t 1) true 3 1, .v (.c 0 0) T3, .obj (.t 0) false 72 5, .v (.c 1 0) T69, .row (.c 1 2) false T30 30, .row (.c 1 3) false T30 30, .mpi (.c 1 4) false T80 T3]]
noncomputable def qnT (n : Nat) (x : qb qiy) : Option (qq qh6) := runW tab (qcQ n) (qnq n) (qa Try.f52) qiy 3 75 [.tmp 6] qh6 x
noncomputable def qvN (n : Nat) : Cw Try.prog := ⟨52, 3, qiy, 1, qh6, qnT n, fun _ _ h => qP (B := tab) (cs := qcQ n) (lo := qnq n) (rs := [.tmp 6]) Try.func52 (by kernel_rfl) qvM (by kernel_rfl) (by decide) (qh qvL (all_cons (fun st r h => qsZ n st r h) qe)) h⟩
noncomputable def qz7 (n : Nat) : CL Try.prog := ⟨[qCM n], [qtL n, qvK n, qvN n, qc1 n, qbM n, qeH n, qmE n], 4⟩
noncomputable def qz8 (n : Nat) : Nat → St → PT (DEx × St) := fun _ _ => .fail
theorem qGZ : qd (qa Try.f44) 0 = [] := by kernel_rfl
theorem qG0 : Try.f44.body = some (qa Try.f44) := by kernel_rfl
abbrev quU : List It := [.v (.t 0) T24, .v (.t 1) T25, .v (.t 2) T3]
abbrev qtP : List (List It) := [[.v (.t 1) T30, .v (.t 2) T33, .obj (.t 0) false 72 5, .v (.c 0 0) T69, .row (.c 0 2) false T30 30, .row (.c 0 3) false T30 30, .mpi (.c 0 4) false T80 T3], [.nilp (.t 0), .v (.t 1) T30, .v (.t 2) T33]]
noncomputable def qBM (n : Nat) (x : qb quU) : Option (qq qtP) := runW tab (qz7 n) (qz8 n) (qa Try.f44) quU 3 45 [.tmp 6, .cell 7 30, .tmp 8] qtP x
noncomputable def qG1 (n : Nat) : Cw Try.prog := ⟨44, 3, quU, 3, qtP, qBM n, fun _ _ h => qP (B := tab) (cs := qz7 n) (lo := qz8 n) (rs := [.tmp 6, .cell 7 30, .tmp 8]) Try.func44 (by kernel_rfl) qG0 (by kernel_rfl) (by decide) (qh qGZ qe) h⟩
noncomputable def qDQ (n : Nat) : CL Try.prog := ⟨[], [qG1 n, qnm n], 4⟩
noncomputable def qDR (n : Nat) : Nat → St → PT (DEx × St) := fun _ _ => .fail
theorem qJU : qd (qa Try.f28) 0 = [] := by kernel_rfl
theorem qJV : Try.f28.body = some (qa Try.f28) := by kernel_rfl
abbrev qBg : List Ar := [.d T24, .d T25, .d T3]
abbrev qBh : List Ty := [T3, T3, T3, T33]
noncomputable def qFl (n : Nat) (x : qz qBg) : Option (qk qBh) := (qi tab (qDQ n) (qDR n) (qa Try.f28) 0 (qB qBg 36 x)).run (qbz tab [.tmp 6, .tmp 7, .tmp 8, .tmp 9] qBh)
noncomputable def qJW (n : Nat) : Ct Try.prog := ⟨28, qBg, .ts qBh, qFl n, fun _ _ h => qbF (B := tab) (cs := qDQ n) (lo := qDR n) (rs := [.tmp 6, .tmp 7, .tmp 8, .tmp 9]) Try.func28 (by kernel_rfl) qJV (by kernel_rfl) (by decide) (qh qJU qe) h⟩
noncomputable def qjo (n : Nat) : CL Try.prog := ⟨[], [], 0⟩
noncomputable def qrK (n : Nat) : Nat → St → PT (DEx × St) := fun _ _ => .fail
abbrev qhf : List It := [.v (.t 0) T25, .v (.t 4) T3, .row (.t 3) false T30 30]
abbrev qjp : List (DEx × List It) := [(.exit 0, [.row (.t 3) false T30 30])]
noncomputable def qsH (n : Nat) (rec : qb qhf → Option (qf qjp)) (s : qb qhf) : Option (qf qjp) := (qi tab (qjo n) (qrK n) (subC [true, true, false, true, false, false] (qa Try.f26)) 1 (mkS qhf 26 s)).run (Lp.leaf 26 qhf qjp rec)
noncomputable def qnr (n : Nat) : Lp := ⟨26, qhf, qjp, qg n (qsH n)⟩
theorem qz9 : qd (subC [true, true, false, true, false, false] (qa Try.f26)) 1 = [] := by kernel_rfl
theorem qxR (n : Nat) (st : St) (r : DEx × St) (h : ((qnr n).go st).Is r) : DA Try.prog false (.loop (subC [true, true, false, true, false, false] (qa Try.f26))) st r := Lp.ok (L := qnr n) (B := tab) (cs := qjo n) (lo := qrK n) (id := 0) rfl (qh qz9 qe) (fun _ _ => rfl) h
noncomputable def qsI (n : Nat) : Nat → St → PT (DEx × St) := fun k st => match k with
  | 0 => (qnr n).go st
  | _ => .fail
theorem qBi : qd (qa Try.f26) 0 = [(0, .loop (subC [true, true, false, true, false, false] (qa Try.f26)))] := by kernel_rfl
theorem qBj : Try.f26.body = some (qa Try.f26) := by kernel_rfl
abbrev qns : List It := [.v (.t 0) T25]
abbrev qmf : List (List It) := [[.row (.t 0) false T30 30]]
noncomputable def qtQ (n : Nat) (x : qb qns) : Option (qq qmf) := runW tab (qjo n) (qsI n) (qa Try.f26) qns 1 26 [.tmp 2] qmf x
noncomputable def qBk (n : Nat) : Cw Try.prog := ⟨26, 1, qns, 1, qmf, qtQ n, fun _ _ h => qP (B := tab) (cs := qjo n) (lo := qsI n) (rs := [.tmp 2]) Try.func26 (by kernel_rfl) qBj (by kernel_rfl) (by decide) (qh qBi (all_cons (fun st r h => qxR n st r h) qe)) h⟩
noncomputable def qed (n : Nat) : CL Try.prog := ⟨[qA8 n, qBf n, qyY n, qz6 n, qyb n, qA0 n, qzR n, qIH n, qBT n, qJW n], [qBk n], 1⟩
noncomputable def qpk (n : Nat) : Nat → St → PT (DEx × St) := fun _ _ => .fail
abbrev qfL : List It := [.v (.t 7) T25, .v (.t 8) T32, .v (.t 22) T32, .v (.t 24) T3]
abbrev qhQ : List (DEx × List It) := [(.exit 2, []), (.ret, [.v (.t 6) T4])]
noncomputable def qp5 (n : Nat) (rec : qb qfL → Option (qf qhQ)) (s : qb qfL) : Option (qf qhQ) := (qi tab (qed n) (qpk n) (subC [true, true, true, true, true, true, true, true, true, true, true, false, true, false, false] (qa Try.f8)) 2 (mkS qfL 255 s)).run (Lp.leaf 255 qfL qhQ rec)
noncomputable def qkF (n : Nat) : Lp := ⟨255, qfL, qhQ, qg n (qp5 n)⟩
theorem qxS : qd (subC [true, true, true, true, true, true, true, true, true, true, true, false, true, false, false] (qa Try.f8)) 2 = [] := by kernel_rfl
theorem qvO (n : Nat) (st : St) (r : DEx × St) (h : ((qkF n).go st).Is r) : DA Try.prog false (.loop (subC [true, true, true, true, true, true, true, true, true, true, true, false, true, false, false] (qa Try.f8))) st r := Lp.ok (L := qkF n) (B := tab) (cs := qed n) (lo := qpk n) (id := 1) rfl (qh qxS qe) (fun _ _ => rfl) h
noncomputable def qpl (n : Nat) : Nat → St → PT (DEx × St) := fun _ _ => .fail
abbrev qfM : List It := [.v (.t 1) T25, .v (.t 7) T25, .v (.t 8) T32, .v (.t 10) T32, .v (.t 12) T3, .obj (.t 3) false 24 2, .v (.c 0 0) T24, .obj (.t 5) false 30 5, .v (.c 1 0) T30]
abbrev qhR : List (DEx × List It) := [(.exit 0, [.v (.t 1) T25, .v (.t 7) T25, .v (.t 8) T32, .v (.t 10) T32, .obj (.t 3) false 24 2, .v (.c 0 0) T24, .obj (.t 5) false 30 5, .v (.c 1 0) T30]), (.ret, [.v (.t 6) T4])]
noncomputable def qp6 (n : Nat) (rec : qb qfM → Option (qf qhR)) (s : qb qfM) : Option (qf qhR) := (qi tab (qed n) (qpl n) (subC [true, true, true, true, true, true, false, true, false, false] (qa Try.f8)) 1 (mkS qfM 255 s)).run (Lp.leaf 255 qfM qhR rec)
noncomputable def qkG (n : Nat) : Lp := ⟨255, qfM, qhR, qg n (qp6 n)⟩
theorem qxT : qd (subC [true, true, true, true, true, true, false, true, false, false] (qa Try.f8)) 1 = [] := by kernel_rfl
theorem qvP (n : Nat) (st : St) (r : DEx × St) (h : ((qkG n).go st).Is r) : DA Try.prog false (.loop (subC [true, true, true, true, true, true, false, true, false, false] (qa Try.f8))) st r := Lp.ok (L := qkG n) (B := tab) (cs := qed n) (lo := qpl n) (id := 0) rfl (qh qxT qe) (fun _ _ => rfl) h
noncomputable def qp7 (n : Nat) : Nat → St → PT (DEx × St) := fun k st => match k with
  | 0 => (qkG n).go st
  | 1 => (qkF n).go st
  | _ => .fail
theorem qyg : qd (qa Try.f8) 0 = [(0, .loop (subC [true, true, true, true, true, true, false, true, false, false] (qa Try.f8))), (1, .loop (subC [true, true, true, true, true, true, true, true, true, true, true, false, true, false, false] (qa Try.f8)))] := by kernel_rfl
theorem qyh : Try.f8.body = some (qa Try.f8) := by kernel_rfl
abbrev qga : List Ar := [.d T24, .d T25, .d T30]
abbrev qlh : List Ty := [T4]
noncomputable def qqQ (n : Nat) (x : qz qga) : Option (qk qlh) := (qi tab (qed n) (qp7 n) (qa Try.f8) 0 (qB qga 255 x)).run (qbz tab [.tmp 6] qlh)
noncomputable def qqR (n : Nat) : Ct Try.prog := ⟨8, qga, .ts qlh, qqQ n, fun _ _ h => qbF (B := tab) (cs := qed n) (lo := qp7 n) (rs := [.tmp 6]) Try.func8 (by kernel_rfl) qyh (by kernel_rfl) (by decide) (qh qyg (all_cons (fun st r h => qvP n st r h) (all_cons (fun st r h => qvO n st r h) qe))) h⟩
end Go.Proofs.Ytcjgodgpaokbnaa
