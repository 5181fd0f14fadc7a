/- Texts DnF, DnG, DnH, DnI, DnE, DnJ, DnK, DnL in one. -/
import Derived.Test.YtcjgodgpaokbnaaGreatNd
import Derived.Test.YtcjgodgpaokbnaaGreatDnD
import Derived.Test.YtcjgodgpaokbnaaGreatKc
/- Printed: what functions of the program compute. -/
namespace Go.Proofs.YtcjgodgpaokbnaaGreat
set_option linter.constructorNameAsVariable false
set_option linter.unusedSimpArgs false
set_option linter.unusedVariables false
set_option linter.unusedSectionVars false
open Go Go.Proofs Go.RowKit
set_option maxRecDepth 20000
noncomputable def qjB (n : Nat) : CL Tryz.prog := ⟨[], [], 0⟩
noncomputable def qjC (n : Nat) : Nat → St → PT (DEx × St) := fun _ _ => .fail
theorem qrf : qd (qa Tryz.f92) 0 = [] := by kernel_rfl
theorem qrg : Tryz.f92.body = some (qa Tryz.f92) := by kernel_rfl
abbrev qga : List It := [.raw (.t 0)]
abbrev qfK : List (List It) := [[.row (.t 0) false T59 59]]
noncomputable def qea (n : Nat) (x : qc qga) : Option (qD qfK) := runW tab (qjB n) (qjC n) (qa Tryz.f92) qga 1 8 [.tmp 2] qfK x
noncomputable def qrh (n : Nat) : Cw Tryz.prog := ⟨92, 1, qga, 1, qfK, qea n, fun _ _ h => qbY (B := tab) (cs := qjB n) (lo := qjC n) (rs := [.tmp 2]) Tryz.func92 (by kernel_rfl) qrg (by kernel_rfl) (by decide) (qh qrf qe) h⟩
noncomputable def ql2 (n : Nat) : CL Tryz.prog := ⟨[], [], 0⟩
noncomputable def ql3 (n : Nat) : Nat → St → PT (DEx × St) := fun _ _ => .fail
theorem qtE : qd (qa Tryz.f92) 0 = [] := by kernel_rfl
theorem qtF : Tryz.f92.body = some (qa Tryz.f92) := by kernel_rfl
abbrev qhv : List It := [.v (.t 0) T25]
abbrev qeZ : List (List It) := [[.row (.t 0) false T59 59]]
noncomputable def qfx (n : Nat) (x : qc qhv) : Option (qD qeZ) := runW tab (ql2 n) (ql3 n) (qa Tryz.f92) qhv 1 8 [.tmp 2] qeZ x
noncomputable def qtG (n : Nat) : Cw Tryz.prog := ⟨92, 1, qhv, 1, qeZ, qfx n, fun _ _ h => qbY (B := tab) (cs := ql2 n) (lo := ql3 n) (rs := [.tmp 2]) Tryz.func92 (by kernel_rfl) qtF (by kernel_rfl) (by decide) (qh qtE qe) h⟩
end Go.Proofs.YtcjgodgpaokbnaaGreat

/- Printed: slices.Clone. -/
namespace Go.Proofs.YtcjgodgpaokbnaaGreat
set_option linter.constructorNameAsVariable false
set_option linter.unusedSimpArgs false
set_option linter.unusedVariables false
set_option linter.unusedSectionVars false
open Go Go.Proofs Go.RowKit
theorem qtH (n : Nat) (c : Nat) : qea n (.slice none 0 c, ()) = some ([], ()) := by kernel_rfl
theorem qtI (n : Nat) (a : Addr) (c : Nat) : qea n (.slice (some a) 0 c, ()) = some ([], ()) := by kernel_rfl
noncomputable def qmU (n : Nat) : Cw Tryz.prog := qK6 92 T59 qeZ (qea n) (qfx n) ([], ()) (fun v y m0 h => (qrh n).okk (x := (v, ())) (y := y) h m0 (qFN m0)) (fun l y m0 h => (qtG n).okk (x := (l, ())) (y := y) h m0 (qFN m0)) (fun A c => by cases A with | none => exact qtH n c | some a => exact qtI n a c)
noncomputable def qtJ (n : Nat) := (qmU n).M
end Go.Proofs.YtcjgodgpaokbnaaGreat

/- Nothing here. -/

/- The iterator over the spots of a request, by hand. -/
namespace Go.Proofs.YtcjgodgpaokbnaaGreat
set_option linter.constructorNameAsVariable false
set_option linter.unusedSimpArgs false
set_option linter.unusedVariables false
set_option linter.unusedSectionVars false
open Go Go.Proofs Go.RowKit
set_option maxHeartbeats 4000000
set_option maxRecDepth 20000

def qgt (hut : Int) (lo : Int) : Nat → List (Int × Int)
  | 0 => []
  | n + 1 => (hut, lo) :: qgt hut (lo + 1) n
def qpF (s : Int × (Int × Int)) : List (Int × Int) := qgt s.1 s.2.1 (s.2.2 + 1 - s.2.1).toNat
def qP : List (Int × (Int × Int)) → List (Int × Int)
  | [] => []
  | s :: l => qpF s ++ qP l
def qAD (l : List (Int × (Int × Int))) : Bool := Nat.ble l.length 1000000 && l.all fun s => decide (-9223372036854775808 ≤ s.2.1) && decide (s.2.2 < 9223372036854775807)
def qC8 (y : Int × Int) : qi [T82] := (y, ())
theorem qEA (l : List (Int × Int)) : ((l.map qC8).map (tysA [T82])).length = l.length := by rw [List.length_map, List.length_map]
def qvw (l : List (Int × (Int × Int))) : Option (List (qi [T82])) := cond (qAD l) (some ((qP l).map qC8)) none
def qj9 (l : List (Int × (Int × Int))) (k : Nat) : Nat := (qP (l.take k)).length
theorem qw9 (h : Int) : ∀ (n : Nat) (lo : Int), (qgt h lo n).length = n
  | 0, _ => rfl
  | n + 1, lo => by simp [qgt, qw9 h n]
theorem qC9 (h : Int) : ∀ (n : Nat) (lo : Int) (j : Nat), j < n → (qgt h lo n)[j]? = some (h, lo + j)
  | n + 1, lo, 0, _ => by simp [qgt]
  | n + 1, lo, j + 1, hj => by
    simp only [qgt, List.getElem?_cons_succ]
    rw [qC9 h n (lo + 1) j (by omega)]
    congr 2
    omega
theorem qy4 : ∀ (l m : List (Int × (Int × Int))), qP (l ++ m) = qP l ++ qP m
  | [], _ => rfl
  | s :: l, m => by simp [qP, qy4 l m]
theorem qHR (l : List (Int × (Int × Int))) (k : Nat) (hk : k < l.length) : qj9 l (k + 1) = qj9 l k + (l[k].2.2 + 1 - l[k].2.1).toNat := by
  unfold qj9
  rw [List.take_succ_eq_append_getElem hk, qy4]
  simp [qP, qpF, qw9]
theorem qIP (l : List (Int × (Int × Int))) : qj9 l l.length = (qP l).length := by unfold qj9; simp
theorem qJ0 (l : List (Int × (Int × Int))) (k : Nat) (hk : k < l.length) (j : Nat) (hj : j < (l[k].2.2 + 1 - l[k].2.1).toNat) : (qP l)[qj9 l k + j]? = some (l[k].1, l[k].2.1 + j) := by
  have h1 : l = l.take k ++ l[k] :: l.drop (k + 1) := by simp
  have h2 : qP l = qP (l.take k) ++ (qpF l[k] ++ qP (l.drop (k + 1))) := by
    conv => lhs; rw [h1]
    rw [qy4]; rfl
  rw [h2, List.getElem?_append_right (by unfold qj9; omega), show qj9 l k + j - (qP (l.take k)).length = j by unfold qj9; omega, List.getElem?_append_left (by unfold qpF; rw [qw9]; exact hj)]
  exact qC9 _ _ _ _ hj
theorem qKJ {a b : Int} (h : a = b) : [AV.int a] = [AV.int b] := by rw [h]
theorem qJ1 (x : qi [T59]) (l : List (qi [T82])) (h : qvw x.1.2.2.2.2 = some l) : qCw Tryz.prog false 121 [] (qib [T59] x) (l.map (tysA [T82])) := by
  obtain ⟨⟨ma, mb, mc, md, ss⟩, u⟩ := x
  change List (Int × (Int × Int)) at ss
  unfold qvw at h
  cases hb : qAD ss with
  | false => simp only at h; rw [hb] at h; cases h
  | true =>
  simp only at h; rw [hb] at h
  injection h with h
  subst h
  unfold qAD at hb
  simp only [Bool.and_eq_true, Nat.ble_eq, List.all_eq_true, decide_eq_true_eq] at hb
  obtain ⟨hlen, hbd⟩ := hb
  refine ⟨enters_of Tryz.func121 (by kernel_rfl) rfl, fun lp T J Jx X hcJ hcx hone hy => ?_⟩
  have hyk : ∀ k (hk : k < ss.length) (j : Nat), j < (ss[k].2.2 + 1 - ss[k].2.1).toNat → qCv Tryz.prog T lp [.agg [.int ss[k].1, .int (ss[k].2.1 + j)]] (J (qj9 ss k + j)) (J (qj9 ss k + j + 1)) Jx := fun k hk j hj => by
    have h1 := qJ0 ss k hk j hj
    have h2 := (List.getElem?_eq_some_iff.1 h1).1
    have h3 := hy (qj9 ss k + j) (by rw [qEA]; exact h2)
    rw [List.getElem_map, List.getElem_map, (List.getElem?_eq_some_iff.1 h1).2] at h3
    exact h3
  have hY := Lib.hid hyk
  have hN := Lib.hid (qHR ss)
  have hN0 : qj9 ss 0 = 0 := rfl
  have hNl : qj9 ss ss.length = (((qP ss).map qC8).map (tysA [T82])).length := by rw [qIP, qEA]
  show MCT Tryz.prog T 121 [.val (.func (.yield lp) #[] #[]), .rp [.val (.int .i64 ma), .val (.int .i64 mb), .val (.int .i64 mc), .val (.int .i64 md), .sl 3 (ss.map fun s => [.val (.int .i64 s.1), .val (.int .i64 s.2.1), .val (.int .i64 s.2.2)])]] [.nodef, .ghost X (J 0)] fun _ H' => ∃ X', HE.ghost X' (J (((qP ss).map qC8).map (tysA [T82])).length) ∈ H' ∨ HE.ghost X' Jx ∈ H'
  rw [← hNl, ← hN0]
  clear hy hyk hNl
  generalize hrr : (ss.map fun s => [AV.val (.int .i64 s.1), AV.val (.int .i64 s.2.1), AV.val (.int .i64 s.2.2)]) = rr
  have hrl : rr.length = ss.length := by rw [← hrr]; simp
  have hra : ∀ k (hk : k < ss.length), rr[k]? = some [.int ss[k].1, .int ss[k].2.1, .int ss[k].2.2] := fun k hk => by rw [← hrr, List.getElem?_map, List.getElem?_eq_getElem hk]; rfl
  (refine MCT.of Tryz.func121 (by kernel_rfl) rfl (by simp only [Tryz.ntmps121, List.length_cons, List.length_nil, Nat.reduceAdd, Nat.reduceSub, List.replicate_succ, List.replicate_zero, List.cons_append, List.nil_append]; rfl) fun w0 S hM hT => ?_; have hF : Wf Fence.wide := .inl rfl)
  (repeat' (first | ((first | with_reducible refine AL.id_ ?_ | with_reducible refine AE.id_ ?_); first | refine AL.build0 hF rfl rfl rfl (fun b => ⟨_, (by simp only [AV.put]; rfl), ?_⟩) | refine W.s rfl rfl (by first | exact AY.bx rfl (by simp only [evO, AV.get]; rfl) rfl | exact AY.mkFn rfl (by simp only [List.map_cons, List.map_nil, evO, AV.get]; rfl) | exact AY.mkFn1 rfl (by simp only [evO, AV.get]; rfl) (by simp only [List.map_cons, List.map_nil, evO, AV.get]; rfl) | exact hEQ rfl rfl rfl | exact Step2.sound (by first | (((first | (apply Step2.a; constructor) | (apply Step2.b; constructor)) <;> first | infer_instance | skip) <;> (first | infer_instance | (refine w64c ?_; omega) | (refine qym ?_; omega) | (refine quJ ?_; omega) | (refine quK ?_; omega) | (refine qyj ?_; omega) | ((repeat (first | exact .head _ | refine .tail _ ?_)); done) | assumption | (simp only [List.drop_succ_cons, List.drop_zero, List.length_map, Nat.zero_add, Nat.mul_one]; rfl) | rfl | omega | (simp; done))) | fail) rfl | exact AY.call rfl rfl _ rfl (by fail) | exact AY.slice1 rfl rfl rfl (by rfl) (by first | (simp; done) | fail) | exact AY.callF rfl _ _ rfl _ rfl (by fail) | exact AY.old1k 0 rfl rfl rfl (by first | assumption | rfl) | exact AY.old1k 1 rfl rfl rfl (by first | assumption | rfl) | exact AY.old1k 2 rfl rfl rfl (by first | assumption | rfl) | exact AY.oldNk 0 rfl rfl rfl (by first | omega | (simp; omega)) (by first | assumption | rfl) | exact AY.oldNk 1 rfl rfl rfl (by first | omega | (simp; omega)) (by first | assumption | rfl)) (by simp only [AV.put]; rfl) ?_ | (refine AL.nilK (hK _ _ ?_); clear hK K) | (refine AE.nil (hK _ ?_); clear hK K) | refine W.k rfl rfl (by simp only [AV.put]; rfl) ?_ | refine AL.unguardS rfl rfl ?_ | refine AL.al hF rfl rfl rfl (by first | (simp only [Value.cells, List.map_cons, List.map_nil]; rfl) | rfl) (fun b => ⟨_, (by simp only [AV.put]; rfl), ?_⟩) | refine AL.st1 hF rfl rfl rfl rfl (by simp only [evO, AV.get]; rfl) (by first | exact qnl | exact qnm | exact qnn | exact qno | exact qnp | exact qnq | exact qnr | exact qns) (by rfl) rfl (by rfl) (by first | (simp; done) | (simp; omega) | omega) (by simp only [List.set]; rfl) ?_ | refine AL.stW hF rfl rfl rfl rfl (by simp only [evO, AV.get]; rfl) (by first | exact qnl | exact qnm | exact qnn | exact qno | exact qnp | exact qnq | exact qnr | exact qns) (by rfl) (by rfl) (by rfl) (by first | rfl | simp) (by simp only [List.set]; rfl) ?_) | (with_reducible refine Awp.id_ ?_; first | refine Awp.seq ?_ | refine Awp.regionK (by first | (simp only [AV.putO, AV.put]; rfl) | rfl) (fun K hK => ?_) | refine Awp.drawE (by first | (simp only [AV.putO, AV.put]; rfl) | rfl) mixed rfl (by kernel_rfl) (fun K hK => ?_) | refine Awp.block ?_ | refine Awp.skip ?_ | refine Awp.exit ?_ | refine Awp.ret ?_ | refine Awp.condT rfl ?_ | refine Awp.condF rfl ?_) | refine qr2 ?_ | refine qr3 ?_ | refine qr4 ?_ | refine ql8 ?_ | refine ql9 ?_ | refine qma ?_ | refine qmb rfl ?_ | ((first | ((first | with_reducible refine AL.id_ ?_ | with_reducible refine AE.id_ ?_); (fail_if_success refine W.on rfl ?_); refine W.p rfl rfl (by simp only [AV.put]; rfl) (by simp only [AV.put]; rfl) (fun hb => ?_) (fun hb => ?_)) | (with_reducible refine Awp.id_ ?_; refine Awp.cond _ rfl (fun hb => ?_) (fun hb => ?_))) <;> (try simp only [z1, z2, z3, z4, z5, z6, z7, z8, y5, y6, y7, y8, z9, x1, x2, x3, x4, x5, x6, x7, x8] at hb; try (exfalso; omega)))))
  refine Awp.loopM [4, 5, 10, 11, 12, 13, 14, 15, 16, 17, 18, 19, 20, 21, 22, 23, 24, 25, 26, 27, 28, 29, 30] [9] (fun n vs H => ∃ (k : Nat) (X' : Nat → Prop), n + k = ss.length ∧ vs = [.int k] ∧ H = [.nodef, .ghost X' (J (qj9 ss k))]) ss.length ⟨0, X, rfl, rfl, rfl⟩ ?_
  rintro n ju vs H ⟨k, X', hk, rfl, rfl⟩
  (refine Awp.slots (by first | (simp only [putl, mask, AV.put]; rfl) | rfl) ?_)
  by_cases hlt : k < ss.length
  · have hrow := hra k hlt
    have hYk := Lib.hid (hY.out k hlt)
    have hNk := hN.out k hlt
    obtain ⟨hb1, hb2⟩ := hbd _ (List.getElem_mem hlt)
    generalize ss[k].1 = hu at *
    generalize ss[k].2.1 = lo at *
    generalize ss[k].2.2 = hi at *
    (repeat' (first | ((first | with_reducible refine AL.id_ ?_ | with_reducible refine AE.id_ ?_); first | refine AL.build0 hF rfl rfl rfl (fun b => ⟨_, (by simp only [AV.put]; rfl), ?_⟩) | refine W.s rfl rfl (by first | exact AY.bx rfl (by simp only [evO, AV.get]; rfl) rfl | exact AY.mkFn rfl (by simp only [List.map_cons, List.map_nil, evO, AV.get]; rfl) | exact AY.mkFn1 rfl (by simp only [evO, AV.get]; rfl) (by simp only [List.map_cons, List.map_nil, evO, AV.get]; rfl) | exact hEQ rfl rfl rfl | exact Step2.sound (by first | (((first | (apply Step2.a; constructor) | (apply Step2.b; constructor)) <;> first | infer_instance | skip) <;> (first | infer_instance | (refine w64c ?_; omega) | (refine qym ?_; omega) | (refine quJ ?_; omega) | (refine quK ?_; omega) | (refine qyj ?_; omega) | ((repeat (first | exact .head _ | refine .tail _ ?_)); done) | assumption | (simp only [List.drop_succ_cons, List.drop_zero, List.length_map, Nat.zero_add, Nat.mul_one]; rfl) | rfl | omega | (simp; done))) | fail) rfl | exact AY.call rfl rfl _ rfl (by fail) | exact AY.slice1 rfl rfl rfl (by rfl) (by first | (simp; done) | fail) | exact AY.callF rfl _ _ rfl _ rfl (by fail) | exact AY.old1k 0 rfl rfl rfl (by first | assumption | rfl) | exact AY.old1k 1 rfl rfl rfl (by first | assumption | rfl) | exact AY.old1k 2 rfl rfl rfl (by first | assumption | rfl) | exact AY.oldNk 0 rfl rfl rfl (by first | omega | (simp; omega)) (by first | assumption | rfl) | exact AY.oldNk 1 rfl rfl rfl (by first | omega | (simp; omega)) (by first | assumption | rfl)) (by simp only [AV.put]; rfl) ?_ | (refine AL.nilK (hK _ _ ?_); clear hK K) | (refine AE.nil (hK _ ?_); clear hK K) | refine W.k rfl rfl (by simp only [AV.put]; rfl) ?_ | refine AL.unguardS rfl rfl ?_ | refine AL.al hF rfl rfl rfl (by first | (simp only [Value.cells, List.map_cons, List.map_nil]; rfl) | rfl) (fun b => ⟨_, (by simp only [AV.put]; rfl), ?_⟩) | refine AL.st1 hF rfl rfl rfl rfl (by simp only [evO, AV.get]; rfl) (by first | exact qnl | exact qnm | exact qnn | exact qno | exact qnp | exact qnq | exact qnr | exact qns) (by rfl) rfl (by rfl) (by first | (simp; done) | (simp; omega) | omega) (by simp only [List.set]; rfl) ?_ | refine AL.stW hF rfl rfl rfl rfl (by simp only [evO, AV.get]; rfl) (by first | exact qnl | exact qnm | exact qnn | exact qno | exact qnp | exact qnq | exact qnr | exact qns) (by rfl) (by rfl) (by rfl) (by first | rfl | simp) (by simp only [List.set]; rfl) ?_) | (with_reducible refine Awp.id_ ?_; first | refine Awp.seq ?_ | refine Awp.regionK (by first | (simp only [AV.putO, AV.put]; rfl) | rfl) (fun K hK => ?_) | refine Awp.drawE (by first | (simp only [AV.putO, AV.put]; rfl) | rfl) mixed rfl (by kernel_rfl) (fun K hK => ?_) | refine Awp.block ?_ | refine Awp.skip ?_ | refine Awp.exit ?_ | refine Awp.ret ?_ | refine Awp.condT rfl ?_ | refine Awp.condF rfl ?_) | refine qr2 ?_ | refine qr3 ?_ | refine qr4 ?_ | refine ql8 ?_ | refine ql9 ?_ | refine qma ?_ | refine qmb rfl ?_ | ((first | ((first | with_reducible refine AL.id_ ?_ | with_reducible refine AE.id_ ?_); (fail_if_success refine W.on rfl ?_); refine W.p rfl rfl (by simp only [AV.put]; rfl) (by simp only [AV.put]; rfl) (fun hb => ?_) (fun hb => ?_)) | (with_reducible refine Awp.id_ ?_; refine Awp.cond _ rfl (fun hb => ?_) (fun hb => ?_))) <;> (try simp only [z1, z2, z3, z4, z5, z6, z7, z8, y5, y6, y7, y8, z9, x1, x2, x3, x4, x5, x6, x7, x8] at hb; try (exfalso; omega)))))
    refine Awp.loopM [16, 17, 18, 19, 20, 21, 22, 23, 24, 25, 26, 27, 28, 29] [5] (fun n vs H => ∃ (j : Nat) (X3 : Nat → Prop), n + j = (hi + 1 - lo).toNat ∧ vs = [.int (lo + j)] ∧ H = [.blk b 104 [.int hu, .int lo, .int hi], .nodef, .ghost X3 (J (qj9 ss k + j))]) (hi + 1 - lo).toNat ⟨0, X', by omega, by simp; rfl, rfl⟩ ?_
    rintro n1 ju1 vs1 H1 ⟨j, X3, hj, rfl, rfl⟩
    (refine Awp.slots (by first | (simp only [putl, mask, AV.put]; rfl) | rfl) ?_)
    by_cases hlt2 : j < (hi + 1 - lo).toNat
    · have hle : lo + j ≤ hi := by omega
      have hye := hYk.out j hlt2
      (repeat' (first | ((first | with_reducible refine AL.id_ ?_ | with_reducible refine AE.id_ ?_); first | refine AL.build0 hF rfl rfl rfl (fun b => ⟨_, (by simp only [AV.put]; rfl), ?_⟩) | refine W.s rfl rfl (by first | exact AY.bx rfl (by simp only [evO, AV.get]; rfl) rfl | exact AY.mkFn rfl (by simp only [List.map_cons, List.map_nil, evO, AV.get]; rfl) | exact AY.mkFn1 rfl (by simp only [evO, AV.get]; rfl) (by simp only [List.map_cons, List.map_nil, evO, AV.get]; rfl) | exact AY.build rfl (by simp only [List.map_cons, List.map_nil, evO, AV.get]; rfl) (by simp only [List.map_cons, List.map_nil]; repeat (first | exact Places.nil | apply Places.cons)) (by first | (simp only [zip3, qdi, qeR, qbP, qq, qhk, List.map_cons, List.map_nil, List.length_cons, List.length_nil, List.take_succ_cons, List.take_zero, List.drop_succ_cons, List.drop_zero, List.replicate_succ, List.replicate_zero, List.cons_append, List.nil_append, List.append_nil, List.drop_nil, List.take_nil, List.toList_toArray, Nat.sub_zero, Nat.reduceSub, Nat.reduceAdd, Nat.reduceMul, Nat.zero_mul, Nat.one_mul, Nat.mul_one, Nat.zero_add, Nat.le_refl, Nat.reduceLeDiff, and_self, true_and, and_true, if_true]; rfl) | rfl) | exact AY.buildS rfl (by simp only [List.map_cons, List.map_nil, evO, AV.get]; rfl) (by first | rfl | decide) (by omega) (by first | (simp only [zip3, qdi, qeR, qbP, qq, qhk, List.map_cons, List.map_nil, List.length_cons, List.length_nil, List.take_succ_cons, List.take_zero, List.drop_succ_cons, List.drop_zero, List.replicate_succ, List.replicate_zero, List.cons_append, List.nil_append, List.append_nil, List.drop_nil, List.take_nil, List.toList_toArray, Nat.sub_zero, Nat.reduceSub, Nat.reduceAdd, Nat.reduceMul, Nat.zero_mul, Nat.one_mul, Nat.mul_one, Nat.zero_add, Nat.le_refl, Nat.reduceLeDiff, and_self, true_and, and_true, if_true]; rfl) | rfl) (by first | (simp only [zip3, qdi, qeR, qbP, qq, qhk, List.map_cons, List.map_nil, List.length_cons, List.length_nil, List.take_succ_cons, List.take_zero, List.drop_succ_cons, List.drop_zero, List.replicate_succ, List.replicate_zero, List.cons_append, List.nil_append, List.append_nil, List.drop_nil, List.take_nil, List.toList_toArray, Nat.sub_zero, Nat.reduceSub, Nat.reduceAdd, Nat.reduceMul, Nat.zero_mul, Nat.one_mul, Nat.mul_one, Nat.zero_add, Nat.le_refl, Nat.reduceLeDiff, and_self, true_and, and_true, if_true]; rfl) | rfl) | exact hEQ rfl rfl rfl | exact Step2.sound (by first | (((first | (apply Step2.a; constructor) | (apply Step2.b; constructor)) <;> first | infer_instance | skip) <;> (first | infer_instance | (refine w64c ?_; omega) | (refine qym ?_; omega) | (refine quJ ?_; omega) | (refine quK ?_; omega) | (refine qyj ?_; omega) | ((repeat (first | exact .head _ | refine .tail _ ?_)); done) | assumption | (simp only [List.drop_succ_cons, List.drop_zero, List.length_map, Nat.zero_add, Nat.mul_one]; rfl) | rfl | omega | (simp; done))) | fail) rfl | exact AY.call rfl rfl _ rfl (by fail) | exact AY.slice1 rfl rfl rfl (by rfl) (by first | (simp; done) | fail) | exact AY.callF rfl _ _ rfl _ rfl (by fail) | exact AY.old1k 0 rfl rfl rfl (by first | assumption | rfl) | exact AY.old1k 1 rfl rfl rfl (by first | assumption | rfl) | exact AY.old1k 2 rfl rfl rfl (by first | assumption | rfl) | exact AY.oldNk 0 rfl rfl rfl (by first | omega | (simp; omega)) (by first | assumption | rfl) | exact AY.oldNk 1 rfl rfl rfl (by first | omega | (simp; omega)) (by first | assumption | rfl)) (by simp only [AV.put]; rfl) ?_ | (refine AL.nilK (hK _ _ ?_); clear hK K) | (refine AE.nil (hK _ ?_); clear hK K) | refine W.k rfl rfl (by simp only [AV.put]; rfl) ?_ | refine AL.unguardS rfl rfl ?_ | refine AL.al hF rfl rfl rfl (by first | (simp only [Value.cells, List.map_cons, List.map_nil]; rfl) | rfl) (fun b => ⟨_, (by simp only [AV.put]; rfl), ?_⟩) | refine AL.st1 hF rfl rfl rfl rfl (by simp only [evO, AV.get]; rfl) (by first | exact qnl | exact qnm | exact qnn | exact qno | exact qnp | exact qnq | exact qnr | exact qns) (by rfl) rfl (by rfl) (by first | (simp; done) | (simp; omega) | omega) (by simp only [List.set]; rfl) ?_ | refine AL.stW hF rfl rfl rfl rfl (by simp only [evO, AV.get]; rfl) (by first | exact qnl | exact qnm | exact qnn | exact qno | exact qnp | exact qnq | exact qnr | exact qns) (by rfl) (by rfl) (by rfl) (by first | rfl | simp) (by simp only [List.set]; rfl) ?_) | (with_reducible refine Awp.id_ ?_; first | refine Awp.seq ?_ | refine Awp.regionK (by first | (simp only [AV.putO, AV.put]; rfl) | rfl) (fun K hK => ?_) | refine Awp.drawE (by first | (simp only [AV.putO, AV.put]; rfl) | rfl) mixed rfl (by kernel_rfl) (fun K hK => ?_) | refine Awp.block ?_ | refine Awp.skip ?_ | refine Awp.exit ?_ | refine Awp.ret ?_ | refine Awp.condT rfl ?_ | refine Awp.condF rfl ?_) | refine qr2 ?_ | refine qr3 ?_ | refine qr4 ?_ | refine ql8 ?_ | refine ql9 ?_ | refine qma ?_ | refine qmb rfl ?_ | ((first | ((first | with_reducible refine AL.id_ ?_ | with_reducible refine AE.id_ ?_); (fail_if_success refine W.on rfl ?_); refine W.p rfl rfl (by simp only [AV.put]; rfl) (by simp only [AV.put]; rfl) (fun hb => ?_) (fun hb => ?_)) | (with_reducible refine Awp.id_ ?_; refine Awp.cond _ rfl (fun hb => ?_) (fun hb => ?_))) <;> (try simp only [z1, z2, z3, z4, z5, z6, z7, z8, y5, y6, y7, y8, z9, x1, x2, x3, x4, x5, x6, x7, x8] at hb; try (exfalso; omega)))))
      have hgho : ∀ i e, ([HE.blk b 104 [.int hu, .int lo, .int hi], .nodef, .ghost X3 (J (qj9 ss k + j))])[i]? = some e → e.isGhost → i = 2 := fun i e h1 h2 => by
        match i, h1 with
        | 0, h1 => cases h1; exact h2.elim
        | 1, h1 => cases h1; exact h2.elim
        | 2, _ => rfl
      refine AL.yield 2 rfl rfl rfl rfl _ rfl rfl hgho (by simp) (fun b hA => hT b fun h => (hA.1 h).1) hye (hcJ _) hcx (fun X4 => ?_) (fun X4 => ?_)
      · refine AL.norm (by simp only [AV.put]; rfl) rfl ?_
        (repeat' (first | ((first | with_reducible refine AL.id_ ?_ | with_reducible refine AE.id_ ?_); first | refine AL.build0 hF rfl rfl rfl (fun b => ⟨_, (by simp only [AV.put]; rfl), ?_⟩) | refine W.s rfl rfl (by first | exact AY.bx rfl (by simp only [evO, AV.get]; rfl) rfl | exact AY.mkFn rfl (by simp only [List.map_cons, List.map_nil, evO, AV.get]; rfl) | exact AY.mkFn1 rfl (by simp only [evO, AV.get]; rfl) (by simp only [List.map_cons, List.map_nil, evO, AV.get]; rfl) | exact AY.build rfl (by simp only [List.map_cons, List.map_nil, evO, AV.get]; rfl) (by simp only [List.map_cons, List.map_nil]; repeat (first | exact Places.nil | apply Places.cons)) (by first | (simp only [zip3, qdi, qeR, qbP, qq, qhk, List.map_cons, List.map_nil, List.length_cons, List.length_nil, List.take_succ_cons, List.take_zero, List.drop_succ_cons, List.drop_zero, List.replicate_succ, List.replicate_zero, List.cons_append, List.nil_append, List.append_nil, List.drop_nil, List.take_nil, List.toList_toArray, Nat.sub_zero, Nat.reduceSub, Nat.reduceAdd, Nat.reduceMul, Nat.zero_mul, Nat.one_mul, Nat.mul_one, Nat.zero_add, Nat.le_refl, Nat.reduceLeDiff, and_self, true_and, and_true, if_true]; rfl) | rfl) | exact AY.buildS rfl (by simp only [List.map_cons, List.map_nil, evO, AV.get]; rfl) (by first | rfl | decide) (by omega) (by first | (simp only [zip3, qdi, qeR, qbP, qq, qhk, List.map_cons, List.map_nil, List.length_cons, List.length_nil, List.take_succ_cons, List.take_zero, List.drop_succ_cons, List.drop_zero, List.replicate_succ, List.replicate_zero, List.cons_append, List.nil_append, List.append_nil, List.drop_nil, List.take_nil, List.toList_toArray, Nat.sub_zero, Nat.reduceSub, Nat.reduceAdd, Nat.reduceMul, Nat.zero_mul, Nat.one_mul, Nat.mul_one, Nat.zero_add, Nat.le_refl, Nat.reduceLeDiff, and_self, true_and, and_true, if_true]; rfl) | rfl) (by first | (simp only [zip3, qdi, qeR, qbP, qq, qhk, List.map_cons, List.map_nil, List.length_cons, List.length_nil, List.take_succ_cons, List.take_zero, List.drop_succ_cons, List.drop_zero, List.replicate_succ, List.replicate_zero, List.cons_append, List.nil_append, List.append_nil, List.drop_nil, List.take_nil, List.toList_toArray, Nat.sub_zero, Nat.reduceSub, Nat.reduceAdd, Nat.reduceMul, Nat.zero_mul, Nat.one_mul, Nat.mul_one, Nat.zero_add, Nat.le_refl, Nat.reduceLeDiff, and_self, true_and, and_true, if_true]; rfl) | rfl) | exact hEQ rfl rfl rfl | exact Step2.sound (by first | (((first | (apply Step2.a; constructor) | (apply Step2.b; constructor)) <;> first | infer_instance | skip) <;> (first | infer_instance | (refine w64c ?_; omega) | (refine qym ?_; omega) | (refine quJ ?_; omega) | (refine quK ?_; omega) | (refine qyj ?_; omega) | ((repeat (first | exact .head _ | refine .tail _ ?_)); done) | assumption | (simp only [List.drop_succ_cons, List.drop_zero, List.length_map, Nat.zero_add, Nat.mul_one]; rfl) | rfl | omega | (simp; done))) | fail) rfl | exact AY.call rfl rfl _ rfl (by fail) | exact AY.slice1 rfl rfl rfl (by rfl) (by first | (simp; done) | fail) | exact AY.callF rfl _ _ rfl _ rfl (by fail) | exact AY.old1k 0 rfl rfl rfl (by first | assumption | rfl) | exact AY.old1k 1 rfl rfl rfl (by first | assumption | rfl) | exact AY.old1k 2 rfl rfl rfl (by first | assumption | rfl) | exact AY.oldNk 0 rfl rfl rfl (by first | omega | (simp; omega)) (by first | assumption | rfl) | exact AY.oldNk 1 rfl rfl rfl (by first | omega | (simp; omega)) (by first | assumption | rfl)) (by simp only [AV.put]; rfl) ?_ | (refine AL.nilK (hK _ _ ?_); clear hK K) | (refine AE.nil (hK _ ?_); clear hK K) | refine W.k rfl rfl (by simp only [AV.put]; rfl) ?_ | refine AL.unguardS rfl rfl ?_ | refine AL.al hF rfl rfl rfl (by first | (simp only [Value.cells, List.map_cons, List.map_nil]; rfl) | rfl) (fun b => ⟨_, (by simp only [AV.put]; rfl), ?_⟩) | refine AL.st1 hF rfl rfl rfl rfl (by simp only [evO, AV.get]; rfl) (by first | exact qnl | exact qnm | exact qnn | exact qno | exact qnp | exact qnq | exact qnr | exact qns) (by rfl) rfl (by rfl) (by first | (simp; done) | (simp; omega) | omega) (by simp only [List.set]; rfl) ?_ | refine AL.stW hF rfl rfl rfl rfl (by simp only [evO, AV.get]; rfl) (by first | exact qnl | exact qnm | exact qnn | exact qno | exact qnp | exact qnq | exact qnr | exact qns) (by rfl) (by rfl) (by rfl) (by first | rfl | simp) (by simp only [List.set]; rfl) ?_) | (with_reducible refine Awp.id_ ?_; first | refine Awp.seq ?_ | refine Awp.regionK (by first | (simp only [AV.putO, AV.put]; rfl) | rfl) (fun K hK => ?_) | refine Awp.drawE (by first | (simp only [AV.putO, AV.put]; rfl) | rfl) mixed rfl (by kernel_rfl) (fun K hK => ?_) | refine Awp.block ?_ | refine Awp.skip ?_ | refine Awp.exit ?_ | refine Awp.ret ?_ | refine Awp.condT rfl ?_ | refine Awp.condF rfl ?_) | refine qr2 ?_ | refine qr3 ?_ | refine qr4 ?_ | refine ql8 ?_ | refine ql9 ?_ | refine qma ?_ | refine qmb rfl ?_ | ((first | ((first | with_reducible refine AL.id_ ?_ | with_reducible refine AE.id_ ?_); (fail_if_success refine W.on rfl ?_); refine W.p rfl rfl (by simp only [AV.put]; rfl) (by simp only [AV.put]; rfl) (fun hb => ?_) (fun hb => ?_)) | (with_reducible refine Awp.id_ ?_; refine Awp.cond _ rfl (fun hb => ?_) (fun hb => ?_))) <;> (try simp only [z1, z2, z3, z4, z5, z6, z7, z8, y5, y6, y7, y8, z9, x1, x2, x3, x4, x5, x6, x7, x8] at hb; try (exfalso; omega)))))
        (refine qKP (n1 - 1) (by first | (simp only [AV.putO, AV.put]; rfl) | rfl) (by omega) ?_ (by simp only [List.map, AV.get, mask, putl, AV.put]))
        exact ⟨j + 1, X4, by omega, qKJ (by omega), rfl⟩
      · refine AL.norm (by simp only [AV.put]; rfl) rfl ?_
        (repeat' (first | ((first | with_reducible refine AL.id_ ?_ | with_reducible refine AE.id_ ?_); first | refine AL.build0 hF rfl rfl rfl (fun b => ⟨_, (by simp only [AV.put]; rfl), ?_⟩) | refine W.s rfl rfl (by first | exact AY.bx rfl (by simp only [evO, AV.get]; rfl) rfl | exact AY.mkFn rfl (by simp only [List.map_cons, List.map_nil, evO, AV.get]; rfl) | exact AY.mkFn1 rfl (by simp only [evO, AV.get]; rfl) (by simp only [List.map_cons, List.map_nil, evO, AV.get]; rfl) | exact AY.build rfl (by simp only [List.map_cons, List.map_nil, evO, AV.get]; rfl) (by simp only [List.map_cons, List.map_nil]; repeat (first | exact Places.nil | apply Places.cons)) (by first | (simp only [zip3, qdi, qeR, qbP, qq, qhk, List.map_cons, List.map_nil, List.length_cons, List.length_nil, List.take_succ_cons, List.take_zero, List.drop_succ_cons, List.drop_zero, List.replicate_succ, List.replicate_zero, List.cons_append, List.nil_append, List.append_nil, List.drop_nil, List.take_nil, List.toList_toArray, Nat.sub_zero, Nat.reduceSub, Nat.reduceAdd, Nat.reduceMul, Nat.zero_mul, Nat.one_mul, Nat.mul_one, Nat.zero_add, Nat.le_refl, Nat.reduceLeDiff, and_self, true_and, and_true, if_true]; rfl) | rfl) | exact AY.buildS rfl (by simp only [List.map_cons, List.map_nil, evO, AV.get]; rfl) (by first | rfl | decide) (by omega) (by first | (simp only [zip3, qdi, qeR, qbP, qq, qhk, List.map_cons, List.map_nil, List.length_cons, List.length_nil, List.take_succ_cons, List.take_zero, List.drop_succ_cons, List.drop_zero, List.replicate_succ, List.replicate_zero, List.cons_append, List.nil_append, List.append_nil, List.drop_nil, List.take_nil, List.toList_toArray, Nat.sub_zero, Nat.reduceSub, Nat.reduceAdd, Nat.reduceMul, Nat.zero_mul, Nat.one_mul, Nat.mul_one, Nat.zero_add, Nat.le_refl, Nat.reduceLeDiff, and_self, true_and, and_true, if_true]; rfl) | rfl) (by first | (simp only [zip3, qdi, qeR, qbP, qq, qhk, List.map_cons, List.map_nil, List.length_cons, List.length_nil, List.take_succ_cons, List.take_zero, List.drop_succ_cons, List.drop_zero, List.replicate_succ, List.replicate_zero, List.cons_append, List.nil_append, List.append_nil, List.drop_nil, List.take_nil, List.toList_toArray, Nat.sub_zero, Nat.reduceSub, Nat.reduceAdd, Nat.reduceMul, Nat.zero_mul, Nat.one_mul, Nat.mul_one, Nat.zero_add, Nat.le_refl, Nat.reduceLeDiff, and_self, true_and, and_true, if_true]; rfl) | rfl) | exact hEQ rfl rfl rfl | exact Step2.sound (by first | (((first | (apply Step2.a; constructor) | (apply Step2.b; constructor)) <;> first | infer_instance | skip) <;> (first | infer_instance | (refine w64c ?_; omega) | (refine qym ?_; omega) | (refine quJ ?_; omega) | (refine quK ?_; omega) | (refine qyj ?_; omega) | ((repeat (first | exact .head _ | refine .tail _ ?_)); done) | assumption | (simp only [List.drop_succ_cons, List.drop_zero, List.length_map, Nat.zero_add, Nat.mul_one]; rfl) | rfl | omega | (simp; done))) | fail) rfl | exact AY.call rfl rfl _ rfl (by fail) | exact AY.slice1 rfl rfl rfl (by rfl) (by first | (simp; done) | fail) | exact AY.callF rfl _ _ rfl _ rfl (by fail) | exact AY.old1k 0 rfl rfl rfl (by first | assumption | rfl) | exact AY.old1k 1 rfl rfl rfl (by first | assumption | rfl) | exact AY.old1k 2 rfl rfl rfl (by first | assumption | rfl) | exact AY.oldNk 0 rfl rfl rfl (by first | omega | (simp; omega)) (by first | assumption | rfl) | exact AY.oldNk 1 rfl rfl rfl (by first | omega | (simp; omega)) (by first | assumption | rfl)) (by simp only [AV.put]; rfl) ?_ | (refine AL.nilK (hK _ _ ?_); clear hK K) | (refine AE.nil (hK _ ?_); clear hK K) | refine W.k rfl rfl (by simp only [AV.put]; rfl) ?_ | refine AL.unguardS rfl rfl ?_ | refine AL.al hF rfl rfl rfl (by first | (simp only [Value.cells, List.map_cons, List.map_nil]; rfl) | rfl) (fun b => ⟨_, (by simp only [AV.put]; rfl), ?_⟩) | refine AL.st1 hF rfl rfl rfl rfl (by simp only [evO, AV.get]; rfl) (by first | exact qnl | exact qnm | exact qnn | exact qno | exact qnp | exact qnq | exact qnr | exact qns) (by rfl) rfl (by rfl) (by first | (simp; done) | (simp; omega) | omega) (by simp only [List.set]; rfl) ?_ | refine AL.stW hF rfl rfl rfl rfl (by simp only [evO, AV.get]; rfl) (by first | exact qnl | exact qnm | exact qnn | exact qno | exact qnp | exact qnq | exact qnr | exact qns) (by rfl) (by rfl) (by rfl) (by first | rfl | simp) (by simp only [List.set]; rfl) ?_) | (with_reducible refine Awp.id_ ?_; first | refine Awp.seq ?_ | refine Awp.regionK (by first | (simp only [AV.putO, AV.put]; rfl) | rfl) (fun K hK => ?_) | refine Awp.drawE (by first | (simp only [AV.putO, AV.put]; rfl) | rfl) mixed rfl (by kernel_rfl) (fun K hK => ?_) | refine Awp.block ?_ | refine Awp.skip ?_ | refine Awp.exit ?_ | refine Awp.ret ?_ | refine Awp.condT rfl ?_ | refine Awp.condF rfl ?_) | refine qr2 ?_ | refine qr3 ?_ | refine qr4 ?_ | refine ql8 ?_ | refine ql9 ?_ | refine qma ?_ | refine qmb rfl ?_ | ((first | ((first | with_reducible refine AL.id_ ?_ | with_reducible refine AE.id_ ?_); (fail_if_success refine W.on rfl ?_); refine W.p rfl rfl (by simp only [AV.put]; rfl) (by simp only [AV.put]; rfl) (fun hb => ?_) (fun hb => ?_)) | (with_reducible refine Awp.id_ ?_; refine Awp.cond _ rfl (fun hb => ?_) (fun hb => ?_))) <;> (try simp only [z1, z2, z3, z4, z5, z6, z7, z8, y5, y6, y7, y8, z9, x1, x2, x3, x4, x5, x6, x7, x8] at hb; try (exfalso; omega)))))
        exact qH9 rfl ⟨X4, .inr (List.mem_of_getElem? (i := 2) rfl)⟩
    · have hle : ¬ (lo + j ≤ hi) := by omega
      (repeat' (first | ((first | with_reducible refine AL.id_ ?_ | with_reducible refine AE.id_ ?_); first | refine AL.build0 hF rfl rfl rfl (fun b => ⟨_, (by simp only [AV.put]; rfl), ?_⟩) | refine W.s rfl rfl (by first | exact AY.bx rfl (by simp only [evO, AV.get]; rfl) rfl | exact AY.mkFn rfl (by simp only [List.map_cons, List.map_nil, evO, AV.get]; rfl) | exact AY.mkFn1 rfl (by simp only [evO, AV.get]; rfl) (by simp only [List.map_cons, List.map_nil, evO, AV.get]; rfl) | exact hEQ rfl rfl rfl | exact Step2.sound (by first | (((first | (apply Step2.a; constructor) | (apply Step2.b; constructor)) <;> first | infer_instance | skip) <;> (first | infer_instance | (refine w64c ?_; omega) | (refine qym ?_; omega) | (refine quJ ?_; omega) | (refine quK ?_; omega) | (refine qyj ?_; omega) | ((repeat (first | exact .head _ | refine .tail _ ?_)); done) | assumption | (simp only [List.drop_succ_cons, List.drop_zero, List.length_map, Nat.zero_add, Nat.mul_one]; rfl) | rfl | omega | (simp; done))) | fail) rfl | exact AY.call rfl rfl _ rfl (by fail) | exact AY.slice1 rfl rfl rfl (by rfl) (by first | (simp; done) | fail) | exact AY.callF rfl _ _ rfl _ rfl (by fail) | exact AY.old1k 0 rfl rfl rfl (by first | assumption | rfl) | exact AY.old1k 1 rfl rfl rfl (by first | assumption | rfl) | exact AY.old1k 2 rfl rfl rfl (by first | assumption | rfl) | exact AY.oldNk 0 rfl rfl rfl (by first | omega | (simp; omega)) (by first | assumption | rfl) | exact AY.oldNk 1 rfl rfl rfl (by first | omega | (simp; omega)) (by first | assumption | rfl)) (by simp only [AV.put]; rfl) ?_ | (refine AL.nilK (hK _ _ ?_); clear hK K) | (refine AE.nil (hK _ ?_); clear hK K) | refine W.k rfl rfl (by simp only [AV.put]; rfl) ?_ | refine AL.unguardS rfl rfl ?_ | refine AL.al hF rfl rfl rfl (by first | (simp only [Value.cells, List.map_cons, List.map_nil]; rfl) | rfl) (fun b => ⟨_, (by simp only [AV.put]; rfl), ?_⟩) | refine AL.st1 hF rfl rfl rfl rfl (by simp only [evO, AV.get]; rfl) (by first | exact qnl | exact qnm | exact qnn | exact qno | exact qnp | exact qnq | exact qnr | exact qns) (by rfl) rfl (by rfl) (by first | (simp; done) | (simp; omega) | omega) (by simp only [List.set]; rfl) ?_ | refine AL.stW hF rfl rfl rfl rfl (by simp only [evO, AV.get]; rfl) (by first | exact qnl | exact qnm | exact qnn | exact qno | exact qnp | exact qnq | exact qnr | exact qns) (by rfl) (by rfl) (by rfl) (by first | rfl | simp) (by simp only [List.set]; rfl) ?_) | (with_reducible refine Awp.id_ ?_; first | refine Awp.seq ?_ | refine Awp.regionK (by first | (simp only [AV.putO, AV.put]; rfl) | rfl) (fun K hK => ?_) | refine Awp.drawE (by first | (simp only [AV.putO, AV.put]; rfl) | rfl) mixed rfl (by kernel_rfl) (fun K hK => ?_) | refine Awp.block ?_ | refine Awp.skip ?_ | refine Awp.exit ?_ | refine Awp.ret ?_ | refine Awp.condT rfl ?_ | refine Awp.condF rfl ?_) | refine qr2 ?_ | refine qr3 ?_ | refine qr4 ?_ | refine ql8 ?_ | refine ql9 ?_ | refine qma ?_ | refine qmb rfl ?_ | ((first | ((first | with_reducible refine AL.id_ ?_ | with_reducible refine AE.id_ ?_); (fail_if_success refine W.on rfl ?_); refine W.p rfl rfl (by simp only [AV.put]; rfl) (by simp only [AV.put]; rfl) (fun hb => ?_) (fun hb => ?_)) | (with_reducible refine Awp.id_ ?_; refine Awp.cond _ rfl (fun hb => ?_) (fun hb => ?_))) <;> (try simp only [z1, z2, z3, z4, z5, z6, z7, z8, y5, y6, y7, y8, z9, x1, x2, x3, x4, x5, x6, x7, x8] at hb; try (exfalso; omega)))))
      (refine qJd (n - 1) (List.sublist_cons_self _ _) (by first | (simp only [AV.putO, AV.put]; rfl) | rfl) (by omega) ?_ (by simp only [List.map, AV.get, mask, putl, AV.put]))
      exact ⟨k + 1, X3, by omega, qKJ (by omega), by rw [hNk, show (hi + 1 - lo).toNat = j by omega]⟩
  · (repeat' (first | ((first | with_reducible refine AL.id_ ?_ | with_reducible refine AE.id_ ?_); first | refine AL.build0 hF rfl rfl rfl (fun b => ⟨_, (by simp only [AV.put]; rfl), ?_⟩) | refine W.s rfl rfl (by first | exact AY.bx rfl (by simp only [evO, AV.get]; rfl) rfl | exact AY.mkFn rfl (by simp only [List.map_cons, List.map_nil, evO, AV.get]; rfl) | exact AY.mkFn1 rfl (by simp only [evO, AV.get]; rfl) (by simp only [List.map_cons, List.map_nil, evO, AV.get]; rfl) | exact hEQ rfl rfl rfl | exact Step2.sound (by first | (((first | (apply Step2.a; constructor) | (apply Step2.b; constructor)) <;> first | infer_instance | skip) <;> (first | infer_instance | (refine w64c ?_; omega) | (refine qym ?_; omega) | (refine quJ ?_; omega) | (refine quK ?_; omega) | (refine qyj ?_; omega) | ((repeat (first | exact .head _ | refine .tail _ ?_)); done) | assumption | (simp only [List.drop_succ_cons, List.drop_zero, List.length_map, Nat.zero_add, Nat.mul_one]; rfl) | rfl | omega | (simp; done))) | fail) rfl | exact AY.call rfl rfl _ rfl (by fail) | exact AY.slice1 rfl rfl rfl (by rfl) (by first | (simp; done) | fail) | exact AY.callF rfl _ _ rfl _ rfl (by fail) | exact AY.old1k 0 rfl rfl rfl (by first | assumption | rfl) | exact AY.old1k 1 rfl rfl rfl (by first | assumption | rfl) | exact AY.old1k 2 rfl rfl rfl (by first | assumption | rfl) | exact AY.oldNk 0 rfl rfl rfl (by first | omega | (simp; omega)) (by first | assumption | rfl) | exact AY.oldNk 1 rfl rfl rfl (by first | omega | (simp; omega)) (by first | assumption | rfl)) (by simp only [AV.put]; rfl) ?_ | (refine AL.nilK (hK _ _ ?_); clear hK K) | (refine AE.nil (hK _ ?_); clear hK K) | refine W.k rfl rfl (by simp only [AV.put]; rfl) ?_ | refine AL.unguardS rfl rfl ?_ | refine AL.al hF rfl rfl rfl (by first | (simp only [Value.cells, List.map_cons, List.map_nil]; rfl) | rfl) (fun b => ⟨_, (by simp only [AV.put]; rfl), ?_⟩) | refine AL.st1 hF rfl rfl rfl rfl (by simp only [evO, AV.get]; rfl) (by first | exact qnl | exact qnm | exact qnn | exact qno | exact qnp | exact qnq | exact qnr | exact qns) (by rfl) rfl (by rfl) (by first | (simp; done) | (simp; omega) | omega) (by simp only [List.set]; rfl) ?_ | refine AL.stW hF rfl rfl rfl rfl (by simp only [evO, AV.get]; rfl) (by first | exact qnl | exact qnm | exact qnn | exact qno | exact qnp | exact qnq | exact qnr | exact qns) (by rfl) (by rfl) (by rfl) (by first | rfl | simp) (by simp only [List.set]; rfl) ?_) | (with_reducible refine Awp.id_ ?_; first | refine Awp.seq ?_ | refine Awp.regionK (by first | (simp only [AV.putO, AV.put]; rfl) | rfl) (fun K hK => ?_) | refine Awp.drawE (by first | (simp only [AV.putO, AV.put]; rfl) | rfl) mixed rfl (by kernel_rfl) (fun K hK => ?_) | refine Awp.block ?_ | refine Awp.skip ?_ | refine Awp.exit ?_ | refine Awp.ret ?_ | refine Awp.condT rfl ?_ | refine Awp.condF rfl ?_) | refine qr2 ?_ | refine qr3 ?_ | refine qr4 ?_ | refine ql8 ?_ | refine ql9 ?_ | refine qma ?_ | refine qmb rfl ?_ | ((first | ((first | with_reducible refine AL.id_ ?_ | with_reducible refine AE.id_ ?_); (fail_if_success refine W.on rfl ?_); refine W.p rfl rfl (by simp only [AV.put]; rfl) (by simp only [AV.put]; rfl) (fun hb => ?_) (fun hb => ?_)) | (with_reducible refine Awp.id_ ?_; refine Awp.cond _ rfl (fun hb => ?_) (fun hb => ?_))) <;> (try simp only [z1, z2, z3, z4, z5, z6, z7, z8, y5, y6, y7, y8, z9, x1, x2, x3, x4, x5, x6, x7, x8] at hb; try (exfalso; omega)))))
    exact qJf rfl ⟨X', .inl (by rw [show ss.length = k by omega]; exact List.mem_of_getElem? (i := 1) rfl)⟩
def qEB : Itr Tryz.prog := ⟨121, [T59], [T82], fun x => qvw x.1.2.2.2.2, fun x l h => qJ1 x l h⟩
end Go.Proofs.YtcjgodgpaokbnaaGreat

/- Printed: what functions of the program compute. -/
namespace Go.Proofs.YtcjgodgpaokbnaaGreat
set_option linter.constructorNameAsVariable false
set_option linter.unusedSimpArgs false
set_option linter.unusedVariables false
set_option linter.unusedSectionVars false
open Go Go.Proofs Go.RowKit
set_option maxRecDepth 20000
noncomputable def qzA (n : Nat) : CL Tryz.prog := ⟨[], [], 0⟩
noncomputable def qzB (n : Nat) : Nat → St → PT (DEx × St) := fun _ _ => .fail
theorem qFW : qd (qa Tryz.f98) 0 = [] := by kernel_rfl
theorem qFX : Tryz.f98.body = some (qa Tryz.f98) := by kernel_rfl
abbrev qvx : List Ar := [.d T59]
abbrev qri : List Ty := [T59]
noncomputable def qAE (n : Nat) (x : qp qvx) : Option (qi qri) := (qk tab (qzA n) (qzB n) (qa Tryz.f98) 0 (qu qvx 4 x)).run (qKI 2 121 qri)
noncomputable def qAF (n : Nat) : Ct Tryz.prog := ⟨98, qvx, .fb 121 qri, qAE n, fun _ _ h => qLy (B := tab) (cs := qzA n) (lo := qzB n) (i := 2) (g := 121) (caps := qri) Tryz.func98 (by kernel_rfl) qFX (by kernel_rfl) (qh qFW qe) h⟩
noncomputable def qqz (n : Nat) : CL Tryz.prog := ⟨[], [], 0⟩
noncomputable def qqA (n : Nat) : Nat → St → PT (DEx × St) := fun _ _ => .fail
theorem qy5 : qd (qa Tryz.f49) 0 = [] := by kernel_rfl
theorem qy6 : Tryz.f49.body = some (qa Tryz.f49) := by kernel_rfl
abbrev qlG : List It := [.v (.t 1) T82, .obj (.t 0) true 76 5, .v (.c 0 0) T66, .row (.c 0 2) true T59 59, .row (.c 0 3) true T59 59, .mpi (.c 0 4) true T82 T3]
abbrev qky : List (List It) := [[.v (.t 0) T3, .obj (.t 1) true 76 5, .v (.c 0 0) T66, .row (.c 0 2) true T59 59, .row (.c 0 3) true T59 59, .mpi (.c 0 4) true T82 T3]]
noncomputable def qrj (n : Nat) (x : qc qlG) : Option (qD qky) := runW tab (qqz n) (qqA n) (qa Tryz.f49) qlG 2 23 [.tmp 4] qky x
noncomputable def qrk (n : Nat) : Cw Tryz.prog := ⟨49, 2, qlG, 1, qky, qrj n, fun _ _ h => qbY (B := tab) (cs := qqz n) (lo := qqA n) (rs := [.tmp 4]) Tryz.func49 (by kernel_rfl) qy6 (by kernel_rfl) (by decide) (qh qy5 qe) h⟩
noncomputable def qhf (n : Nat) : CL Tryz.prog := ⟨[qAF n], [qrk n], 0⟩
noncomputable def qoY (n : Nat) : Nat → St → PT (DEx × St) := fun _ _ => .fail
abbrev qci : List It := [.obj (.t 0) true 76 5, .v (.c 0 0) T66, .row (.c 0 2) true T59 59, .row (.c 0 3) true T59 59, .mpi (.c 0 4) true T82 T3, .obj (.t 2) false 70 1, .pal (.c 4 0) 0 0, .obj (.t 3) false 59 5, .v (.c 5 0) T59, .obj (.t 4) false 82 2, .v (.c 6 0) T82, .obj (.t 5) false 3 1, .v (.c 7 0) T3]
abbrev qhg : List (DEx × List It) := [(.ret, [.obj (.t 0) true 76 5, .v (.c 0 0) T66, .row (.c 0 2) true T59 59, .row (.c 0 3) true T59 59, .mpi (.c 0 4) true T82 T3, .obj (.t 4) false 82 2, .v (.c 4 0) T82, .obj (.t 5) false 3 1, .v (.c 5 0) T3])]
abbrev qpG : List Ty := [T82]
noncomputable def qpH (n : Nat) (rec : qc qci → Option (qc qci ⊕ qg qhg)) (s : qc qci) (y : qi qpG) : Option (qc qci ⊕ qg qhg) := (qCW tab (qhf n) (qoY n) [10] (subC [true, false, true, false, false] (qa Tryz.f61)) (subC [true, false, true, false, true] (qa Tryz.f61)) 1 (mkS qci 22 s) (tysD qpG y)).run (qE2 22 qci qhg (mkS qci 22 s) rec)
noncomputable def qkz (n : Nat) : Rg Tryz.prog := ⟨.tmp 9, 22, qci, qEB, qhg, rgF (qpH n)⟩
theorem qv3 : qd (subC [true, false, true, false, false] (qa Tryz.f61)) 1 = [] := by kernel_rfl
theorem qxa : qd (subC [true, false, true, false, true] (qa Tryz.f61)) (1 + qic (subC [true, false, true, false, false] (qa Tryz.f61))) = [] := by kernel_rfl
theorem qur (n : Nat) (st : St) (r : DEx × St) (h : ((qkz n).go st).Is r) : DA Tryz.prog false (.rangeFunc (.tmp 9) ([10] : List Tmp).toArray (subC [true, false, true, false, false] (qa Tryz.f61)) (subC [true, false, true, false, true] (qa Tryz.f61))) st r := Rg.ok (L := qkz n) (B := tab) (cs := qhf n) (lo := qoY n) (id := 0) rfl rfl (qh qv3 qe) (qh qxa qe) (fun _ _ _ => rfl) h
noncomputable def qpI (n : Nat) : Nat → St → PT (DEx × St) := fun k st => match k with
  | 0 => (qkz n).go st
  | _ => .fail
theorem qxZ : qd (qa Tryz.f61) 0 = [(0, .rangeFunc (.tmp 9) ([10] : List Tmp).toArray (subC [true, false, true, false, false] (qa Tryz.f61)) (subC [true, false, true, false, true] (qa Tryz.f61)))] := by kernel_rfl
theorem qx0 : Tryz.f61.body = some (qa Tryz.f61) := by kernel_rfl
abbrev qkA : List It := [.v (.t 1) T59, .obj (.t 0) true 76 5, .v (.c 0 0) T66, .row (.c 0 2) true T59 59, .row (.c 0 3) true T59 59, .mpi (.c 0 4) true T82 T3]
abbrev qjK : List (List It) := [[.v (.t 0) T82, .v (.t 1) T3, .obj (.t 2) true 76 5, .v (.c 0 0) T66, .row (.c 0 2) true T59 59, .row (.c 0 3) true T59 59, .mpi (.c 0 4) true T82 T3]]
noncomputable def qqB (n : Nat) (x : qc qkA) : Option (qD qjK) := runW tab (qhf n) (qpI n) (qa Tryz.f61) qkA 2 22 [.cell 4 82, .cell 5 3] qjK x
noncomputable def qx1 (n : Nat) : Cw Tryz.prog := ⟨61, 2, qkA, 2, qjK, qqB n, fun _ _ h => qbY (B := tab) (cs := qhf n) (lo := qpI n) (rs := [.cell 4 82, .cell 5 3]) Tryz.func61 (by kernel_rfl) qx0 (by kernel_rfl) (by decide) (qh qxZ (all_cons (fun st r h => qur n st r h) qe)) h⟩
noncomputable def qfk (n : Nat) : CL Tryz.prog := ⟨[qAF n], [qx1 n], 0⟩
noncomputable def qrl (n : Nat) : Nat → St → PT (DEx × St) := fun _ _ => .fail
abbrev qde : List It := [.nilf (.t 2), .v (.t 17) T25, .v (.t 18) T3, .v (.t 19) T3, .obj (.t 7) false 70 1, .obj (.c 0 0) false 76 5, .v (.c 1 0) T66, .row (.c 1 2) false T59 59, .row (.c 1 3) false T59 59, .mpi (.c 1 4) false T82 T3, .obj (.t 9) false 59 5, .v (.c 5 0) T59]
abbrev qjq : List (DEx × List It) := []
abbrev qrV : List Ty := [T82]
noncomputable def qrW (n : Nat) (rec : qc qde → Option (qc qde ⊕ qg qjq)) (s : qc qde) (y : qi qrV) : Option (qc qde ⊕ qg qjq) := (qCW tab (qfk n) (qrl n) [61] (subC [true, true, false, true, false, false, true, true, false, false, true, true, true, true, true, false, false] (qa Tryz.f59)) (subC [true, true, false, true, false, false, true, true, false, false, true, true, true, true, true, false, true] (qa Tryz.f59)) 2 (mkS qde 75 s) (tysD qrV y)).run (qE2 75 qde qjq (mkS qde 75 s) rec)
noncomputable def qne (n : Nat) : Rg Tryz.prog := ⟨.tmp 60, 75, qde, qEB, qjq, rgF (qrW n)⟩
theorem qy7 : qd (subC [true, true, false, true, false, false, true, true, false, false, true, true, true, true, true, false, false] (qa Tryz.f59)) 2 = [] := by kernel_rfl
theorem qzO : qd (subC [true, true, false, true, false, false, true, true, false, false, true, true, true, true, true, false, true] (qa Tryz.f59)) (2 + qic (subC [true, true, false, true, false, false, true, true, false, false, true, true, true, true, true, false, false] (qa Tryz.f59))) = [] := by kernel_rfl
theorem qxb (n : Nat) (st : St) (r : DEx × St) (h : ((qne n).go st).Is r) : DA Tryz.prog false (.rangeFunc (.tmp 60) ([61] : List Tmp).toArray (subC [true, true, false, true, false, false, true, true, false, false, true, true, true, true, true, false, false] (qa Tryz.f59)) (subC [true, true, false, true, false, false, true, true, false, false, true, true, true, true, true, false, true] (qa Tryz.f59))) st r := Rg.ok (L := qne n) (B := tab) (cs := qfk n) (lo := qrl n) (id := 1) rfl rfl (qh qy7 qe) (qh qzO qe) (fun _ _ _ => rfl) h
noncomputable def qrm (n : Nat) : Nat → St → PT (DEx × St) := fun k st => match k with
  | 1 => (qne n).go st
  | _ => .fail
abbrev qgQ : List It := [.nilf (.t 2), .v (.t 17) T25, .v (.t 18) T3, .v (.t 19) T3, .obj (.t 7) false 70 1, .obj (.c 0 0) false 76 5, .v (.c 1 0) T66, .row (.c 1 2) false T59 59, .row (.c 1 3) false T59 59, .mpi (.c 1 4) false T82 T3]
abbrev qjr : List (DEx × List It) := [(.exit 0, [.obj (.t 7) false 70 1, .obj (.c 0 0) false 76 5, .v (.c 1 0) T66, .row (.c 1 2) false T59 59, .row (.c 1 3) false T59 59, .mpi (.c 1 4) false T82 T3])]
noncomputable def qrX (n : Nat) (rec : qc qgQ → Option (qg qjr)) (s : qc qgQ) : Option (qg qjr) := (qk tab (qfk n) (qrm n) (subC [true, true, false, true, false, false] (qa Tryz.f59)) 1 (mkS qgQ 75 s)).run (Lp.leaf 75 qgQ qjr rec)
noncomputable def qnf (n : Nat) : Lp := ⟨75, qgQ, qjr, qf n (qrX n)⟩
theorem qzP : qd (subC [true, true, false, true, false, false] (qa Tryz.f59)) 1 = [(1, .rangeFunc (.tmp 60) ([61] : List Tmp).toArray (subC [true, true, false, true, false, false, true, true, false, false, true, true, true, true, true, false, false] (qa Tryz.f59)) (subC [true, true, false, true, false, false, true, true, false, false, true, true, true, true, true, false, true] (qa Tryz.f59)))] := by kernel_rfl
theorem qxc (n : Nat) (st : St) (r : DEx × St) (h : ((qnf n).go st).Is r) : DA Tryz.prog false (.loop (subC [true, true, false, true, false, false] (qa Tryz.f59))) st r := Lp.ok (L := qnf n) (B := tab) (cs := qfk n) (lo := qrm n) (id := 0) rfl (qh qzP (all_cons (fun st r h => qxb n st r h) qe)) (fun _ _ => rfl) h
noncomputable def qrY (n : Nat) : Nat → St → PT (DEx × St) := fun k st => match k with
  | 0 => (qnf n).go st
  | _ => .fail
theorem qAG : qd (qa Tryz.f59) 0 = [(0, .loop (subC [true, true, false, true, false, false] (qa Tryz.f59)))] := by kernel_rfl
theorem qAH : Tryz.f59.body = some (qa Tryz.f59) := by kernel_rfl
abbrev qng : List It := [.v (.t 0) T66, .v (.t 1) T25, .nilf (.t 2)]
abbrev qmw : List (List It) := [[.obj (.t 0) false 76 5, .v (.c 0 0) T66, .row (.c 0 2) false T59 59, .row (.c 0 3) false T59 59, .mpi (.c 0 4) false T82 T3]]
noncomputable def qti (n : Nat) (x : qc qng) : Option (qD qmw) := runW tab (qfk n) (qrY n) (qa Tryz.f59) qng 3 75 [.tmp 6] qmw x
noncomputable def qAI (n : Nat) : Cw Tryz.prog := ⟨59, 3, qng, 1, qmw, qti n, fun _ _ h => qbY (B := tab) (cs := qfk n) (lo := qrY n) (rs := [.tmp 6]) Tryz.func59 (by kernel_rfl) qAH (by kernel_rfl) (by decide) (qh qAG (all_cons (fun st r h => qxc n st r h) qe)) h⟩
noncomputable def qzC (n : Nat) : CL Tryz.prog := ⟨[], [qkx n, qvr n, qmU n, qfV n, qfX n], 1⟩
noncomputable def qzD (n : Nat) : Nat → St → PT (DEx × St) := fun _ _ => .fail
theorem qFY : qd (qa Tryz.f56) 0 = [] := by kernel_rfl
theorem qFZ : Tryz.f56.body = some (qa Tryz.f56) := by kernel_rfl
abbrev qvy : List Ar := [.d T25]
abbrev qvz : List Ty := [T25]
noncomputable def qAJ (n : Nat) (x : qp qvy) : Option (qi qvz) := (qk tab (qzC n) (qzD n) (qa Tryz.f56) 0 (qu qvy 15 x)).run (qU tab [.tmp 2] qvz)
noncomputable def qF0 (n : Nat) : Ct Tryz.prog := ⟨56, qvy, .ts qvz, qAJ n, fun _ _ h => q6 (B := tab) (cs := qzC n) (lo := qzD n) (rs := [.tmp 2]) Tryz.func56 (by kernel_rfl) qFZ (by kernel_rfl) (by decide) (qh qFY qe) h⟩
noncomputable def qwL (n : Nat) : CL Tryz.prog := ⟨[qu9 n, qs1 n], [], 0⟩
noncomputable def qwM (n : Nat) : Nat → St → PT (DEx × St) := fun _ _ => .fail
theorem qDL : qd (qa Tryz.f83) 0 = [] := by kernel_rfl
theorem qDM : Tryz.f83.body = some (qa Tryz.f83) := by kernel_rfl
abbrev qrn : List It := [.v (.t 0) T82, .obj (.t 1) true 66 2, .v (.c 0 0) T66]
abbrev qp5 : List (List It) := [[.v (.t 0) T4, .obj (.t 1) true 66 2, .v (.c 0 0) T66]]
noncomputable def qx2 (n : Nat) (x : qc qrn) : Option (qD qp5) := runW tab (qwL n) (qwM n) (qa Tryz.f83) qrn 2 16 [.tmp 3] qp5 x
noncomputable def qx3 (n : Nat) : Cw Tryz.prog := ⟨83, 2, qrn, 1, qp5, qx2 n, fun _ _ h => qbY (B := tab) (cs := qwL n) (lo := qwM n) (rs := [.tmp 3]) Tryz.func83 (by kernel_rfl) qDM (by kernel_rfl) (by decide) (qh qDL qe) h⟩
noncomputable def qb7 (n : Nat) : CL Tryz.prog := ⟨[], [qx3 n], 0⟩
noncomputable def qfY (n : Nat) : Nat → St → PT (DEx × St) := fun _ _ => .fail
abbrev qbi : List It := [.v (.t 0) T121, .v (.t 7) T3, .v (.t 8) T3, .fnc (.t 1) 83 [.box true 66 2], .v (.c 0 0) T66]
abbrev qb8 : List (DEx × List It) := [(.exit 0, [.fnc (.t 1) 83 [.box true 66 2], .v (.c 0 0) T66]), (.ret, [.v (.t 4) T3, .fnc (.t 1) 83 [.box true 66 2], .v (.c 0 0) T66])]
noncomputable def qgc (n : Nat) (rec : qc qbi → Option (qg qb8)) (s : qc qbi) : Option (qg qb8) := (qk tab (qb7 n) (qfY n) (subC [true, false, true, false, false] (qa Tryz.f108)) 1 (mkS qbi 19 s)).run (Lp.leaf 19 qbi qb8 rec)
noncomputable def qdK (n : Nat) : Lp := ⟨19, qbi, qb8, qf n (qgc n)⟩
theorem qlW : qd (subC [true, false, true, false, false] (qa Tryz.f108)) 1 = [] := by kernel_rfl
theorem qkB (n : Nat) (st : St) (r : DEx × St) (h : ((qdK n).go st).Is r) : DA Tryz.prog false (.loop (subC [true, false, true, false, false] (qa Tryz.f108))) st r := Lp.ok (L := qdK n) (B := tab) (cs := qb7 n) (lo := qfY n) (id := 0) rfl (qh qlW qe) (fun _ _ => rfl) h
noncomputable def qgd (n : Nat) : Nat → St → PT (DEx × St) := fun k st => match k with
  | 0 => (qdK n).go st
  | _ => .fail
theorem qmx : qd (qa Tryz.f108) 0 = [(0, .loop (subC [true, false, true, false, false] (qa Tryz.f108)))] := by kernel_rfl
theorem qmy : Tryz.f108.body = some (qa Tryz.f108) := by kernel_rfl
abbrev qdL : List It := [.v (.t 0) T121, .fnc (.t 1) 83 [.box true 66 2], .v (.c 0 0) T66]
abbrev qdu : List (List It) := [[.v (.t 0) T3, .obj (.t 1) true 66 2, .v (.c 0 0) T66]]
noncomputable def qgp (n : Nat) (x : qc qdL) : Option (qD qdu) := runW tab (qb7 n) (qgd n) (qa Tryz.f108) qdL 2 19 [.tmp 4] qdu x
noncomputable def qmz (n : Nat) : Cw Tryz.prog := ⟨108, 2, qdL, 1, qdu, qgp n, fun _ _ h => qbY (B := tab) (cs := qb7 n) (lo := qgd n) (rs := [.tmp 4]) Tryz.func108 (by kernel_rfl) qmy (by kernel_rfl) (by decide) (qh qmx (all_cons (fun st r h => qkB n st r h) qe)) h⟩
noncomputable def qfs (n : Nat) : CL Tryz.prog := ⟨[], [qx3 n, qmz n], 0⟩
noncomputable def qft (n : Nat) : Nat → St → PT (DEx × St) := fun _ _ => .fail
theorem qk7 : qd (qa Tryz.f82) 0 = [] := by kernel_rfl
theorem qk8 : Tryz.f82.body = some (qa Tryz.f82) := by kernel_rfl
abbrev qc0 : List It := [.v (.t 0) T121, .fnc (.t 1) 83 [.box true 66 2], .v (.c 0 0) T66]
abbrev qcP : List (List It) := [[.v (.t 0) T4, .obj (.t 1) true 66 2, .v (.c 0 0) T66]]
noncomputable def qfI (n : Nat) (x : qc qc0) : Option (qD qcP) := runW tab (qfs n) (qft n) (qa Tryz.f82) qc0 2 9 [.tmp 4] qcP x
noncomputable def qk9 (n : Nat) : Cw Tryz.prog := ⟨82, 2, qc0, 1, qcP, qfI n, fun _ _ h => qbY (B := tab) (cs := qfs n) (lo := qft n) (rs := [.tmp 4]) Tryz.func82 (by kernel_rfl) qk8 (by kernel_rfl) (by decide) (qh qk7 qe) h⟩
noncomputable def qzE (n : Nat) : CL Tryz.prog := ⟨[qAC n, qF0 n], [qAI n, qk9 n], 4⟩
noncomputable def qzF (n : Nat) : Nat → St → PT (DEx × St) := fun _ _ => .fail
theorem qF1 : qd (qa Tryz.f43) 0 = [] := by kernel_rfl
theorem qF2 : Tryz.f43.body = some (qa Tryz.f43) := by kernel_rfl
abbrev qtK : List It := [.v (.t 0) T24, .v (.t 1) T25, .v (.t 2) T121]
abbrev qst : List (List It) := [[.v (.t 1) T32, .obj (.t 0) false 76 5, .v (.c 0 0) T66, .row (.c 0 2) false T59 59, .row (.c 0 3) false T59 59, .mpi (.c 0 4) false T82 T3], [.nilp (.t 0), .v (.t 1) T32]]
noncomputable def qAK (n : Nat) (x : qc qtK) : Option (qD qst) := runW tab (qzE n) (qzF n) (qa Tryz.f43) qtK 3 25 [.tmp 6, .tmp 7] qst x
noncomputable def qvA (n : Nat) : Cw Tryz.prog := ⟨43, 3, qtK, 2, qst, qAK n, fun _ _ h => qbY (B := tab) (cs := qzE n) (lo := qzF n) (rs := [.tmp 6, .tmp 7]) Tryz.func43 (by kernel_rfl) qF2 (by kernel_rfl) (by decide) (qh qF1 qe) h⟩
noncomputable def qvB (n : Nat) : CL Tryz.prog := ⟨[], [qvA n, qBL n, qAA n], 4⟩
noncomputable def qvC (n : Nat) : Nat → St → PT (DEx × St) := fun _ _ => .fail
theorem qDa : qd (qa Tryz.f13) 0 = [] := by kernel_rfl
theorem qDb : Tryz.f13.body = some (qa Tryz.f13) := by kernel_rfl
abbrev qro : List Ar := [.d T24, .d T25]
abbrev qrp : List Ty := [T34, T32]
noncomputable def qwN (n : Nat) (x : qp qro) : Option (qi qrp) := (qk tab (qvB n) (qvC n) (qa Tryz.f13) 0 (qu qro 26 x)).run (qU tab [.tmp 4, .tmp 5] qrp)
noncomputable def qwO (n : Nat) : Ct Tryz.prog := ⟨13, qro, .ts qrp, qwN n, fun _ _ h => q6 (B := tab) (cs := qvB n) (lo := qvC n) (rs := [.tmp 4, .tmp 5]) Tryz.func13 (by kernel_rfl) qDb (by kernel_rfl) (by decide) (qh qDa qe) h⟩
noncomputable def qwP (n : Nat) : CL Tryz.prog := ⟨[], [qvA n, qBL n], 4⟩
noncomputable def qwQ (n : Nat) : Nat → St → PT (DEx × St) := fun _ _ => .fail
theorem qDN : qd (qa Tryz.f16) 0 = [] := by kernel_rfl
theorem qDO : Tryz.f16.body = some (qa Tryz.f16) := by kernel_rfl
abbrev qsu : List Ar := [.d T24, .d T25]
abbrev qsv : List Ty := [T34, T32]
noncomputable def qx4 (n : Nat) (x : qp qsu) : Option (qi qsv) := (qk tab (qwP n) (qwQ n) (qa Tryz.f16) 0 (qu qsu 22 x)).run (qU tab [.tmp 4, .tmp 5] qsv)
noncomputable def qx5 (n : Nat) : Ct Tryz.prog := ⟨16, qsu, .ts qsv, qx4 n, fun _ _ h => q6 (B := tab) (cs := qwP n) (lo := qwQ n) (rs := [.tmp 4, .tmp 5]) Tryz.func16 (by kernel_rfl) qDO (by kernel_rfl) (by decide) (qh qDN qe) h⟩
noncomputable def qAL (n : Nat) : CL Tryz.prog := ⟨[], [qvA n, qrk n], 4⟩
noncomputable def qAM (n : Nat) : Nat → St → PT (DEx × St) := fun _ _ => .fail
theorem qGC : qd (qa Tryz.f18) 0 = [] := by kernel_rfl
theorem qGD : Tryz.f18.body = some (qa Tryz.f18) := by kernel_rfl
abbrev qxd : List Ar := [.d T24, .d T25, .d T3, .d T3]
abbrev qxe : List Ty := [T3, T32]
noncomputable def qBM (n : Nat) (x : qp qxd) : Option (qi qxe) := (qk tab (qAL n) (qAM n) (qa Tryz.f18) 0 (qu qxd 30 x)).run (qU tab [.tmp 8, .tmp 9] qxe)
noncomputable def qGE (n : Nat) : Ct Tryz.prog := ⟨18, qxd, .ts qxe, qBM n, fun _ _ h => q6 (B := tab) (cs := qAL n) (lo := qAM n) (rs := [.tmp 8, .tmp 9]) Tryz.func18 (by kernel_rfl) qGD (by kernel_rfl) (by decide) (qh qGC qe) h⟩
end Go.Proofs.YtcjgodgpaokbnaaGreat

/- Printed: what functions of the program compute. -/
namespace Go.Proofs.YtcjgodgpaokbnaaGreat
set_option linter.constructorNameAsVariable false
set_option linter.unusedSimpArgs false
set_option linter.unusedVariables false
set_option linter.unusedSectionVars false
open Go Go.Proofs Go.RowKit
set_option maxRecDepth 20000
noncomputable def qqC (n : Nat) : CL Tryz.prog := ⟨[qwO n, qoV n, qx5 n, qw8 n], [], 0⟩
noncomputable def qqD (n : Nat) : Nat → St → PT (DEx × St) := fun _ _ => .fail
theorem qy8 : qd (qa Tryz.f8) 0 = [] := by kernel_rfl
theorem qy9 : Tryz.f8.body = some (qa Tryz.f8) := by kernel_rfl
abbrev qmA : List Ar := []
abbrev qmB : List Ty := [T4]
noncomputable def qrq (n : Nat) (x : qp qmA) : Option (qi qmB) := (qk tab (qqC n) (qqD n) (qa Tryz.f8) 0 (qu qmA 39 x)).run (qU tab [.tmp 0] qmB)
noncomputable def qza (n : Nat) : Ct Tryz.prog := ⟨8, qmA, .ts qmB, qrq n, fun _ _ h => q6 (B := tab) (cs := qqC n) (lo := qqD n) (rs := [.tmp 0]) Tryz.func8 (by kernel_rfl) qy9 (by kernel_rfl) (by decide) (qh qy8 qe) h⟩
end Go.Proofs.YtcjgodgpaokbnaaGreat

/- Printed: what functions of the program compute. -/
namespace Go.Proofs.YtcjgodgpaokbnaaGreat
set_option linter.constructorNameAsVariable false
set_option linter.unusedSimpArgs false
set_option linter.unusedVariables false
set_option linter.unusedSectionVars false
open Go Go.Proofs Go.RowKit
set_option maxRecDepth 20000
noncomputable def qvD (n : Nat) : CL Tryz.prog := ⟨[], [], 0⟩
noncomputable def qvE (n : Nat) : Nat → St → PT (DEx × St) := fun _ _ => .fail
theorem qDc : qd (qa Tryz.f89) 0 = [] := by kernel_rfl
theorem qDd : Tryz.f89.body = some (qa Tryz.f89) := by kernel_rfl
abbrev qp6 : List It := [.v (.t 0) T59, .obj (.t 1) true 3 1, .v (.c 0 0) T3]
abbrev qpm : List (List It) := [[.v (.t 0) T4, .obj (.t 1) true 3 1, .v (.c 0 0) T3]]
noncomputable def qDe (n : Nat) (x : qc qp6) : Option (qD qpm) := runW tab (qvD n) (qvE n) (qa Tryz.f89) qp6 2 8 [.tmp 3] qpm x
noncomputable def qDf (n : Nat) : Cw Tryz.prog := ⟨89, 2, qp6, 1, qpm, qDe n, fun _ _ h => qbY (B := tab) (cs := qvD n) (lo := qvE n) (rs := [.tmp 3]) Tryz.func89 (by kernel_rfl) qDd (by kernel_rfl) (by decide) (qh qDc qe) h⟩
noncomputable def qkC (n : Nat) : CL Tryz.prog := ⟨[], [qDf n], 0⟩
noncomputable def qka (n : Nat) : Nat → St → PT (DEx × St) := fun _ _ => .fail
abbrev qbc : List It := [.v (.t 0) T25, .v (.t 7) T3, .v (.t 8) T3, .fnc (.t 1) 89 [.box true 3 1], .v (.c 0 0) T3]
abbrev qbN : List (DEx × List It) := [(.exit 0, [.fnc (.t 1) 89 [.box true 3 1], .v (.c 0 0) T3]), (.ret, [.v (.t 4) T3, .fnc (.t 1) 89 [.box true 3 1], .v (.c 0 0) T3])]
noncomputable def qkD (n : Nat) (rec : qc qbc → Option (qg qbN)) (s : qc qbc) : Option (qg qbN) := (qk tab (qkC n) (qka n) (subC [true, false, true, false, false] (qa Tryz.f88)) 1 (mkS qbc 19 s)).run (Lp.leaf 19 qbc qbN rec)
noncomputable def qkE (n : Nat) : Lp := ⟨19, qbc, qbN, qf n (qkD n)⟩
noncomputable def qxf (n : Nat) : Nat → St → PT (DEx × St) := fun k st => match k with
  | 0 => (qkE n).go st
  | _ => .fail
noncomputable def qhK (n : Nat) : CL Tryz.prog := ⟨[], [], 0⟩
noncomputable def qpJ (n : Nat) : Nat → St → PT (DEx × St) := fun _ _ => .fail
abbrev qfZ : List It := [.v (.t 0) T25, .v (.t 4) T3, .row (.t 3) false T59 59]
abbrev qhL : List (DEx × List It) := [(.exit 0, [.row (.t 3) false T59 59])]
noncomputable def qqE (n : Nat) (rec : qc qfZ → Option (qg qhL)) (s : qc qfZ) : Option (qg qhL) := (qk tab (qhK n) (qpJ n) (subC [true, true, false, true, false, false] (qa Tryz.f10)) 1 (mkS qfZ 26 s)).run (Lp.leaf 26 qfZ qhL rec)
noncomputable def qlH (n : Nat) : Lp := ⟨26, qfZ, qhL, qf n (qqE n)⟩
theorem qx6 : qd (subC [true, true, false, true, false, false] (qa Tryz.f10)) 1 = [] := by kernel_rfl
theorem qvF (n : Nat) (st : St) (r : DEx × St) (h : ((qlH n).go st).Is r) : DA Tryz.prog false (.loop (subC [true, true, false, true, false, false] (qa Tryz.f10))) st r := Lp.ok (L := qlH n) (B := tab) (cs := qhK n) (lo := qpJ n) (id := 0) rfl (qh qx6 qe) (fun _ _ => rfl) h
noncomputable def qqF (n : Nat) : Nat → St → PT (DEx × St) := fun k st => match k with
  | 0 => (qlH n).go st
  | _ => .fail
theorem qzb : qd (qa Tryz.f10) 0 = [(0, .loop (subC [true, true, false, true, false, false] (qa Tryz.f10)))] := by kernel_rfl
theorem qzc : Tryz.f10.body = some (qa Tryz.f10) := by kernel_rfl
abbrev qlI : List It := [.v (.t 0) T25]
abbrev qkF : List (List It) := [[.row (.t 0) false T59 59]]
noncomputable def qrr (n : Nat) (x : qc qlI) : Option (qD qkF) := runW tab (qhK n) (qqF n) (qa Tryz.f10) qlI 1 26 [.tmp 2] qkF x
noncomputable def qzd (n : Nat) : Cw Tryz.prog := ⟨10, 1, qlI, 1, qkF, qrr n, fun _ _ h => qbY (B := tab) (cs := qhK n) (lo := qqF n) (rs := [.tmp 2]) Tryz.func10 (by kernel_rfl) qzc (by kernel_rfl) (by decide) (qh qzb (all_cons (fun st r h => qvF n st r h) qe)) h⟩
end Go.Proofs.YtcjgodgpaokbnaaGreat

/- Printed: what functions of the program compute. -/
namespace Go.Proofs.YtcjgodgpaokbnaaGreat
set_option linter.constructorNameAsVariable false
set_option linter.unusedSimpArgs false
set_option linter.unusedVariables false
set_option linter.unusedSectionVars false
open Go Go.Proofs Go.RowKit
set_option maxRecDepth 20000
noncomputable def qes (n : Nat) : CL Tryz.prog := ⟨[qqu n], [], 0⟩
noncomputable def qpK (n : Nat) : Nat → St → PT (DEx × St) := fun _ _ => .fail
abbrev qf0 : List It := [.v (.t 1) T25, .v (.t 9) T3, .v (.t 11) T3, .obj (.t 3) false 24 2, .v (.c 0 0) T24, .obj (.t 5) false 59 5, .v (.c 1 0) T59, .obj (.t 10) false 104 3, .v (.c 2 0) T104]
abbrev qhM : List (DEx × List It) := [(.exit 2, [.v (.t 1) T25, .v (.t 9) T3, .obj (.t 3) false 24 2, .v (.c 0 0) T24, .obj (.t 5) false 59 5, .v (.c 1 0) T59]), (.ret, [.v (.t 6) T3, .v (.t 7) T3, .v (.t 8) T3])]
noncomputable def qqG (n : Nat) (rec : qc qf0 → Option (qg qhM)) (s : qc qf0) : Option (qg qhM) := (qk tab (qes n) (qpK n) (subC [true, false, true, false, false, true, false, false, true, true, false, false] (qa Tryz.f62)) 2 (mkS qf0 59 s)).run (Lp.leaf 59 qf0 qhM rec)
noncomputable def qlJ (n : Nat) : Lp := ⟨59, qf0, qhM, qf n (qqG n)⟩
theorem qx7 : qd (subC [true, false, true, false, false, true, false, false, true, true, false, false] (qa Tryz.f62)) 2 = [] := by kernel_rfl
theorem qvG (n : Nat) (st : St) (r : DEx × St) (h : ((qlJ n).go st).Is r) : DA Tryz.prog false (.loop (subC [true, false, true, false, false, true, false, false, true, true, false, false] (qa Tryz.f62))) st r := Lp.ok (L := qlJ n) (B := tab) (cs := qes n) (lo := qpK n) (id := 1) rfl (qh qx7 qe) (fun _ _ => rfl) h
noncomputable def qpL (n : Nat) : Nat → St → PT (DEx × St) := fun k st => match k with
  | 1 => (qlJ n).go st
  | _ => .fail
abbrev qf1 : List It := [.v (.t 1) T25, .v (.t 9) T3, .obj (.t 3) false 24 2, .v (.c 0 0) T24, .obj (.t 5) false 59 5, .v (.c 1 0) T59]
abbrev qhN : List (DEx × List It) := [(.exit 0, []), (.ret, [.v (.t 6) T3, .v (.t 7) T3, .v (.t 8) T3])]
noncomputable def qqH (n : Nat) (rec : qc qf1 → Option (qg qhN)) (s : qc qf1) : Option (qg qhN) := (qk tab (qes n) (qpL n) (subC [true, false, true, false, false] (qa Tryz.f62)) 1 (mkS qf1 59 s)).run (Lp.leaf 59 qf1 qhN rec)
noncomputable def qlK (n : Nat) : Lp := ⟨59, qf1, qhN, qf n (qqH n)⟩
theorem qx8 : qd (subC [true, false, true, false, false] (qa Tryz.f62)) 1 = [(1, .loop (subC [true, false, true, false, false, true, false, false, true, true, false, false] (qa Tryz.f62)))] := by kernel_rfl
theorem qvH (n : Nat) (st : St) (r : DEx × St) (h : ((qlK n).go st).Is r) : DA Tryz.prog false (.loop (subC [true, false, true, false, false] (qa Tryz.f62))) st r := Lp.ok (L := qlK n) (B := tab) (cs := qes n) (lo := qpL n) (id := 0) rfl (qh qx8 (all_cons (fun st r h => qvG n st r h) qe)) (fun _ _ => rfl) h
noncomputable def qqI (n : Nat) : Nat → St → PT (DEx × St) := fun k st => match k with
  | 0 => (qlK n).go st
  | _ => .fail
theorem qze : qd (qa Tryz.f62) 0 = [(0, .loop (subC [true, false, true, false, false] (qa Tryz.f62)))] := by kernel_rfl
theorem qzf : Tryz.f62.body = some (qa Tryz.f62) := by kernel_rfl
abbrev qmC : List Ar := [.d T24, .d T25, .d T59]
abbrev qmD : List Ty := [T3, T3, T3]
noncomputable def qrs (n : Nat) (x : qp qmC) : Option (qi qmD) := (qk tab (qes n) (qqI n) (qa Tryz.f62) 0 (qu qmC 59 x)).run (qU tab [.tmp 6, .tmp 7, .tmp 8] qmD)
noncomputable def qzg (n : Nat) : Ct Tryz.prog := ⟨62, qmC, .ts qmD, qrs n, fun _ _ h => q6 (B := tab) (cs := qes n) (lo := qqI n) (rs := [.tmp 6, .tmp 7, .tmp 8]) Tryz.func62 (by kernel_rfl) qzf (by kernel_rfl) (by decide) (qh qze (all_cons (fun st r h => qvH n st r h) qe)) h⟩
noncomputable def qgL (n : Nat) : CL Tryz.prog := ⟨[qzg n], [], 0⟩
noncomputable def qok (n : Nat) : Nat → St → PT (DEx × St) := fun _ _ => .fail
abbrev qe5 : List It := [.v (.t 1) T25, .v (.t 6) T3, .obj (.t 2) false 24 2, .v (.c 0 0) T24, .row (.t 4) false T59 59, .row (.t 5) false T59 59]
abbrev qgM : List (DEx × List It) := [(.exit 0, [.row (.t 4) false T59 59, .row (.t 5) false T59 59])]
noncomputable def qoZ (n : Nat) (rec : qc qe5 → Option (qg qgM)) (s : qc qe5) : Option (qg qgM) := (qk tab (qgL n) (qok n) (subC [true, false, true, false, false] (qa Tryz.f46)) 1 (mkS qe5 45 s)).run (Lp.leaf 45 qe5 qgM rec)
noncomputable def qjL (n : Nat) : Lp := ⟨45, qe5, qgM, qf n (qoZ n)⟩
theorem qv4 : qd (subC [true, false, true, false, false] (qa Tryz.f46)) 1 = [] := by kernel_rfl
theorem qtL (n : Nat) (st : St) (r : DEx × St) (h : ((qjL n).go st).Is r) : DA Tryz.prog false (.loop (subC [true, false, true, false, false] (qa Tryz.f46))) st r := Lp.ok (L := qjL n) (B := tab) (cs := qgL n) (lo := qok n) (id := 0) rfl (qh qv4 qe) (fun _ _ => rfl) h
noncomputable def qo0 (n : Nat) : Nat → St → PT (DEx × St) := fun k st => match k with
  | 0 => (qjL n).go st
  | _ => .fail
theorem qxg : qd (qa Tryz.f46) 0 = [(0, .loop (subC [true, false, true, false, false] (qa Tryz.f46)))] := by kernel_rfl
theorem qxh : Tryz.f46.body = some (qa Tryz.f46) := by kernel_rfl
abbrev qkG : List Ar := [.d T24, .d T25]
abbrev qkH : List Ty := [T25, T25]
noncomputable def qpM (n : Nat) (x : qp qkG) : Option (qi qkH) := (qk tab (qgL n) (qo0 n) (qa Tryz.f46) 0 (qu qkG 45 x)).run (qU tab [.tmp 4, .tmp 5] qkH)
noncomputable def qkI (n : Nat) : Ct Tryz.prog := ⟨46, qkG, .ts qkH, qpM n, fun _ _ h => q6 (B := tab) (cs := qgL n) (lo := qo0 n) (rs := [.tmp 4, .tmp 5]) Tryz.func46 (by kernel_rfl) qxh (by kernel_rfl) (by decide) (qh qxg (all_cons (fun st r h => qtL n st r h) qe)) h⟩
noncomputable def qjs (n : Nat) : CL Tryz.prog := ⟨[], [], 0⟩
noncomputable def qrt (n : Nat) : Nat → St → PT (DEx × St) := fun _ _ => .fail
abbrev qgR : List It := [.v (.t 0) T25, .v (.t 4) T3, .row (.t 3) false T3 3]
abbrev qjt : List (DEx × List It) := [(.exit 0, [.row (.t 3) false T3 3])]
noncomputable def qrZ (n : Nat) (rec : qc qgR → Option (qg qjt)) (s : qc qgR) : Option (qg qjt) := (qk tab (qjs n) (qrt n) (subC [true, true, false, true, false, false] (qa Tryz.f48)) 1 (mkS qgR 20 s)).run (Lp.leaf 20 qgR qjt rec)
noncomputable def qnh (n : Nat) : Lp := ⟨20, qgR, qjt, qf n (qrZ n)⟩
theorem qzQ : qd (subC [true, true, false, true, false, false] (qa Tryz.f48)) 1 = [] := by kernel_rfl
theorem qxi (n : Nat) (st : St) (r : DEx × St) (h : ((qnh n).go st).Is r) : DA Tryz.prog false (.loop (subC [true, true, false, true, false, false] (qa Tryz.f48))) st r := Lp.ok (L := qnh n) (B := tab) (cs := qjs n) (lo := qrt n) (id := 0) rfl (qh qzQ qe) (fun _ _ => rfl) h
noncomputable def qr0 (n : Nat) : Nat → St → PT (DEx × St) := fun k st => match k with
  | 0 => (qnh n).go st
  | _ => .fail
theorem qAN : qd (qa Tryz.f48) 0 = [(0, .loop (subC [true, true, false, true, false, false] (qa Tryz.f48)))] := by kernel_rfl
theorem qAO : Tryz.f48.body = some (qa Tryz.f48) := by kernel_rfl
abbrev qol : List Ar := [.d T25]
abbrev qom : List Ty := [T34]
noncomputable def qtj (n : Nat) (x : qp qol) : Option (qi qom) := (qk tab (qjs n) (qr0 n) (qa Tryz.f48) 0 (qu qol 20 x)).run (qU tab [.tmp 2] qom)
noncomputable def qtk (n : Nat) : Ct Tryz.prog := ⟨48, qol, .ts qom, qtj n, fun _ _ h => q6 (B := tab) (cs := qjs n) (lo := qr0 n) (rs := [.tmp 2]) Tryz.func48 (by kernel_rfl) qAO (by kernel_rfl) (by decide) (qh qAN (all_cons (fun st r h => qxi n st r h) qe)) h⟩
noncomputable def qc5 (n : Nat) : CL Tryz.prog := ⟨[], [], 0⟩
noncomputable def qmV (n : Nat) : Nat → St → PT (DEx × St) := fun _ _ => .fail
abbrev qeb : List It := [.v (.t 0) T34, .v (.t 4) T3, .v (.t 5) T3, .row (.t 3) false T3 3]
abbrev qf5 : List (DEx × List It) := [(.exit 2, [.v (.t 0) T34, .v (.t 4) T3, .v (.t 5) T3, .row (.t 3) false T3 3])]
noncomputable def qnF (n : Nat) (rec : qc qeb → Option (qg qf5)) (s : qc qeb) : Option (qg qf5) := (qk tab (qc5 n) (qmV n) (subC [true, true, false, true, false, false, true, false, false, true, false, false, false] (qa Tryz.f47)) 2 (mkS qeb 43 s)).run (Lp.leaf 43 qeb qf5 rec)
noncomputable def qit (n : Nat) : Lp := ⟨43, qeb, qf5, qf n (qnF n)⟩
theorem qus : qd (subC [true, true, false, true, false, false, true, false, false, true, false, false, false] (qa Tryz.f47)) 2 = [] := by kernel_rfl
theorem qsw (n : Nat) (st : St) (r : DEx × St) (h : ((qit n).go st).Is r) : DA Tryz.prog false (.loop (subC [true, true, false, true, false, false, true, false, false, true, false, false, false] (qa Tryz.f47))) st r := Lp.ok (L := qit n) (B := tab) (cs := qc5 n) (lo := qmV n) (id := 1) rfl (qh qus qe) (fun _ _ => rfl) h
noncomputable def qmW (n : Nat) : Nat → St → PT (DEx × St) := fun k st => match k with
  | 1 => (qit n).go st
  | _ => .fail
abbrev qec : List It := [.v (.t 0) T34, .v (.t 4) T3, .row (.t 3) false T3 3]
abbrev qf6 : List (DEx × List It) := [(.exit 0, [.row (.t 3) false T3 3])]
noncomputable def qnG (n : Nat) (rec : qc qec → Option (qg qf6)) (s : qc qec) : Option (qg qf6) := (qk tab (qc5 n) (qmW n) (subC [true, true, false, true, false, false] (qa Tryz.f47)) 1 (mkS qec 43 s)).run (Lp.leaf 43 qec qf6 rec)
noncomputable def qiu (n : Nat) : Lp := ⟨43, qec, qf6, qf n (qnG n)⟩
theorem qut : qd (subC [true, true, false, true, false, false] (qa Tryz.f47)) 1 = [(1, .loop (subC [true, true, false, true, false, false, true, false, false, true, false, false, false] (qa Tryz.f47)))] := by kernel_rfl
theorem qsx (n : Nat) (st : St) (r : DEx × St) (h : ((qiu n).go st).Is r) : DA Tryz.prog false (.loop (subC [true, true, false, true, false, false] (qa Tryz.f47))) st r := Lp.ok (L := qiu n) (B := tab) (cs := qc5 n) (lo := qmW n) (id := 0) rfl (qh qut (all_cons (fun st r h => qsw n st r h) qe)) (fun _ _ => rfl) h
noncomputable def qnH (n : Nat) : Nat → St → PT (DEx × St) := fun k st => match k with
  | 0 => (qiu n).go st
  | _ => .fail
theorem qvI : qd (qa Tryz.f47) 0 = [(0, .loop (subC [true, true, false, true, false, false] (qa Tryz.f47)))] := by kernel_rfl
theorem qvJ : Tryz.f47.body = some (qa Tryz.f47) := by kernel_rfl
abbrev qi9 : List Ar := [.d T34]
abbrev qja : List Ty := [T34]
noncomputable def qon (n : Nat) (x : qp qi9) : Option (qi qja) := (qk tab (qc5 n) (qnH n) (qa Tryz.f47) 0 (qu qi9 43 x)).run (qU tab [.tmp 2] qja)
noncomputable def qvK (n : Nat) : Ct Tryz.prog := ⟨47, qi9, .ts qja, qon n, fun _ _ h => q6 (B := tab) (cs := qc5 n) (lo := qnH n) (rs := [.tmp 2]) Tryz.func47 (by kernel_rfl) qvJ (by kernel_rfl) (by decide) (qh qvI (all_cons (fun st r h => qsx n st r h) qe)) h⟩
noncomputable def qoo (n : Nat) : CL Tryz.prog := ⟨[qin n, qmr n, qkI n, qvK n, qtk n], [], 0⟩
noncomputable def qop (n : Nat) : Nat → St → PT (DEx × St) := fun _ _ => .fail
theorem qv5 : qd (qa Tryz.f14) 0 = [] := by kernel_rfl
theorem qv6 : Tryz.f14.body = some (qa Tryz.f14) := by kernel_rfl
abbrev qjM : List Ar := [.d T24, .d T25]
abbrev qjN : List Ty := [T34, T32]
noncomputable def qo1 (n : Nat) (x : qp qjM) : Option (qi qjN) := (qk tab (qoo n) (qop n) (qa Tryz.f14) 0 (qu qjM 25 x)).run (qU tab [.tmp 4, .tmp 5] qjN)
noncomputable def qv7 (n : Nat) : Ct Tryz.prog := ⟨14, qjM, .ts qjN, qo1 n, fun _ _ h => q6 (B := tab) (cs := qoo n) (lo := qop n) (rs := [.tmp 4, .tmp 5]) Tryz.func14 (by kernel_rfl) qv6 (by kernel_rfl) (by decide) (qh qv5 qe) h⟩
noncomputable def qo2 (n : Nat) : CL Tryz.prog := ⟨[qin n, qmr n, qkI n, qtk n], [], 0⟩
noncomputable def qo3 (n : Nat) : Nat → St → PT (DEx × St) := fun _ _ => .fail
theorem qxj : qd (qa Tryz.f17) 0 = [] := by kernel_rfl
theorem qxk : Tryz.f17.body = some (qa Tryz.f17) := by kernel_rfl
abbrev qkJ : List Ar := [.d T24, .d T25]
abbrev qkK : List Ty := [T34, T32]
noncomputable def qpN (n : Nat) (x : qp qkJ) : Option (qi qkK) := (qk tab (qo2 n) (qo3 n) (qa Tryz.f17) 0 (qu qkJ 24 x)).run (qU tab [.tmp 4, .tmp 5] qkK)
noncomputable def qxl (n : Nat) : Ct Tryz.prog := ⟨17, qkJ, .ts qkK, qpN n, fun _ _ h => q6 (B := tab) (cs := qo2 n) (lo := qo3 n) (rs := [.tmp 4, .tmp 5]) Tryz.func17 (by kernel_rfl) qxk (by kernel_rfl) (by decide) (qh qxj qe) h⟩
noncomputable def qru (n : Nat) : CL Tryz.prog := ⟨[quq n, qmr n, qqu n, qkI n], [], 0⟩
noncomputable def qrv (n : Nat) : Nat → St → PT (DEx × St) := fun _ _ => .fail
theorem qzR : qd (qa Tryz.f19) 0 = [] := by kernel_rfl
theorem qzS : Tryz.f19.body = some (qa Tryz.f19) := by kernel_rfl
abbrev qni : List Ar := [.d T24, .d T25, .d T3, .d T3]
abbrev qnj : List Ty := [T3, T32]
noncomputable def qr1 (n : Nat) (x : qp qni) : Option (qi qnj) := (qk tab (qru n) (qrv n) (qa Tryz.f19) 0 (qu qni 39 x)).run (qU tab [.tmp 8, .tmp 9] qnj)
noncomputable def qzT (n : Nat) : Ct Tryz.prog := ⟨19, qni, .ts qnj, qr1 n, fun _ _ h => q6 (B := tab) (cs := qru n) (lo := qrv n) (rs := [.tmp 8, .tmp 9]) Tryz.func19 (by kernel_rfl) qzS (by kernel_rfl) (by decide) (qh qzR qe) h⟩
noncomputable def ql4 (n : Nat) : CL Tryz.prog := ⟨[qAx n, qza n, qvh n, qzM n, qAC n, qin n, qwO n, qv7 n, qoV n, qx5 n, qxl n, qGE n, qzT n, qs6 n], [qzd n], 1⟩
noncomputable def ql5 (n : Nat) : Nat → St → PT (DEx × St) := fun _ _ => .fail
theorem qtM : qd (qa Tryz.f3) 0 = [] := by kernel_rfl
theorem qtN : Tryz.f3.body = some (qa Tryz.f3) := by kernel_rfl
abbrev qdZ : List Ar := [.d T24, .d T25, .d T27]
abbrev qh5 : List Ty := [T4]
noncomputable def qmX (n : Nat) (x : qp qdZ) : Option (qi qh5) := (qk tab (ql4 n) (ql5 n) (qa Tryz.f3) 0 (qu qdZ 110 x)).run (qU tab [.tmp 6] qh5)
noncomputable def qmY (n : Nat) : Ct Tryz.prog := ⟨3, qdZ, .ts qh5, qmX n, fun _ _ h => q6 (B := tab) (cs := ql4 n) (lo := ql5 n) (rs := [.tmp 6]) Tryz.func3 (by kernel_rfl) qtN (by kernel_rfl) (by decide) (qh qtM qe) h⟩
end Go.Proofs.YtcjgodgpaokbnaaGreat
