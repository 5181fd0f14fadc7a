/- Texts DnF, DnG, DnH, DnI, DnE, DnJ, DnK in one. -/
import Derived.Test.YtcjgodgpaokbnaaNd
import Derived.Test.YtcjgodgpaokbnaaDnD
import Derived.Test.YtcjgodgpaokbnaaKc
/- Printed: what functions of the program compute. -/
namespace Go.Proofs.Ytcjgodgpaokbnaa
set_option linter.constructorNameAsVariable false
set_option linter.unusedSimpArgs false
set_option linter.unusedVariables false
set_option linter.unusedSectionVars false
open Go Go.Proofs Go.RowKit
set_option maxRecDepth 20000
noncomputable def qjW (n : Nat) : CL Try.prog := ⟨[], [], 0⟩
noncomputable def qjX (n : Nat) : Nat → St → PT (DEx × St) := fun _ _ => .fail
theorem qra : qd (qa Try.f71) 0 = [] := by kernel_rfl
theorem qrb : Try.f71.body = some (qa Try.f71) := by kernel_rfl
abbrev qgN : List It := [.raw (.t 0)]
abbrev qgo : List (List It) := [[.row (.t 0) false T30 30]]
noncomputable def qeI (n : Nat) (x : qc qgN) : Option (qw qgo) := runW tab (qjW n) (qjX n) (qa Try.f71) qgN 1 8 [.tmp 2] qgo x
noncomputable def qrc (n : Nat) : Cw Try.prog := ⟨71, 1, qgN, 1, qgo, qeI n, fun _ _ h => q9 (B := tab) (cs := qjW n) (lo := qjX n) (rs := [.tmp 2]) Try.func71 (by kernel_rfl) qrb (by kernel_rfl) (by decide) (qh qra qe) h⟩
noncomputable def qmd (n : Nat) : CL Try.prog := ⟨[], [], 0⟩
noncomputable def qme (n : Nat) : Nat → St → PT (DEx × St) := fun _ _ => .fail
theorem qtl : qd (qa Try.f71) 0 = [] := by kernel_rfl
theorem qtm : Try.f71.body = some (qa Try.f71) := by kernel_rfl
abbrev qid : List It := [.v (.t 0) T25]
abbrev qfA : List (List It) := [[.row (.t 0) false T30 30]]
noncomputable def qf9 (n : Nat) (x : qc qid) : Option (qw qfA) := runW tab (qmd n) (qme n) (qa Try.f71) qid 1 8 [.tmp 2] qfA x
noncomputable def qtn (n : Nat) : Cw Try.prog := ⟨71, 1, qid, 1, qfA, qf9 n, fun _ _ h => q9 (B := tab) (cs := qmd n) (lo := qme n) (rs := [.tmp 2]) Try.func71 (by kernel_rfl) qtm (by kernel_rfl) (by decide) (qh qtl qe) h⟩
end Go.Proofs.Ytcjgodgpaokbnaa

/- Printed: slices.Clone. -/
namespace Go.Proofs.Ytcjgodgpaokbnaa
set_option linter.constructorNameAsVariable false
set_option linter.unusedSimpArgs false
set_option linter.unusedVariables false
set_option linter.unusedSectionVars false
open Go Go.Proofs Go.RowKit
theorem qto (n : Nat) (c : Nat) : qeI n (.slice none 0 c, ()) = some ([], ()) := by kernel_rfl
theorem qtp (n : Nat) (a : Addr) (c : Nat) : qeI n (.slice (some a) 0 c, ()) = some ([], ()) := by kernel_rfl
noncomputable def qm3 (n : Nat) : Cw Try.prog := qIN 71 T30 qfA (qeI n) (qf9 n) ([], ()) (fun v y m0 h => (qrc n).okk (x := (v, ())) (y := y) h m0 (qDT m0)) (fun l y m0 h => (qtn n).okk (x := (l, ())) (y := y) h m0 (qDT m0)) (fun A c => by cases A with | none => exact qto n c | some a => exact qtp n a c)
noncomputable def qtq (n : Nat) := (qm3 n).M
end Go.Proofs.Ytcjgodgpaokbnaa

/- Printed: slices.Clone. -/
namespace Go.Proofs.Ytcjgodgpaokbnaa
set_option linter.constructorNameAsVariable false
set_option linter.unusedSimpArgs false
set_option linter.unusedVariables false
set_option linter.unusedSectionVars false
open Go Go.Proofs Go.RowKit
end Go.Proofs.Ytcjgodgpaokbnaa

/- The iterator over the spots of a request, by hand. -/
namespace Go.Proofs.Ytcjgodgpaokbnaa
set_option linter.constructorNameAsVariable false
set_option linter.unusedSimpArgs false
set_option linter.unusedVariables false
set_option linter.unusedSectionVars false
open Go Go.Proofs Go.RowKit
set_option maxHeartbeats 4000000
set_option maxRecDepth 20000

def qm8 (hut : Int) (lo : Int) : Nat → List (Int × Int)
  | 0 => []
  | n + 1 => (hut, lo) :: qm8 hut (lo + 1) n
def qwM (s : Int × (Int × Int)) : List (Int × Int) := qm8 s.1 s.2.1 (s.2.2 + 1 - s.2.1).toNat
def qc8 : List (Int × (Int × Int)) → List (Int × Int)
  | [] => []
  | s :: l => qwM s ++ qc8 l
def qzb (l : List (Int × (Int × Int))) : Bool := Nat.ble l.length 1000000 && l.all fun s => decide (-9223372036854775808 ≤ s.2.1) && decide (s.2.2 < 9223372036854775807)
def qBt (y : Int × Int) : qk [T80] := (y, ())
theorem qCP (l : List (Int × Int)) : ((l.map qBt).map (tysA [T80])).length = l.length := by rw [List.length_map, List.length_map]
def quS (l : List (Int × (Int × Int))) : Option (List (qk [T80])) := cond (qzb l) (some ((qc8 l).map qBt)) none
def qkv (l : List (Int × (Int × Int))) (k : Nat) : Nat := (qc8 (l.take k)).length
theorem qwb (h : Int) : ∀ (n : Nat) (lo : Int), (qm8 h lo n).length = n
  | 0, _ => rfl
  | n + 1, lo => by simp [qm8, qwb h n]
theorem qBu (h : Int) : ∀ (n : Nat) (lo : Int) (j : Nat), j < n → (qm8 h lo n)[j]? = some (h, lo + j)
  | n + 1, lo, 0, _ => by simp [qm8]
  | n + 1, lo, j + 1, hj => by
    simp only [qm8, List.getElem?_cons_succ]
    rw [qBu h n (lo + 1) j (by omega)]
    congr 2
    omega
theorem qxO : ∀ (l m : List (Int × (Int × Int))), qc8 (l ++ m) = qc8 l ++ qc8 m
  | [], _ => rfl
  | s :: l, m => by simp [qc8, qxO l m]
theorem qFM (l : List (Int × (Int × Int))) (k : Nat) (hk : k < l.length) : qkv l (k + 1) = qkv l k + (l[k].2.2 + 1 - l[k].2.1).toNat := by
  unfold qkv
  rw [List.take_succ_eq_append_getElem hk, qxO]
  simp [qc8, qwM, qwb]
theorem qGH (l : List (Int × (Int × Int))) : qkv l l.length = (qc8 l).length := by unfold qkv; simp
theorem qHO (l : List (Int × (Int × Int))) (k : Nat) (hk : k < l.length) (j : Nat) (hj : j < (l[k].2.2 + 1 - l[k].2.1).toNat) : (qc8 l)[qkv l k + j]? = some (l[k].1, l[k].2.1 + j) := by
  have h1 : l = l.take k ++ l[k] :: l.drop (k + 1) := by simp
  have h2 : qc8 l = qc8 (l.take k) ++ (qwM l[k] ++ qc8 (l.drop (k + 1))) := by
    conv => lhs; rw [h1]
    rw [qxO]; rfl
  rw [h2, List.getElem?_append_right (by unfold qkv; omega), show qkv l k + j - (qc8 (l.take k)).length = j by unfold qkv; omega, List.getElem?_append_left (by unfold qwM; rw [qwb]; exact hj)]
  exact qBu _ _ _ _ hj
theorem qIr {a b : Int} (h : a = b) : [AV.int a] = [AV.int b] := by rw [h]
theorem qHP (x : qk [T30]) (l : List (qk [T80])) (h : quS x.1.2.2.2.2 = some l) : qAR Try.prog false 97 [] (qiI [T30] x) (l.map (tysA [T80])) := by
  obtain ⟨⟨ma, mb, mc, md, ss⟩, u⟩ := x
  change List (Int × (Int × Int)) at ss
  unfold quS at h
  cases hb : qzb ss with
  | false => simp only at h; rw [hb] at h; cases h
  | true =>
  simp only at h; rw [hb] at h
  injection h with h
  subst h
  unfold qzb at hb
  simp only [Bool.and_eq_true, Nat.ble_eq, List.all_eq_true, decide_eq_true_eq] at hb
  obtain ⟨hlen, hbd⟩ := hb
  refine ⟨enters_of Try.func97 (by kernel_rfl) rfl, fun lp T J Jx X hcJ hcx hone hy => ?_⟩
  have hyk : ∀ k (hk : k < ss.length) (j : Nat), j < (ss[k].2.2 + 1 - ss[k].2.1).toNat → qAQ Try.prog T lp [.agg [.int ss[k].1, .int (ss[k].2.1 + j)]] (J (qkv ss k + j)) (J (qkv ss k + j + 1)) Jx := fun k hk j hj => by
    have h1 := qHO ss k hk j hj
    have h2 := (List.getElem?_eq_some_iff.1 h1).1
    have h3 := hy (qkv ss k + j) (by rw [qCP]; exact h2)
    rw [List.getElem_map, List.getElem_map, (List.getElem?_eq_some_iff.1 h1).2] at h3
    exact h3
  have hY := Lib.hid hyk
  have hN := Lib.hid (qFM ss)
  have hN0 : qkv ss 0 = 0 := rfl
  have hNl : qkv ss ss.length = (((qc8 ss).map qBt).map (tysA [T80])).length := by rw [qGH, qCP]
  show MCT Try.prog T 97 [.val (.func (.yield lp) #[] #[]), .rp [.val (.int .i64 ma), .val (.int .i64 mb), .val (.int .i64 mc), .val (.int .i64 md), .sl 3 (ss.map fun s => [.val (.int .i64 s.1), .val (.int .i64 s.2.1), .val (.int .i64 s.2.2)])]] [.nodef, .ghost X (J 0)] fun _ H' => ∃ X', HE.ghost X' (J (((qc8 ss).map qBt).map (tysA [T80])).length) ∈ H' ∨ HE.ghost X' Jx ∈ H'
  rw [← hNl, ← hN0]
  clear hy hyk hNl
  generalize hrr : (ss.map fun s => [AV.val (.int .i64 s.1), AV.val (.int .i64 s.2.1), AV.val (.int .i64 s.2.2)]) = rr
  have hrl : rr.length = ss.length := by rw [← hrr]; simp
  have hra : ∀ k (hk : k < ss.length), rr[k]? = some [.int ss[k].1, .int ss[k].2.1, .int ss[k].2.2] := fun k hk => by rw [← hrr, List.getElem?_map, List.getElem?_eq_getElem hk]; rfl
  (refine MCT.of Try.func97 (by kernel_rfl) rfl (by simp only [Try.ntmps97, List.length_cons, List.length_nil, Nat.reduceAdd, Nat.reduceSub, List.replicate_succ, List.replicate_zero, List.cons_append, List.nil_append]; rfl) fun w0 S hM hT => ?_; have hF : Wf Fence.wide := .inl rfl)
  (repeat' (first | ((first | with_reducible refine AL.id_ ?_ | with_reducible refine AE.id_ ?_); first | refine AL.build0 hF rfl rfl rfl (fun b => ⟨_, (by simp only [AV.put]; rfl), ?_⟩) | refine W.s rfl rfl (by first | exact AY.bx rfl (by simp only [evO, AV.get]; rfl) rfl | exact AY.mkFn rfl (by simp only [List.map_cons, List.map_nil, evO, AV.get]; rfl) | exact AY.mkFn1 rfl (by simp only [evO, AV.get]; rfl) (by simp only [List.map_cons, List.map_nil, evO, AV.get]; rfl) | exact hEQ rfl rfl rfl | exact Step2.sound (by first | (((first | (apply Step2.a; constructor) | (apply Step2.b; constructor)) <;> first | infer_instance | skip) <;> (first | infer_instance | (refine w64c ?_; omega) | (refine qw5 ?_; omega) | (refine qub ?_; omega) | (refine quc ?_; omega) | (refine qw2 ?_; omega) | ((repeat (first | exact .head _ | refine .tail _ ?_)); done) | assumption | (simp only [List.drop_succ_cons, List.drop_zero, List.length_map, Nat.zero_add, Nat.mul_one]; rfl) | rfl | omega | (simp; done))) | fail) rfl | exact AY.call rfl rfl _ rfl (by fail) | exact AY.slice1 rfl rfl rfl (by rfl) (by first | (simp; done) | fail) | exact AY.callF rfl _ _ rfl _ rfl (by fail) | exact AY.old1k 0 rfl rfl rfl (by first | assumption | rfl) | exact AY.old1k 1 rfl rfl rfl (by first | assumption | rfl) | exact AY.old1k 2 rfl rfl rfl (by first | assumption | rfl) | exact AY.oldNk 0 rfl rfl rfl (by first | omega | (simp; omega)) (by first | assumption | rfl) | exact AY.oldNk 1 rfl rfl rfl (by first | omega | (simp; omega)) (by first | assumption | rfl)) (by simp only [AV.put]; rfl) ?_ | (refine AL.nilK (hK _ _ ?_); clear hK K) | (refine AE.nil (hK _ ?_); clear hK K) | refine W.k rfl rfl (by simp only [AV.put]; rfl) ?_ | refine AL.unguardS rfl rfl ?_ | refine AL.al hF rfl rfl rfl (by first | (simp only [Value.cells, List.map_cons, List.map_nil]; rfl) | rfl) (fun b => ⟨_, (by simp only [AV.put]; rfl), ?_⟩) | refine AL.st1 hF rfl rfl rfl rfl (by simp only [evO, AV.get]; rfl) (by first | exact qni | exact qnj | exact qnk | exact qnl | exact qnm | exact qnn | exact qno | exact qnp) (by rfl) rfl (by rfl) (by first | (simp; done) | (simp; omega) | omega) (by simp only [List.set]; rfl) ?_ | refine AL.stW hF rfl rfl rfl rfl (by simp only [evO, AV.get]; rfl) (by first | exact qni | exact qnj | exact qnk | exact qnl | exact qnm | exact qnn | exact qno | exact qnp) (by rfl) (by rfl) (by rfl) (by first | rfl | simp) (by simp only [List.set]; rfl) ?_) | (with_reducible refine Awp.id_ ?_; first | refine Awp.seq ?_ | refine Awp.regionK (by first | (simp only [AV.putO, AV.put]; rfl) | rfl) (fun K hK => ?_) | refine Awp.drawE (by first | (simp only [AV.putO, AV.put]; rfl) | rfl) mixed rfl (by kernel_rfl) (fun K hK => ?_) | refine Awp.block ?_ | refine Awp.skip ?_ | refine Awp.exit ?_ | refine Awp.ret ?_ | refine Awp.condT rfl ?_ | refine Awp.condF rfl ?_) | refine qrS ?_ | refine qrT ?_ | refine qrU ?_ | refine qmh ?_ | refine qmi ?_ | refine qmj ?_ | refine qmk rfl ?_ | ((first | ((first | with_reducible refine AL.id_ ?_ | with_reducible refine AE.id_ ?_); (fail_if_success refine W.on rfl ?_); refine W.p rfl rfl (by simp only [AV.put]; rfl) (by simp only [AV.put]; rfl) (fun hb => ?_) (fun hb => ?_)) | (with_reducible refine Awp.id_ ?_; refine Awp.cond _ rfl (fun hb => ?_) (fun hb => ?_))) <;> (try simp only [z1, z2, z3, z4, z5, z6, z7, z8, y5, y6, y7, y8, z9, x1, x2, x3, x4, x5, x6, x7, x8] at hb; try (exfalso; omega)))))
  refine Awp.loopM [4, 5, 10, 11, 12, 13, 14, 15, 16, 17, 18, 19, 20, 21, 22, 23, 24, 25, 26, 27, 28, 29, 30] [9] (fun n vs H => ∃ (k : Nat) (X' : Nat → Prop), n + k = ss.length ∧ vs = [.int k] ∧ H = [.nodef, .ghost X' (J (qkv ss k))]) ss.length ⟨0, X, rfl, rfl, rfl⟩ ?_
  rintro n ju vs H ⟨k, X', hk, rfl, rfl⟩
  (refine Awp.slots (by first | (simp only [putl, mask, AV.put]; rfl) | rfl) ?_)
  by_cases hlt : k < ss.length
  · have hrow := hra k hlt
    have hYk := Lib.hid (hY.out k hlt)
    have hNk := hN.out k hlt
    obtain ⟨hb1, hb2⟩ := hbd _ (List.getElem_mem hlt)
    generalize ss[k].1 = hu at *
    generalize ss[k].2.1 = lo at *
    generalize ss[k].2.2 = hi at *
    (repeat' (first | ((first | with_reducible refine AL.id_ ?_ | with_reducible refine AE.id_ ?_); first | refine AL.build0 hF rfl rfl rfl (fun b => ⟨_, (by simp only [AV.put]; rfl), ?_⟩) | refine W.s rfl rfl (by first | exact AY.bx rfl (by simp only [evO, AV.get]; rfl) rfl | exact AY.mkFn rfl (by simp only [List.map_cons, List.map_nil, evO, AV.get]; rfl) | exact AY.mkFn1 rfl (by simp only [evO, AV.get]; rfl) (by simp only [List.map_cons, List.map_nil, evO, AV.get]; rfl) | exact hEQ rfl rfl rfl | exact Step2.sound (by first | (((first | (apply Step2.a; constructor) | (apply Step2.b; constructor)) <;> first | infer_instance | skip) <;> (first | infer_instance | (refine w64c ?_; omega) | (refine qw5 ?_; omega) | (refine qub ?_; omega) | (refine quc ?_; omega) | (refine qw2 ?_; omega) | ((repeat (first | exact .head _ | refine .tail _ ?_)); done) | assumption | (simp only [List.drop_succ_cons, List.drop_zero, List.length_map, Nat.zero_add, Nat.mul_one]; rfl) | rfl | omega | (simp; done))) | fail) rfl | exact AY.call rfl rfl _ rfl (by fail) | exact AY.slice1 rfl rfl rfl (by rfl) (by first | (simp; done) | fail) | exact AY.callF rfl _ _ rfl _ rfl (by fail) | exact AY.old1k 0 rfl rfl rfl (by first | assumption | rfl) | exact AY.old1k 1 rfl rfl rfl (by first | assumption | rfl) | exact AY.old1k 2 rfl rfl rfl (by first | assumption | rfl) | exact AY.oldNk 0 rfl rfl rfl (by first | omega | (simp; omega)) (by first | assumption | rfl) | exact AY.oldNk 1 rfl rfl rfl (by first | omega | (simp; omega)) (by first | assumption | rfl)) (by simp only [AV.put]; rfl) ?_ | (refine AL.nilK (hK _ _ ?_); clear hK K) | (refine AE.nil (hK _ ?_); clear hK K) | refine W.k rfl rfl (by simp only [AV.put]; rfl) ?_ | refine AL.unguardS rfl rfl ?_ | refine AL.al hF rfl rfl rfl (by first | (simp only [Value.cells, List.map_cons, List.map_nil]; rfl) | rfl) (fun b => ⟨_, (by simp only [AV.put]; rfl), ?_⟩) | refine AL.st1 hF rfl rfl rfl rfl (by simp only [evO, AV.get]; rfl) (by first | exact qni | exact qnj | exact qnk | exact qnl | exact qnm | exact qnn | exact qno | exact qnp) (by rfl) rfl (by rfl) (by first | (simp; done) | (simp; omega) | omega) (by simp only [List.set]; rfl) ?_ | refine AL.stW hF rfl rfl rfl rfl (by simp only [evO, AV.get]; rfl) (by first | exact qni | exact qnj | exact qnk | exact qnl | exact qnm | exact qnn | exact qno | exact qnp) (by rfl) (by rfl) (by rfl) (by first | rfl | simp) (by simp only [List.set]; rfl) ?_) | (with_reducible refine Awp.id_ ?_; first | refine Awp.seq ?_ | refine Awp.regionK (by first | (simp only [AV.putO, AV.put]; rfl) | rfl) (fun K hK => ?_) | refine Awp.drawE (by first | (simp only [AV.putO, AV.put]; rfl) | rfl) mixed rfl (by kernel_rfl) (fun K hK => ?_) | refine Awp.block ?_ | refine Awp.skip ?_ | refine Awp.exit ?_ | refine Awp.ret ?_ | refine Awp.condT rfl ?_ | refine Awp.condF rfl ?_) | refine qrS ?_ | refine qrT ?_ | refine qrU ?_ | refine qmh ?_ | refine qmi ?_ | refine qmj ?_ | refine qmk rfl ?_ | ((first | ((first | with_reducible refine AL.id_ ?_ | with_reducible refine AE.id_ ?_); (fail_if_success refine W.on rfl ?_); refine W.p rfl rfl (by simp only [AV.put]; rfl) (by simp only [AV.put]; rfl) (fun hb => ?_) (fun hb => ?_)) | (with_reducible refine Awp.id_ ?_; refine Awp.cond _ rfl (fun hb => ?_) (fun hb => ?_))) <;> (try simp only [z1, z2, z3, z4, z5, z6, z7, z8, y5, y6, y7, y8, z9, x1, x2, x3, x4, x5, x6, x7, x8] at hb; try (exfalso; omega)))))
    refine Awp.loopM [16, 17, 18, 19, 20, 21, 22, 23, 24, 25, 26, 27, 28, 29] [5] (fun n vs H => ∃ (j : Nat) (X3 : Nat → Prop), n + j = (hi + 1 - lo).toNat ∧ vs = [.int (lo + j)] ∧ H = [.blk b 77 [.int hu, .int lo, .int hi], .nodef, .ghost X3 (J (qkv ss k + j))]) (hi + 1 - lo).toNat ⟨0, X', by omega, by simp; rfl, rfl⟩ ?_
    rintro n1 ju1 vs1 H1 ⟨j, X3, hj, rfl, rfl⟩
    (refine Awp.slots (by first | (simp only [putl, mask, AV.put]; rfl) | rfl) ?_)
    by_cases hlt2 : j < (hi + 1 - lo).toNat
    · have hle : lo + j ≤ hi := by omega
      have hye := hYk.out j hlt2
      (repeat' (first | ((first | with_reducible refine AL.id_ ?_ | with_reducible refine AE.id_ ?_); first | refine AL.build0 hF rfl rfl rfl (fun b => ⟨_, (by simp only [AV.put]; rfl), ?_⟩) | refine W.s rfl rfl (by first | exact AY.bx rfl (by simp only [evO, AV.get]; rfl) rfl | exact AY.mkFn rfl (by simp only [List.map_cons, List.map_nil, evO, AV.get]; rfl) | exact AY.mkFn1 rfl (by simp only [evO, AV.get]; rfl) (by simp only [List.map_cons, List.map_nil, evO, AV.get]; rfl) | exact AY.build rfl (by simp only [List.map_cons, List.map_nil, evO, AV.get]; rfl) (by simp only [List.map_cons, List.map_nil]; repeat (first | exact Places.nil | apply Places.cons)) (by first | (simp only [zip3, qdE, qft, qbP, qp, qh1, List.map_cons, List.map_nil, List.length_cons, List.length_nil, List.take_succ_cons, List.take_zero, List.drop_succ_cons, List.drop_zero, List.replicate_succ, List.replicate_zero, List.cons_append, List.nil_append, List.append_nil, List.drop_nil, List.take_nil, List.toList_toArray, Nat.sub_zero, Nat.reduceSub, Nat.reduceAdd, Nat.reduceMul, Nat.zero_mul, Nat.one_mul, Nat.mul_one, Nat.zero_add, Nat.le_refl, Nat.reduceLeDiff, and_self, true_and, and_true, if_true]; rfl) | rfl) | exact AY.buildS rfl (by simp only [List.map_cons, List.map_nil, evO, AV.get]; rfl) (by first | rfl | decide) (by omega) (by first | (simp only [zip3, qdE, qft, qbP, qp, qh1, List.map_cons, List.map_nil, List.length_cons, List.length_nil, List.take_succ_cons, List.take_zero, List.drop_succ_cons, List.drop_zero, List.replicate_succ, List.replicate_zero, List.cons_append, List.nil_append, List.append_nil, List.drop_nil, List.take_nil, List.toList_toArray, Nat.sub_zero, Nat.reduceSub, Nat.reduceAdd, Nat.reduceMul, Nat.zero_mul, Nat.one_mul, Nat.mul_one, Nat.zero_add, Nat.le_refl, Nat.reduceLeDiff, and_self, true_and, and_true, if_true]; rfl) | rfl) (by first | (simp only [zip3, qdE, qft, qbP, qp, qh1, List.map_cons, List.map_nil, List.length_cons, List.length_nil, List.take_succ_cons, List.take_zero, List.drop_succ_cons, List.drop_zero, List.replicate_succ, List.replicate_zero, List.cons_append, List.nil_append, List.append_nil, List.drop_nil, List.take_nil, List.toList_toArray, Nat.sub_zero, Nat.reduceSub, Nat.reduceAdd, Nat.reduceMul, Nat.zero_mul, Nat.one_mul, Nat.mul_one, Nat.zero_add, Nat.le_refl, Nat.reduceLeDiff, and_self, true_and, and_true, if_true]; rfl) | rfl) | exact hEQ rfl rfl rfl | exact Step2.sound (by first | (((first | (apply Step2.a; constructor) | (apply Step2.b; constructor)) <;> first | infer_instance | skip) <;> (first | infer_instance | (refine w64c ?_; omega) | (refine qw5 ?_; omega) | (refine qub ?_; omega) | (refine quc ?_; omega) | (refine qw2 ?_; omega) | ((repeat (first | exact .head _ | refine .tail _ ?_)); done) | assumption | (simp only [List.drop_succ_cons, List.drop_zero, List.length_map, Nat.zero_add, Nat.mul_one]; rfl) | rfl | omega | (simp; done))) | fail) rfl | exact AY.call rfl rfl _ rfl (by fail) | exact AY.slice1 rfl rfl rfl (by rfl) (by first | (simp; done) | fail) | exact AY.callF rfl _ _ rfl _ rfl (by fail) | exact AY.old1k 0 rfl rfl rfl (by first | assumption | rfl) | exact AY.old1k 1 rfl rfl rfl (by first | assumption | rfl) | exact AY.old1k 2 rfl rfl rfl (by first | assumption | rfl) | exact AY.oldNk 0 rfl rfl rfl (by first | omega | (simp; omega)) (by first | assumption | rfl) | exact AY.oldNk 1 rfl rfl rfl (by first | omega | (simp; omega)) (by first | assumption | rfl)) (by simp only [AV.put]; rfl) ?_ | (refine AL.nilK (hK _ _ ?_); clear hK K) | (refine AE.nil (hK _ ?_); clear hK K) | refine W.k rfl rfl (by simp only [AV.put]; rfl) ?_ | refine AL.unguardS rfl rfl ?_ | refine AL.al hF rfl rfl rfl (by first | (simp only [Value.cells, List.map_cons, List.map_nil]; rfl) | rfl) (fun b => ⟨_, (by simp only [AV.put]; rfl), ?_⟩) | refine AL.st1 hF rfl rfl rfl rfl (by simp only [evO, AV.get]; rfl) (by first | exact qni | exact qnj | exact qnk | exact qnl | exact qnm | exact qnn | exact qno | exact qnp) (by rfl) rfl (by rfl) (by first | (simp; done) | (simp; omega) | omega) (by simp only [List.set]; rfl) ?_ | refine AL.stW hF rfl rfl rfl rfl (by simp only [evO, AV.get]; rfl) (by first | exact qni | exact qnj | exact qnk | exact qnl | exact qnm | exact qnn | exact qno | exact qnp) (by rfl) (by rfl) (by rfl) (by first | rfl | simp) (by simp only [List.set]; rfl) ?_) | (with_reducible refine Awp.id_ ?_; first | refine Awp.seq ?_ | refine Awp.regionK (by first | (simp only [AV.putO, AV.put]; rfl) | rfl) (fun K hK => ?_) | refine Awp.drawE (by first | (simp only [AV.putO, AV.put]; rfl) | rfl) mixed rfl (by kernel_rfl) (fun K hK => ?_) | refine Awp.block ?_ | refine Awp.skip ?_ | refine Awp.exit ?_ | refine Awp.ret ?_ | refine Awp.condT rfl ?_ | refine Awp.condF rfl ?_) | refine qrS ?_ | refine qrT ?_ | refine qrU ?_ | refine qmh ?_ | refine qmi ?_ | refine qmj ?_ | refine qmk rfl ?_ | ((first | ((first | with_reducible refine AL.id_ ?_ | with_reducible refine AE.id_ ?_); (fail_if_success refine W.on rfl ?_); refine W.p rfl rfl (by simp only [AV.put]; rfl) (by simp only [AV.put]; rfl) (fun hb => ?_) (fun hb => ?_)) | (with_reducible refine Awp.id_ ?_; refine Awp.cond _ rfl (fun hb => ?_) (fun hb => ?_))) <;> (try simp only [z1, z2, z3, z4, z5, z6, z7, z8, y5, y6, y7, y8, z9, x1, x2, x3, x4, x5, x6, x7, x8] at hb; try (exfalso; omega)))))
      have hgho : ∀ i e, ([HE.blk b 77 [.int hu, .int lo, .int hi], .nodef, .ghost X3 (J (qkv ss k + j))])[i]? = some e → e.isGhost → i = 2 := fun i e h1 h2 => by
        match i, h1 with
        | 0, h1 => cases h1; exact h2.elim
        | 1, h1 => cases h1; exact h2.elim
        | 2, _ => rfl
      refine AL.yield 2 rfl rfl rfl rfl _ rfl rfl hgho (by simp) (fun b hA => hT b fun h => (hA.1 h).1) hye (hcJ _) hcx (fun X4 => ?_) (fun X4 => ?_)
      · refine AL.norm (by simp only [AV.put]; rfl) rfl ?_
        (repeat' (first | ((first | with_reducible refine AL.id_ ?_ | with_reducible refine AE.id_ ?_); first | refine AL.build0 hF rfl rfl rfl (fun b => ⟨_, (by simp only [AV.put]; rfl), ?_⟩) | refine W.s rfl rfl (by first | exact AY.bx rfl (by simp only [evO, AV.get]; rfl) rfl | exact AY.mkFn rfl (by simp only [List.map_cons, List.map_nil, evO, AV.get]; rfl) | exact AY.mkFn1 rfl (by simp only [evO, AV.get]; rfl) (by simp only [List.map_cons, List.map_nil, evO, AV.get]; rfl) | exact AY.build rfl (by simp only [List.map_cons, List.map_nil, evO, AV.get]; rfl) (by simp only [List.map_cons, List.map_nil]; repeat (first | exact Places.nil | apply Places.cons)) (by first | (simp only [zip3, qdE, qft, qbP, qp, qh1, List.map_cons, List.map_nil, List.length_cons, List.length_nil, List.take_succ_cons, List.take_zero, List.drop_succ_cons, List.drop_zero, List.replicate_succ, List.replicate_zero, List.cons_append, List.nil_append, List.append_nil, List.drop_nil, List.take_nil, List.toList_toArray, Nat.sub_zero, Nat.reduceSub, Nat.reduceAdd, Nat.reduceMul, Nat.zero_mul, Nat.one_mul, Nat.mul_one, Nat.zero_add, Nat.le_refl, Nat.reduceLeDiff, and_self, true_and, and_true, if_true]; rfl) | rfl) | exact AY.buildS rfl (by simp only [List.map_cons, List.map_nil, evO, AV.get]; rfl) (by first | rfl | decide) (by omega) (by first | (simp only [zip3, qdE, qft, qbP, qp, qh1, List.map_cons, List.map_nil, List.length_cons, List.length_nil, List.take_succ_cons, List.take_zero, List.drop_succ_cons, List.drop_zero, List.replicate_succ, List.replicate_zero, List.cons_append, List.nil_append, List.append_nil, List.drop_nil, List.take_nil, List.toList_toArray, Nat.sub_zero, Nat.reduceSub, Nat.reduceAdd, Nat.reduceMul, Nat.zero_mul, Nat.one_mul, Nat.mul_one, Nat.zero_add, Nat.le_refl, Nat.reduceLeDiff, and_self, true_and, and_true, if_true]; rfl) | rfl) (by first | (simp only [zip3, qdE, qft, qbP, qp, qh1, List.map_cons, List.map_nil, List.length_cons, List.length_nil, List.take_succ_cons, List.take_zero, List.drop_succ_cons, List.drop_zero, List.replicate_succ, List.replicate_zero, List.cons_append, List.nil_append, List.append_nil, List.drop_nil, List.take_nil, List.toList_toArray, Nat.sub_zero, Nat.reduceSub, Nat.reduceAdd, Nat.reduceMul, Nat.zero_mul, Nat.one_mul, Nat.mul_one, Nat.zero_add, Nat.le_refl, Nat.reduceLeDiff, and_self, true_and, and_true, if_true]; rfl) | rfl) | exact hEQ rfl rfl rfl | exact Step2.sound (by first | (((first | (apply Step2.a; constructor) | (apply Step2.b; constructor)) <;> first | infer_instance | skip) <;> (first | infer_instance | (refine w64c ?_; omega) | (refine qw5 ?_; omega) | (refine qub ?_; omega) | (refine quc ?_; omega) | (refine qw2 ?_; omega) | ((repeat (first | exact .head _ | refine .tail _ ?_)); done) | assumption | (simp only [List.drop_succ_cons, List.drop_zero, List.length_map, Nat.zero_add, Nat.mul_one]; rfl) | rfl | omega | (simp; done))) | fail) rfl | exact AY.call rfl rfl _ rfl (by fail) | exact AY.slice1 rfl rfl rfl (by rfl) (by first | (simp; done) | fail) | exact AY.callF rfl _ _ rfl _ rfl (by fail) | exact AY.old1k 0 rfl rfl rfl (by first | assumption | rfl) | exact AY.old1k 1 rfl rfl rfl (by first | assumption | rfl) | exact AY.old1k 2 rfl rfl rfl (by first | assumption | rfl) | exact AY.oldNk 0 rfl rfl rfl (by first | omega | (simp; omega)) (by first | assumption | rfl) | exact AY.oldNk 1 rfl rfl rfl (by first | omega | (simp; omega)) (by first | assumption | rfl)) (by simp only [AV.put]; rfl) ?_ | (refine AL.nilK (hK _ _ ?_); clear hK K) | (refine AE.nil (hK _ ?_); clear hK K) | refine W.k rfl rfl (by simp only [AV.put]; rfl) ?_ | refine AL.unguardS rfl rfl ?_ | refine AL.al hF rfl rfl rfl (by first | (simp only [Value.cells, List.map_cons, List.map_nil]; rfl) | rfl) (fun b => ⟨_, (by simp only [AV.put]; rfl), ?_⟩) | refine AL.st1 hF rfl rfl rfl rfl (by simp only [evO, AV.get]; rfl) (by first | exact qni | exact qnj | exact qnk | exact qnl | exact qnm | exact qnn | exact qno | exact qnp) (by rfl) rfl (by rfl) (by first | (simp; done) | (simp; omega) | omega) (by simp only [List.set]; rfl) ?_ | refine AL.stW hF rfl rfl rfl rfl (by simp only [evO, AV.get]; rfl) (by first | exact qni | exact qnj | exact qnk | exact qnl | exact qnm | exact qnn | exact qno | exact qnp) (by rfl) (by rfl) (by rfl) (by first | rfl | simp) (by simp only [List.set]; rfl) ?_) | (with_reducible refine Awp.id_ ?_; first | refine Awp.seq ?_ | refine Awp.regionK (by first | (simp only [AV.putO, AV.put]; rfl) | rfl) (fun K hK => ?_) | refine Awp.drawE (by first | (simp only [AV.putO, AV.put]; rfl) | rfl) mixed rfl (by kernel_rfl) (fun K hK => ?_) | refine Awp.block ?_ | refine Awp.skip ?_ | refine Awp.exit ?_ | refine Awp.ret ?_ | refine Awp.condT rfl ?_ | refine Awp.condF rfl ?_) | refine qrS ?_ | refine qrT ?_ | refine qrU ?_ | refine qmh ?_ | refine qmi ?_ | refine qmj ?_ | refine qmk rfl ?_ | ((first | ((first | with_reducible refine AL.id_ ?_ | with_reducible refine AE.id_ ?_); (fail_if_success refine W.on rfl ?_); refine W.p rfl rfl (by simp only [AV.put]; rfl) (by simp only [AV.put]; rfl) (fun hb => ?_) (fun hb => ?_)) | (with_reducible refine Awp.id_ ?_; refine Awp.cond _ rfl (fun hb => ?_) (fun hb => ?_))) <;> (try simp only [z1, z2, z3, z4, z5, z6, z7, z8, y5, y6, y7, y8, z9, x1, x2, x3, x4, x5, x6, x7, x8] at hb; try (exfalso; omega)))))
        (refine qIw (n1 - 1) (by first | (simp only [AV.putO, AV.put]; rfl) | rfl) (by omega) ?_ (by simp only [List.map, AV.get, mask, putl, AV.put]))
        exact ⟨j + 1, X4, by omega, qIr (by omega), rfl⟩
      · refine AL.norm (by simp only [AV.put]; rfl) rfl ?_
        (repeat' (first | ((first | with_reducible refine AL.id_ ?_ | with_reducible refine AE.id_ ?_); first | refine AL.build0 hF rfl rfl rfl (fun b => ⟨_, (by simp only [AV.put]; rfl), ?_⟩) | refine W.s rfl rfl (by first | exact AY.bx rfl (by simp only [evO, AV.get]; rfl) rfl | exact AY.mkFn rfl (by simp only [List.map_cons, List.map_nil, evO, AV.get]; rfl) | exact AY.mkFn1 rfl (by simp only [evO, AV.get]; rfl) (by simp only [List.map_cons, List.map_nil, evO, AV.get]; rfl) | exact AY.build rfl (by simp only [List.map_cons, List.map_nil, evO, AV.get]; rfl) (by simp only [List.map_cons, List.map_nil]; repeat (first | exact Places.nil | apply Places.cons)) (by first | (simp only [zip3, qdE, qft, qbP, qp, qh1, List.map_cons, List.map_nil, List.length_cons, List.length_nil, List.take_succ_cons, List.take_zero, List.drop_succ_cons, List.drop_zero, List.replicate_succ, List.replicate_zero, List.cons_append, List.nil_append, List.append_nil, List.drop_nil, List.take_nil, List.toList_toArray, Nat.sub_zero, Nat.reduceSub, Nat.reduceAdd, Nat.reduceMul, Nat.zero_mul, Nat.one_mul, Nat.mul_one, Nat.zero_add, Nat.le_refl, Nat.reduceLeDiff, and_self, true_and, and_true, if_true]; rfl) | rfl) | exact AY.buildS rfl (by simp only [List.map_cons, List.map_nil, evO, AV.get]; rfl) (by first | rfl | decide) (by omega) (by first | (simp only [zip3, qdE, qft, qbP, qp, qh1, List.map_cons, List.map_nil, List.length_cons, List.length_nil, List.take_succ_cons, List.take_zero, List.drop_succ_cons, List.drop_zero, List.replicate_succ, List.replicate_zero, List.cons_append, List.nil_append, List.append_nil, List.drop_nil, List.take_nil, List.toList_toArray, Nat.sub_zero, Nat.reduceSub, Nat.reduceAdd, Nat.reduceMul, Nat.zero_mul, Nat.one_mul, Nat.mul_one, Nat.zero_add, Nat.le_refl, Nat.reduceLeDiff, and_self, true_and, and_true, if_true]; rfl) | rfl) (by first | (simp only [zip3, qdE, qft, qbP, qp, qh1, List.map_cons, List.map_nil, List.length_cons, List.length_nil, List.take_succ_cons, List.take_zero, List.drop_succ_cons, List.drop_zero, List.replicate_succ, List.replicate_zero, List.cons_append, List.nil_append, List.append_nil, List.drop_nil, List.take_nil, List.toList_toArray, Nat.sub_zero, Nat.reduceSub, Nat.reduceAdd, Nat.reduceMul, Nat.zero_mul, Nat.one_mul, Nat.mul_one, Nat.zero_add, Nat.le_refl, Nat.reduceLeDiff, and_self, true_and, and_true, if_true]; rfl) | rfl) | exact hEQ rfl rfl rfl | exact Step2.sound (by first | (((first | (apply Step2.a; constructor) | (apply Step2.b; constructor)) <;> first | infer_instance | skip) <;> (first | infer_instance | (refine w64c ?_; omega) | (refine qw5 ?_; omega) | (refine qub ?_; omega) | (refine quc ?_; omega) | (refine qw2 ?_; omega) | ((repeat (first | exact .head _ | refine .tail _ ?_)); done) | assumption | (simp only [List.drop_succ_cons, List.drop_zero, List.length_map, Nat.zero_add, Nat.mul_one]; rfl) | rfl | omega | (simp; done))) | fail) rfl | exact AY.call rfl rfl _ rfl (by fail) | exact AY.slice1 rfl rfl rfl (by rfl) (by first | (simp; done) | fail) | exact AY.callF rfl _ _ rfl _ rfl (by fail) | exact AY.old1k 0 rfl rfl rfl (by first | assumption | rfl) | exact AY.old1k 1 rfl rfl rfl (by first | assumption | rfl) | exact AY.old1k 2 rfl rfl rfl (by first | assumption | rfl) | exact AY.oldNk 0 rfl rfl rfl (by first | omega | (simp; omega)) (by first | assumption | rfl) | exact AY.oldNk 1 rfl rfl rfl (by first | omega | (simp; omega)) (by first | assumption | rfl)) (by simp only [AV.put]; rfl) ?_ | (refine AL.nilK (hK _ _ ?_); clear hK K) | (refine AE.nil (hK _ ?_); clear hK K) | refine W.k rfl rfl (by simp only [AV.put]; rfl) ?_ | refine AL.unguardS rfl rfl ?_ | refine AL.al hF rfl rfl rfl (by first | (simp only [Value.cells, List.map_cons, List.map_nil]; rfl) | rfl) (fun b => ⟨_, (by simp only [AV.put]; rfl), ?_⟩) | refine AL.st1 hF rfl rfl rfl rfl (by simp only [evO, AV.get]; rfl) (by first | exact qni | exact qnj | exact qnk | exact qnl | exact qnm | exact qnn | exact qno | exact qnp) (by rfl) rfl (by rfl) (by first | (simp; done) | (simp; omega) | omega) (by simp only [List.set]; rfl) ?_ | refine AL.stW hF rfl rfl rfl rfl (by simp only [evO, AV.get]; rfl) (by first | exact qni | exact qnj | exact qnk | exact qnl | exact qnm | exact qnn | exact qno | exact qnp) (by rfl) (by rfl) (by rfl) (by first | rfl | simp) (by simp only [List.set]; rfl) ?_) | (with_reducible refine Awp.id_ ?_; first | refine Awp.seq ?_ | refine Awp.regionK (by first | (simp only [AV.putO, AV.put]; rfl) | rfl) (fun K hK => ?_) | refine Awp.drawE (by first | (simp only [AV.putO, AV.put]; rfl) | rfl) mixed rfl (by kernel_rfl) (fun K hK => ?_) | refine Awp.block ?_ | refine Awp.skip ?_ | refine Awp.exit ?_ | refine Awp.ret ?_ | refine Awp.condT rfl ?_ | refine Awp.condF rfl ?_) | refine qrS ?_ | refine qrT ?_ | refine qrU ?_ | refine qmh ?_ | refine qmi ?_ | refine qmj ?_ | refine qmk rfl ?_ | ((first | ((first | with_reducible refine AL.id_ ?_ | with_reducible refine AE.id_ ?_); (fail_if_success refine W.on rfl ?_); refine W.p rfl rfl (by simp only [AV.put]; rfl) (by simp only [AV.put]; rfl) (fun hb => ?_) (fun hb => ?_)) | (with_reducible refine Awp.id_ ?_; refine Awp.cond _ rfl (fun hb => ?_) (fun hb => ?_))) <;> (try simp only [z1, z2, z3, z4, z5, z6, z7, z8, y5, y6, y7, y8, z9, x1, x2, x3, x4, x5, x6, x7, x8] at hb; try (exfalso; omega)))))
        exact qF1 rfl ⟨X4, .inr (List.mem_of_getElem? (i := 2) rfl)⟩
    · have hle : ¬ (lo + j ≤ hi) := by omega
      (repeat' (first | ((first | with_reducible refine AL.id_ ?_ | with_reducible refine AE.id_ ?_); first | refine AL.build0 hF rfl rfl rfl (fun b => ⟨_, (by simp only [AV.put]; rfl), ?_⟩) | refine W.s rfl rfl (by first | exact AY.bx rfl (by simp only [evO, AV.get]; rfl) rfl | exact AY.mkFn rfl (by simp only [List.map_cons, List.map_nil, evO, AV.get]; rfl) | exact AY.mkFn1 rfl (by simp only [evO, AV.get]; rfl) (by simp only [List.map_cons, List.map_nil, evO, AV.get]; rfl) | exact hEQ rfl rfl rfl | exact Step2.sound (by first | (((first | (apply Step2.a; constructor) | (apply Step2.b; constructor)) <;> first | infer_instance | skip) <;> (first | infer_instance | (refine w64c ?_; omega) | (refine qw5 ?_; omega) | (refine qub ?_; omega) | (refine quc ?_; omega) | (refine qw2 ?_; omega) | ((repeat (first | exact .head _ | refine .tail _ ?_)); done) | assumption | (simp only [List.drop_succ_cons, List.drop_zero, List.length_map, Nat.zero_add, Nat.mul_one]; rfl) | rfl | omega | (simp; done))) | fail) rfl | exact AY.call rfl rfl _ rfl (by fail) | exact AY.slice1 rfl rfl rfl (by rfl) (by first | (simp; done) | fail) | exact AY.callF rfl _ _ rfl _ rfl (by fail) | exact AY.old1k 0 rfl rfl rfl (by first | assumption | rfl) | exact AY.old1k 1 rfl rfl rfl (by first | assumption | rfl) | exact AY.old1k 2 rfl rfl rfl (by first | assumption | rfl) | exact AY.oldNk 0 rfl rfl rfl (by first | omega | (simp; omega)) (by first | assumption | rfl) | exact AY.oldNk 1 rfl rfl rfl (by first | omega | (simp; omega)) (by first | assumption | rfl)) (by simp only [AV.put]; rfl) ?_ | (refine AL.nilK (hK _ _ ?_); clear hK K) | (refine AE.nil (hK _ ?_); clear hK K) | refine W.k rfl rfl (by simp only [AV.put]; rfl) ?_ | refine AL.unguardS rfl rfl ?_ | refine AL.al hF rfl rfl rfl (by first | (simp only [Value.cells, List.map_cons, List.map_nil]; rfl) | rfl) (fun b => ⟨_, (by simp only [AV.put]; rfl), ?_⟩) | refine AL.st1 hF rfl rfl rfl rfl (by simp only [evO, AV.get]; rfl) (by first | exact qni | exact qnj | exact qnk | exact qnl | exact qnm | exact qnn | exact qno | exact qnp) (by rfl) rfl (by rfl) (by first | (simp; done) | (simp; omega) | omega) (by simp only [List.set]; rfl) ?_ | refine AL.stW hF rfl rfl rfl rfl (by simp only [evO, AV.get]; rfl) (by first | exact qni | exact qnj | exact qnk | exact qnl | exact qnm | exact qnn | exact qno | exact qnp) (by rfl) (by rfl) (by rfl) (by first | rfl | simp) (by simp only [List.set]; rfl) ?_) | (with_reducible refine Awp.id_ ?_; first | refine Awp.seq ?_ | refine Awp.regionK (by first | (simp only [AV.putO, AV.put]; rfl) | rfl) (fun K hK => ?_) | refine Awp.drawE (by first | (simp only [AV.putO, AV.put]; rfl) | rfl) mixed rfl (by kernel_rfl) (fun K hK => ?_) | refine Awp.block ?_ | refine Awp.skip ?_ | refine Awp.exit ?_ | refine Awp.ret ?_ | refine Awp.condT rfl ?_ | refine Awp.condF rfl ?_) | refine qrS ?_ | refine qrT ?_ | refine qrU ?_ | refine qmh ?_ | refine qmi ?_ | refine qmj ?_ | refine qmk rfl ?_ | ((first | ((first | with_reducible refine AL.id_ ?_ | with_reducible refine AE.id_ ?_); (fail_if_success refine W.on rfl ?_); refine W.p rfl rfl (by simp only [AV.put]; rfl) (by simp only [AV.put]; rfl) (fun hb => ?_) (fun hb => ?_)) | (with_reducible refine Awp.id_ ?_; refine Awp.cond _ rfl (fun hb => ?_) (fun hb => ?_))) <;> (try simp only [z1, z2, z3, z4, z5, z6, z7, z8, y5, y6, y7, y8, z9, x1, x2, x3, x4, x5, x6, x7, x8] at hb; try (exfalso; omega)))))
      (refine qG1 (n - 1) (List.sublist_cons_self _ _) (by first | (simp only [AV.putO, AV.put]; rfl) | rfl) (by omega) ?_ (by simp only [List.map, AV.get, mask, putl, AV.put]))
      exact ⟨k + 1, X3, by omega, qIr (by omega), by rw [hNk, show (hi + 1 - lo).toNat = j by omega]⟩
  · (repeat' (first | ((first | with_reducible refine AL.id_ ?_ | with_reducible refine AE.id_ ?_); first | refine AL.build0 hF rfl rfl rfl (fun b => ⟨_, (by simp only [AV.put]; rfl), ?_⟩) | refine W.s rfl rfl (by first | exact AY.bx rfl (by simp only [evO, AV.get]; rfl) rfl | exact AY.mkFn rfl (by simp only [List.map_cons, List.map_nil, evO, AV.get]; rfl) | exact AY.mkFn1 rfl (by simp only [evO, AV.get]; rfl) (by simp only [List.map_cons, List.map_nil, evO, AV.get]; rfl) | exact hEQ rfl rfl rfl | exact Step2.sound (by first | (((first | (apply Step2.a; constructor) | (apply Step2.b; constructor)) <;> first | infer_instance | skip) <;> (first | infer_instance | (refine w64c ?_; omega) | (refine qw5 ?_; omega) | (refine qub ?_; omega) | (refine quc ?_; omega) | (refine qw2 ?_; omega) | ((repeat (first | exact .head _ | refine .tail _ ?_)); done) | assumption | (simp only [List.drop_succ_cons, List.drop_zero, List.length_map, Nat.zero_add, Nat.mul_one]; rfl) | rfl | omega | (simp; done))) | fail) rfl | exact AY.call rfl rfl _ rfl (by fail) | exact AY.slice1 rfl rfl rfl (by rfl) (by first | (simp; done) | fail) | exact AY.callF rfl _ _ rfl _ rfl (by fail) | exact AY.old1k 0 rfl rfl rfl (by first | assumption | rfl) | exact AY.old1k 1 rfl rfl rfl (by first | assumption | rfl) | exact AY.old1k 2 rfl rfl rfl (by first | assumption | rfl) | exact AY.oldNk 0 rfl rfl rfl (by first | omega | (simp; omega)) (by first | assumption | rfl) | exact AY.oldNk 1 rfl rfl rfl (by first | omega | (simp; omega)) (by first | assumption | rfl)) (by simp only [AV.put]; rfl) ?_ | (refine AL.nilK (hK _ _ ?_); clear hK K) | (refine AE.nil (hK _ ?_); clear hK K) | refine W.k rfl rfl (by simp only [AV.put]; rfl) ?_ | refine AL.unguardS rfl rfl ?_ | refine AL.al hF rfl rfl rfl (by first | (simp only [Value.cells, List.map_cons, List.map_nil]; rfl) | rfl) (fun b => ⟨_, (by simp only [AV.put]; rfl), ?_⟩) | refine AL.st1 hF rfl rfl rfl rfl (by simp only [evO, AV.get]; rfl) (by first | exact qni | exact qnj | exact qnk | exact qnl | exact qnm | exact qnn | exact qno | exact qnp) (by rfl) rfl (by rfl) (by first | (simp; done) | (simp; omega) | omega) (by simp only [List.set]; rfl) ?_ | refine AL.stW hF rfl rfl rfl rfl (by simp only [evO, AV.get]; rfl) (by first | exact qni | exact qnj | exact qnk | exact qnl | exact qnm | exact qnn | exact qno | exact qnp) (by rfl) (by rfl) (by rfl) (by first | rfl | simp) (by simp only [List.set]; rfl) ?_) | (with_reducible refine Awp.id_ ?_; first | refine Awp.seq ?_ | refine Awp.regionK (by first | (simp only [AV.putO, AV.put]; rfl) | rfl) (fun K hK => ?_) | refine Awp.drawE (by first | (simp only [AV.putO, AV.put]; rfl) | rfl) mixed rfl (by kernel_rfl) (fun K hK => ?_) | refine Awp.block ?_ | refine Awp.skip ?_ | refine Awp.exit ?_ | refine Awp.ret ?_ | refine Awp.condT rfl ?_ | refine Awp.condF rfl ?_) | refine qrS ?_ | refine qrT ?_ | refine qrU ?_ | refine qmh ?_ | refine qmi ?_ | refine qmj ?_ | refine qmk rfl ?_ | ((first | ((first | with_reducible refine AL.id_ ?_ | with_reducible refine AE.id_ ?_); (fail_if_success refine W.on rfl ?_); refine W.p rfl rfl (by simp only [AV.put]; rfl) (by simp only [AV.put]; rfl) (fun hb => ?_) (fun hb => ?_)) | (with_reducible refine Awp.id_ ?_; refine Awp.cond _ rfl (fun hb => ?_) (fun hb => ?_))) <;> (try simp only [z1, z2, z3, z4, z5, z6, z7, z8, y5, y6, y7, y8, z9, x1, x2, x3, x4, x5, x6, x7, x8] at hb; try (exfalso; omega)))))
    exact qG3 rfl ⟨X', .inl (by rw [show ss.length = k by omega]; exact List.mem_of_getElem? (i := 1) rfl)⟩
def qCQ : Itr Try.prog := ⟨97, [T30], [T80], fun x => quS x.1.2.2.2.2, fun x l h => qHP x l h⟩
end Go.Proofs.Ytcjgodgpaokbnaa

/- Printed: what functions of the program compute. -/
namespace Go.Proofs.Ytcjgodgpaokbnaa
set_option linter.constructorNameAsVariable false
set_option linter.unusedSimpArgs false
set_option linter.unusedVariables false
set_option linter.unusedSectionVars false
open Go Go.Proofs Go.RowKit
set_option maxRecDepth 20000
noncomputable def qyh (n : Nat) : CL Try.prog := ⟨[], [], 0⟩
noncomputable def qyi (n : Nat) : Nat → St → PT (DEx × St) := fun _ _ => .fail
theorem qD3 : qd (qa Try.f67) 0 = [] := by kernel_rfl
theorem qD4 : Try.f67.body = some (qa Try.f67) := by kernel_rfl
abbrev quT : List Ar := [.d T30]
abbrev qrd : List Ty := [T30]
noncomputable def qzc (n : Nat) (x : qy quT) : Option (qk qrd) := (qj tab (qyh n) (qyi n) (qa Try.f67) 0 (qH quT 4 x)).run (qIq 2 97 qrd)
noncomputable def qzd (n : Nat) : Ct Try.prog := ⟨67, quT, .fb 97 qrd, qzc n, fun _ _ h => qJe (B := tab) (cs := qyh n) (lo := qyi n) (i := 2) (g := 97) (caps := qrd) Try.func67 (by kernel_rfl) qD4 (by kernel_rfl) (qh qD3 qe) h⟩
noncomputable def qqg (n : Nat) : CL Try.prog := ⟨[], [], 0⟩
noncomputable def qqh (n : Nat) : Nat → St → PT (DEx × St) := fun _ _ => .fail
theorem qxP : qd (qa Try.f37) 0 = [] := by kernel_rfl
theorem qxQ : Try.f37.body = some (qa Try.f37) := by kernel_rfl
abbrev qlS : List It := [.v (.t 1) T80, .obj (.t 0) true 72 5, .v (.c 0 0) T69, .row (.c 0 2) true T30 30, .row (.c 0 3) true T30 30, .mpi (.c 0 4) true T80 T3]
abbrev qkR : List (List It) := [[.v (.t 0) T3, .obj (.t 1) true 72 5, .v (.c 0 0) T69, .row (.c 0 2) true T30 30, .row (.c 0 3) true T30 30, .mpi (.c 0 4) true T80 T3]]
noncomputable def qre (n : Nat) (x : qc qlS) : Option (qw qkR) := runW tab (qqg n) (qqh n) (qa Try.f37) qlS 2 23 [.tmp 4] qkR x
noncomputable def qxR (n : Nat) : Cw Try.prog := ⟨37, 2, qlS, 1, qkR, qre n, fun _ _ h => q9 (B := tab) (cs := qqg n) (lo := qqh n) (rs := [.tmp 4]) Try.func37 (by kernel_rfl) qxQ (by kernel_rfl) (by decide) (qh qxP qe) h⟩
noncomputable def qhX (n : Nat) : CL Try.prog := ⟨[qzd n], [qxR n], 0⟩
noncomputable def qoL (n : Nat) : Nat → St → PT (DEx × St) := fun _ _ => .fail
abbrev qcr : List It := [.obj (.t 0) true 72 5, .v (.c 0 0) T69, .row (.c 0 2) true T30 30, .row (.c 0 3) true T30 30, .mpi (.c 0 4) true T80 T3, .obj (.t 2) false 64 1, .pal (.c 4 0) 0 0, .obj (.t 3) false 30 5, .v (.c 5 0) T30, .obj (.t 4) false 80 2, .v (.c 6 0) T80, .obj (.t 5) false 3 1, .v (.c 7 0) T3]
abbrev qhY : List (DEx × List It) := [(.ret, [.obj (.t 0) true 72 5, .v (.c 0 0) T69, .row (.c 0 2) true T30 30, .row (.c 0 3) true T30 30, .mpi (.c 0 4) true T80 T3, .obj (.t 4) false 80 2, .v (.c 4 0) T80, .obj (.t 5) false 3 1, .v (.c 5 0) T3])]
abbrev qpv : List Ty := [T80]
noncomputable def qpw (n : Nat) (rec : qc qcr → Option (qc qcr ⊕ qf qhY)) (s : qc qcr) (y : qk qpv) : Option (qc qcr ⊕ qf qhY) := (qBh tab (qhX n) (qoL n) [10] (subC [true, false, true, false, false] (qa Try.f45)) (subC [true, false, true, false, true] (qa Try.f45)) 1 (mkS qcr 22 s) (tysD qpv y)).run (qC8 22 qcr qhY (mkS qcr 22 s) rec)
noncomputable def qkS (n : Nat) : Rg Try.prog := ⟨.tmp 9, 22, qcr, qCQ, qhY, rgF (qpw n)⟩
theorem qve : qd (subC [true, false, true, false, false] (qa Try.f45)) 1 = [] := by kernel_rfl
theorem qwc : qd (subC [true, false, true, false, true] (qa Try.f45)) (1 + qiJ (subC [true, false, true, false, false] (qa Try.f45))) = [] := by kernel_rfl
theorem qtX (n : Nat) (st : St) (r : DEx × St) (h : ((qkS n).go st).Is r) : DA Try.prog false (.rangeFunc (.tmp 9) ([10] : List Tmp).toArray (subC [true, false, true, false, false] (qa Try.f45)) (subC [true, false, true, false, true] (qa Try.f45))) st r := Rg.ok (L := qkS n) (B := tab) (cs := qhX n) (lo := qoL n) (id := 0) rfl rfl (qh qve qe) (qh qwc qe) (fun _ _ _ => rfl) h
noncomputable def qpx (n : Nat) : Nat → St → PT (DEx × St) := fun k st => match k with
  | 0 => (qkS n).go st
  | _ => .fail
theorem qwN : qd (qa Try.f45) 0 = [(0, .rangeFunc (.tmp 9) ([10] : List Tmp).toArray (subC [true, false, true, false, false] (qa Try.f45)) (subC [true, false, true, false, true] (qa Try.f45)))] := by kernel_rfl
theorem qwO : Try.f45.body = some (qa Try.f45) := by kernel_rfl
abbrev qkT : List It := [.v (.t 1) T30, .obj (.t 0) true 72 5, .v (.c 0 0) T69, .row (.c 0 2) true T30 30, .row (.c 0 3) true T30 30, .mpi (.c 0 4) true T80 T3]
abbrev qj6 : List (List It) := [[.v (.t 0) T80, .v (.t 1) T3, .obj (.t 2) true 72 5, .v (.c 0 0) T69, .row (.c 0 2) true T30 30, .row (.c 0 3) true T30 30, .mpi (.c 0 4) true T80 T3]]
noncomputable def qqi (n : Nat) (x : qc qkT) : Option (qw qj6) := runW tab (qhX n) (qpx n) (qa Try.f45) qkT 2 22 [.cell 4 80, .cell 5 3] qj6 x
noncomputable def qwP (n : Nat) : Cw Try.prog := ⟨45, 2, qkT, 2, qj6, qqi n, fun _ _ h => q9 (B := tab) (cs := qhX n) (lo := qpx n) (rs := [.cell 4 80, .cell 5 3]) Try.func45 (by kernel_rfl) qwO (by kernel_rfl) (by decide) (qh qwN (all_cons (fun st r h => qtX n st r h) qe)) h⟩
noncomputable def qf0 (n : Nat) : CL Try.prog := ⟨[qzd n], [qwP n], 0⟩
noncomputable def qrf (n : Nat) : Nat → St → PT (DEx × St) := fun _ _ => .fail
abbrev qdy : List It := [.nilf (.t 2), .v (.t 17) T25, .v (.t 18) T3, .v (.t 19) T3, .obj (.t 7) false 64 1, .obj (.c 0 0) false 72 5, .v (.c 1 0) T69, .row (.c 1 2) false T30 30, .row (.c 1 3) false T30 30, .mpi (.c 1 4) false T80 T3, .obj (.t 9) false 30 5, .v (.c 5 0) T30]
abbrev qjK : List (DEx × List It) := []
abbrev qrO : List Ty := [T80]
noncomputable def qrP (n : Nat) (rec : qc qdy → Option (qc qdy ⊕ qf qjK)) (s : qc qdy) (y : qk qrO) : Option (qc qdy ⊕ qf qjK) := (qBh tab (qf0 n) (qrf n) [61] (subC [true, true, false, true, false, false, true, true, false, false, true, true, true, true, true, false, false] (qa Try.f52)) (subC [true, true, false, true, false, false, true, true, false, false, true, true, true, true, true, false, true] (qa Try.f52)) 2 (mkS qdy 75 s) (tysD qrO y)).run (qC8 75 qdy qjK (mkS qdy 75 s) rec)
noncomputable def qnf (n : Nat) : Rg Try.prog := ⟨.tmp 60, 75, qdy, qCQ, qjK, rgF (qrP n)⟩
theorem qxS : qd (subC [true, true, false, true, false, false, true, true, false, false, true, true, true, true, true, false, false] (qa Try.f52)) 2 = [] := by kernel_rfl
theorem qys : qd (subC [true, true, false, true, false, false, true, true, false, false, true, true, true, true, true, false, true] (qa Try.f52)) (2 + qiJ (subC [true, true, false, true, false, false, true, true, false, false, true, true, true, true, true, false, false] (qa Try.f52))) = [] := by kernel_rfl
theorem qwd (n : Nat) (st : St) (r : DEx × St) (h : ((qnf n).go st).Is r) : DA Try.prog false (.rangeFunc (.tmp 60) ([61] : List Tmp).toArray (subC [true, true, false, true, false, false, true, true, false, false, true, true, true, true, true, false, false] (qa Try.f52)) (subC [true, true, false, true, false, false, true, true, false, false, true, true, true, true, true, false, true] (qa Try.f52))) st r := Rg.ok (L := qnf n) (B := tab) (cs := qf0 n) (lo := qrf n) (id := 1) rfl rfl (qh qxS qe) (qh qys qe) (fun _ _ _ => rfl) h
noncomputable def qrg (n : Nat) : Nat → St → PT (DEx × St) := fun k st => match k with
  | 1 => (qnf n).go st
  | _ => .fail
abbrev qhw : List It := [.nilf (.t 2), .v (.t 17) T25, .v (.t 18) T3, .v (.t 19) T3, .obj (.t 7) false 64 1, .obj (.c 0 0) false 72 5, .v (.c 1 0) T69, .row (.c 1 2) false T30 30, .row (.c 1 3) false T30 30, .mpi (.c 1 4) false T80 T3]
abbrev qjL : List (DEx × List It) := [(.exit 0, [.obj (.t 7) false 64 1, .obj (.c 0 0) false 72 5, .v (.c 1 0) T69, .row (.c 1 2) false T30 30, .row (.c 1 3) false T30 30, .mpi (.c 1 4) false T80 T3])]
noncomputable def qrQ (n : Nat) (rec : qc qhw → Option (qf qjL)) (s : qc qhw) : Option (qf qjL) := (qj tab (qf0 n) (qrg n) (subC [true, true, false, true, false, false] (qa Try.f52)) 1 (mkS qhw 75 s)).run (Lp.leaf 75 qhw qjL rec)
noncomputable def qng (n : Nat) : Lp := ⟨75, qhw, qjL, qg n (qrQ n)⟩
theorem qyt : qd (subC [true, true, false, true, false, false] (qa Try.f52)) 1 = [(1, .rangeFunc (.tmp 60) ([61] : List Tmp).toArray (subC [true, true, false, true, false, false, true, true, false, false, true, true, true, true, true, false, false] (qa Try.f52)) (subC [true, true, false, true, false, false, true, true, false, false, true, true, true, true, true, false, true] (qa Try.f52)))] := by kernel_rfl
theorem qwe (n : Nat) (st : St) (r : DEx × St) (h : ((qng n).go st).Is r) : DA Try.prog false (.loop (subC [true, true, false, true, false, false] (qa Try.f52))) st r := Lp.ok (L := qng n) (B := tab) (cs := qf0 n) (lo := qrg n) (id := 0) rfl (qh qyt (all_cons (fun st r h => qwd n st r h) qe)) (fun _ _ => rfl) h
noncomputable def qrR (n : Nat) : Nat → St → PT (DEx × St) := fun k st => match k with
  | 0 => (qng n).go st
  | _ => .fail
theorem qze : qd (qa Try.f52) 0 = [(0, .loop (subC [true, true, false, true, false, false] (qa Try.f52)))] := by kernel_rfl
theorem qzf : Try.f52.body = some (qa Try.f52) := by kernel_rfl
abbrev qnh : List It := [.v (.t 0) T69, .v (.t 1) T25, .nilf (.t 2)]
abbrev qmD : List (List It) := [[.obj (.t 0) false 72 5, .v (.c 0 0) T69, .row (.c 0 2) false T30 30, .row (.c 0 3) false T30 30, .mpi (.c 0 4) false T80 T3]]
noncomputable def qs7 (n : Nat) (x : qc qnh) : Option (qw qmD) := runW tab (qf0 n) (qrR n) (qa Try.f52) qnh 3 75 [.tmp 6] qmD x
noncomputable def qzg (n : Nat) : Cw Try.prog := ⟨52, 3, qnh, 1, qmD, qs7 n, fun _ _ h => q9 (B := tab) (cs := qf0 n) (lo := qrR n) (rs := [.tmp 6]) Try.func52 (by kernel_rfl) qzf (by kernel_rfl) (by decide) (qh qze (all_cons (fun st r h => qwe n st r h) qe)) h⟩
noncomputable def qyj (n : Nat) : CL Try.prog := ⟨[], [quN n, qgx n, qgz n, qkQ n, qm3 n], 1⟩
noncomputable def qyk (n : Nat) : Nat → St → PT (DEx × St) := fun _ _ => .fail
theorem qD5 : qd (qa Try.f53) 0 = [] := by kernel_rfl
theorem qD6 : Try.f53.body = some (qa Try.f53) := by kernel_rfl
abbrev quU : List Ar := [.d T25]
abbrev quV : List Ty := [T25]
noncomputable def qzh (n : Nat) (x : qy quU) : Option (qk quV) := (qj tab (qyj n) (qyk n) (qa Try.f53) 0 (qH quU 15 x)).run (qbX tab [.tmp 2] quV)
noncomputable def qD7 (n : Nat) : Ct Try.prog := ⟨53, quU, .ts quV, qzh n, fun _ _ h => qb1 (B := tab) (cs := qyj n) (lo := qyk n) (rs := [.tmp 2]) Try.func53 (by kernel_rfl) qD6 (by kernel_rfl) (by decide) (qh qD5 qe) h⟩
noncomputable def qvQ (n : Nat) : CL Try.prog := ⟨[qux n, qsS n], [], 0⟩
noncomputable def qvR (n : Nat) : Nat → St → PT (DEx × St) := fun _ _ => .fail
theorem qB7 : qd (qa Try.f49) 0 = [] := by kernel_rfl
theorem qB8 : Try.f49.body = some (qa Try.f49) := by kernel_rfl
abbrev qrh : List It := [.v (.t 0) T80, .obj (.t 1) true 69 2, .v (.c 0 0) T69]
abbrev qpS : List (List It) := [[.v (.t 0) T4, .obj (.t 1) true 69 2, .v (.c 0 0) T69]]
noncomputable def qwQ (n : Nat) (x : qc qrh) : Option (qw qpS) := runW tab (qvQ n) (qvR n) (qa Try.f49) qrh 2 16 [.tmp 3] qpS x
noncomputable def qwR (n : Nat) : Cw Try.prog := ⟨49, 2, qrh, 1, qpS, qwQ n, fun _ _ h => q9 (B := tab) (cs := qvQ n) (lo := qvR n) (rs := [.tmp 3]) Try.func49 (by kernel_rfl) qB8 (by kernel_rfl) (by decide) (qh qB7 qe) h⟩
noncomputable def qcg (n : Nat) : CL Try.prog := ⟨[], [qwR n], 0⟩
noncomputable def qgA (n : Nat) : Nat → St → PT (DEx × St) := fun _ _ => .fail
abbrev qbj : List It := [.v (.t 0) T93, .v (.t 7) T3, .v (.t 8) T3, .fnc (.t 1) 49 [.box true 69 2], .v (.c 0 0) T69]
abbrev qch : List (DEx × List It) := [(.exit 0, [.fnc (.t 1) 49 [.box true 69 2], .v (.c 0 0) T69]), (.ret, [.v (.t 4) T3, .fnc (.t 1) 49 [.box true 69 2], .v (.c 0 0) T69])]
noncomputable def qgP (n : Nat) (rec : qc qbj → Option (qf qch)) (s : qc qbj) : Option (qf qch) := (qj tab (qcg n) (qgA n) (subC [true, false, true, false, false] (qa Try.f69)) 1 (mkS qbj 19 s)).run (Lp.leaf 19 qbj qch rec)
noncomputable def qea (n : Nat) : Lp := ⟨19, qbj, qch, qg n (qgP n)⟩
theorem ql7 : qd (subC [true, false, true, false, false] (qa Try.f69)) 1 = [] := by kernel_rfl
theorem qkU (n : Nat) (st : St) (r : DEx × St) (h : ((qea n).go st).Is r) : DA Try.prog false (.loop (subC [true, false, true, false, false] (qa Try.f69))) st r := Lp.ok (L := qea n) (B := tab) (cs := qcg n) (lo := qgA n) (id := 0) rfl (qh ql7 qe) (fun _ _ => rfl) h
noncomputable def qgQ (n : Nat) : Nat → St → PT (DEx × St) := fun k st => match k with
  | 0 => (qea n).go st
  | _ => .fail
theorem qmE : qd (qa Try.f69) 0 = [(0, .loop (subC [true, false, true, false, false] (qa Try.f69)))] := by kernel_rfl
theorem qmF : Try.f69.body = some (qa Try.f69) := by kernel_rfl
abbrev qeb : List It := [.v (.t 0) T93, .fnc (.t 1) 49 [.box true 69 2], .v (.c 0 0) T69]
abbrev qdU : List (List It) := [[.v (.t 0) T3, .obj (.t 1) true 69 2, .v (.c 0 0) T69]]
noncomputable def qg5 (n : Nat) (x : qc qeb) : Option (qw qdU) := runW tab (qcg n) (qgQ n) (qa Try.f69) qeb 2 19 [.tmp 4] qdU x
noncomputable def qmG (n : Nat) : Cw Try.prog := ⟨69, 2, qeb, 1, qdU, qg5 n, fun _ _ h => q9 (B := tab) (cs := qcg n) (lo := qgQ n) (rs := [.tmp 4]) Try.func69 (by kernel_rfl) qmF (by kernel_rfl) (by decide) (qh qmE (all_cons (fun st r h => qkU n st r h) qe)) h⟩
noncomputable def qf7 (n : Nat) : CL Try.prog := ⟨[], [qwR n, qmG n], 0⟩
noncomputable def qf8 (n : Nat) : Nat → St → PT (DEx × St) := fun _ _ => .fail
theorem qle : qd (qa Try.f48) 0 = [] := by kernel_rfl
theorem qlf : Try.f48.body = some (qa Try.f48) := by kernel_rfl
abbrev qdj : List It := [.v (.t 0) T93, .fnc (.t 1) 49 [.box true 69 2], .v (.c 0 0) T69]
abbrev qc9 : List (List It) := [[.v (.t 0) T4, .obj (.t 1) true 69 2, .v (.c 0 0) T69]]
noncomputable def qgl (n : Nat) (x : qc qdj) : Option (qw qc9) := runW tab (qf7 n) (qf8 n) (qa Try.f48) qdj 2 9 [.tmp 4] qc9 x
noncomputable def qlg (n : Nat) : Cw Try.prog := ⟨48, 2, qdj, 1, qc9, qgl n, fun _ _ h => q9 (B := tab) (cs := qf7 n) (lo := qf8 n) (rs := [.tmp 4]) Try.func48 (by kernel_rfl) qlf (by kernel_rfl) (by decide) (qh qle qe) h⟩
noncomputable def qyl (n : Nat) : CL Try.prog := ⟨[qD2 n, qD7 n], [qlg n, qzg n], 4⟩
noncomputable def qym (n : Nat) : Nat → St → PT (DEx × St) := fun _ _ => .fail
theorem qD8 : qd (qa Try.f31) 0 = [] := by kernel_rfl
theorem qD9 : Try.f31.body = some (qa Try.f31) := by kernel_rfl
abbrev qtr : List It := [.v (.t 0) T24, .v (.t 1) T25, .v (.t 2) T93]
abbrev qsi : List (List It) := [[.v (.t 1) T33, .obj (.t 0) false 72 5, .v (.c 0 0) T69, .row (.c 0 2) false T30 30, .row (.c 0 3) false T30 30, .mpi (.c 0 4) false T80 T3], [.nilp (.t 0), .v (.t 1) T33]]
noncomputable def qzi (n : Nat) (x : qc qtr) : Option (qw qsi) := runW tab (qyl n) (qym n) (qa Try.f31) qtr 3 25 [.tmp 6, .tmp 7] qsi x
noncomputable def qzj (n : Nat) : Cw Try.prog := ⟨31, 3, qtr, 2, qsi, qzi n, fun _ _ h => q9 (B := tab) (cs := qyl n) (lo := qym n) (rs := [.tmp 6, .tmp 7]) Try.func31 (by kernel_rfl) qD9 (by kernel_rfl) (by decide) (qh qD8 qe) h⟩
noncomputable def quW (n : Nat) : CL Try.prog := ⟨[], [qzj n, qAf n, qy9 n], 4⟩
noncomputable def quX (n : Nat) : Nat → St → PT (DEx × St) := fun _ _ => .fail
theorem qBv : qd (qa Try.f12) 0 = [] := by kernel_rfl
theorem qBw : Try.f12.body = some (qa Try.f12) := by kernel_rfl
abbrev qri : List Ar := [.d T24, .d T25]
abbrev qrj : List Ty := [T32, T33]
noncomputable def qvS (n : Nat) (x : qy qri) : Option (qk qrj) := (qj tab (quW n) (quX n) (qa Try.f12) 0 (qH qri 26 x)).run (qbX tab [.tmp 4, .tmp 5] qrj)
noncomputable def qvT (n : Nat) : Ct Try.prog := ⟨12, qri, .ts qrj, qvS n, fun _ _ h => qb1 (B := tab) (cs := quW n) (lo := quX n) (rs := [.tmp 4, .tmp 5]) Try.func12 (by kernel_rfl) qBw (by kernel_rfl) (by decide) (qh qBv qe) h⟩
noncomputable def qvU (n : Nat) : CL Try.prog := ⟨[], [qzj n, qAf n], 4⟩
noncomputable def qvV (n : Nat) : Nat → St → PT (DEx × St) := fun _ _ => .fail
theorem qB9 : qd (qa Try.f13) 0 = [] := by kernel_rfl
theorem qCa : Try.f13.body = some (qa Try.f13) := by kernel_rfl
abbrev qsj : List Ar := [.d T24, .d T25]
abbrev qsk : List Ty := [T32, T33]
noncomputable def qwS (n : Nat) (x : qy qsj) : Option (qk qsk) := (qj tab (qvU n) (qvV n) (qa Try.f13) 0 (qH qsj 22 x)).run (qbX tab [.tmp 4, .tmp 5] qsk)
noncomputable def qwT (n : Nat) : Ct Try.prog := ⟨13, qsj, .ts qsk, qwS n, fun _ _ h => qb1 (B := tab) (cs := qvU n) (lo := qvV n) (rs := [.tmp 4, .tmp 5]) Try.func13 (by kernel_rfl) qCa (by kernel_rfl) (by decide) (qh qB9 qe) h⟩
end Go.Proofs.Ytcjgodgpaokbnaa

/- Printed: what functions of the program compute. -/
namespace Go.Proofs.Ytcjgodgpaokbnaa
set_option linter.constructorNameAsVariable false
set_option linter.unusedSimpArgs false
set_option linter.unusedVariables false
set_option linter.unusedSectionVars false
open Go Go.Proofs Go.RowKit
set_option maxRecDepth 20000
noncomputable def qqj (n : Nat) : CL Try.prog := ⟨[qvT n, qwT n, qoI n, qwa n], [], 0⟩
noncomputable def qqk (n : Nat) : Nat → St → PT (DEx × St) := fun _ _ => .fail
theorem qxT : qd (qa Try.f10) 0 = [] := by kernel_rfl
theorem qxU : Try.f10.body = some (qa Try.f10) := by kernel_rfl
abbrev qmH : List Ar := []
abbrev qmI : List Ty := [T4]
noncomputable def qrk (n : Nat) (x : qy qmH) : Option (qk qmI) := (qj tab (qqj n) (qqk n) (qa Try.f10) 0 (qH qmH 39 x)).run (qbX tab [.tmp 0] qmI)
noncomputable def qxV (n : Nat) : Ct Try.prog := ⟨10, qmH, .ts qmI, qrk n, fun _ _ h => qb1 (B := tab) (cs := qqj n) (lo := qqk n) (rs := [.tmp 0]) Try.func10 (by kernel_rfl) qxU (by kernel_rfl) (by decide) (qh qxT qe) h⟩
noncomputable def qe4 (n : Nat) : CL Try.prog := ⟨[qxN n, qxV n, qv6 n, qvT n, qwT n, qoI n, qvb n], [], 0⟩
noncomputable def qkw (n : Nat) : Nat → St → PT (DEx × St) := fun _ _ => .fail
abbrev qdp : List It := [.v (.t 1) T25, .v (.t 2) T3, .v (.t 8) T3, .obj (.t 3) false 24 2, .v (.c 0 0) T24, .row (.t 7) false T30 30]
abbrev qe5 : List (DEx × List It) := [(.exit 0, [.v (.t 1) T25, .v (.t 2) T3, .obj (.t 3) false 24 2, .v (.c 0 0) T24, .row (.t 7) false T30 30])]
noncomputable def qk6 (n : Nat) (rec : qc qdp → Option (qf qe5)) (s : qc qdp) : Option (qf qe5) := (qj tab (qe4 n) (qkw n) (subC [true, true, true, false, true, false, false] (qa Try.f3)) 1 (mkS qdp 123 s)).run (Lp.leaf 123 qdp qe5 rec)
noncomputable def qhk (n : Nat) : Lp := ⟨123, qdp, qe5, qg n (qk6 n)⟩
theorem qrD : qd (subC [true, true, true, false, true, false, false] (qa Try.f3)) 1 = [] := by kernel_rfl
theorem qpT (n : Nat) (st : St) (r : DEx × St) (h : ((qhk n).go st).Is r) : DA Try.prog false (.loop (subC [true, true, true, false, true, false, false] (qa Try.f3))) st r := Lp.ok (L := qhk n) (B := tab) (cs := qe4 n) (lo := qkw n) (id := 0) rfl (qh qrD qe) (fun _ _ => rfl) h
noncomputable def qk7 (n : Nat) : Nat → St → PT (DEx × St) := fun k st => match k with
  | 0 => (qhk n).go st
  | _ => .fail
theorem qsl : qd (qa Try.f3) 0 = [(0, .loop (subC [true, true, true, false, true, false, false] (qa Try.f3)))] := by kernel_rfl
theorem qsm : Try.f3.body = some (qa Try.f3) := by kernel_rfl
abbrev qdV : List Ar := [.d T24, .d T25, .d T3]
abbrev qhL : List Ty := [T4]
noncomputable def qlT (n : Nat) (x : qy qdV) : Option (qk qhL) := (qj tab (qe4 n) (qk7 n) (qa Try.f3) 0 (qH qdV 123 x)).run (qbX tab [.tmp 6] qhL)
noncomputable def qlU (n : Nat) : Ct Try.prog := ⟨3, qdV, .ts qhL, qlT n, fun _ _ h => qb1 (B := tab) (cs := qe4 n) (lo := qk7 n) (rs := [.tmp 6]) Try.func3 (by kernel_rfl) qsm (by kernel_rfl) (by decide) (qh qsl (all_cons (fun st r h => qpT n st r h) qe)) h⟩
end Go.Proofs.Ytcjgodgpaokbnaa

/- Printed: what functions of the program compute. -/
namespace Go.Proofs.Ytcjgodgpaokbnaa
set_option linter.constructorNameAsVariable false
set_option linter.unusedSimpArgs false
set_option linter.unusedVariables false
set_option linter.unusedSectionVars false
open Go Go.Proofs Go.RowKit
set_option maxRecDepth 20000
end Go.Proofs.Ytcjgodgpaokbnaa
