/- A loop over a function value, bound receivers included: one contract for the iterator, one law for the caller. -/
import Derived.Test.YtabcmnfofekeeaaDoorBase
import Derived.RangeFuncNested
import Derived.RangeFuncBound
import Derived.RangeFuncCalls
import Derived.RangeFuncLeaves
import Derived.RangeFuncBox
import Derived.Shelf.RegionOpen
import Derived.Shelf.Abstract
import Derived.OwnWalkIn
import Derived.TacticsInMore
import Derived.LoopNIn
import Derived.LoopIn
namespace Go.Proofs.YtabcmnfofekeeaaDoor
open Go Go.Proofs Go.RowKit Go.Shelf

theorem ext_grown {W W' : World} (h : Ext W W') : W.grownBy W' none := ⟨h.os, h.tape, h.output, h.size, fun k hk _ => h.block k hk⟩

/-- p is kept when memory grows, and when a block from B on that holds no cells is written. -/
def Stab (B : Nat) (p : World → Prop) : Prop :=
  ∀ W W' row, p W → W.grownBy W' row → (∀ r, row = some r → B ≤ r ∧ ∃ o : Obj, W.heap[r]? = some o ∧ o.isCells = false) → p W'
theorem Stab.ext {B : Nat} {p : World → Prop} (h : Stab B p) {W W' : World} (hp : p W) (he : Ext W W') : p W' := h W W' none hp (ext_grown he) (fun r e => by cases e)
theorem Stab.put {B : Nat} {p : World → Prop} (h : Stab B p) {W : World} {r : Nat} {o : Obj} (o' : Obj) (hp : p W) (hB : B ≤ r) (hr : W.heap[r]? = some o) (ho : o.isCells = false) : p (W.putObj r o') :=
  h W _ (some r) hp (grownBy_putObj' W r o') (fun k e => by cases e; exact ⟨hB, o, hr, ho⟩)
theorem Stab.and {B : Nat} {p q : World → Prop} (h : Stab B p) (k : Stab B q) : Stab B fun W => p W ∧ q W := fun W W' row hp hg hr => ⟨h W W' row hp.1 hg hr, k W W' row hp.2 hg hr⟩
theorem Stab.pure (B : Nat) (p : Prop) : Stab B fun _ => p := fun _ _ _ hp _ _ => hp
theorem Stab.own {β : Type} {I : β → World → Prop} (h : Own I) (B : Nat) (s : β) : Stab B (I s) := fun W W' row hp hg hr => h s W W' row hp hg (fun r e => (hr r e).2)
theorem Stab.below {n B : Nat} {w : World} (hn : n ≤ w.heap.size) (hB : n ≤ B) : Stab B fun W => Below n w W :=
  fun _ _ _ hp hg hr => hp.grown hg (Nat.le_trans hn hp.size) (fun k e => Nat.le_trans hB (hr k e).1)
theorem ext_heap {W W' : World} (h : Ext W W') {k : Nat} {o : Obj} (hk : W.heap[k]? = some o) : W'.heap[k]? = some o :=
  (h.block k (Array.getElem?_eq_some_iff.1 hk).1).trans hk

/-- The iterator value hands the elements of l to its loop, in order, and stops when it is told to; it only makes memory. -/
def IterOK {α : Type} (P : Program) (gf : Nat) (first lb : Array Value) (encs : α → Array Value) (l : List α) (w0 : World) : Prop :=
  ∀ (lp : Nat) (J : Nat → World → Prop) (Jx : World → Prop) (W : World), Ext w0 W → (∀ k W1 W2, J k W1 → Ext W1 W2 → J k W2) → (∀ W1 W2, Jx W1 → Ext W1 W2 → Jx W2) →
    (∀ (k : Nat) (hk : k < l.length) (W1 : World), J k W1 → Below w0.heap.size w0 W1 → YieldAt Fence.wide 0 P lp (encs l[k]) W1 fun e W' =>
      (e = .returned (.bool true) ∧ J (k + 1) W' ∧ Below w0.heap.size W1 W') ∨ (e = .returned (.bool false) ∧ Jx W')) →
    J 0 W →
    Calls P gf (first ++ #[.func (.yield lp) #[] #[]] ++ lb) W fun e W' => (∃ v, e = .returned v) ∧ (J l.length W' ∨ Jx W')

/-- How the body of a round may be left: n0 is where old memory ends, B where the loop's own begins. -/
def rangeEnd (n0 B : Nat) (I : World → Prop) (Ix : Code → World → Prop) (W : World) : Exit → Act → World → Prop
  | .normal, _, W' => KeepsFrom B W W' ∧ Below n0 W W' ∧ I W'
  | .ret, _, W' => KeepsFrom B W W' ∧ Ix .ret W'
  | .exit id, _, W' => KeepsFrom B W W' ∧ Ix (.exit id) W'
  | .goto t, _, W' => KeepsFrom B W W' ∧ Ix (.goto t) W'
  | .panic _, _, _ => False
  | .outgrown, _, _ => False

theorem range_law {α : Type} {P : Program} {g : Operand} {ps : Array Tmp} {assign body : Code} {Q : Exit → Act → World → Prop} {a : Act} {w : World}
    {gf : Nat} {first lb : Array Value} (hg : a.eval g = .func (.func gf) first lb) (eg : ∀ args w, (callFunc gf args).run P w = .ok (.enter gf args) w)
    {encs : α → Array Value} {l : List α} {w0 : World} (hit : IterOK P gf first lb encs l w0) (hb0 : Ext w0 w) (hps : ∀ x, (encs x).size = ps.size)
    (I : Nat → World → Prop) (Ix : Code → World → Prop) (hI : ∀ k, Stab w.heap.size (I k)) (hIx : ∀ c, Stab w.heap.size (Ix c)) (h0 : I 0 w) (a₁ : α → Act)
    (hassign : ∀ (lp : Nat) (x : α) (W : World) (K : Act → World → Prop), K (a₁ x) W →
      assign.wpIn (Fence.wide.inRound lp) 0 P (Exit.then K (fun _ _ _ => False)) { tmps := (ps.zip (encs x)).foldl (fun t (p, v) => t.setIfInBounds p v) a.tmps, defers := [] } W)
    (hbody : ∀ (lp k : Nat) (hk : k < l.length) (W : World), I k W → Below w0.heap.size w0 W → body.wpIn (Fence.wide.inRound lp) 0 P (rangeEnd w0.heap.size w.heap.size (I (k + 1)) Ix W) (a₁ l[k]) W)
    (hdone : ∀ (D : Nat) (W : World), w.heap.size ≤ D → I l.length W → W.heap[D]? = some (.deferred (some [])) → Q .normal { a with defers := { target := .collected D, args := #[] } :: a.defers } W)
    (hstop : ∀ (D : Nat) (c : Code) (W : World), w.heap.size ≤ D → Ix c W → W.heap[D]? = some (.deferred (some [])) → c.wpIn Fence.wide 0 P Q { a with defers := { target := .collected D, args := #[] } :: a.defers } W) :
    (Code.rangeFunc g ps assign body).wpIn Fence.wide 0 P Q a w := by
  refine wpIn_rangeFunc ?_
  intro fn hfn
  obtain ⟨rc, hrc⟩ : ∃ rc : LoopState → Option Code → Loop, rc = fun st pe => { state := st, pending := pe, fn, tmps := a.tmps, params := ps, assign, body, defers := w.heap.size } := ⟨_, rfl⟩
  obtain ⟨D, hD⟩ : ∃ D, D = w.heap.size := ⟨_, rfl⟩
  obtain ⟨W1, hW1⟩ : ∃ W1, W1 = (w.alloc (.deferred (some []))).alloc (.loop (rc .ready none)) := ⟨_, rfl⟩
  have e1 : Ext w W1 := by rw [hW1]; exact ((Ext.refl w).alloc _).alloc _
  have hK1 : W1.heap[D]? = some (.deferred (some [])) := by
    rw [hW1, hD]; exact ext_heap ((Ext.refl (w.alloc _)).alloc _) (World.alloc_heap_new w _)
  have hL1 : W1.heap[D + 1]? = some (.loop (rc .ready none)) := by
    rw [hW1, hD]; have := World.alloc_heap_new (w.alloc (.deferred (some []))) (.loop (rc .ready none)); rwa [World.size_alloc] at this
  -- what a store into a block of the loop's own keeps
  have put0 : ∀ (W : World) (r : Nat) (o o' : Obj), D ≤ r → W.heap[r]? = some o → Below w0.heap.size W (W.putObj r o') := fun W r o o' hr ho =>
    (Below.refl _ W).grown (grownBy_putObj' W r o') (by have := (Array.getElem?_eq_some_iff.1 ho).1; have := hb0.size; omega) (fun k e => by cases e; have := hb0.size; omega)
  refine ⟨D + 1, [{ target := .collected D, args := #[] }], W1, { target := .fn (.func gf) lb, args := first ++ #[.func (.yield (D + 1)) #[] #[]] }, W1, gf,
    first ++ #[.func (.yield (D + 1)) #[] #[]] ++ lb, W1, ?_, ?_, fun _ _ => trivial, ?_, (fun h => by cases h), ?_⟩
  · rw [hW1, hD, hrc]; exact run_enterLoop_outer _ _ _ _ _
  · simp only [resolve, hg]
    simp [go_sem]
  · simp [invoke, go_sem, eg]
  · refine callsIn_wide.2 ((hit (D + 1) (fun k W => I k W ∧ W.heap[D + 1]? = some (.loop (rc .ready none)) ∧ W.heap[D]? = some (.deferred (some [])))
      (fun W => ∃ c, Ix c W ∧ W.heap[D + 1]? = some (.loop (rc .done (some c))) ∧ W.heap[D]? = some (.deferred (some []))) W1 (hb0.trans e1)
      (fun k A B h he => ⟨(hI k).ext h.1 he, ext_heap he h.2.1, ext_heap he h.2.2⟩)
      (fun A B h he => by obtain ⟨c, h1, h2, h3⟩ := h; exact ⟨c, (hIx c).ext h1 he, ext_heap he h2, ext_heap he h3⟩)
      ?_ ⟨(hI 0).ext h0 e1, hL1, hK1⟩).mono ?_)
    · -- one round
      rintro k hk W ⟨hi, hl, hd⟩ hbw
      have hlt : D + 1 < W.heap.size := (Array.getElem?_eq_some_iff.1 hl).1
      have hy := run_yield (P := P) (args := encs l[k]) hl (by rw [hrc]; exact hps _)
      rw [hrc] at hy
      refine ⟨fn, _, assign, body, hy, roundIn_of_wpIn hfn (hassign _ l[k] W _ ⟨_, run_beginRound hl (by rw [hrc]), ?_⟩)⟩
      obtain ⟨W2, hW2⟩ : ∃ W2, W2 = W.putObj (D + 1) (.loop { rc .ready none with state := .busy }) := ⟨_, rfl⟩
      rw [← hW2]
      have hl2 : W2.heap[D + 1]? = some (.loop { rc .ready none with state := .busy }) := by rw [hW2]; exact World.putObj_heap_same hlt
      have hd2 : W2.heap[D]? = some (.deferred (some [])) := by rw [hW2]; exact (World.putObj_heap_other (by omega)).trans hd
      have hb2 : Below w0.heap.size W W2 := by rw [hW2]; exact put0 _ _ _ _ (by omega) hl
      have hi2 : I k W2 := by rw [hW2]; exact (hI k).put _ hi (by omega) hl rfl
      refine wpIn_mono (hbody _ k hk W2 hi2 (hbw.trans hb2)) ?_
      -- the record behind the body
      have fin : ∀ (jump : Option Code) (W3 : World), KeepsFrom w.heap.size W2 W3 →
          (Instr.endRound (D + 1) jump).run P W3 = .ok (.bool jump.isNone) (W3.putObj (D + 1) (.loop (rc (if jump.isNone then .ready else .done) jump))) ∧
          W3.heap[D + 1]? = some (.loop { rc .ready none with state := .busy }) ∧
          (W3.putObj (D + 1) (.loop (rc (if jump.isNone then .ready else .done) jump))).heap[D + 1]? = some (.loop (rc (if jump.isNone then .ready else .done) jump)) ∧
          (W3.putObj (D + 1) (.loop (rc (if jump.isNone then .ready else .done) jump))).heap[D]? = some (.deferred (some [])) := fun jump W3 hk3 => by
        have hl3 := hk3.same _ _ (by omega) hl2 rfl
        have hr := run_endRound (P := P) jump hl3
        rw [hrc] at hr ⊢
        rw [hrc] at hl3
        exact ⟨hr, hl3, World.putObj_heap_same (Array.getElem?_eq_some_iff.1 hl3).1, (World.putObj_heap_other (by omega)).trans (hk3.same _ _ (by omega) hd2 rfl)⟩
      rintro e a3 W3 hp
      cases e with
      | normal =>
        obtain ⟨hk3, hb3, hi3⟩ := hp
        obtain ⟨hr, hl3, hl4, hk4⟩ := fin none W3 hk3
        exact ⟨_, _, hr, .inl ⟨rfl, ⟨(hI _).put _ hi3 (by omega) hl3 rfl, hl4, hk4⟩, (hb2.trans hb3).trans (put0 _ _ _ _ (by omega) hl3)⟩⟩
      | ret =>
        obtain ⟨hk3, hi3⟩ := hp
        obtain ⟨hr, hl3, hl4, hk4⟩ := fin (some .ret) W3 hk3
        exact ⟨_, _, hr, .inr ⟨rfl, .ret, (hIx _).put _ hi3 (by omega) hl3 rfl, hl4, hk4⟩⟩
      | exit id =>
        obtain ⟨hk3, hi3⟩ := hp
        obtain ⟨hr, hl3, hl4, hk4⟩ := fin (some (.exit id)) W3 hk3
        exact ⟨_, _, hr, .inr ⟨rfl, .exit id, (hIx _).put _ hi3 (by omega) hl3 rfl, hl4, hk4⟩⟩
      | goto t =>
        obtain ⟨hk3, hi3⟩ := hp
        obtain ⟨hr, hl3, hl4, hk4⟩ := fin (some (.goto t)) W3 hk3
        exact ⟨_, _, hr, .inr ⟨rfl, .goto t, (hIx _).put _ hi3 (by omega) hl3 rfl, hl4, hk4⟩⟩
      | panic ch => exact hp.elim
      | outgrown => exact hp.elim
    · rintro e W2 ⟨⟨v, rfl⟩, (⟨hi, hl, hd⟩ | ⟨c, hi, hl, hd⟩)⟩
      · have hr := run_endLoop (P := P) hl (by rw [hrc]; simp)
        rw [hrc] at hr
        exact ⟨none, _, hr, hdone D _ (by omega) ((hI _).put _ hi (by omega) hl rfl) ((World.putObj_heap_other (by omega)).trans hd)⟩
      · have hr := run_endLoop (P := P) hl (by rw [hrc]; simp)
        rw [hrc] at hr
        exact ⟨some c, _, hr, hstop D c _ (by omega) ((hIx c).put _ hi (by omega) hl rfl) ((World.putObj_heap_other (by omega)).trans hd)⟩
end Go.Proofs.YtabcmnfofekeeaaDoor
