import Derived.Deep.Slices
import Derived.Deep.Fields
import Derived.Deep.RegionHeld
import Derived.ChangeSame
import Derived.Lib.SmallJoins
import Derived.OpenShut
import Derived.Test.YtabcmnfofekeeaaDoorWat23
namespace Go.Proofs.YtabcmnfofekeeaaDoor
open Go Go.Proofs Go.RowKit Go.Shelf
set_option maxHeartbeats 1000000
set_option maxRecDepth 20000
open Go.ChangeShapes Go.WideShapes Go.Deep Go.Joins

section
variable {H : Type} {enc : TypeId × Value → H} {P : Program} {w : World} {base : Nat} {spare : Nat → Bool} {held : Bool}
theorem open_agg5 {r : Reach} {b0 : Nat} {t : TypeId} {f0 f1 f2 f3 f4 : Field} {v : Value} {d : DataW H} {p : List MemPlace} (hs : P.underlying t = some (.struct #[f0, f1, f2, f3, f4])) (hone : oneCellFields P #[f0, f1, f2, f3, f4] = true) (hC : P.cellsOf t = 5)
    (hv : Value.okWide P w r b0 t v) (h : DataW.Trod enc P w base spare held t v d p) :
    ∃ (v0 v1 v2 v3 v4 : Value) (y0 y1 y2 y3 y4 : DataW H × List MemPlace) (n : Nat), v = .agg #[v0, v1, v2, v3, v4] ∧ d = .agg [y0.1, y1.1, y2.1, y3.1, y4.1] ∧ p = y0.2 ++ (y1.2 ++ (y2.2 ++ (y3.2 ++ y4.2))) ∧
      DataW.trod enc P w base spare held n f0.type [v0] = some y0 ∧ DataW.trod enc P w base spare held n f1.type [v1] = some y1 ∧ DataW.trod enc P w base spare held n f2.type [v2] = some y2 ∧ DataW.trod enc P w base spare held n f3.type [v3] = some y3 ∧ DataW.trod enc P w base spare held n f4.type [v4] = some y4 := by
  obtain ⟨cs, rfl, hsz⟩ := okWide_struct hs hv
  obtain ⟨l⟩ := cs
  match l, hsz.trans hC with
  | [c0, c1, c2, c3, c4], _ =>
    obtain ⟨fuel, hf⟩ := h
    obtain ⟨xs, n, _, hx, _, hlen, hg⟩ := DataW.trod_struct hs hf
    obtain ⟨o0, k0⟩ := hone_of hone 0 f0 rfl
    obtain ⟨o1, k1⟩ := hone_of hone 1 f1 rfl
    obtain ⟨o2, k2⟩ := hone_of hone 2 f2 rfl
    obtain ⟨o3, k3⟩ := hone_of hone 3 f3 rfl
    obtain ⟨o4, k4⟩ := hone_of hone 4 f4 rfl
    match xs, hlen with
    | [y0, y1, y2, y3, y4], _ =>
      simp only [Prod.mk.injEq] at hx
      exact ⟨c0, c1, c2, c3, c4, y0, y1, y2, y3, y4, n, rfl, by simpa using hx.1, by simpa using hx.2, by simpa [Value.cells, o0, k0] using hg 0 f0 rfl, by simpa [Value.cells, o1, k1] using hg 1 f1 rfl, by simpa [Value.cells, o2, k2] using hg 2 f2 rfl, by simpa [Value.cells, o3, k3] using hg 3 f3 rfl, by simpa [Value.cells, o4, k4] using hg 4 f4 rfl⟩
/-- A slice whose elements are laid as 'f' lays them. -/
theorem slice_reads {α : Type} (f : α → List Value) (sz : Nat) (hf : ∀ a, (f a).length = sz) (hsz : 0 < sz) {t e : TypeId} {fuel : Nat} {v : Value} {x : DataW H × List MemPlace} (ht : P.underlying t = some (.slice e)) (hC : P.cellsOf e = sz)
    (he : ∀ n cs y, DataW.trod enc P w base (fun _ => true) held n e cs = some y → ∃ a, cs = f a) (h : DataW.trod enc P w base (fun _ => true) held fuel t [v] = some x) :
    ∃ (A : Option Addr) (l : List α) (c : Nat), v = .slice A l.length c ∧ SlOf f sz w w.heap.size A l := by
  rcases open_slice ht h with ⟨h0, _⟩ | ⟨a, len, cap, m, n, D, Pl, hcs, hb, hl, hm, hmm, hx, hi⟩
  · injection h0 with h0
    exact ⟨none, [], 0, h0, by simp, fun h => absurd h (by simp)⟩
  · injection hcs with hv
    have hlm : len ≤ m := by rw [hmm]; exact hl
    rcases Nat.eq_zero_or_pos len with h0 | h0
    · subst h0
      exact ⟨some a, [], cap, hv, by simp, fun h => absurd h (by simp)⟩
    have key : ∀ i, ∃ z : α, i < len → w.cells? base (a.add (i * sz)) sz = some (f z) := by
      intro i
      by_cases hil : i < len
      · obtain ⟨cs', h1, h2⟩ := hi i (by omega)
        obtain ⟨z, rfl⟩ := he _ _ _ h2
        rw [hC] at h1
        exact ⟨z, fun _ => h1⟩
      · obtain ⟨cs', h1, h2⟩ := hi 0 (by omega)
        obtain ⟨z, _⟩ := he _ _ _ h2
        exact ⟨z, fun h => absurd h hil⟩
    obtain ⟨g, hg⟩ := Classical.skolem.1 key
    refine ⟨some a, (List.range len).map g, cap, by simpa using hv, ?_, ?_⟩
    · have : ∀ (l : List Nat), (l.flatMap fun i => f (g i)).length = l.length * sz := by
        intro l
        induction l with
        | nil => simp
        | cons i l ih => rw [List.flatMap_cons, List.length_append, ih, hf, List.length_cons, Nat.add_mul]; omega
      rw [List.flatMap_map]
      simpa using this (List.range len)
    · intro hn
      simp only [List.length_map, List.length_range] at hn
      obtain ⟨_, hcl, hat⟩ := World.cells?_some (hg 0 hn)
      have hz := hf (g 0)
      have c0 : w.cell? a = some ((f (g 0))[0]'(by omega)) := by
        have := hat 0 (by omega)
        simp only [Nat.zero_mul, Addr.add, if_true] at this
        exact this.trans (List.getElem?_eq_getElem (by omega))
      have hblk := World.block_lt_of_cell? w a c0
      obtain ⟨b, off, spot⟩ := a
      obtain rfl : spot = none := by
        unfold World.cell? at c0
        cases spot with
        | none => rfl
        | some k => simp at c0; split at c0 <;> simp_all
      refine ⟨b, off, rfl, hblk, fun j u hu => ?_⟩
      have hjl : j < len * sz := by
        have h1 := (List.getElem?_eq_some_iff.1 hu).1
        have : ∀ (l : List Nat), (l.flatMap fun i => f (g i)).length = l.length * sz := by
          intro l
          induction l with
          | nil => simp
          | cons i l ih => rw [List.flatMap_cons, List.length_append, ih, hf, List.length_cons, Nat.add_mul]; omega
        rw [List.flatMap_map] at h1
        simpa [this] using h1
      have hq : j / sz < len := Nat.div_lt_of_lt_mul (by rw [Nat.mul_comm]; exact hjl)
      have hr : j % sz < sz := Nat.mod_lt _ hsz
      have hj : j = j / sz * sz + j % sz := by rw [Nat.mul_comm]; exact (Nat.div_add_mod _ _).symm
      obtain ⟨_, _, hat2⟩ := World.cells?_some (hg (j / sz) hq)
      have h3 := hat2 (j % sz) hr
      have e1 : ((⟨b, off, none⟩ : Addr).add (j / sz * sz)).add (j % sz) = ⟨b, off + j, none⟩ := by
        unfold Addr.add
        split <;> split <;> simp <;> omega
      rw [e1] at h3
      have h4 := flatMap_at f sz hf ((List.range len).map g) (j / sz) (j % sz) (by simpa using hq) hr
      rw [← hj, hu] at h4
      rw [h3, h4]
      simp
end

section
variable {H : Type} {enc : TypeId × Value → H} {w : World} {base : Nat} {spare : Nat → Bool} {held : Bool}
theorem cells53 : Tryd.prog.cellsOf 53 = 3 := by kernel_rfl
theorem cells51 : Tryd.prog.cellsOf 51 = 2 := by kernel_rfl
theorem cells27 : Tryd.prog.cellsOf 27 = 2 := by kernel_rfl
theorem cells25 : Tryd.prog.cellsOf 25 = 5 := by kernel_rfl
theorem cells3 : Tryd.prog.cellsOf 3 = 1 := by kernel_rfl
theorem cells4 : Tryd.prog.cellsOf 4 = 1 := by kernel_rfl
theorem spring_reads (n : Nat) (cs : List Value) (y : DataW H × List MemPlace) (h : DataW.trod enc Tryd.prog w base spare held n 53 cs = some y) : ∃ s : Spring, cs = sprC s := by
  obtain ⟨y0, y1, m, _, hl, h0, h1⟩ := trod_struct2 Tryd.underlying53 h
  rw [cells53] at hl
  match cs, hl with
  | [a, b, c], _ =>
    dsimp only at h0 h1
    rw [cells51] at h0
    rw [cells3] at h1
    simp only [List.drop_zero, List.take_succ_cons, List.take_zero, List.drop_succ_cons] at h0 h1
    obtain ⟨z0, z1, k, _, _, g0, g1⟩ := trod_struct2 Tryd.underlying51 h0
    dsimp only at g0 g1
    rw [cells3] at g0 g1
    simp only [List.drop_zero, List.take_succ_cons, List.take_zero, List.drop_succ_cons] at g0 g1
    obtain ⟨x0, e0, _⟩ := DataW.trod_int Tryd.underlying3 g0
    obtain ⟨x1, e1, _⟩ := DataW.trod_int Tryd.underlying3 g1
    obtain ⟨x2, e2, _⟩ := DataW.trod_int Tryd.underlying3 h1
    injection e0 with e0; injection e1 with e1; injection e2 with e2
    subst e0 e1 e2
    exact ⟨⟨x0, x1, x2⟩, rfl⟩
theorem sample_reads (n : Nat) (cs : List Value) (y : DataW H × List MemPlace) (h : DataW.trod enc Tryd.prog w base spare held n 27 cs = some y) : ∃ s : Sample, cs = samC s := by
  obtain ⟨y0, y1, m, _, hl, h0, h1⟩ := trod_struct2 Tryd.underlying27 h
  rw [cells27] at hl
  match cs, hl with
  | [a, b], _ =>
    dsimp only at h0 h1
    rw [cells3] at h0
    rw [cells4] at h1
    simp only [List.drop_zero, List.take_succ_cons, List.take_zero, List.drop_succ_cons] at h0 h1
    obtain ⟨x0, e0, _⟩ := DataW.trod_int Tryd.underlying3 h0
    obtain ⟨x1, e1, _⟩ := DataW.trod_bool Tryd.underlying4 h1
    injection e0 with e0; injection e1 with e1
    subst e0 e1
    exact ⟨⟨x0, x1⟩, rfl⟩
/-- What an argument of the type Water reads as. -/
theorem water_reads {r : Reach} {b0 : Nat} {v : Value} {d : DataW H} {p : List MemPlace} (hv : Value.okWide Tryd.prog w r b0 25 v) (h : DataW.Trod enc Tryd.prog w base (fun _ => true) held 25 v d p) :
    ∃ As Am cs cm W, v = wvW As Am cs cm W ∧ SlOf sprC 3 w w.heap.size As W.springs ∧ SlOf samC 2 w w.heap.size Am W.samples := by
  obtain ⟨v0, v1, v2, v3, v4, y0, y1, y2, y3, y4, n, rfl, _, _, h0, h1, h2, h3, h4⟩ := open_agg5 Tryd.underlying25 (by kernel_rfl) cells25 hv h
  dsimp only at h0 h1 h2 h3 h4
  obtain ⟨As, ls, cs, rfl, hs1⟩ := slice_reads sprC 3 sprC_len (by omega) Tryd.underlying22 cells53 spring_reads h0
  obtain ⟨Am, lm, cm, rfl, hs2⟩ := slice_reads samC 2 samC_len (by omega) Tryd.underlying23 cells27 sample_reads h4
  obtain ⟨x1, e1, _⟩ := DataW.trod_int Tryd.underlying3 h1
  obtain ⟨x2, e2, _⟩ := DataW.trod_int Tryd.underlying3 h2
  obtain ⟨x3, e3, _⟩ := DataW.trod_int Tryd.underlying3 h3
  injection e1 with e1; injection e2 with e2; injection e3 with e3
  subst e1 e2 e3
  exact ⟨As, Am, cs, cm, ⟨ls, x1, x2, x3, lm⟩, rfl, hs1, hs2⟩
end
end Go.Proofs.YtabcmnfofekeeaaDoor
