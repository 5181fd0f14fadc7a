/- Helper words for slices that are only read, and small facts on worlds. Nothing here speaks of the program. -/
import Derived.WalkKit
import Derived.WalkLawsBesides
import Derived.WalkSpells
import Derived.Deep.QuietTactic
import Derived.BigQuiet
import Derived.Lib.Hide
import Derived.Maps.AppendAt
import Derived.Deep.AppendLies
import Derived.Deep.Draws
import Derived.Deep.LoopGhost
import Derived.Laws.EntriesVeiled
import Derived.StillTailTactics
namespace Go.Proofs.YtabcmnfofekeeaaDoor
open Go Go.Proofs Go.RowKit

/-- The cells xs lie behind the address A (n elements of sz cells), in a block below B. -/
def Sl (w : World) (B : Nat) (sz : Nat) (A : Option Addr) (n : Nat) (xs : List Value) : Prop :=
  xs.length = n * sz ∧ (0 < n → ∃ b off, A = some ⟨b, off, none⟩ ∧ b < B ∧ ∀ j u, xs[j]? = some u → w.cell? ⟨b, off + j, none⟩ = some u)

theorem Sl.keep {w w' : World} {B sz n : Nat} {A : Option Addr} {xs : List Value} (h : Sl w B sz A n xs)
    (hk : ∀ p : Addr, p.block < B → w'.cell? p = w.cell? p) : Sl w' B sz A n xs :=
  ⟨h.1, fun hn => by
    obtain ⟨b, off, e, hb, hc⟩ := h.2 hn
    exact ⟨b, off, e, hb, fun j u hu => (hk _ hb).trans (hc j u hu)⟩⟩
theorem Sl.more {w : World} {B B' sz n : Nat} {A : Option Addr} {xs : List Value} (h : Sl w B sz A n xs) (hB : B ≤ B') : Sl w B' sz A n xs :=
  ⟨h.1, fun hn => by
    obtain ⟨b, off, e, hb, hc⟩ := h.2 hn
    exact ⟨b, off, e, by omega, hc⟩⟩
theorem Sl.below {w w' : World} {B B' sz n : Nat} {A : Option Addr} {xs : List Value} (h : Sl w B sz A n xs) (hb : Below B' w w') (hB : B ≤ B') : Sl w' B sz A n xs :=
  h.keep fun _ hp => hb.cell (Nat.lt_of_lt_of_le hp hB)
theorem Sl.alloc {w : World} {B sz n : Nat} {A : Option Addr} {xs : List Value} (h : Sl w B sz A n xs) (hB : B ≤ w.heap.size) (o : Obj) : Sl (w.alloc o) B sz A n xs :=
  h.below ((Below.refl _ w).alloc (Nat.le_refl _) o) hB
theorem Sl.drewN {w : World} {B sz n : Nat} {A : Option Addr} {xs : List Value} (h : Sl w B sz A n xs) (k : Nat) : Sl (w.drewN k) B sz A n xs := h
theorem Sl.drew {w : World} {B sz n : Nat} {A : Option Addr} {xs : List Value} (h : Sl w B sz A n xs) : Sl w.drew B sz A n xs := h
theorem Sl.nil (w : World) (B sz : Nat) (A : Option Addr) : Sl w B sz A 0 [] := ⟨by simp, fun h => absurd h (by omega)⟩

theorem flatMap_at {α : Type} (f : α → List Value) (sz : Nat) (hf : ∀ a, (f a).length = sz) : ∀ (l : List α) (k j : Nat) (hk : k < l.length), j < sz →
    (l.flatMap f)[k * sz + j]? = (f l[k])[j]?
  | a :: l, 0, j, _, hj => by
    simp only [List.flatMap_cons, Nat.zero_mul, Nat.zero_add, List.getElem_cons_zero]
    exact List.getElem?_append_left (by rw [hf]; exact hj)
  | a :: l, k + 1, j, hk, hj => by
    simp only [List.flatMap_cons, List.getElem_cons_succ]
    rw [List.getElem?_append_right (by rw [hf, Nat.succ_mul]; omega), hf]
    have e : (k + 1) * sz + j - sz = k * sz + j := by rw [Nat.succ_mul]; omega
    rw [e]
    exact flatMap_at f sz hf l k j (by simpa using hk) hj
theorem flatMap_len {α : Type} (f : α → List Value) (sz : Nat) (hf : ∀ a, (f a).length = sz) (l : List α) : (l.flatMap f).length = l.length * sz := by
  induction l with
  | nil => simp
  | cons a l ih => simp only [List.flatMap_cons, List.length_append, List.length_cons, hf, ih, Nat.succ_mul]; omega

/-- A slice whose elements read as l, each by its cells f. -/
def SlOf {α : Type} (f : α → List Value) (sz : Nat) (w : World) (B : Nat) (A : Option Addr) (l : List α) : Prop := Sl w B sz A l.length (l.flatMap f)

theorem SlOf.at_ {α : Type} {f : α → List Value} {sz : Nat} {w : World} {B : Nat} {A : Option Addr} {l : List α} (h : SlOf f sz w B A l) (hf : ∀ a, (f a).length = sz)
    {k : Nat} (hk : k < l.length) : ∃ b off, A = some ⟨b, off, none⟩ ∧ b < B ∧ ∀ j v, j < sz → (f l[k])[j]? = some v → w.cell? ⟨b, off + k * sz + j, none⟩ = some v := by
  obtain ⟨b, off, e, hb, hc⟩ := h.2 (by omega)
  refine ⟨b, off, e, hb, fun j v hj hv => ?_⟩
  rw [Nat.add_assoc]
  exact hc _ _ ((flatMap_at f sz hf l k j hk hj).trans hv)
theorem SlOf.keep {α : Type} {f : α → List Value} {sz : Nat} {w w' : World} {B : Nat} {A : Option Addr} {l : List α} (h : SlOf f sz w B A l)
    (hk : ∀ p : Addr, p.block < B → w'.cell? p = w.cell? p) : SlOf f sz w' B A l := Sl.keep h hk
theorem SlOf.more {α : Type} {f : α → List Value} {sz : Nat} {w : World} {B B' : Nat} {A : Option Addr} {l : List α} (h : SlOf f sz w B A l) (hB : B ≤ B') : SlOf f sz w B' A l := Sl.more h hB
theorem SlOf.below {α : Type} {f : α → List Value} {sz : Nat} {w w' : World} {B B' : Nat} {A : Option Addr} {l : List α} (h : SlOf f sz w B A l) (hb : Below B' w w') (hB : B ≤ B') : SlOf f sz w' B A l := Sl.below h hb hB
theorem SlOf.nil {α : Type} (f : α → List Value) (sz : Nat) (w : World) (B : Nat) (A : Option Addr) : SlOf f sz w B A [] := Sl.nil w B sz A

/-- The slice's array lies at or beyond lo. -/
def From (lo : Nat) (A : Option Addr) : Prop := ∀ a, A = some a → lo ≤ a.block
theorem From.more {lo lo' : Nat} {A : Option Addr} (h : From lo A) (hl : lo' ≤ lo) : From lo' A := fun a e => Nat.le_trans hl (h a e)
theorem Sl.setCell {w : World} {B sz n lo : Nat} {A : Option Addr} {xs : List Value} (h : Sl w B sz A n xs) (hf : From lo A) {p : Addr} (hp : p.block < lo) (u : Value) : Sl (w.setCell p u) B sz A n xs :=
  ⟨h.1, fun hn => by
    obtain ⟨b, off, e, hb, hc⟩ := h.2 hn
    have h2 : lo ≤ b := hf _ e
    exact ⟨b, off, e, hb, fun j u' hu => (World.cell?_setCell_other w p _ u (fun e => by rw [e] at hp; exact absurd hp (Nat.not_lt.2 h2))).trans (hc j u' hu)⟩⟩

/-- A slice of the call's own: its form, and that it reads. -/
theorem own_form {w : World} {base e sz n : Nat} {v : Value} {xs : List Value} (h : w.ownsRow base e sz v n xs) :
    ∃ A c, v = .slice A n c ∧ From base A ∧ Sl w w.heap.size sz A n xs ∧ (A = none → n = 0) := by
  rcases h.2 with ⟨h1, h2⟩ | ⟨g, cap, cur, h1, hg, hh, hn, hm, hs, ht⟩
  · subst h2
    refine ⟨none, 0, h1, (fun a e => by cases e), ⟨h.1, fun h => absurd h (by omega)⟩, fun _ => rfl⟩
  · subst h1
    refine ⟨_, cap, rfl, (fun a e => by cases e; exact hg), ⟨h.1, fun _ => ?_⟩, (fun e => by cases e)⟩
    have hlt : g < w.heap.size := by
      rcases Nat.lt_or_ge g w.heap.size with hlt | hge
      · exact hlt
      · rw [Array.getElem?_eq_none hge] at hh; cases hh
    refine ⟨g, 0, rfl, hlt, fun j u hu => ?_⟩
    have := h.cells (g := g) rfl j u hu
    rcases Nat.eq_zero_or_pos j with rfl | hj
    · simpa [Addr.add] using this
    · rw [Addr.add, if_neg (by omega)] at this
      simpa using this
theorem own_block {w : World} {base e sz n : Nat} {v : Value} {xs : List Value} (h : w.ownsRow base e sz v n xs) : ∀ k, v.ownBlock = some k → base ≤ k := by
  intro k hk
  rcases h.2 with ⟨h1, h2⟩ | ⟨g, cap, cur, h1, hg, _⟩
  · subst h1; cases hk
  · subst h1
    simp [Value.ownBlock] at hk
    omega

/-- The two rules by which the walk reads old memory behind a call. -/
theorem bcell {W w1 : World} {B : Nat} (hb : Below B W w1) : (∀ b o, b < B → w1.cell? ⟨b, o, none⟩ = W.cell? ⟨b, o, none⟩) ∧ (∀ b o, b < B → w1.frozen? ⟨b, o, none⟩ = W.frozen? ⟨b, o, none⟩) :=
  ⟨fun b o h => hb.cell (p := ⟨b, o, none⟩) h, fun b o h => hb.frozen (p := ⟨b, o, none⟩) h⟩

/-- What the world was is all there still. -/
abbrev Ext (w w' : World) : Prop := Below w.heap.size w w'
theorem Ext.refl (w : World) : Ext w w := Below.refl _ w
theorem Ext.trans {a b c : World} (h : Ext a b) (k : Ext b c) : Ext a c := Below.trans h (Below.mono k h.size)
theorem Ext.alloc {a w : World} (h : Ext a w) (o : Obj) : Ext a (w.alloc o) := Below.alloc h h.size o
theorem Ext.drew {a w : World} (h : Ext a w) : Ext a w.drew := Below.drew h
theorem Ext.drewN {a w : World} (h : Ext a w) (n : Nat) : Ext a (w.drewN n) := ⟨h.os, h.tape, h.output, h.size, h.block⟩
theorem Ext.setCell {a w : World} (h : Ext a w) {p : Addr} (hp : a.heap.size ≤ p.block) (u : Value) : Ext a (w.setCell p u) := Below.setCell h hp u
theorem Ext.grown {a w w' : World} {row : Option Nat} (h : Ext a w) (hg : w.grownBy w' row) (hr : ∀ k, row = some k → a.heap.size ≤ k) : Ext a w' := Below.grown h hg h.size hr

/-! ### A region that draws its order, whose operations and callees yield one value each in every world in which all that was is there still -/
structure XW (W : World) where
  w : World
  h : Ext W w
instance (W : World) : Nonempty (XW W) := ⟨⟨W, Ext.refl W⟩⟩
theorem wp_region_ext {P : Program} {id : Nat} {Q : Exit → Act → World → Prop} {a : Act} {w : World} {l : List Oper} (hm : P.follows .mixedOrders = true) (hB : Region.lexB .any l.toArray = true)
    (h : (∀ (x : XW w) (b o : Nat), b < w.heap.size → x.w.cell? ⟨b, o, none⟩ = w.cell? ⟨b, o, none⟩) →
      wpQuiet P l.toArray (fun w' => ∃ x : XW w, w' = x.w) (fun a' => ∀ w', (∃ x : XW w, w' = x.w) → Q .normal a' w') l a) : (Code.region id l.toArray true).wp P Q a w :=
  wp_region_quiet (C := fun w' => ∃ x : XW w, w' = x.w) hm hB ⟨⟨_, (Ext.refl w).drew⟩, rfl⟩ (by simpa using h (fun x b o hb => x.h.cell (p := ⟨b, o, none⟩) hb))
theorem quiet_ext {P : Program} {f : FuncId} {args : Array Value} {W : World} {x : XW W} {v : Value}
    (h : Calls P f args x.w fun e w' => e = .returned v ∧ Ext x.w w') : Calls P f args x.w fun e w'' => e = .returned v ∧ ∃ x' : XW W, w'' = x'.w :=
  h.mono fun _ _ ⟨he, hw⟩ => ⟨he, ⟨_, x.h.trans hw⟩, rfl⟩
theorem quiet_same {P : Program} {f : FuncId} {args : Array Value} {W : World} {x : XW W} {v : Value}
    (h : Calls P f args x.w fun e w' => e = .returned v ∧ x.w = w') : Calls P f args x.w fun e w'' => e = .returned v ∧ ∃ x' : XW W, w'' = x'.w :=
  h.mono fun _ _ ⟨he, hw⟩ => ⟨he, x, hw.symm⟩

/-- A region that draws its order, all of whose operations but the last ones leave the world alone. -/
theorem wp_region_tail {P : Program} {id : Nat} {Q : Exit → Act → World → Prop} {a : Act} {w : World} {l : List Oper} (n : Nat) (hm : P.follows .mixedOrders = true) (hB : Region.lexTailB .any l.toArray n = true)
    (h : wpStill P l.toArray w.drew (fun a' => wpList P l.toArray Q (l.drop n) a' w.drew) (l.take n) a) : (Code.region id l.toArray true).wp P Q a w :=
  wp_region_still_tail n hm hB h
theorem still_same {P : Program} {f : FuncId} {args : Array Value} {w : World} {v : Value} (h : Calls P f args w fun e w' => e = .returned v ∧ w = w') : Calls P f args w fun e w' => e = .returned v ∧ w' = w :=
  h.mono fun _ _ ⟨h1, h2⟩ => ⟨h1, h2.symm⟩

theorem ret_int {k : IntKind} {a b : Int} (h : a = b) : Ending.returned (.int k a) = .returned (.int k b) := by rw [h]
theorem ret_bool {a b : Bool} (h : a = b) : Ending.returned (.bool a) = .returned (.bool b) := by rw [h]
theorem val_int {k : IntKind} {a b : Int} (h : a = b) : Value.int k a = .int k b := by rw [h]
theorem val_bool {a b : Bool} (h : a = b) : Value.bool a = .bool b := by rw [h]
end Go.Proofs.YtabcmnfofekeeaaDoor
