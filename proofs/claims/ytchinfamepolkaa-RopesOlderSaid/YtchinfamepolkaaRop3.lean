/- Ropes: ropes that are valid, the damage of a fall and of a rope, fitness. -/
import Derived.Test.YtchinfamepolkaaRop2
namespace Go.Proofs.Ytchinfamepolkaa
set_option linter.unusedSimpArgs false
set_option linter.unusedVariables false
set_option linter.unusedSectionVars false
open Go Go.Proofs Go.RowKit Go.Shelf
set_option maxHeartbeats 1000000
set_option maxRecDepth 20000

theorem Cells.far {w : World} {g : Nat} {cs : List Value} (h : Cells w g cs) {p : Addr} (hp : g ≠ p.block) (u : Value) : Cells (w.setCell p u) g cs :=
  ⟨by simpa using h.1, fun i v hv => (World.cell?_setCell_other w p _ u (fun e => hp (by rw [e]))).trans (h.2 i v hv)⟩
theorem cells_new (w : World) (t : TypeId) (cs : List Value) : Cells (w.alloc (.cells cs.toArray t)) w.heap.size cs :=
  ⟨by simp, fun i u hu => ((Blk.new w t cs rfl).cell i).trans hu⟩
theorem ropeC_any (f : Fall) (bl : Nat) (last : Int) (W : World) (hc : W.cell? ⟨bl, 0, none⟩ = some (.int .i64 last)) (hf : W.frozen? ⟨bl, 0, none⟩ = false) :
    Calls Try.prog 92 #[fallV f, .pointer (some ⟨bl, 0, none⟩)] W fun e W' => e = .returned (.bool (withinB f.day last 99999 && orderedB f.hlo f.hhi 1 1000 && orderedB f.olo f.ohi 1 1000)) ∧ (W'.cell? ⟨bl, 0, none⟩ = some (.int .i64 f.day) ∧ W'.frozen? ⟨bl, 0, none⟩ = false) ∧ W.grownBy W' (some bl) := by
  have hlt : bl < W.heap.size := World.block_lt_of_cell? W _ hc
  have hne : W.heap.size ≠ bl := by omega
  have key : ∀ (w1 : World) (u : Int), Ext W w1 → ((w1.setCell ⟨bl, 0, none⟩ (.int .i64 u)).cell? ⟨bl, 0, none⟩ = some (.int .i64 u) ∧ (w1.setCell ⟨bl, 0, none⟩ (.int .i64 u)).frozen? ⟨bl, 0, none⟩ = false) ∧ W.grownBy (w1.setCell ⟨bl, 0, none⟩ (.int .i64 u)) (some bl) := fun w1 u he =>
    ⟨⟨World.cell?_setCell_same' _ _ _ (by rw [(bcell he).1 _ 0 hlt, hc]; rfl), (World.frozen?_setCell _ _ _ _).trans (((bcell he).2 _ 0 hlt).trans hf)⟩, grown_trans (ext_grownR he _) (grown_setCell w1 ⟨bl, 0, none⟩ _)⟩
  have KEY := Lib.hid key
  have KEY2 := Lib.hid (show ∀ (X : World) (u : Int) (o : Obj), (X.cell? ⟨bl, 0, none⟩ = some (.int .i64 u) ∧ X.frozen? ⟨bl, 0, none⟩ = false) ∧ W.grownBy X (some bl) → ((X.alloc o).cell? ⟨bl, 0, none⟩ = some (.int .i64 u) ∧ (X.alloc o).frozen? ⟨bl, 0, none⟩ = false) ∧ W.grownBy (X.alloc o) (some bl) from fun X u o h => by
    have hl := World.block_lt_of_cell? X _ h.1.1
    have he : Ext X (X.alloc o) := (Ext.refl X).alloc o
    exact ⟨⟨((bcell he).1 _ 0 hl).trans h.1.1, ((bcell he).2 _ 0 hl).trans h.1.2⟩, grown_trans h.2 (ext_grownR he _)⟩)
  clear key
  cases h1 : withinB f.day last 99999
  · have H1 := Lib.hid h1
    clear h1
    go_enter Try.func92, Try.ntmps92
    go_wp2_with fail
    refine (within_is _ _ _ H1.out _).mono ?_
    rintro e w1 ⟨rfl, rfl⟩
    go_wp2_with fail
    go_ret
    exact ⟨rfl, KEY2.out _ _ _ (KEY.out W f.day (Ext.refl W))⟩
  cases h2 : orderedB f.hlo f.hhi 1 1000
  · have H1 := Lib.hid h1
    have H2 := Lib.hid h2
    clear h1 h2
    go_enter Try.func92, Try.ntmps92
    go_wp2_with fail
    refine (within_is _ _ _ H1.out _).mono ?_
    rintro e w1 ⟨rfl, rfl⟩
    go_wp2_with fail
    refine (ordered_is _ _ _ _ H2.out _).mono ?_
    rintro e w1 ⟨rfl, hb1⟩
    have hE : Ext W w1 := by (repeat (first | (with_reducible exact Ext.refl _) | (with_reducible assumption) | (with_reducible refine Ext.alloc ?_ _) | (with_reducible refine Ext.trans ?_ (by with_reducible assumption)) | (with_reducible refine Ext.drew ?_) | (with_reducible refine Ext.setCell ?_ (by simp <;> omega) _)))
    have x0 := ((bcell hb1).1 W.heap.size 0 (by simp)).trans (show _ = some (.int .i64 f.day) by go_simp)
    have y0 := ((bcell hE).1 bl 0 hlt).trans hc
    have y1 := ((bcell hE).2 bl 0 hlt).trans hf
    clear hb1
    go_wp2_with fail
    go_ret
    exact ⟨rfl, KEY.out _ _ hE⟩
  cases h3 : orderedB f.olo f.ohi 1 1000
  all_goals
    have H1 := Lib.hid h1
    have H2 := Lib.hid h2
    have H3 := Lib.hid h3
    clear h1 h2 h3
    go_enter Try.func92, Try.ntmps92
    go_wp2_with fail
    refine (within_is _ _ _ H1.out _).mono ?_
    rintro e w1 ⟨rfl, rfl⟩
    go_wp2_with fail
    refine (ordered_is _ _ _ _ H2.out _).mono ?_
    rintro e w1 ⟨rfl, hb1⟩
    have x0 := ((bcell hb1).1 W.heap.size 0 (by simp)).trans (show _ = some (.int .i64 f.day) by go_simp)
    have x3 := ((bcell hb1).1 W.heap.size 3 (by simp)).trans (show _ = some (.int .i64 f.olo) by go_simp)
    have x4 := ((bcell hb1).1 W.heap.size 4 (by simp)).trans (show _ = some (.int .i64 f.ohi) by go_simp)
    have xz := Nat.lt_of_lt_of_le (show W.heap.size < (W.alloc _).heap.size by simp) (Below.size hb1)
    have hE1 : Ext W w1 := by (repeat (first | (with_reducible exact Ext.refl _) | (with_reducible assumption) | (with_reducible refine Ext.alloc ?_ _) | (with_reducible refine Ext.trans ?_ (by with_reducible assumption)) | (with_reducible refine Ext.drew ?_) | (with_reducible refine Ext.setCell ?_ (by simp <;> omega) _)))
    clear hb1
    go_wp2_with fail
    refine (ordered_is _ _ _ _ H3.out _).mono ?_
    rintro e w2 ⟨rfl, hb2⟩
    have hE : Ext W w2 := hE1.trans hb2
    have y0 := ((bcell hE).1 bl 0 hlt).trans hc
    have y1 := ((bcell hE).2 bl 0 hlt).trans hf
    replace x0 := ((bcell hb2).1 _ 0 xz).trans x0
    clear hb2 hE1 x3 x4
    go_wp2_with fail
    go_ret
    exact ⟨rfl, KEY.out _ _ hE⟩
theorem isRope_any (A : Option Addr) (c : Nat) (R : Rope) (w : World) (hl : R.falls.length ≤ 1000000) (hs : SlOf fallC 5 w w.heap.size A R.falls) :
    Calls Try.prog 65 #[ropeV A c R] w fun e w' => e = .returned (.bool (isRopeB R)) ∧ Ext w w' := by
  have HS := Lib.hid hs
  clear hs
  cases a1 : withinB R.made 0 99999
  · have H1 := Lib.hid a1
    have HR := Lib.hid (show isRopeB R = false by simp [isRopeB, ropeHead, a1])
    clear a1
    go_enter Try.func65, Try.ntmps65
    go_wp2_with fail
    refine (within_is _ _ _ H1.out _).mono ?_
    rintro e w1 ⟨rfl, rfl⟩
    go_wp2_with fail
    go_ret
    exact ⟨ret_bool HR.out.symm, by (repeat (first | (with_reducible exact Ext.refl _) | (with_reducible assumption) | (with_reducible refine Ext.alloc ?_ _) | (with_reducible refine Ext.trans ?_ (by with_reducible assumption)) | (with_reducible refine Ext.drew ?_) | (with_reducible refine Ext.setCell ?_ (by simp <;> omega) _)))⟩
  have eg := enters_of (P := Try.prog) Try.func92 (by kernel_rfl) rfl
  -- behind the head
  have tail : ∀ (v : Bool), ropeHead R = true → fallsTo R R.falls.length = v → isRopeB R = v := fun v h1 h2 => by unfold isRopeB; rw [h1, h2]; rfl
  have TAIL := Lib.hid tail
  have call : ∀ (w2 : World), w2 = (w.alloc (.cells #[.int .i64 R.made, .int .i64 R.first, .int .i64 R.length, .slice A R.falls.length c] 27)).alloc (.cells #[.int .i64 R.first] 3) →
      Calls Try.prog 91 #[.slice A R.falls.length c, .func (.func 92) #[] #[.pointer (some ⟨w.heap.size + 1, 0, none⟩)]] w2 fun e w' => e = .returned (.bool (fallsTo R R.falls.length)) ∧ Ext w w' := by
    intro w2 hw2
    have hb : Ext w w2 := by rw [hw2]; (repeat (first | (with_reducible exact Ext.refl _) | (with_reducible assumption) | (with_reducible refine Ext.alloc ?_ _) | (with_reducible refine Ext.trans ?_ (by with_reducible assumption)) | (with_reducible refine Ext.drew ?_) | (with_reducible refine Ext.setCell ?_ (by simp <;> omega) _)))
    have hsz : w2.heap.size = w.heap.size + 1 + 1 := by rw [hw2]; simp
    refine (allFall_any A c R.falls 92 _ (fallOk R) (fun k W => W.cell? ⟨w.heap.size + 1, 0, none⟩ = some (.int .i64 (prevDay R k)) ∧ W.frozen? ⟨w.heap.size + 1, 0, none⟩ = false) (some (w.heap.size + 1)) w.heap.size w2 (by omega) hb.size (HS.out.below hb (Nat.le_refl _))
      (fun r e => by injection e with e; subst e; omega) eg
      (fun k W W' h he => by
        have hlt := World.block_lt_of_cell? W _ h.1
        exact ⟨((bcell he).1 _ 0 hlt).trans h.1, ((bcell he).2 _ 0 hlt).trans h.2⟩) ?_ ⟨by rw [hw2]; clear hw2; go_simp; rfl, by rw [hw2]; clear hw2; go_simp⟩).mono ?_
    · intro k hk W h hgw
      refine (ropeC_any R.falls[k] (w.heap.size + 1) (prevDay R k) W h.1 h.2).mono ?_
      rintro e W' ⟨rfl, h2, h3⟩
      exact ⟨by rw [fallOk_is R k hk], by rw [prevDay_succ R k hk]; exact h2, h3⟩
    · rintro e w3 ⟨rfl, hg⟩
      exact ⟨rfl, Below.trans hb (grown_below (B := w.heap.size) hg hb.size (fun r e => by injection e with e; subst e; omega))⟩
  have CALL := Lib.hid call
  clear call tail
  by_cases f1 : R.first = -1
  · have n1 : (R.first != -1) = false := by simp [f1]
    have n2 : (R.first == -1) = true := by simp [f1]
    have HF1 := Lib.hid f1
    clear f1
    cases a3 : withinB R.length 1 100
    · have H1 := Lib.hid a1
      have H3 := Lib.hid a3
      have HR := Lib.hid (show isRopeB R = false by simp [isRopeB, ropeHead, a3])
      clear a1 a3
      go_enter Try.func65, Try.ntmps65
      go_wp2_with fail
      refine (within_is _ _ _ H1.out _).mono ?_
      rintro e w1 ⟨rfl, rfl⟩
      go_wp2_with fail
      refine (within_is _ _ _ H3.out _).mono ?_
      rintro e w1 ⟨rfl, rfl⟩
      go_wp2_with fail
      go_ret
      exact ⟨ret_bool HR.out.symm, by (repeat (first | (with_reducible exact Ext.refl _) | (with_reducible assumption) | (with_reducible refine Ext.alloc ?_ _) | (with_reducible refine Ext.trans ?_ (by with_reducible assumption)) | (with_reducible refine Ext.drew ?_) | (with_reducible refine Ext.setCell ?_ (by simp <;> omega) _)))⟩
    have H1 := Lib.hid a1
    have H3 := Lib.hid a3
    rcases Nat.lt_or_ge 0 R.falls.length with h0 | h0
    · have HR := Lib.hid (show isRopeB R = false by simp [isRopeB, ropeHead, n2, h0])
      clear a1 a3
      rcases Nat.lt_or_ge 10 R.falls.length with l1 | l1
      · have d1 : decide (10 < R.falls.length) = true := decide_eq_true l1
        go_enter Try.func65, Try.ntmps65
        go_wp2_with fail
        refine (within_is _ _ _ H1.out _).mono ?_
        rintro e w1 ⟨rfl, rfl⟩
        go_wp2_with fail
        refine (within_is _ _ _ H3.out _).mono ?_
        rintro e w1 ⟨rfl, rfl⟩
        go_wp2_with fail
        go_ret
        exact ⟨ret_bool HR.out.symm, by (repeat (first | (with_reducible exact Ext.refl _) | (with_reducible assumption) | (with_reducible refine Ext.alloc ?_ _) | (with_reducible refine Ext.trans ?_ (by with_reducible assumption)) | (with_reducible refine Ext.drew ?_) | (with_reducible refine Ext.setCell ?_ (by simp <;> omega) _)))⟩
      · have d1 : decide (10 < R.falls.length) = false := decide_eq_false (by omega)
        have d2 : decide (0 < R.falls.length) = true := decide_eq_true h0
        go_enter Try.func65, Try.ntmps65
        go_wp2_with fail
        refine (within_is _ _ _ H1.out _).mono ?_
        rintro e w1 ⟨rfl, rfl⟩
        go_wp2_with fail
        refine (within_is _ _ _ H3.out _).mono ?_
        rintro e w1 ⟨rfl, rfl⟩
        go_wp2_with fail
        go_ret
        exact ⟨ret_bool HR.out.symm, by (repeat (first | (with_reducible exact Ext.refl _) | (with_reducible assumption) | (with_reducible refine Ext.alloc ?_ _) | (with_reducible refine Ext.trans ?_ (by with_reducible assumption)) | (with_reducible refine Ext.drew ?_) | (with_reducible refine Ext.setCell ?_ (by simp <;> omega) _)))⟩
    · have HR := Lib.hid (TAIL.out _ (by have hnil : R.falls = [] := List.eq_nil_of_length_eq_zero (by omega); simp [ropeHead, a1, a3, n2, hnil]) rfl)
      clear a1 a3
      have d1 : decide (10 < R.falls.length) = false := decide_eq_false (by omega)
      have d2 : decide (0 < R.falls.length) = false := decide_eq_false (by omega)
      go_enter Try.func65, Try.ntmps65
      go_wp2_with fail
      refine (within_is _ _ _ H1.out _).mono ?_
      rintro e w1 ⟨rfl, rfl⟩
      go_wp2_with fail
      refine (within_is _ _ _ H3.out _).mono ?_
      rintro e w1 ⟨rfl, rfl⟩
      go_wp2_with fail
      refine (CALL.out _ rfl).mono ?_
      rintro e w2 ⟨rfl, hb2⟩
      rw [← HR.out]
      go_wp2_with fail
      go_ret
      exact ⟨rfl, hb2⟩
  · have n1 : (R.first != -1) = true := by simp [f1]
    have n2 : (R.first == -1) = false := by simp [f1]
    clear f1
    cases a2 : withinB R.first R.made 99999
    · have H1 := Lib.hid a1
      have H2 := Lib.hid a2
      have HR := Lib.hid (show isRopeB R = false by simp [isRopeB, ropeHead, a2, n2])
      clear a1 a2
      go_enter Try.func65, Try.ntmps65
      go_wp2_with fail
      refine (within_is _ _ _ H1.out _).mono ?_
      rintro e w1 ⟨rfl, rfl⟩
      go_wp2_with fail
      refine (within_is _ _ _ H2.out _).mono ?_
      rintro e w1 ⟨rfl, rfl⟩
      go_wp2_with fail
      go_ret
      exact ⟨ret_bool HR.out.symm, by (repeat (first | (with_reducible exact Ext.refl _) | (with_reducible assumption) | (with_reducible refine Ext.alloc ?_ _) | (with_reducible refine Ext.trans ?_ (by with_reducible assumption)) | (with_reducible refine Ext.drew ?_) | (with_reducible refine Ext.setCell ?_ (by simp <;> omega) _)))⟩
    cases a3 : withinB R.length 1 100
    · have H1 := Lib.hid a1
      have H2 := Lib.hid a2
      have H3 := Lib.hid a3
      have HR := Lib.hid (show isRopeB R = false by simp [isRopeB, ropeHead, a3])
      clear a1 a2 a3
      go_enter Try.func65, Try.ntmps65
      go_wp2_with fail
      refine (within_is _ _ _ H1.out _).mono ?_
      rintro e w1 ⟨rfl, rfl⟩
      go_wp2_with fail
      refine (within_is _ _ _ H2.out _).mono ?_
      rintro e w1 ⟨rfl, rfl⟩
      go_wp2_with fail
      refine (within_is _ _ _ H3.out _).mono ?_
      rintro e w1 ⟨rfl, rfl⟩
      go_wp2_with fail
      go_ret
      exact ⟨ret_bool HR.out.symm, by (repeat (first | (with_reducible exact Ext.refl _) | (with_reducible assumption) | (with_reducible refine Ext.alloc ?_ _) | (with_reducible refine Ext.trans ?_ (by with_reducible assumption)) | (with_reducible refine Ext.drew ?_) | (with_reducible refine Ext.setCell ?_ (by simp <;> omega) _)))⟩
    have H1 := Lib.hid a1
    have H2 := Lib.hid a2
    have H3 := Lib.hid a3
    rcases Nat.lt_or_ge 10 R.falls.length with l1 | l1
    · have HR := Lib.hid (show isRopeB R = false by simp [isRopeB, ropeHead]; omega)
      clear a1 a2 a3
      have d1 : decide (10 < R.falls.length) = true := decide_eq_true l1
      go_enter Try.func65, Try.ntmps65
      go_wp2_with fail
      refine (within_is _ _ _ H1.out _).mono ?_
      rintro e w1 ⟨rfl, rfl⟩
      go_wp2_with fail
      refine (within_is _ _ _ H2.out _).mono ?_
      rintro e w1 ⟨rfl, rfl⟩
      go_wp2_with fail
      refine (within_is _ _ _ H3.out _).mono ?_
      rintro e w1 ⟨rfl, rfl⟩
      go_wp2_with fail
      go_ret
      exact ⟨ret_bool HR.out.symm, by (repeat (first | (with_reducible exact Ext.refl _) | (with_reducible assumption) | (with_reducible refine Ext.alloc ?_ _) | (with_reducible refine Ext.trans ?_ (by with_reducible assumption)) | (with_reducible refine Ext.drew ?_) | (with_reducible refine Ext.setCell ?_ (by simp <;> omega) _)))⟩
    · have HR := Lib.hid (TAIL.out _ (by simp [ropeHead, a1, a2, a3, n2]; omega) rfl)
      clear a1 a2 a3
      have d1 : decide (10 < R.falls.length) = false := decide_eq_false (by omega)
      go_enter Try.func65, Try.ntmps65
      go_wp2_with fail
      refine (within_is _ _ _ H1.out _).mono ?_
      rintro e w1 ⟨rfl, rfl⟩
      go_wp2_with fail
      refine (within_is _ _ _ H2.out _).mono ?_
      rintro e w1 ⟨rfl, rfl⟩
      go_wp2_with fail
      refine (within_is _ _ _ H3.out _).mono ?_
      rintro e w1 ⟨rfl, rfl⟩
      go_wp2_with fail
      refine (CALL.out _ rfl).mono ?_
      rintro e w2 ⟨rfl, hb2⟩
      rw [← HR.out]
      go_wp2_with fail
      go_ret
      exact ⟨rfl, hb2⟩
end Go.Proofs.Ytchinfamepolkaa
