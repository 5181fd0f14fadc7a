/- Ropes: posts that are valid; the fewest. -/
import Derived.Test.YtchinfamepolkaaRop9
namespace Go.Proofs.Ytchinfamepolkaa
set_option linter.unusedSimpArgs false
set_option linter.unusedVariables false
set_option linter.unusedSectionVars false
open Go Go.Proofs Go.RowKit Go.Shelf
set_option maxHeartbeats 1000000
set_option maxRecDepth 20000

def postsE (l : List Post) (told : Bool) : Int := if !arePosts l then 94 else if !told then 1 else 0
def postW (l : List Post) (k : Nat) : Bool := match l[k]? with
  | none => false
  | some p => withinB p.at_ (wrap64 (prevAt l k + 1)) 100000 && orderedB p.lo p.hi 0 100
theorem postW_all (l : List Post) (n : Nat) (hn : n ≤ l.length) : (List.range n).all (postW l) = postsTo l n := by
  induction n with
  | zero => rfl
  | succ n ih =>
    rw [postsTo_succ, List.range_succ, List.all_append, ih (by omega)]
    cases h : postsTo l n
    · rfl
    · have hb := prevAt_bd (by omega) h
      have hw := w64 (prevAt l n + 1) (by omega) (by omega)
      simp only [List.all_cons, List.all_nil, Bool.and_true, Bool.true_and]
      unfold postW postOk
      rw [hw]
      rfl
theorem postC_any (f : Post) (bl : Nat) (last : Int) (W : World) (hc : W.cell? ⟨bl, 0, none⟩ = some (.int .i64 last)) (hf : W.frozen? ⟨bl, 0, none⟩ = false) :
    Calls Try.prog 82 #[postV f, .pointer (some ⟨bl, 0, none⟩)] W fun e W' => e = .returned (.bool (withinB f.at_ (wrap64 (last + 1)) 100000 && orderedB f.lo f.hi 0 100)) ∧ (W'.cell? ⟨bl, 0, none⟩ = some (.int .i64 f.at_) ∧ W'.frozen? ⟨bl, 0, none⟩ = false) ∧ W.grownBy W' (some bl) := by
  have hlt : bl < W.heap.size := World.block_lt_of_cell? W _ hc
  have hne : W.heap.size ≠ bl := by omega
  have key : ∀ (w1 : World) (u : Int), Ext W w1 → ((w1.setCell ⟨bl, 0, none⟩ (.int .i64 u)).cell? ⟨bl, 0, none⟩ = some (.int .i64 u) ∧ (w1.setCell ⟨bl, 0, none⟩ (.int .i64 u)).frozen? ⟨bl, 0, none⟩ = false) ∧ W.grownBy (w1.setCell ⟨bl, 0, none⟩ (.int .i64 u)) (some bl) := fun w1 u he =>
    ⟨⟨World.cell?_setCell_same' _ _ _ (by rw [(bcell he).1 _ 0 hlt, hc]; rfl), (World.frozen?_setCell _ _ _ _).trans (((bcell he).2 _ 0 hlt).trans hf)⟩, grown_trans (ext_grownR he _) (grown_setCell w1 ⟨bl, 0, none⟩ _)⟩
  have KEY := Lib.hid key
  have KEY2 := Lib.hid (show ∀ (X : World) (u : Int) (o : Obj), (X.cell? ⟨bl, 0, none⟩ = some (.int .i64 u) ∧ X.frozen? ⟨bl, 0, none⟩ = false) ∧ W.grownBy X (some bl) → ((X.alloc o).cell? ⟨bl, 0, none⟩ = some (.int .i64 u) ∧ (X.alloc o).frozen? ⟨bl, 0, none⟩ = false) ∧ W.grownBy (X.alloc o) (some bl) from fun X u o h => by
    have hl := World.block_lt_of_cell? X _ h.1.1
    have he : Ext X (X.alloc o) := (Ext.refl X).alloc o
    exact ⟨⟨((bcell he).1 _ 0 hl).trans h.1.1, ((bcell he).2 _ 0 hl).trans h.1.2⟩, grown_trans h.2 (ext_grownR he _)⟩)
  clear key
  cases h1 : withinB f.at_ (wrap64 (last + 1)) 100000
  · have H1 := Lib.hid h1
    clear h1
    go_enter Try.func82, Try.ntmps82
    go_wp2_with fail
    refine (within_is _ _ _ H1.out _).mono ?_
    rintro e w1 ⟨rfl, rfl⟩
    go_wp2_with fail
    go_ret
    exact ⟨rfl, KEY2.out _ _ _ (KEY.out W f.at_ (Ext.refl W))⟩
  have H1 := Lib.hid h1
  clear h1
  go_enter Try.func82, Try.ntmps82
  go_wp2_with fail
  refine (within_is _ _ _ H1.out _).mono ?_
  rintro e w1 ⟨rfl, rfl⟩
  go_wp2_with fail
  refine (ordered_any _ _ _ _ _).mono ?_
  rintro e w1 ⟨rfl, hb1⟩
  have hE : Ext W w1 := by (repeat (first | (with_reducible exact Ext.refl _) | (with_reducible assumption) | (with_reducible refine Ext.alloc ?_ _) | (with_reducible refine Ext.trans ?_ (by with_reducible assumption)) | (with_reducible refine Ext.drew ?_) | (with_reducible refine Ext.setCell ?_ (by simp <;> omega) _)))
  have x0 := ((bcell hb1).1 W.heap.size 0 (by simp)).trans (show _ = some (.int .i64 f.at_) by go_simp)
  have y0 := ((bcell hE).1 bl 0 hlt).trans hc
  have y1 := ((bcell hE).2 bl 0 hlt).trans hf
  clear hb1
  go_wp2_with fail
  go_ret
  exact ⟨rfl, KEY.out _ _ hE⟩
theorem checkPosts_any (A : Option Addr) (c : Nat) (l : List Post) (told : Bool) (w : World) (hl : l.length ≤ 1000000) (hs : SlOf postC 3 w w.heap.size A l) :
    Calls Try.prog 50 #[.slice A l.length c, .bool told] w fun e w' => e = .returned (.int .i64 (postsE l told)) ∧ Ext w w' := by
  have HS := Lib.hid hs
  clear hs
  rcases Nat.lt_or_ge 8 l.length with h8 | h8
  · have HR := Lib.hid (show postsE l told = 94 by simp [postsE, arePosts]; omega)
    have d1 : decide (8 < l.length) = true := decide_eq_true h8
    go_enter Try.func50, Try.ntmps50
    go_wp2_with fail
    go_ret
    exact ⟨ret_int HR.out.symm, by (repeat (first | (with_reducible exact Ext.refl _) | (with_reducible assumption) | (with_reducible refine Ext.alloc ?_ _) | (with_reducible refine Ext.trans ?_ (by with_reducible assumption)) | (with_reducible refine Ext.drew ?_) | (with_reducible refine Ext.setCell ?_ (by simp <;> omega) _)))⟩
  have eg := enters_of (P := Try.prog) Try.func82 (by kernel_rfl) rfl
  have call : ∀ (w2 : World), w2 = w.alloc (.cells #[.int .i64 (-1)] 3) →
      Calls Try.prog 84 #[.slice A l.length c, .func (.func 82) #[] #[.pointer (some ⟨w.heap.size, 0, none⟩)]] w2 fun e w' => e = .returned (.bool (postsTo l l.length)) ∧ Ext w w' := by
    intro w2 hw2
    have hb : Ext w w2 := by rw [hw2]; (repeat (first | (with_reducible exact Ext.refl _) | (with_reducible assumption) | (with_reducible refine Ext.alloc ?_ _) | (with_reducible refine Ext.trans ?_ (by with_reducible assumption)) | (with_reducible refine Ext.drew ?_) | (with_reducible refine Ext.setCell ?_ (by simp <;> omega) _)))
    have hsz : w2.heap.size = w.heap.size + 1 := by rw [hw2]; simp
    refine (allPost_any A c l 82 _ (postW l) (fun k W => W.cell? ⟨w.heap.size, 0, none⟩ = some (.int .i64 (prevAt l k)) ∧ W.frozen? ⟨w.heap.size, 0, none⟩ = false) (some w.heap.size) w.heap.size w2 (by omega) hb.size (HS.out.below hb (Nat.le_refl _))
      (fun r e => by injection e with e; subst e; omega) eg
      (fun k W W' h he => by
        have hlt := World.block_lt_of_cell? W _ h.1
        exact ⟨((bcell he).1 _ 0 hlt).trans h.1, ((bcell he).2 _ 0 hlt).trans h.2⟩) ?_ ⟨by rw [hw2]; clear hw2; go_simp; rfl, by rw [hw2]; clear hw2; go_simp⟩).mono ?_
    · intro k hk W h hgw
      refine (postC_any l[k] w.heap.size (prevAt l k) W h.1 h.2).mono ?_
      rintro e W' ⟨rfl, h2, h3⟩
      exact ⟨by unfold postW; rw [List.getElem?_eq_getElem hk], by rw [prevAt_succ l k hk]; exact h2, h3⟩
    · rintro e w3 ⟨rfl, hg⟩
      exact ⟨by rw [postW_all l l.length (Nat.le_refl _)], Below.trans hb (grown_below (B := w.heap.size) hg hb.size (fun r e => by injection e with e; subst e; omega))⟩
  have CALL := Lib.hid call
  have d1 : decide (8 < l.length) = false := decide_eq_false (by omega)
  clear call
  cases hp : postsTo l l.length
  · have HR := Lib.hid (show postsE l told = 94 by simp [postsE, arePosts, hp])
    have HPP := Lib.hid hp
    clear hp
    go_enter Try.func50, Try.ntmps50
    go_wp2_with fail
    refine (CALL.out _ rfl).mono ?_
    rintro e w2 ⟨rfl, hb2⟩
    rw [HPP.out]
    go_wp2_with fail
    go_ret
    exact ⟨ret_int HR.out.symm, hb2⟩
  · cases told
    · have HR := Lib.hid (show postsE l false = 1 by simp [postsE, arePosts, hp]; omega)
      have HPP := Lib.hid hp
      clear hp
      go_enter Try.func50, Try.ntmps50
      go_wp2_with fail
      refine (CALL.out _ rfl).mono ?_
      rintro e w2 ⟨rfl, hb2⟩
      rw [HPP.out]
      go_wp2_with fail
      go_ret
      exact ⟨ret_int HR.out.symm, hb2⟩
    · have HR := Lib.hid (show postsE l true = 0 by simp [postsE, arePosts, hp]; omega)
      have HPP := Lib.hid hp
      clear hp
      go_enter Try.func50, Try.ntmps50
      go_wp2_with fail
      refine (CALL.out _ rfl).mono ?_
      rintro e w2 ⟨rfl, hb2⟩
      rw [HPP.out]
      go_wp2_with fail
      go_ret
      exact ⟨ret_int HR.out.symm, hb2⟩
theorem toList_made1 (n : Nat) : (Go.madeCells #[.int .i64 0] (n * 1)).toList = List.replicate n (.int .i64 0) := by rw [Nat.mul_one]; exact Go.toList_madeCells_one _ n
theorem selTo_pos (n s : Nat) : selTo (List.range n) (bitB (s : Int)) (List.range n).length = posTo n s := by
  unfold selTo posTo
  rw [List.length_range]
  have e : (List.range n).filter (bitB (s : Int)) = (List.range n).filter fun i => s.testBit i := by
    congr 1
    funext i
    exact bitB_nat s i
  rw [e]
  have key : ∀ (l : List Nat), (∀ i ∈ l, i < n) → l.map (fun i => (List.range n)[i]!) = l := by
    intro l h
    have : l.map (fun i => (List.range n)[i]!) = l.map id := by
      apply List.map_congr_left
      intro i hi
      have := h i hi
      rw [getElem!_pos (List.range n) i (by simpa using this)]
      simp
    rw [this, List.map_id]
  refine key _ fun i hi => ?_
  have := (List.mem_filter.1 hi).1
  simpa using this
theorem pow2_w (k : Nat) (hk : k ≤ 8) : wrap64 (2 ^ k) = ((2 ^ k : Nat) : Int) := by
  have h1 : (2 ^ k : Nat) ≤ 2 ^ 8 := Nat.pow_le_pow_right (by omega) hk
  have h2 : ((2 ^ k : Nat) : Int) = 2 ^ k := by simp
  rw [← h2]
  generalize (2 ^ k : Nat) = N at *
  exact w64 _ (by omega) (by omega)
end Go.Proofs.Ytchinfamepolkaa
