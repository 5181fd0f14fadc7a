/- slices.Clone and slices.Delete over samples. -/
import Derived.Test.YtabcmnfofekeeaaDoorBlk
import Derived.Test.YtabcmnfofekeeaaDoorWat9
import Derived.Deep.RegionLaw
import Derived.Lib.SliceRun
namespace Go.Proofs.YtabcmnfofekeeaaDoor
open Go Go.Proofs Go.RowKit Go.Shelf
set_option maxHeartbeats 1000000
set_option maxRecDepth 20000
theorem run_clear_one {P : Program} (w : World) (t e ty : TypeId) (z : Value) (zs : List Value) (ht : P.underlying t = some (.slice e)) (hv : ∀ w, (zeroValue e).run P w = .ok z w) (hz : (Builtin.zeroCells z.cells 1).toList = zs) (h1 : ∀ v ∈ zs, v.oneCell' = true) (b o c : Nat)
    (hc : ∀ j, j < zs.length → (w.cell? ⟨b, o + j, none⟩).isSome = true) (hf : ∀ j, j < zs.length → w.frozen? ⟨b, o + j, none⟩ = false) :
    (Builtin.clear_ #[t] ty #[.slice (some ⟨b, o, none⟩) 1 c]).run P w = .ok (.tuple #[]) (w.setCells b o zs) := by
  have hst := run_storeCells_cells (P := P) b o zs 0 w (by simpa using hc) (by simpa using hf) h1
  simp only [Nat.add_zero] at hst
  simp [Builtin.clear_, run_underlying ht, hv, hz, hst]
theorem below_setCells {B : Nat} {w : World} {b : Nat} (hb : B ≤ b) : ∀ (vs : List Value) (o : Nat) (W : World), Below B w W → Below B w (W.setCells b o vs)
  | [], _, _, h => h
  | v :: vs, o, W, h => below_setCells hb vs (o + 1) _ (h.setCell (p := ⟨b, o, none⟩) hb v)
theorem setCells_size (b : Nat) : ∀ (vs : List Value) (o : Nat) (W : World), (W.setCells b o vs).heap.size = W.heap.size
  | [], _, _ => rfl
  | v :: vs, o, W => (setCells_size b vs (o + 1) _).trans (by simp)
theorem setCells_frozen (b : Nat) : ∀ (vs : List Value) (o : Nat) (W : World) (p : Addr), (W.setCells b o vs).frozen? p = W.frozen? p
  | [], _, _, _ => rfl
  | v :: vs, o, W, p => (setCells_frozen b vs (o + 1) _ p).trans (World.frozen?_setCell _ _ _ _)
/-- A row of the call's own, laid open. -/
theorem own_open {w : World} {base e sz n c : Nat} {A : Option Addr} {xs : List Value} (h : w.ownsRow base e sz (.slice A n c) n xs) (hn : 0 < n) :
    ∃ g, A = some ⟨g, 0, none⟩ ∧ base ≤ g ∧ g < w.heap.size ∧ n ≤ c ∧ c ≤ maxLen ∧ (∀ j, j < c * sz → (w.cell? ⟨g, j, none⟩).isSome = true ∧ w.frozen? ⟨g, j, none⟩ = false) ∧ (∀ j u, xs[j]? = some u → w.cell? ⟨g, j, none⟩ = some u) := by
  rcases h.2 with ⟨_, h2⟩ | ⟨g, cap, cur, h1, hg, hh, hnc, hm, hs, ht⟩
  · omega
  · injection h1 with h1 h2 h3
    subst h1 h3
    have hlt : g < w.heap.size := by
      rcases Nat.lt_or_ge g w.heap.size with hlt | hge
      · exact hlt
      · rw [Array.getElem?_eq_none hge] at hh; cases hh
    refine ⟨g, rfl, hg, hlt, hnc, hm, fun j hj => ?_, fun j u hu => ?_⟩
    · constructor
      · rw [cell_of_row w g j cur e (0, 0) hh, Array.getElem?_eq_getElem (by omega)]; rfl
      · simp [World.frozen?, hh]
    · rw [cell_of_row w g j cur e (0, 0) hh, ← hu, ← ht]
      have hj : j < n * sz := by
        have := (List.getElem?_eq_some_iff.1 hu).1
        rw [h.1] at this; exact this
      rw [List.getElem?_take_of_lt hj, Array.getElem?_toList]
theorem samI : (Tryd.prog.info? 27).map (fun i => (i.zero, i.size, i.bytes)) = some (some (.agg #[.int .i64 0, .bool false]), 2, 16) := by kernel_rfl
theorem sam1 (l : List Sample) : ∀ u ∈ l.flatMap samC, u.oneCell' = true := by
  intro u hu
  simp only [List.mem_flatMap, samC, List.mem_cons, List.not_mem_nil, or_false] at hu
  obtain ⟨s, _, rfl | rfl⟩ := hu <;> rfl
theorem cloneSam_any (A : Option Addr) (c : Nat) (l : List Sample) (w : World) (hl : l.length ≤ 64) (hs : SlOf samC 2 w w.heap.size A l) :
    Calls Tryd.prog 63 #[.slice A l.length c] w fun e w' => ∃ A' c', e = .returned (.slice A' l.length c') ∧ w'.ownsRow w.heap.size 27 2 (.slice A' l.length c') l.length (l.flatMap samC) ∧ Ext w w' := by
  obtain ⟨i1, hj, hy0, hy1, hy2⟩ := info_parts samI
  rcases A with _ | ad
  · have h0 : l.length = 0 := by
      rcases Nat.eq_zero_or_pos l.length with h0 | h0
      · exact h0
      · obtain ⟨_, _, h, _⟩ := hs.2 h0; cases h
    obtain rfl : l = [] := List.eq_nil_of_length_eq_zero h0
    have he := Lib.run_eql_slice_nil w 23 _ none 0 c 0 0 Tryd.underlying23
    go_enter Tryd.func63, Tryd.ntmps63
    go_wp2
    go_ret
    exact ⟨none, 0, rfl, World.ownsRow_nil _ _ _ _, Ext.refl _⟩
  · have HS := Lib.hid hs
    have he : (binOp .eql 23 (.slice (some ad) l.length c) (.slice none 0 0)).run Tryd.prog w = .ok (.bool false) w := Lib.run_eql_slice_nil w 23 _ (some ad) l.length c 0 0 Tryd.underlying23
    clear hs
    go_enter Tryd.func63, Tryd.ntmps63
    go_wp2_with (at_builtin; refine wpList_append_sl _ rfl _ _ 23 rfl w.heap.size 27 i1 (.agg #[.int .i64 0, .bool false]) 2 16 Tryd.underlying23 hj hy0 hy1 hy2 rfl (by decide) _ 0 [] rfl (own_empty _ _ _ _ _ (by simp) (by simp)) w.heap.size (some ad) l.length c (l.flatMap samC) rfl (HS.out.below (B' := w.heap.size) (by (repeat (first | (with_reducible exact Ext.refl _) | (with_reducible assumption) | (with_reducible refine Ext.alloc ?_ _) | (with_reducible refine Ext.trans ?_ (by with_reducible assumption)) | (with_reducible refine Ext.drew ?_) | (with_reducible refine Ext.setCell ?_ (by simp <;> omega) _)))) (Nat.le_refl _)) (sam1 _) (by unfold maxLen; omega) (by omega) (by simp) ?_; intro v1 w1 hown1 hg1 h51)
    rw [Nat.zero_add, List.nil_append] at hown1
    have hE1 : Ext w w1 := Ext.grown (by (repeat (first | (with_reducible exact Ext.refl _) | (with_reducible assumption) | (with_reducible refine Ext.alloc ?_ _) | (with_reducible refine Ext.trans ?_ (by with_reducible assumption)) | (with_reducible refine Ext.drew ?_) | (with_reducible refine Ext.setCell ?_ (by simp <;> omega) _)))) hg1 (fun k hk => Nat.le_of_eq (Option.some.inj (show some w.heap.size = some k from hk)))
    obtain ⟨A1, k1, rfl, hF1, hS1, _⟩ := own_form hown1
    have HO := Lib.hid hown1
    clear hown1 hg1 h51 hF1 hS1
    go_wp2_with fail
    go_ret
    exact ⟨A1, k1, rfl, HO.out, hE1⟩

theorem samZ : ∀ w, (zeroValue 27).run Tryd.prog w = .ok (.agg #[.int .i64 0, .bool false]) w := fun w => by kernel_rfl
theorem eraseIdx_flat (l : List Sample) (i : Nat) : (l.eraseIdx i).flatMap samC = (l.take i).flatMap samC ++ (l.drop (i + 1)).flatMap samC := by
  rw [List.eraseIdx_eq_take_drop_succ, List.flatMap_append]
theorem delSam_any (A : Option Addr) (c : Nat) (l : List Sample) (i B : Nat) (w : World) (hi : i < l.length) (hl : l.length ≤ 64)
    (hown : w.ownsRow B 27 2 (.slice A l.length c) l.length (l.flatMap samC)) :
    Calls Tryd.prog 64 #[.slice A l.length c, .int .i64 (i : Int), .int .i64 ((i : Int) + 1)] w fun e w' => e = .returned (.slice A (l.eraseIdx i).length c) ∧ SlOf samC 2 w' w'.heap.size A (l.eraseIdx i) ∧ Below B w w' := by
  obtain ⟨g, rfl, hg, hlt, hnc, hm, hall, hcells⟩ := own_open hown (by omega)
  obtain ⟨i1, hj, hy0, hy1, hy2⟩ := info_parts samI
  obtain ⟨news, hnews⟩ : ∃ news, news = (l.drop (i + 1)).flatMap samC := ⟨_, rfl⟩
  have hlen : news.length = (l.length - (i + 1)) * 2 := by rw [hnews, flatMap_len samC 2 samC_len, List.length_drop]
  have hget : ∀ t u, news[t]? = some u → w.cell? ⟨g, (i + 1) * 2 + t, none⟩ = some u := by
    intro t u hu
    refine hcells _ _ ?_
    have h1 : l.flatMap samC = (l.take (i + 1)).flatMap samC ++ news := by rw [hnews, ← List.flatMap_append, List.take_append_drop]
    have h2 : ((l.take (i + 1)).flatMap samC).length = (i + 1) * 2 := by rw [flatMap_len samC 2 samC_len, List.length_take]; congr 1; omega
    rw [h1, List.getElem?_append_right (by omega), h2, Nat.add_sub_cancel_left]
    exact hu
  obtain ⟨A2, hA2, hsrc⟩ : ∃ A2 : Addr, (if c = i + 1 then some (⟨g, 0, none⟩ : Addr) else some ⟨g, (i + 1) * 2, none⟩) = some A2 ∧ Hid (∀ t u, news[t]? = some u → w.drew.cell? (A2.add t) = some u) := by
    by_cases h : c = i + 1
    · refine ⟨⟨g, 0, none⟩, by simp [h], fun t u hu => ?_⟩
      have h0 : news.length = 0 := by rw [hlen]; omega
      rw [List.length_eq_zero_iff.1 h0] at hu
      simp at hu
    · refine ⟨⟨g, (i + 1) * 2, none⟩, by simp [h], fun t u hu => ?_⟩
      rw [Addr.add_lit]
      exact hget t u hu
  have s1 : Hid (news.length = (l.length - (i + 1)) * 2) := hlen
  have s2 : Hid (∀ u ∈ news, u.oneCell' = true) := by rw [hnews]; exact sam1 _
  have s3 : Hid (∀ t, t < news.length → (w.drew.cell? ⟨g, 0 + i * 2 + t, none⟩).isSome = true ∧ w.drew.frozen? ⟨g, 0 + i * 2 + t, none⟩ = false) := by
    intro t ht
    rw [hlen] at ht
    exact hall _ (by omega)
  obtain ⟨W1, hW1⟩ : ∃ W1, W1 = w.drew.setCells g (0 + i * 2) news := ⟨_, rfl⟩
  have hall1 : ∀ j, j < c * 2 → (W1.cell? ⟨g, j, none⟩).isSome = true ∧ W1.frozen? ⟨g, j, none⟩ = false := by
    intro j hj
    rw [hW1]
    refine ⟨?_, (setCells_frozen g _ _ _ _).trans (hall j hj).2⟩
    by_cases h : 0 + i * 2 ≤ j ∧ j < 0 + i * 2 + news.length
    · have := World.cell?_setCells_in g news (0 + i * 2) w.drew (fun t ht => (s3.out t ht).1) (j - (0 + i * 2)) (by omega)
      rw [show 0 + i * 2 + (j - (0 + i * 2)) = j by omega] at this
      rw [this]; rfl
    · rw [World.cell?_setCells_out g _ _ _ _ (fun _ _ => by simp only; omega)]
      exact (hall j hj).1
  have HALL1 := Lib.hid hall1
  have HALL := Lib.hid hall
  have hcl : ∀ ty, (Builtin.clear_ #[23] ty #[.slice (some ⟨g, (l.length - 1) * 2, none⟩) (l.length - (l.length - 1)) (c - (l.length - 1))]).run Tryd.prog W1 = .ok (.tuple #[]) (W1.setCells g ((l.length - 1) * 2) [.int .i64 0, .bool false]) := fun ty => by
    rw [show l.length - (l.length - 1) = 1 by omega]
    exact run_clear_one W1 _ _ ty _ [.int .i64 0, .bool false] Tryd.underlying23 samZ (by kernel_rfl) (by simp [Value.oneCell']) g _ _ (fun t ht => (HALL1.out _ (by simp at ht; omega)).1) (fun t ht => (HALL1.out _ (by simp at ht; omega)).2)
  have hW : Hid (W1 = w.drew.setCells g (0 + i * 2) news) := hW1
  have HCELLS := Lib.hid hcells
  have HNEWS := Lib.hid hnews
  have HLEN := Lib.hid hlen
  have hic : i ≤ c := by omega
  have hjc : i + 1 ≤ c := by omega
  have x1 : (0 : Int) ≤ (i : Int) + 1 := by omega
  have x2 : (i : Int) + 1 ≤ (l.length : Int) := by omega
  clear hW1 hall1 hall hcells hget hnews hlen hown
  go_enter Tryd.func64, Tryd.ntmps64
  go_wp2_with fail
  go_region_law (refine step_append_room rfl (.tmp 22) (.tmp 25) 23 rfl 27 i1 2 Tryd.underlying23 hj hy1 g 0 i c (by simp [Act.eval, Act.put]) A2 (l.length - (i + 1)) (c - (i + 1)) news (by simp [Act.eval, Act.put]) s1.out hsrc.out s2.out (by omega) s3.out ?_; rw [← hW.out, show i + (l.length - (i + 1)) = l.length - 1 by omega])
  go_wp2
  go_ret
  have hel : (l.eraseIdx i).length = l.length - 1 := by rw [List.length_eraseIdx]; simp [hi]
  have hfl : ((l.eraseIdx i).flatMap samC).length = (l.length - 1) * 2 := by rw [flatMap_len samC 2 samC_len, hel]
  refine ⟨by rw [hel]; rfl, ⟨by rw [hfl, hel], fun _ => ⟨g, 0, rfl, ?_, fun j u hu => ?_⟩⟩, ?_⟩
  · rw [setCells_size, hW.out, setCells_size]; exact hlt
  · have hj := (List.getElem?_eq_some_iff.1 hu).1
    rw [hfl] at hj
    rw [World.cell?_setCells_out g _ _ _ _ (fun _ _ => by left; simp only; omega), hW.out]
    rw [eraseIdx_flat, ← HNEWS.out] at hu
    have htl : ((l.take i).flatMap samC).length = i * 2 := by rw [flatMap_len samC 2 samC_len, List.length_take]; congr 1; omega
    by_cases h : j < i * 2
    · rw [World.cell?_setCells_out g _ _ _ _ (fun _ _ => by left; simp only; omega)]
      rw [List.getElem?_append_left (by omega)] at hu
      rw [Nat.zero_add]
      refine HCELLS.out j u ?_
      rw [← List.take_append_drop i l, List.flatMap_append, List.getElem?_append_left (by omega)]
      exact hu
    · rw [List.getElem?_append_right (by omega), htl] at hu
      have hjn := (List.getElem?_eq_some_iff.1 hu).1
      have := World.cell?_setCells_in g news (0 + i * 2) w.drew (fun t ht => (s3.out t ht).1) (j - i * 2) hjn
      rw [show 0 + i * 2 + (j - i * 2) = 0 + j by omega, ← List.getElem?_eq_getElem hjn, hu] at this
      exact this
  · exact below_setCells hg _ _ _ (by rw [hW.out]; exact below_setCells hg _ _ _ (Below.drew (Below.refl _ _)))
end Go.Proofs.YtabcmnfofekeeaaDoor
