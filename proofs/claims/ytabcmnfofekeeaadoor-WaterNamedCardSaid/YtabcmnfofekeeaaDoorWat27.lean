import Derived.Test.YtabcmnfofekeeaaDoorBlk
import Derived.Test.YtabcmnfofekeeaaDoorWat25
namespace Go.Proofs.YtabcmnfofekeeaaDoor
open Go Go.Proofs Go.RowKit Go.Shelf
set_option maxHeartbeats 1000000
set_option maxRecDepth 20000
theorem spring_info : (Tryd.prog.info? 53).map (fun i => (i.zero, i.size, i.bytes)) = some (some (.agg #[.int .i64 0, .int .i64 0, .int .i64 0]), 3, 24) := by kernel_rfl
theorem sample_info : (Tryd.prog.info? 27).map (fun i => (i.zero, i.size, i.bytes)) = some (some (.agg #[.int .i64 0, .bool false]), 2, 16) := by kernel_rfl
theorem spr_one (l : List Spring) : ∀ u ∈ l.flatMap sprC, u.oneCell' = true := by
  intro u hu
  simp only [List.mem_flatMap, sprC, List.mem_cons, List.not_mem_nil, or_false] at hu
  obtain ⟨s, _, rfl | rfl | rfl⟩ := hu <;> rfl
theorem sam_one (l : List Sample) : ∀ u ∈ l.flatMap samC, u.oneCell' = true := by
  intro u hu
  simp only [List.mem_flatMap, samC, List.mem_cons, List.not_mem_nil, or_false] at hu
  obtain ⟨s, _, rfl | rfl⟩ := hu <;> rfl
theorem copy_any (As Am : Option Addr) (cs cm : Nat) (W : Water) (w : World) (hin : WaterIn w As Am W) (hn : W.springs.length ≤ 64) (hm : W.samples.length ≤ 64) :
    Calls Tryd.prog 15 #[wvW As Am cs cm W] w fun e w' => ∃ As' Am' cs' cm', e = .returned (wvW As' Am' cs' cm' W) ∧ WaterIn w' As' Am' W ∧
      (w'.ownsRow w.heap.size 27 2 (.slice Am' W.samples.length cm') W.samples.length (W.samples.flatMap samC) ∧ w'.ownsRow w.heap.size 53 3 (.slice As' W.springs.length cs') W.springs.length (W.springs.flatMap sprC)) ∧ Ext w w' := by
  obtain ⟨i0, hi, hz0, hz1, hz2⟩ := info_parts spring_info
  obtain ⟨i1, hj, hy0, hy1, hy2⟩ := info_parts sample_info
  have HIN := Lib.hid hin
  clear hin
  go_enter Tryd.func15, Tryd.ntmps15
  go_wp2_with (first
    | (at_builtin
       refine wpList_append_sl _ rfl _ _ 22 rfl (w.heap.size + 3) 53 i0 (.agg #[.int .i64 0, .int .i64 0, .int .i64 0]) 3 24 Tryd.underlying22 hi hz0 hz1 hz2 rfl (by decide) _ 0 [] rfl (own_empty _ _ _ _ _ (by simp) (by simp)) w.heap.size As W.springs.length cs (W.springs.flatMap sprC) rfl (HIN.out.1.below (B' := w.heap.size) (by (repeat (first | (with_reducible exact Ext.refl _) | (with_reducible assumption) | (with_reducible refine Ext.alloc ?_ _) | (with_reducible refine Ext.trans ?_ (by with_reducible assumption)) | (with_reducible refine Ext.drew ?_) | (with_reducible refine Ext.setCell ?_ (by simp <;> omega) _)))) (Nat.le_refl _)) (spr_one _) (by unfold maxLen; omega) (by omega) (by simp) ?_
       intro v1 w1 hown1 hg1 h51
       rw [Nat.zero_add, List.nil_append] at hown1
       have hr1 : ∀ k, (Value.slice (some ⟨w.heap.size + 1 + 1 + 1, 0, none⟩) 0 0).ownBlock = some k → w.heap.size + 3 ≤ k := fun k hk => by simp [Value.ownBlock] at hk; omega
       have hb1 := (Below.refl (w.heap.size + 3) _).grown hg1 (by simp) hr1
       have hE1 : Ext w w1 := Ext.grown (by (repeat (first | (with_reducible exact Ext.refl _) | (with_reducible assumption) | (with_reducible refine Ext.alloc ?_ _) | (with_reducible refine Ext.trans ?_ (by with_reducible assumption)) | (with_reducible refine Ext.drew ?_) | (with_reducible refine Ext.setCell ?_ (by simp <;> omega) _)))) hg1 (fun k hk => by have := hr1 k hk; omega)
       obtain ⟨hc1, hf1⟩ := bcell hb1
       have hz1' : w.heap.size + 3 < w1.heap.size := by have := hb1.size; simp at this; omega
       have za : w.heap.size < w1.heap.size := by omega
       have zb : w.heap.size + 1 < w1.heap.size := by omega
       have zc : w.heap.size + 1 + 1 < w1.heap.size := by omega
       have b4 := (hc1 w.heap.size 4 (by omega)).trans (show _ = some (.slice Am W.samples.length cm) by go_simp)
       have c0 := (hc1 (w.heap.size + 1 + 1) 0 (by omega)).trans (show _ = some (.slice As W.springs.length cs) by go_simp)
       have c1 := (hc1 (w.heap.size + 1 + 1) 1 (by omega)).trans (show _ = some (.int .i64 W.most) by go_simp)
       have c2 := (hc1 (w.heap.size + 1 + 1) 2 (by omega)).trans (show _ = some (.int .i64 W.misses) by go_simp)
       have c3 := (hc1 (w.heap.size + 1 + 1) 3 (by omega)).trans (show _ = some (.int .i64 W.alarms) by go_simp)
       have c4 := (hc1 (w.heap.size + 1 + 1) 4 (by omega)).trans (show _ = some (.slice Am W.samples.length cm) by go_simp)
       have cz := fun i => (hf1 (w.heap.size + 1 + 1) i (by omega)).trans (show _ = false by go_simp)
       have d0 := (hc1 (w.heap.size + 1) 0 (by omega)).trans (show _ = some (.slice none 0 0) by go_simp)
       have d1 := (hc1 (w.heap.size + 1) 1 (by omega)).trans (show _ = some (.int .i64 0) by go_simp)
       have d2 := (hc1 (w.heap.size + 1) 2 (by omega)).trans (show _ = some (.int .i64 0) by go_simp)
       have d3 := (hc1 (w.heap.size + 1) 3 (by omega)).trans (show _ = some (.int .i64 0) by go_simp)
       have d4 := (hc1 (w.heap.size + 1) 4 (by omega)).trans (show _ = some (.slice none 0 0) by go_simp)
       have dz := fun i => (hf1 (w.heap.size + 1) i (by omega)).trans (show _ = false by go_simp)
       obtain ⟨A1, k1, rfl, hF1, hS1, _⟩ := own_form hown1
       have HO1 := Lib.hid hown1
       clear hown1 hg1 h51 hb1 hc1 hf1 hr1)
    | (at_builtin
       refine wpList_append_sl _ rfl _ _ 23 rfl w1.heap.size 27 i1 (.agg #[.int .i64 0, .bool false]) 2 16 Tryd.underlying23 hj hy0 hy1 hy2 rfl (by decide) _ 0 [] rfl (own_empty _ _ _ _ _ (by simp) (by simp)) w.heap.size Am W.samples.length cm (W.samples.flatMap samC) rfl (HIN.out.2.1.below (B' := w.heap.size) (by (repeat (first | (with_reducible exact Ext.refl _) | (with_reducible assumption) | (with_reducible refine Ext.alloc ?_ _) | (with_reducible refine Ext.trans ?_ (by with_reducible assumption)) | (with_reducible refine Ext.drew ?_) | (with_reducible refine Ext.setCell ?_ (by simp <;> omega) _)))) (Nat.le_refl _)) (sam_one _) (by unfold maxLen; omega) (by omega) (by simp) ?_
       intro v2 w2 hown2 hg2 h52
       rw [Nat.zero_add, List.nil_append] at hown2
       have hr2 : ∀ k, (Value.slice (some ⟨w1.heap.size, 0, none⟩) 0 0).ownBlock = some k → w1.heap.size ≤ k := fun k hk => by simp [Value.ownBlock] at hk; omega
       have hb2 := (Below.refl w1.heap.size _).grown hg2 (by simp) hr2
       have hE2 : Ext w w2 := Ext.grown (by (repeat (first | (with_reducible exact Ext.refl _) | (with_reducible assumption) | (with_reducible refine Ext.alloc ?_ _) | (with_reducible refine Ext.trans ?_ (by with_reducible assumption)) | (with_reducible refine Ext.drew ?_) | (with_reducible refine Ext.setCell ?_ (by simp <;> omega) _)))) hg2 (fun k hk => by have := hr2 k hk; omega)
       obtain ⟨hc2, hf2⟩ := bcell hb2
       have hz2' : w1.heap.size < w2.heap.size := by have := hb2.size; simp at this; omega
       have ya : w.heap.size < w2.heap.size := by omega
       have yb : w.heap.size + 1 < w2.heap.size := by omega
       have yc : w.heap.size + 1 + 1 < w2.heap.size := by omega
       have hS2 := Sl.below (((hS1.setCell hF1 (p := ⟨w.heap.size + 1 + 1, 0, none⟩) (by simp) (.slice A1 W.springs.length k1)).alloc (by simp) (.cells #[] 27))) hb2 (Nat.le_refl _)
       have e0 := (hc2 (w.heap.size + 1 + 1) 0 (by omega)).trans (show _ = some (.slice A1 W.springs.length k1) by go_simp)
       have e1 := (hc2 (w.heap.size + 1 + 1) 1 (by omega)).trans (show _ = some (.int .i64 W.most) by go_simp)
       have e2 := (hc2 (w.heap.size + 1 + 1) 2 (by omega)).trans (show _ = some (.int .i64 W.misses) by go_simp)
       have e3 := (hc2 (w.heap.size + 1 + 1) 3 (by omega)).trans (show _ = some (.int .i64 W.alarms) by go_simp)
       have e4 := (hc2 (w.heap.size + 1 + 1) 4 (by omega)).trans (show _ = some (.slice Am W.samples.length cm) by go_simp)
       have ez := fun i => (hf2 (w.heap.size + 1 + 1) i (by omega)).trans (show _ = false by go_simp)
       have h0 := (hc2 (w.heap.size + 1) 0 (by omega)).trans (show _ = some (.slice none 0 0) by go_simp)
       have h1 := (hc2 (w.heap.size + 1) 1 (by omega)).trans (show _ = some (.int .i64 0) by go_simp)
       have h2 := (hc2 (w.heap.size + 1) 2 (by omega)).trans (show _ = some (.int .i64 0) by go_simp)
       have h3 := (hc2 (w.heap.size + 1) 3 (by omega)).trans (show _ = some (.int .i64 0) by go_simp)
       have h4 := (hc2 (w.heap.size + 1) 4 (by omega)).trans (show _ = some (.slice none 0 0) by go_simp)
       have hz := fun i => (hf2 (w.heap.size + 1) i (by omega)).trans (show _ = false by go_simp)
       obtain ⟨A2, k2, rfl, hF2, hS3, _⟩ := own_form hown2
       have HO2 := Lib.hid hown2
       have HO3 := Lib.hid (World.ownsRow.kept ((ownsRow_setCell_below HO1.out (a := ⟨w.heap.size + 1 + 1, 0, none⟩) (by simp) (.slice A1 W.springs.length k1)).alloc (.cells #[] 27)) hg2 (.inr (fun e => by have := (HO1.out.lt w1.heap.size (by rw [e]; rfl)).2; omega)))
       clear hown2 hg2 h52 hb2 hc2 hf2 hr2 b4 c0 c1 c2 c3 c4 cz d0 d1 d2 d3 d4 dz))
  refine bodyPost_ret (v := wvW A1 A2 k1 k2 W) (by simp only [results, Tryd.results15]; go_simp) rfl ⟨A1, A2, k1, k2, rfl, ⟨?_, ?_, HIN.out.2.2⟩, ⟨?_, ?_⟩, by (repeat (first | (with_reducible exact Ext.refl _) | (with_reducible assumption) | (with_reducible refine Ext.alloc ?_ _) | (with_reducible refine Ext.trans ?_ (by with_reducible assumption)) | (with_reducible refine Ext.drew ?_) | (with_reducible refine Ext.setCell ?_ (by simp <;> omega) _)))⟩
  · refine Sl.more (B := w1.heap.size) ?_ (by simp; omega)
    repeat (first | (with_reducible exact hS2) | with_reducible refine Sl.setCell ?_ hF1 (by simp) _)
  · refine Sl.more (B := w2.heap.size) ?_ (by simp)
    repeat (first | (with_reducible exact hS3) | with_reducible refine Sl.setCell ?_ hF2 (by first | (with_reducible exact zb) | (with_reducible exact zc)) _)
  · refine own_base (base := w1.heap.size) ?_ (by omega)
    repeat (first | (with_reducible exact HO2.out) | with_reducible refine ownsRow_setCell_below ?_ (by first | (with_reducible exact zb) | (with_reducible exact zc)) _)
  · refine own_base (base := w.heap.size + 3) ?_ (by omega)
    repeat (first | (with_reducible exact HO3.out) | with_reducible refine ownsRow_setCell_below ?_ (by simp) _)
end Go.Proofs.YtabcmnfofekeeaaDoor
