import Derived.Test.YtabcmnfofekeeaaDoorWat20
namespace Go.Proofs.YtabcmnfofekeeaaDoor
open Go Go.Proofs Go.RowKit Go.Shelf
set_option maxHeartbeats 1000000
set_option maxRecDepth 20000

/-! ### the example -/
def W0 : Water := ⟨[⟨10, 20, 4⟩, ⟨30, 30, 9⟩, ⟨5, 50, 2⟩], 1, 1, 0, [⟨3, false⟩, ⟨3, false⟩, ⟨4, false⟩]⟩
theorem w0_truths : truthsW W0 = [0, 4] := by decide +kernel
theorem w0_open : openE W0 true = 0 := by decide +kernel
theorem w0_within : withinB 41 0 10000 = true := by decide +kernel
theorem w0_pure : pureN W0 = 3 := by decide +kernel
theorem w0_enough : enough W0 41 = [⟨4, 2⟩] := by
  have : (enough W0 41).map (fun b => (b.set, b.fuel)) = [(4, 2)] := by decide +kernel
  match h : enough W0 41, this with
  | [⟨a, b⟩], e => 
    simp only [List.map_cons, List.map_nil, List.cons.injEq, Prod.mk.injEq, and_true] at e
    obtain ⟨rfl, rfl⟩ := e
    rfl
theorem w0_serve : serveV W0 41 = .tuple #[.int .i64 3, .int .i64 4, .int .i64 2, .int .i64 0] := by
  unfold serveV
  rw [w0_enough, w0_pure, if_neg (by simp)]
  rfl
theorem example_any (w : World) : Calls Tryd.prog 40 #[] w fun e w' => ∃ As Am cs cm, e = .returned (wvW As Am cs cm W0) ∧ WaterIn w' As Am W0 ∧ Ext w w' := by
  go_enter Tryd.func40, Tryd.ntmps40
  go_wp2_with fail
  refine bodyPost_ret (v := wv (some ⟨w.heap.size + 1, 0, none⟩) (some ⟨w.heap.size + 2, 0, none⟩) 3 3 3 3 1 1 0) (by simp only [results, Tryd.results40]; go_simp) rfl ⟨some ⟨w.heap.size + 1, 0, none⟩, some ⟨w.heap.size + 2, 0, none⟩, 3, 3, rfl, ?_, ?_⟩
  · refine ⟨⟨rfl, fun _ => ⟨w.heap.size + 1, 0, rfl, by simp, ?_⟩⟩, ⟨rfl, fun _ => ⟨w.heap.size + 2, 0, rfl, by simp, ?_⟩⟩, by decide, by decide⟩
    · intro j u hu
      have hx : W0.springs.flatMap sprC = [.int .i64 10, .int .i64 20, .int .i64 4, .int .i64 30, .int .i64 30, .int .i64 9, .int .i64 5, .int .i64 50, .int .i64 2] := rfl
      rw [hx] at hu
      rcases j with _ | _ | _ | _ | _ | _ | _ | _ | _ | j
      all_goals first | (injection hu with hu; subst hu; go_simp) | (simp at hu)
    · intro j u hu
      have hx : W0.samples.flatMap samC = [.int .i64 3, .bool false, .int .i64 3, .bool false, .int .i64 4, .bool false] := rfl
      rw [hx] at hu
      rcases j with _ | _ | _ | _ | _ | _ | j
      all_goals first | (injection hu with hu; subst hu; go_simp) | (simp at hu)
  · (repeat (first | (with_reducible exact Ext.refl _) | (with_reducible assumption) | (with_reducible refine Ext.alloc ?_ _) | (with_reducible refine Ext.trans ?_ (by with_reducible assumption)) | (with_reducible refine Ext.drew ?_) | (with_reducible refine Ext.setCell ?_ (by simp <;> omega) _)))

theorem works_any (w : World) (ht : TabIn w) : Calls Tryd.prog 13 #[] w fun e w' => e = .returned (.bool true) ∧ Ext w w' := by
  have HT := Lib.hid ht
  clear ht
  go_enter Tryd.func13, Tryd.ntmps13
  go_wp2_with fail
  refine (example_any _).mono ?_
  rintro e w1 ⟨As, Am, cs, cm, rfl, hin, hb1⟩
  have hz1 := hb1.size
  have HIN := Lib.hid hin
  clear hin
  have q1 := w0_truths
  have q2 := Lib.hid w0_open
  have q3 := Lib.hid w0_serve
  generalize W0 = W at *
  have Q1 := Lib.hid q1
  clear q1
  go_wp2_with fail
  refine (truths_ok _ _ _ _ W _ (HIN.out.ext (by (repeat (first | (with_reducible exact Ext.refl _) | (with_reducible assumption) | (with_reducible refine Ext.alloc ?_ _) | (with_reducible refine Ext.trans ?_ (by with_reducible assumption)) | (with_reducible refine Ext.drew ?_) | (with_reducible refine Ext.setCell ?_ (by simp <;> omega) _))))) q2.out).mono ?_
  rintro e w2 ⟨A, c, rfl, hs, hb2⟩
  rw [Q1.out] at *
  obtain ⟨hc2, _⟩ := bcell hb2
  have f0 := (hc2 w1.heap.size 0 (by simp)).trans (show _ = some (.slice As W.springs.length cs) by go_simp)
  have f1 := (hc2 w1.heap.size 1 (by simp)).trans (show _ = some (.int .i64 W.most) by go_simp)
  have f2 := (hc2 w1.heap.size 2 (by simp)).trans (show _ = some (.int .i64 W.misses) by go_simp)
  have f3 := (hc2 w1.heap.size 3 (by simp)).trans (show _ = some (.int .i64 W.alarms) by go_simp)
  have f4 := (hc2 w1.heap.size 4 (by simp)).trans (show _ = some (.slice Am W.samples.length cm) by go_simp)
  clear hc2
  have HIN2 := Lib.hid (HIN.out.ext (show Ext w1 w2 by (repeat (first | (with_reducible exact Ext.refl _) | (with_reducible assumption) | (with_reducible refine Ext.alloc ?_ _) | (with_reducible refine Ext.trans ?_ (by with_reducible assumption)) | (with_reducible refine Ext.drew ?_) | (with_reducible refine Ext.setCell ?_ (by simp <;> omega) _)))))
  have h02 : Ext w w2 := by (repeat (first | (with_reducible exact Ext.refl _) | (with_reducible assumption) | (with_reducible refine Ext.alloc ?_ _) | (with_reducible refine Ext.trans ?_ (by with_reducible assumption)) | (with_reducible refine Ext.drew ?_) | (with_reducible refine Ext.setCell ?_ (by simp <;> omega) _)))
  have HS := Lib.hid hs
  clear hs
  go_wp2_with fail
  refine (serve_ok _ _ _ _ W 41 _ HIN2.out (HT.out.ext h02) (by rw [w0_within]; exact q2.out)).mono ?_
  rintro e w3 ⟨rfl, hb3⟩
  rw [q3.out]
  have HS3 := Lib.hid ((HS.out.below (B' := w2.heap.size) hb3 (Nat.le_refl _)).more hb3.size)
  have hz3 := hb3.size
  go_wp2_with fail
  have ht2 : SlOf natI 1 (w3.alloc (.cells #[.int .i64 0, .int .i64 4] 3)) (w3.heap.size + 1) (some ⟨w3.heap.size, 0, none⟩) [0, 4] := by
    refine ⟨rfl, fun _ => ⟨w3.heap.size, 0, rfl, by simp, ?_⟩⟩
    intro j u hu
    have hx : [0, 4].flatMap natI = [.int .i64 0, .int .i64 4] := rfl
    rw [hx] at hu
    rcases j with _ | _ | j
    all_goals first | (injection hu with hu; subst hu; go_simp) | (simp at hu)
  go_at_call 30
  refine (sameInts_any _ _ _ _ [0, 4] [0, 4] _ (by decide) (by decide) ((HS3.out.below (B' := w3.heap.size) (by (repeat (first | (with_reducible exact Ext.refl _) | (with_reducible assumption) | (with_reducible refine Ext.alloc ?_ _) | (with_reducible refine Ext.trans ?_ (by with_reducible assumption)) | (with_reducible refine Ext.drew ?_) | (with_reducible refine Ext.setCell ?_ (by simp <;> omega) _)))) (Nat.le_refl _)).more (by simp)) (ht2.more (by simp))).mono ?_
  rintro e w4 ⟨rfl, hb4⟩
  rw [show decide (([0, 4] : List Nat) = [0, 4]) = true from rfl]
  go_wp2_with fail
  go_ret
  exact ⟨rfl, h02.trans (hb3.trans (by (repeat (first | (with_reducible exact Ext.refl _) | (with_reducible assumption) | (with_reducible refine Ext.alloc ?_ _) | (with_reducible refine Ext.trans ?_ (by with_reducible assumption)) | (with_reducible refine Ext.drew ?_) | (with_reducible refine Ext.setCell ?_ (by simp <;> omega) _)))))⟩
end Go.Proofs.YtabcmnfofekeeaaDoor
