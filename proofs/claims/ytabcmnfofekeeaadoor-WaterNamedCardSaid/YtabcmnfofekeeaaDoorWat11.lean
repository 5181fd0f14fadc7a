import Derived.Test.YtabcmnfofekeeaaDoorWat10
namespace Go.Proofs.YtabcmnfofekeeaaDoor
open Go Go.Proofs Go.RowKit Go.Shelf
set_option maxHeartbeats 800000
set_option maxRecDepth 20000
attribute [local go_sem] Oper.semAt_some


def IsF (fv : Value) : Prop := ∃ As Am n cs m cm most misses alarms, fv = wv As Am n cs m cm most misses alarms

theorem open_bad_nil (As Am : Option Addr) (cs cm : Nat) (W : Water) (w : World) (hin : WaterIn w As Am W) (hv : validB W = false) :
    Calls Tryd.prog 41 #[wvW As Am cs cm W, .nilFunc] w fun e w' => ∃ fv, e = .returned (.tuple #[fv, .slice none 0 0, .int .i64 40]) ∧ IsF fv ∧ Ext w w' := by
  have HV := Lib.hid (show checkI W = 40 by simp [checkI, hv])
  obtain ⟨hs1, hs2, hl1, hl2⟩ := hin
  go_enter Tryd.func41, Tryd.ntmps41
  go_wp2_with fail
  refine (check_is _ _ _ _ W _ ⟨?_, ?_, hl1, hl2⟩ HV.out).mono ?_
  · exact (hs1.below (B' := w.heap.size) (by (repeat (first | (with_reducible exact Ext.refl _) | (with_reducible assumption) | (with_reducible refine Ext.alloc ?_ _) | (with_reducible refine Ext.trans ?_ (by with_reducible assumption)) | (with_reducible refine Ext.drew ?_) | (with_reducible refine Ext.setCell ?_ (by simp <;> omega) _)))) (Nat.le_refl _)).more (by (try simp) <;> omega)
  · exact (hs2.below (B' := w.heap.size) (by (repeat (first | (with_reducible exact Ext.refl _) | (with_reducible assumption) | (with_reducible refine Ext.alloc ?_ _) | (with_reducible refine Ext.trans ?_ (by with_reducible assumption)) | (with_reducible refine Ext.drew ?_) | (with_reducible refine Ext.setCell ?_ (by simp <;> omega) _)))) (Nat.le_refl _)).more (by (try simp) <;> omega)
  rintro e w1 ⟨rfl, hb1⟩
  obtain ⟨hc1, hf1⟩ := bcell hb1
  have hz1 : w.heap.size + 1 < w1.heap.size := by have := hb1.size; simp only [World.size_alloc] at this; omega
  have q0 := fun o => hc1 (w.heap.size + 1) o (by simp)
  have q1 := fun o => hf1 (w.heap.size + 1) o (by simp)
  go_wp2_with fail
  exact bodyPost_ret (v := .tuple #[wv none none 0 0 0 0 0 0 0, .slice none 0 0, .int .i64 40]) (by simp only [results, Tryd.results41]; go_simp) rfl ⟨_, rfl, ⟨_, _, _, _, _, _, _, _, _, rfl⟩, by (repeat (first | (with_reducible exact Ext.refl _) | (with_reducible assumption) | (with_reducible refine Ext.alloc ?_ _) | (with_reducible refine Ext.trans ?_ (by with_reducible assumption)) | (with_reducible refine Ext.drew ?_) | (with_reducible refine Ext.setCell ?_ (by simp <;> omega) _)))⟩

theorem open_none_nil (As Am : Option Addr) (cs cm : Nat) (W : Water) (w : World) (hin : WaterIn w As Am W) (hv : validB W = true) (hne : truthsW W = []) :
    Calls Tryd.prog 41 #[wvW As Am cs cm W, .nilFunc] w fun e w' => ∃ fv, e = .returned (.tuple #[fv, .slice none 0 0, .int .i64 3]) ∧ IsF fv ∧ Ext w w' := by
  have HNE := Lib.hid hne
  clear hne
  have HV := Lib.hid (show checkI W = 0 by simp [checkI, hv])
  have hn := valid_len hv
  have hmx := valid_mix hv
  obtain ⟨hs1, hs2, hl1, hl2⟩ := hin
  have hLW : truthsTo (2 ^ W.springs.length) W.most W.misses W.alarms W.samples = truthsW W := rfl
  have k1 := neq_nil_nil
  go_enter Tryd.func41, Tryd.ntmps41
  go_wp2_with fail
  refine (check_is _ _ _ _ W _ ⟨?_, ?_, hl1, hl2⟩ HV.out).mono ?_
  · exact (hs1.below (B' := w.heap.size) (by (repeat (first | (with_reducible exact Ext.refl _) | (with_reducible assumption) | (with_reducible refine Ext.alloc ?_ _) | (with_reducible refine Ext.trans ?_ (by with_reducible assumption)) | (with_reducible refine Ext.drew ?_) | (with_reducible refine Ext.setCell ?_ (by simp <;> omega) _)))) (Nat.le_refl _)).more (by (try simp) <;> omega)
  · exact (hs2.below (B' := w.heap.size) (by (repeat (first | (with_reducible exact Ext.refl _) | (with_reducible assumption) | (with_reducible refine Ext.alloc ?_ _) | (with_reducible refine Ext.trans ?_ (by with_reducible assumption)) | (with_reducible refine Ext.drew ?_) | (with_reducible refine Ext.setCell ?_ (by simp <;> omega) _)))) (Nat.le_refl _)).more (by (try simp) <;> omega)
  rintro e w1 ⟨rfl, hb1⟩
  obtain ⟨hc1, hf1⟩ := bcell hb1
  have hz1 : w.heap.size + 1 < w1.heap.size := by have := hb1.size; simp only [World.size_alloc] at this; omega
  go_wp2_with fail
  refine (ftruths_any _ _ _ _ _ _ _ _ _ _ _ _ _).mono ?_
  rintro e w2 ⟨rfl, hw2⟩
  have HW2 := Lib.hid hw2
  clear hw2
  go_wp2_with fail
  refine (collectTruths_any As Am Am W.springs.length cs W.samples.length cm cm W.most W.misses W.alarms W.samples _ hn.2 hl2 ?_ hmx (truthsW W) hLW w2 w1.heap.size ?_ HW2.out).mono ?_
  · exact (hs2.below (B' := w.heap.size) (by (repeat (first | (with_reducible exact Ext.refl _) | (with_reducible assumption) | (with_reducible refine Ext.alloc ?_ _) | (with_reducible refine Ext.trans ?_ (by with_reducible assumption)) | (with_reducible refine Ext.drew ?_) | (with_reducible refine Ext.setCell ?_ (by simp <;> omega) _)))) (Nat.le_refl _)).more (by (try simp) <;> omega)
  · first | rfl | simp
  rintro e w3 ⟨A, c, rfl, h1, h2, hfr, h3⟩
  obtain ⟨hc3, hf3⟩ := bcell h3
  have H1 := Lib.hid h1
  have hA : A.isNone = true := by rw [h2.2 HNE.out]; rfl
  have k2 := fun w => Lib.run_eql_slice_nil (P := Tryd.prog) w 70 73 A (truthsW W).length c 0 0 Tryd.underlying70
  clear h1 h2
  have hz3 : w.heap.size + 1 < w3.heap.size := by have := h3.size; (try simp at this); omega
  have g0 := (hc3 (w.heap.size + 1) 0 (by (try simp) <;> omega)).trans (show _ = some (.slice As W.springs.length cs) by go_simp)
  have g1 := (hc3 (w.heap.size + 1) 1 (by (try simp) <;> omega)).trans (show _ = some (.int .i64 W.most) by go_simp)
  have g2 := (hc3 (w.heap.size + 1) 2 (by (try simp) <;> omega)).trans (show _ = some (.int .i64 W.misses) by go_simp)
  have g3 := (hc3 (w.heap.size + 1) 3 (by (try simp) <;> omega)).trans (show _ = some (.int .i64 W.alarms) by go_simp)
  have g4 := (hc3 (w.heap.size + 1) 4 (by (try simp) <;> omega)).trans (show _ = some (.slice Am W.samples.length cm) by go_simp)
  have g5 := fun o => (hf3 (w.heap.size + 1) o (by (try simp) <;> omega)).trans (show _ = false by go_simp)
  clear hc3 hf3 hc1 hf1
  go_wp2_with fail
  exact bodyPost_ret (v := .tuple #[wvW As Am cs cm W, .slice none 0 0, .int .i64 3]) (by simp only [results, Tryd.results41]; go_simp) rfl ⟨_, rfl, ⟨_, _, _, _, _, _, _, _, _, rfl⟩, by (repeat (first | (with_reducible exact Ext.refl _) | (with_reducible assumption) | (with_reducible refine Ext.alloc ?_ _) | (with_reducible refine Ext.trans ?_ (by with_reducible assumption)) | (with_reducible refine Ext.drew ?_) | (with_reducible refine Ext.setCell ?_ (by simp <;> omega) _)))⟩

theorem open_bad_told (As Am : Option Addr) (cs cm : Nat) (W : Water) (w : World) (hin : WaterIn w As Am W) (g : Nat) (caps : Array Value) (hv : validB W = false) :
    Calls Tryd.prog 41 #[wvW As Am cs cm W, .func (.func g) #[] caps] w fun e w' => ∃ fv, e = .returned (.tuple #[fv, .slice none 0 0, .int .i64 40]) ∧ IsF fv ∧ Ext w w' := by
  have HV := Lib.hid (show checkI W = 40 by simp [checkI, hv])
  obtain ⟨hs1, hs2, hl1, hl2⟩ := hin
  go_enter Tryd.func41, Tryd.ntmps41
  go_wp2_with fail
  refine (check_is _ _ _ _ W _ ⟨?_, ?_, hl1, hl2⟩ HV.out).mono ?_
  · exact (hs1.below (B' := w.heap.size) (by (repeat (first | (with_reducible exact Ext.refl _) | (with_reducible assumption) | (with_reducible refine Ext.alloc ?_ _) | (with_reducible refine Ext.trans ?_ (by with_reducible assumption)) | (with_reducible refine Ext.drew ?_) | (with_reducible refine Ext.setCell ?_ (by simp <;> omega) _)))) (Nat.le_refl _)).more (by (try simp) <;> omega)
  · exact (hs2.below (B' := w.heap.size) (by (repeat (first | (with_reducible exact Ext.refl _) | (with_reducible assumption) | (with_reducible refine Ext.alloc ?_ _) | (with_reducible refine Ext.trans ?_ (by with_reducible assumption)) | (with_reducible refine Ext.drew ?_) | (with_reducible refine Ext.setCell ?_ (by simp <;> omega) _)))) (Nat.le_refl _)).more (by (try simp) <;> omega)
  rintro e w1 ⟨rfl, hb1⟩
  obtain ⟨hc1, hf1⟩ := bcell hb1
  have hz1 : w.heap.size + 1 < w1.heap.size := by have := hb1.size; simp only [World.size_alloc] at this; omega
  have q0 := fun o => hc1 (w.heap.size + 1) o (by simp)
  have q1 := fun o => hf1 (w.heap.size + 1) o (by simp)
  go_wp2_with fail
  exact bodyPost_ret (v := .tuple #[wv none none 0 0 0 0 0 0 0, .slice none 0 0, .int .i64 40]) (by simp only [results, Tryd.results41]; go_simp) rfl ⟨_, rfl, ⟨_, _, _, _, _, _, _, _, _, rfl⟩, by (repeat (first | (with_reducible exact Ext.refl _) | (with_reducible assumption) | (with_reducible refine Ext.alloc ?_ _) | (with_reducible refine Ext.trans ?_ (by with_reducible assumption)) | (with_reducible refine Ext.drew ?_) | (with_reducible refine Ext.setCell ?_ (by simp <;> omega) _)))⟩

theorem open_arg_told (As Am : Option Addr) (cs cm : Nat) (W : Water) (w : World) (hin : WaterIn w As Am W) (g : Nat) (caps : Array Value) (eg : ∀ (args : Array Value) (w : World), (callFunc g args).run Tryd.prog w = .ok (.enter g args) w)
    (hg : ∀ w', Ext w w' → Calls Tryd.prog g (#[wvW As Am cs cm W] ++ caps) w' fun e w'' => e = .returned (.bool false) ∧ Ext w' w'') (hv : validB W = true) :
    Calls Tryd.prog 41 #[wvW As Am cs cm W, .func (.func g) #[] caps] w fun e w' => ∃ fv, e = .returned (.tuple #[fv, .slice none 0 0, .int .i64 1]) ∧ IsF fv ∧ Ext w w' := by
  have HV := Lib.hid (show checkI W = 0 by simp [checkI, hv])
  have hn := valid_len hv
  have hmx := valid_mix hv
  obtain ⟨hs1, hs2, hl1, hl2⟩ := hin
  have hLW : truthsTo (2 ^ W.springs.length) W.most W.misses W.alarms W.samples = truthsW W := rfl
  have k1 := neq_func_nil g caps
  have HG := Lib.hid hg
  clear hg
  go_enter Tryd.func41, Tryd.ntmps41
  go_wp2_with fail
  refine (check_is _ _ _ _ W _ ⟨?_, ?_, hl1, hl2⟩ HV.out).mono ?_
  · exact (hs1.below (B' := w.heap.size) (by (repeat (first | (with_reducible exact Ext.refl _) | (with_reducible assumption) | (with_reducible refine Ext.alloc ?_ _) | (with_reducible refine Ext.trans ?_ (by with_reducible assumption)) | (with_reducible refine Ext.drew ?_) | (with_reducible refine Ext.setCell ?_ (by simp <;> omega) _)))) (Nat.le_refl _)).more (by (try simp) <;> omega)
  · exact (hs2.below (B' := w.heap.size) (by (repeat (first | (with_reducible exact Ext.refl _) | (with_reducible assumption) | (with_reducible refine Ext.alloc ?_ _) | (with_reducible refine Ext.trans ?_ (by with_reducible assumption)) | (with_reducible refine Ext.drew ?_) | (with_reducible refine Ext.setCell ?_ (by simp <;> omega) _)))) (Nat.le_refl _)).more (by (try simp) <;> omega)
  rintro e w1 ⟨rfl, hb1⟩
  obtain ⟨hc1, hf1⟩ := bcell hb1
  have hz1 : w.heap.size + 1 < w1.heap.size := by have := hb1.size; simp only [World.size_alloc] at this; omega
  go_wp2_with fail
  refine (HG.out _ (by (repeat (first | (with_reducible exact Ext.refl _) | (with_reducible assumption) | (with_reducible refine Ext.alloc ?_ _) | (with_reducible refine Ext.trans ?_ (by with_reducible assumption)) | (with_reducible refine Ext.drew ?_) | (with_reducible refine Ext.setCell ?_ (by simp <;> omega) _))))).mono ?_
  rintro e wt ⟨rfl, hbt⟩
  obtain ⟨hct, hft⟩ := bcell hbt
  have hzt : w.heap.size + 1 < wt.heap.size := by have := hbt.size; (try simp at this); omega
  have tb := (hct w.heap.size 4 (by (try simp) <;> omega)).trans (show _ = some (.slice Am W.samples.length cm) by go_simp)
  have t0 := (hct (w.heap.size + 1) 0 (by (try simp) <;> omega)).trans (show _ = some (.slice As W.springs.length cs) by go_simp)
  have t1 := (hct (w.heap.size + 1) 1 (by (try simp) <;> omega)).trans (show _ = some (.int .i64 W.most) by go_simp)
  have t2 := (hct (w.heap.size + 1) 2 (by (try simp) <;> omega)).trans (show _ = some (.int .i64 W.misses) by go_simp)
  have t3 := (hct (w.heap.size + 1) 3 (by (try simp) <;> omega)).trans (show _ = some (.int .i64 W.alarms) by go_simp)
  have t4 := (hct (w.heap.size + 1) 4 (by (try simp) <;> omega)).trans (show _ = some (.slice Am W.samples.length cm) by go_simp)
  have t5 := fun o => (hft (w.heap.size + 1) o (by (try simp) <;> omega)).trans (show _ = false by go_simp)
  clear hct hft hc1 hf1
  go_wp2_with fail
  exact bodyPost_ret (v := .tuple #[wvW As Am cs cm W, .slice none 0 0, .int .i64 1]) (by simp only [results, Tryd.results41]; go_simp) rfl ⟨_, rfl, ⟨_, _, _, _, _, _, _, _, _, rfl⟩, by (repeat (first | (with_reducible exact Ext.refl _) | (with_reducible assumption) | (with_reducible refine Ext.alloc ?_ _) | (with_reducible refine Ext.trans ?_ (by with_reducible assumption)) | (with_reducible refine Ext.drew ?_) | (with_reducible refine Ext.setCell ?_ (by simp <;> omega) _)))⟩

theorem open_none_told (As Am : Option Addr) (cs cm : Nat) (W : Water) (w : World) (hin : WaterIn w As Am W) (g : Nat) (caps : Array Value) (eg : ∀ (args : Array Value) (w : World), (callFunc g args).run Tryd.prog w = .ok (.enter g args) w)
    (hg : ∀ w', Ext w w' → Calls Tryd.prog g (#[wvW As Am cs cm W] ++ caps) w' fun e w'' => e = .returned (.bool true) ∧ Ext w' w'') (hv : validB W = true) (hne : truthsW W = []) :
    Calls Tryd.prog 41 #[wvW As Am cs cm W, .func (.func g) #[] caps] w fun e w' => ∃ fv, e = .returned (.tuple #[fv, .slice none 0 0, .int .i64 3]) ∧ IsF fv ∧ Ext w w' := by
  have HNE := Lib.hid hne
  clear hne
  have HV := Lib.hid (show checkI W = 0 by simp [checkI, hv])
  have hn := valid_len hv
  have hmx := valid_mix hv
  obtain ⟨hs1, hs2, hl1, hl2⟩ := hin
  have hLW : truthsTo (2 ^ W.springs.length) W.most W.misses W.alarms W.samples = truthsW W := rfl
  have k1 := neq_func_nil g caps
  have HG := Lib.hid hg
  clear hg
  go_enter Tryd.func41, Tryd.ntmps41
  go_wp2_with fail
  refine (check_is _ _ _ _ W _ ⟨?_, ?_, hl1, hl2⟩ HV.out).mono ?_
  · exact (hs1.below (B' := w.heap.size) (by (repeat (first | (with_reducible exact Ext.refl _) | (with_reducible assumption) | (with_reducible refine Ext.alloc ?_ _) | (with_reducible refine Ext.trans ?_ (by with_reducible assumption)) | (with_reducible refine Ext.drew ?_) | (with_reducible refine Ext.setCell ?_ (by simp <;> omega) _)))) (Nat.le_refl _)).more (by (try simp) <;> omega)
  · exact (hs2.below (B' := w.heap.size) (by (repeat (first | (with_reducible exact Ext.refl _) | (with_reducible assumption) | (with_reducible refine Ext.alloc ?_ _) | (with_reducible refine Ext.trans ?_ (by with_reducible assumption)) | (with_reducible refine Ext.drew ?_) | (with_reducible refine Ext.setCell ?_ (by simp <;> omega) _)))) (Nat.le_refl _)).more (by (try simp) <;> omega)
  rintro e w1 ⟨rfl, hb1⟩
  obtain ⟨hc1, hf1⟩ := bcell hb1
  have hz1 : w.heap.size + 1 < w1.heap.size := by have := hb1.size; simp only [World.size_alloc] at this; omega
  go_wp2_with fail
  refine (HG.out _ (by (repeat (first | (with_reducible exact Ext.refl _) | (with_reducible assumption) | (with_reducible refine Ext.alloc ?_ _) | (with_reducible refine Ext.trans ?_ (by with_reducible assumption)) | (with_reducible refine Ext.drew ?_) | (with_reducible refine Ext.setCell ?_ (by simp <;> omega) _))))).mono ?_
  rintro e wt ⟨rfl, hbt⟩
  obtain ⟨hct, hft⟩ := bcell hbt
  have hzt : w.heap.size + 1 < wt.heap.size := by have := hbt.size; (try simp at this); omega
  have tb := (hct w.heap.size 4 (by (try simp) <;> omega)).trans (show _ = some (.slice Am W.samples.length cm) by go_simp)
  have t0 := (hct (w.heap.size + 1) 0 (by (try simp) <;> omega)).trans (show _ = some (.slice As W.springs.length cs) by go_simp)
  have t1 := (hct (w.heap.size + 1) 1 (by (try simp) <;> omega)).trans (show _ = some (.int .i64 W.most) by go_simp)
  have t2 := (hct (w.heap.size + 1) 2 (by (try simp) <;> omega)).trans (show _ = some (.int .i64 W.misses) by go_simp)
  have t3 := (hct (w.heap.size + 1) 3 (by (try simp) <;> omega)).trans (show _ = some (.int .i64 W.alarms) by go_simp)
  have t4 := (hct (w.heap.size + 1) 4 (by (try simp) <;> omega)).trans (show _ = some (.slice Am W.samples.length cm) by go_simp)
  have t5 := fun o => (hft (w.heap.size + 1) o (by (try simp) <;> omega)).trans (show _ = false by go_simp)
  clear hct hft hc1 hf1
  go_wp2_with fail
  refine (ftruths_any _ _ _ _ _ _ _ _ _ _ _ _ _).mono ?_
  rintro e w2 ⟨rfl, hw2⟩
  have HW2 := Lib.hid hw2
  clear hw2
  go_wp2_with fail
  refine (collectTruths_any As Am Am W.springs.length cs W.samples.length cm cm W.most W.misses W.alarms W.samples _ hn.2 hl2 ?_ hmx (truthsW W) hLW w2 wt.heap.size ?_ HW2.out).mono ?_
  · exact (hs2.below (B' := w.heap.size) (by (repeat (first | (with_reducible exact Ext.refl _) | (with_reducible assumption) | (with_reducible refine Ext.alloc ?_ _) | (with_reducible refine Ext.trans ?_ (by with_reducible assumption)) | (with_reducible refine Ext.drew ?_) | (with_reducible refine Ext.setCell ?_ (by simp <;> omega) _)))) (Nat.le_refl _)).more (by (try simp) <;> omega)
  · first | rfl | simp
  rintro e w3 ⟨A, c, rfl, h1, h2, hfr, h3⟩
  obtain ⟨hc3, hf3⟩ := bcell h3
  have H1 := Lib.hid h1
  have hA : A.isNone = true := by rw [h2.2 HNE.out]; rfl
  have k2 := fun w => Lib.run_eql_slice_nil (P := Tryd.prog) w 70 73 A (truthsW W).length c 0 0 Tryd.underlying70
  clear h1 h2
  have hz3 : w.heap.size + 1 < w3.heap.size := by have := h3.size; (try simp at this); omega
  have g0 := (hc3 (w.heap.size + 1) 0 (by (try simp) <;> omega)).trans (show _ = some (.slice As W.springs.length cs) by go_simp)
  have g1 := (hc3 (w.heap.size + 1) 1 (by (try simp) <;> omega)).trans (show _ = some (.int .i64 W.most) by go_simp)
  have g2 := (hc3 (w.heap.size + 1) 2 (by (try simp) <;> omega)).trans (show _ = some (.int .i64 W.misses) by go_simp)
  have g3 := (hc3 (w.heap.size + 1) 3 (by (try simp) <;> omega)).trans (show _ = some (.int .i64 W.alarms) by go_simp)
  have g4 := (hc3 (w.heap.size + 1) 4 (by (try simp) <;> omega)).trans (show _ = some (.slice Am W.samples.length cm) by go_simp)
  have g5 := fun o => (hf3 (w.heap.size + 1) o (by (try simp) <;> omega)).trans (show _ = false by go_simp)
  clear hc3 hf3
  go_wp2_with fail
  exact bodyPost_ret (v := .tuple #[wvW As Am cs cm W, .slice none 0 0, .int .i64 3]) (by simp only [results, Tryd.results41]; go_simp) rfl ⟨_, rfl, ⟨_, _, _, _, _, _, _, _, _, rfl⟩, by (repeat (first | (with_reducible exact Ext.refl _) | (with_reducible assumption) | (with_reducible refine Ext.alloc ?_ _) | (with_reducible refine Ext.trans ?_ (by with_reducible assumption)) | (with_reducible refine Ext.drew ?_) | (with_reducible refine Ext.setCell ?_ (by simp <;> omega) _)))⟩

theorem open_ok_told (As Am : Option Addr) (cs cm : Nat) (W : Water) (w : World) (hin : WaterIn w As Am W) (g : Nat) (caps : Array Value) (eg : ∀ (args : Array Value) (w : World), (callFunc g args).run Tryd.prog w = .ok (.enter g args) w)
    (hg : ∀ w', Ext w w' → Calls Tryd.prog g (#[wvW As Am cs cm W] ++ caps) w' fun e w'' => e = .returned (.bool true) ∧ Ext w' w'') (hv : validB W = true) (hne : truthsW W ≠ []) :
    Calls Tryd.prog 41 #[wvW As Am cs cm W, .func (.func g) #[] caps] w fun e w' => ∃ A c, e = .returned (.tuple #[wvW As Am cs cm W, .slice A (truthsW W).length c, .int .i64 0]) ∧ Sl w' w'.heap.size 1 A (truthsW W).length (u64s (truthsW W)) ∧ Ext w w' := by
  have HV := Lib.hid (show checkI W = 0 by simp [checkI, hv])
  have hn := valid_len hv
  have hmx := valid_mix hv
  obtain ⟨hs1, hs2, hl1, hl2⟩ := hin
  have hLW : truthsTo (2 ^ W.springs.length) W.most W.misses W.alarms W.samples = truthsW W := rfl
  have k1 := neq_func_nil g caps
  have HG := Lib.hid hg
  clear hg
  go_enter Tryd.func41, Tryd.ntmps41
  go_wp2_with fail
  refine (check_is _ _ _ _ W _ ⟨?_, ?_, hl1, hl2⟩ HV.out).mono ?_
  · exact (hs1.below (B' := w.heap.size) (by (repeat (first | (with_reducible exact Ext.refl _) | (with_reducible assumption) | (with_reducible refine Ext.alloc ?_ _) | (with_reducible refine Ext.trans ?_ (by with_reducible assumption)) | (with_reducible refine Ext.drew ?_) | (with_reducible refine Ext.setCell ?_ (by simp <;> omega) _)))) (Nat.le_refl _)).more (by (try simp) <;> omega)
  · exact (hs2.below (B' := w.heap.size) (by (repeat (first | (with_reducible exact Ext.refl _) | (with_reducible assumption) | (with_reducible refine Ext.alloc ?_ _) | (with_reducible refine Ext.trans ?_ (by with_reducible assumption)) | (with_reducible refine Ext.drew ?_) | (with_reducible refine Ext.setCell ?_ (by simp <;> omega) _)))) (Nat.le_refl _)).more (by (try simp) <;> omega)
  rintro e w1 ⟨rfl, hb1⟩
  obtain ⟨hc1, hf1⟩ := bcell hb1
  have hz1 : w.heap.size + 1 < w1.heap.size := by have := hb1.size; simp only [World.size_alloc] at this; omega
  go_wp2_with fail
  refine (HG.out _ (by (repeat (first | (with_reducible exact Ext.refl _) | (with_reducible assumption) | (with_reducible refine Ext.alloc ?_ _) | (with_reducible refine Ext.trans ?_ (by with_reducible assumption)) | (with_reducible refine Ext.drew ?_) | (with_reducible refine Ext.setCell ?_ (by simp <;> omega) _))))).mono ?_
  rintro e wt ⟨rfl, hbt⟩
  obtain ⟨hct, hft⟩ := bcell hbt
  have hzt : w.heap.size + 1 < wt.heap.size := by have := hbt.size; (try simp at this); omega
  have tb := (hct w.heap.size 4 (by (try simp) <;> omega)).trans (show _ = some (.slice Am W.samples.length cm) by go_simp)
  have t0 := (hct (w.heap.size + 1) 0 (by (try simp) <;> omega)).trans (show _ = some (.slice As W.springs.length cs) by go_simp)
  have t1 := (hct (w.heap.size + 1) 1 (by (try simp) <;> omega)).trans (show _ = some (.int .i64 W.most) by go_simp)
  have t2 := (hct (w.heap.size + 1) 2 (by (try simp) <;> omega)).trans (show _ = some (.int .i64 W.misses) by go_simp)
  have t3 := (hct (w.heap.size + 1) 3 (by (try simp) <;> omega)).trans (show _ = some (.int .i64 W.alarms) by go_simp)
  have t4 := (hct (w.heap.size + 1) 4 (by (try simp) <;> omega)).trans (show _ = some (.slice Am W.samples.length cm) by go_simp)
  have t5 := fun o => (hft (w.heap.size + 1) o (by (try simp) <;> omega)).trans (show _ = false by go_simp)
  clear hct hft hc1 hf1
  go_wp2_with fail
  refine (ftruths_any _ _ _ _ _ _ _ _ _ _ _ _ _).mono ?_
  rintro e w2 ⟨rfl, hw2⟩
  have HW2 := Lib.hid hw2
  clear hw2
  go_wp2_with fail
  refine (collectTruths_any As Am Am W.springs.length cs W.samples.length cm cm W.most W.misses W.alarms W.samples _ hn.2 hl2 ?_ hmx (truthsW W) hLW w2 wt.heap.size ?_ HW2.out).mono ?_
  · exact (hs2.below (B' := w.heap.size) (by (repeat (first | (with_reducible exact Ext.refl _) | (with_reducible assumption) | (with_reducible refine Ext.alloc ?_ _) | (with_reducible refine Ext.trans ?_ (by with_reducible assumption)) | (with_reducible refine Ext.drew ?_) | (with_reducible refine Ext.setCell ?_ (by simp <;> omega) _)))) (Nat.le_refl _)).more (by (try simp) <;> omega)
  · first | rfl | simp
  rintro e w3 ⟨A, c, rfl, h1, h2, hfr, h3⟩
  obtain ⟨hc3, hf3⟩ := bcell h3
  have H1 := Lib.hid h1
  have hA : A.isNone = false := by
    cases A with
    | none => exact absurd (h2.1 rfl) hne
    | some a => rfl
  have k2 := fun w => Lib.run_eql_slice_nil (P := Tryd.prog) w 70 73 A (truthsW W).length c 0 0 Tryd.underlying70
  clear h1 h2
  have hz3 : w.heap.size + 1 < w3.heap.size := by have := h3.size; (try simp at this); omega
  have g0 := (hc3 (w.heap.size + 1) 0 (by (try simp) <;> omega)).trans (show _ = some (.slice As W.springs.length cs) by go_simp)
  have g1 := (hc3 (w.heap.size + 1) 1 (by (try simp) <;> omega)).trans (show _ = some (.int .i64 W.most) by go_simp)
  have g2 := (hc3 (w.heap.size + 1) 2 (by (try simp) <;> omega)).trans (show _ = some (.int .i64 W.misses) by go_simp)
  have g3 := (hc3 (w.heap.size + 1) 3 (by (try simp) <;> omega)).trans (show _ = some (.int .i64 W.alarms) by go_simp)
  have g4 := (hc3 (w.heap.size + 1) 4 (by (try simp) <;> omega)).trans (show _ = some (.slice Am W.samples.length cm) by go_simp)
  have g5 := fun o => (hf3 (w.heap.size + 1) o (by (try simp) <;> omega)).trans (show _ = false by go_simp)
  clear hc3 hf3
  go_wp2_with fail
  refine bodyPost_ret (v := .tuple #[wvW As Am cs cm W, .slice A (truthsW W).length c, .int .i64 0]) (by simp only [results, Tryd.results41]; go_simp) rfl ⟨A, c, rfl, ?_, by (repeat (first | (with_reducible exact Ext.refl _) | (with_reducible assumption) | (with_reducible refine Ext.alloc ?_ _) | (with_reducible refine Ext.trans ?_ (by with_reducible assumption)) | (with_reducible refine Ext.drew ?_) | (with_reducible refine Ext.setCell ?_ (by simp <;> omega) _)))⟩
  have hfr2 : From (w.heap.size + 2) A := hfr.more (by (try simp) <;> omega)
  simp only [World.size_setCell]
  exact ((((H1.out.setCell hfr2 (by simp) _).setCell hfr2 (by simp) _).setCell hfr2 (by simp) _).setCell hfr2 (by simp) _).setCell hfr2 (by simp) _

end Go.Proofs.YtabcmnfofekeeaaDoor
