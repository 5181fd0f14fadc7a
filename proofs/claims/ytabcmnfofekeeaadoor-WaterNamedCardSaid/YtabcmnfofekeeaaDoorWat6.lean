import Derived.Test.YtabcmnfofekeeaaDoorWat5
import Derived.Shelf.Abstract
namespace Go.Proofs.YtabcmnfofekeeaaDoor
open Go Go.Proofs Go.RowKit Go.Shelf
set_option maxHeartbeats 400000
set_option maxRecDepth 20000


theorem containsSpr_is (A : Option Addr) (c : Nat) (l : List Spring) (g : Nat) (caps : Array Value) (p : Spring → Bool) (w : World) (hl : l.length ≤ 1073741824)
    (hs : SlOf sprC 3 w w.heap.size A l) (eg : ∀ (args : Array Value) (w : World), (callFunc g args).run Tryd.prog w = .ok (.enter g args) w)
    (hg : ∀ (k : Nat) (hk : k < l.length) (w' : World), Ext w w' → Calls Tryd.prog g (#[sprV l[k]] ++ caps) w' fun e w'' => e = .returned (.bool (p l[k])) ∧ Ext w' w'') {b : Bool} (hb : l.any p = b) :
    Calls Tryd.prog 57 #[.slice A l.length c, .func (.func g) #[] caps] w fun e w' => e = .returned (.bool b) ∧ Ext w w' := by
  rw [← hb]; exact containsSpr_any A c l g caps p w hl hs eg hg
theorem containsSam_is (A : Option Addr) (c : Nat) (l : List Sample) (g : Nat) (caps : Array Value) (p : Sample → Bool) (w : World) (hl : l.length ≤ 1073741824)
    (hs : SlOf samC 2 w w.heap.size A l) (eg : ∀ (args : Array Value) (w : World), (callFunc g args).run Tryd.prog w = .ok (.enter g args) w)
    (hg : ∀ (k : Nat) (hk : k < l.length) (w' : World), Ext w w' → Calls Tryd.prog g (#[samV l[k]] ++ caps) w' fun e w'' => e = .returned (.bool (p l[k])) ∧ Ext w' w'') {b : Bool} (hb : l.any p = b) :
    Calls Tryd.prog 59 #[.slice A l.length c, .func (.func g) #[] caps] w fun e w' => e = .returned (.bool b) ∧ Ext w w' := by
  rw [← hb]; exact containsSam_any A c l g caps p w hl hs eg hg
/-- What is known of the memory of water that came in. -/
def WaterIn (w : World) (As Am : Option Addr) (W : Water) : Prop :=
  SlOf sprC 3 w w.heap.size As W.springs ∧ SlOf samC 2 w w.heap.size Am W.samples ∧ W.springs.length ≤ 1073741824 ∧ W.samples.length ≤ 1073741824
theorem WaterIn.ext {w w' : World} {As Am : Option Addr} {W : Water} (h : WaterIn w As Am W) (he : Ext w w') : WaterIn w' As Am W :=
  ⟨(h.1.below he (Nat.le_refl _)).more he.size, (h.2.1.below he (Nat.le_refl _)).more he.size, h.2.2⟩
abbrev wvW (As Am : Option Addr) (cs cm : Nat) (W : Water) : Value := wv As Am W.springs.length cs W.samples.length cm W.most W.misses W.alarms

set_option maxHeartbeats 1000000 in
theorem check_any (As Am : Option Addr) (cs cm : Nat) (W : Water) (w : World) (hin : WaterIn w As Am W) :
    Calls Tryd.prog 28 #[wvW As Am cs cm W] w fun e w' => e = .returned (.int .i64 (checkI W)) ∧ Ext w w' := by
  have eg56 := enters_of (P := Tryd.prog) Tryd.func58 (by kernel_rfl) rfl
  have eg60 := enters_of (P := Tryd.prog) Tryd.func60 (by kernel_rfl) rfl
  obtain ⟨hs1, hs2, hl1, hl2⟩ := hin
  cases c1 : withinB W.springs.length 1 8
  · have H := Lib.hid (show checkI W = 40 by simp [checkI, validB, c1])
    go_enter Tryd.func28, Tryd.ntmps28
    go_wp2_with (go_at_call 46; refine (between_is _ _ _ (by assumption) _).mono ?_; rintro e w1 ⟨rfl, rfl⟩)
    go_ret
    exact ⟨ret_int H.out.symm, by (repeat (first | (with_reducible exact Ext.refl _) | (with_reducible assumption) | (with_reducible refine Ext.alloc ?_ _) | (with_reducible refine Ext.trans ?_ (by with_reducible assumption)) | (with_reducible refine Ext.drew ?_) | (with_reducible refine Ext.setCell ?_ (by simp <;> omega) _)))⟩
  · have hn1 : 1 ≤ W.springs.length := by have := (withinB_true c1).1; omega
    have hn2 : W.springs.length ≤ 8 := by have := (withinB_true c1).2; omega
    cases c2 : W.springs.any (fun s => !sprOk s)
    · cases c3 : withinB W.most 0 8
      · have H := Lib.hid (show checkI W = 40 by simp [checkI, validB, c3])
        have C2 := Lib.hid c2
        clear c2
        go_enter Tryd.func28, Tryd.ntmps28
        go_wp2_with (go_at_call 46; refine (between_is _ _ _ (by assumption) _).mono ?_; rintro e w1 ⟨rfl, rfl⟩)
        refine (containsSpr_is _ _ W.springs _ _ (fun s => !sprOk s) _ hl1 ((hs1.below (B' := w.heap.size) (by (repeat (first | (with_reducible exact Ext.refl _) | (with_reducible assumption) | (with_reducible refine Ext.alloc ?_ _) | (with_reducible refine Ext.trans ?_ (by with_reducible assumption)) | (with_reducible refine Ext.drew ?_) | (with_reducible refine Ext.setCell ?_ (by simp <;> omega) _)))) (Nat.le_refl _)).more (by simp; omega)) eg56
          (fun k hk w' he => by
            have h1 := he.size
            simp at h1
            have h2 := (bcell he).1 (w.heap.size + 1 + 1) 0 (by simp)
            refine Eq.mp ?_ (check2_any W.springs[k] (w.heap.size + 1 + 1) w' (by omega) (h2.trans (by go_simp)))
            simp) C2.out).mono ?_
        rintro e w1 ⟨rfl, hb1⟩
        obtain ⟨hc1, hf1⟩ := bcell hb1
        have hz1 := hb1.size
        simp only [World.size_alloc] at hz1
        go_wp2_with (go_at_call 46; refine (between_is _ _ _ (by assumption) _).mono ?_; rintro e w1 ⟨rfl, rfl⟩)
        go_ret
        exact ⟨ret_int H.out.symm, by (repeat (first | (with_reducible exact Ext.refl _) | (with_reducible assumption) | (with_reducible refine Ext.alloc ?_ _) | (with_reducible refine Ext.trans ?_ (by with_reducible assumption)) | (with_reducible refine Ext.drew ?_) | (with_reducible refine Ext.setCell ?_ (by simp <;> omega) _)))⟩
      · cases c4 : withinB W.misses 0 4
        · have H := Lib.hid (show checkI W = 40 by simp [checkI, validB, c4])
          have C2 := Lib.hid c2
          clear c2
          go_enter Tryd.func28, Tryd.ntmps28
          go_wp2_with (go_at_call 46; refine (between_is _ _ _ (by assumption) _).mono ?_; rintro e w1 ⟨rfl, rfl⟩)
          refine (containsSpr_is _ _ W.springs _ _ (fun s => !sprOk s) _ hl1 ((hs1.below (B' := w.heap.size) (by (repeat (first | (with_reducible exact Ext.refl _) | (with_reducible assumption) | (with_reducible refine Ext.alloc ?_ _) | (with_reducible refine Ext.trans ?_ (by with_reducible assumption)) | (with_reducible refine Ext.drew ?_) | (with_reducible refine Ext.setCell ?_ (by simp <;> omega) _)))) (Nat.le_refl _)).more (by simp; omega)) eg56
            (fun k hk w' he => by
              have h1 := he.size
              simp at h1
              have h2 := (bcell he).1 (w.heap.size + 1 + 1) 0 (by simp)
              refine Eq.mp ?_ (check2_any W.springs[k] (w.heap.size + 1 + 1) w' (by omega) (h2.trans (by go_simp)))
              simp) C2.out).mono ?_
          rintro e w1 ⟨rfl, hb1⟩
          obtain ⟨hc1, hf1⟩ := bcell hb1
          have hz1 := hb1.size
          simp only [World.size_alloc] at hz1
          go_wp2_with (go_at_call 46; refine (between_is _ _ _ (by assumption) _).mono ?_; rintro e w1 ⟨rfl, rfl⟩)
          go_ret
          exact ⟨ret_int H.out.symm, by (repeat (first | (with_reducible exact Ext.refl _) | (with_reducible assumption) | (with_reducible refine Ext.alloc ?_ _) | (with_reducible refine Ext.trans ?_ (by with_reducible assumption)) | (with_reducible refine Ext.drew ?_) | (with_reducible refine Ext.setCell ?_ (by simp <;> omega) _)))⟩
        · cases c5 : withinB W.alarms 0 4
          · have H := Lib.hid (show checkI W = 40 by simp [checkI, validB, c5])
            have C2 := Lib.hid c2
            clear c2
            go_enter Tryd.func28, Tryd.ntmps28
            go_wp2_with (go_at_call 46; refine (between_is _ _ _ (by assumption) _).mono ?_; rintro e w1 ⟨rfl, rfl⟩)
            refine (containsSpr_is _ _ W.springs _ _ (fun s => !sprOk s) _ hl1 ((hs1.below (B' := w.heap.size) (by (repeat (first | (with_reducible exact Ext.refl _) | (with_reducible assumption) | (with_reducible refine Ext.alloc ?_ _) | (with_reducible refine Ext.trans ?_ (by with_reducible assumption)) | (with_reducible refine Ext.drew ?_) | (with_reducible refine Ext.setCell ?_ (by simp <;> omega) _)))) (Nat.le_refl _)).more (by simp; omega)) eg56
              (fun k hk w' he => by
                have h1 := he.size
                simp at h1
                have h2 := (bcell he).1 (w.heap.size + 1 + 1) 0 (by simp)
                refine Eq.mp ?_ (check2_any W.springs[k] (w.heap.size + 1 + 1) w' (by omega) (h2.trans (by go_simp)))
                simp) C2.out).mono ?_
            rintro e w1 ⟨rfl, hb1⟩
            obtain ⟨hc1, hf1⟩ := bcell hb1
            have hz1 := hb1.size
            simp only [World.size_alloc] at hz1
            go_wp2_with (go_at_call 46; refine (between_is _ _ _ (by assumption) _).mono ?_; rintro e w1 ⟨rfl, rfl⟩)
            go_ret
            exact ⟨ret_int H.out.symm, by (repeat (first | (with_reducible exact Ext.refl _) | (with_reducible assumption) | (with_reducible refine Ext.alloc ?_ _) | (with_reducible refine Ext.trans ?_ (by with_reducible assumption)) | (with_reducible refine Ext.drew ?_) | (with_reducible refine Ext.setCell ?_ (by simp <;> omega) _)))⟩
          · by_cases c6 : W.samples.length ≤ 20
            · cases c7 : W.samples.any (fun s => !mixOk W.springs.length s)
              · have H := Lib.hid (show checkI W = 0 by simp [checkI, validB, c1, c2, c3, c4, c5, c6, c7])
                have C2 := Lib.hid c2
                clear c2
                have C7 := Lib.hid c7
                clear c7
                go_enter Tryd.func28, Tryd.ntmps28
                go_wp2_with (go_at_call 46; refine (between_is _ _ _ (by assumption) _).mono ?_; rintro e w1 ⟨rfl, rfl⟩)
                refine (containsSpr_is _ _ W.springs _ _ (fun s => !sprOk s) _ hl1 ((hs1.below (B' := w.heap.size) (by (repeat (first | (with_reducible exact Ext.refl _) | (with_reducible assumption) | (with_reducible refine Ext.alloc ?_ _) | (with_reducible refine Ext.trans ?_ (by with_reducible assumption)) | (with_reducible refine Ext.drew ?_) | (with_reducible refine Ext.setCell ?_ (by simp <;> omega) _)))) (Nat.le_refl _)).more (by simp; omega)) eg56
                  (fun k hk w' he => by
                    have h1 := he.size
                    simp at h1
                    have h2 := (bcell he).1 (w.heap.size + 1 + 1) 0 (by simp)
                    refine Eq.mp ?_ (check2_any W.springs[k] (w.heap.size + 1 + 1) w' (by omega) (h2.trans (by go_simp)))
                    simp) C2.out).mono ?_
                rintro e w1 ⟨rfl, hb1⟩
                obtain ⟨hc1, hf1⟩ := bcell hb1
                have hz1 := hb1.size
                simp only [World.size_alloc] at hz1
                go_wp2_with (go_at_call 46; refine (between_is _ _ _ (by assumption) _).mono ?_; rintro e w1 ⟨rfl, rfl⟩)
                refine (containsSam_is _ _ W.samples _ _ (fun s => !mixOk W.springs.length s) _ hl2 ((hs2.below (B' := w.heap.size) (by (repeat (first | (with_reducible exact Ext.refl _) | (with_reducible assumption) | (with_reducible refine Ext.alloc ?_ _) | (with_reducible refine Ext.trans ?_ (by with_reducible assumption)) | (with_reducible refine Ext.drew ?_) | (with_reducible refine Ext.setCell ?_ (by simp <;> omega) _)))) (Nat.le_refl _)).more (by omega)) eg60
                  (fun k hk w' he => by
                    have h2 := fun o => (bcell he).1 (w.heap.size + 1) o (by omega)
                    have h3 := fun o => hc1 (w.heap.size + 1) o (by simp)
                    refine Eq.mp ?_ (check3_any W.samples[k] (w.heap.size + 1) As Am W.springs.length cs W.samples.length cm W.most W.misses W.alarms w' hn1 hn2 ⟨by have := he.size; omega, (h2 0).trans ((h3 0).trans (by go_simp)), (h2 1).trans ((h3 1).trans (by go_simp)), (h2 2).trans ((h3 2).trans (by go_simp)), (h2 3).trans ((h3 3).trans (by go_simp)), (h2 4).trans ((h3 4).trans (by go_simp))⟩)
                    simp) C7.out).mono ?_
                rintro e w2 ⟨rfl, hb2⟩
                go_wp2
                go_ret
                exact ⟨ret_int H.out.symm, by (repeat (first | (with_reducible exact Ext.refl _) | (with_reducible assumption) | (with_reducible refine Ext.alloc ?_ _) | (with_reducible refine Ext.trans ?_ (by with_reducible assumption)) | (with_reducible refine Ext.drew ?_) | (with_reducible refine Ext.setCell ?_ (by simp <;> omega) _)))⟩
              · have H := Lib.hid (show checkI W = 40 by simp [checkI, validB, c7])
                have C2 := Lib.hid c2
                clear c2
                have C7 := Lib.hid c7
                clear c7
                go_enter Tryd.func28, Tryd.ntmps28
                go_wp2_with (go_at_call 46; refine (between_is _ _ _ (by assumption) _).mono ?_; rintro e w1 ⟨rfl, rfl⟩)
                refine (containsSpr_is _ _ W.springs _ _ (fun s => !sprOk s) _ hl1 ((hs1.below (B' := w.heap.size) (by (repeat (first | (with_reducible exact Ext.refl _) | (with_reducible assumption) | (with_reducible refine Ext.alloc ?_ _) | (with_reducible refine Ext.trans ?_ (by with_reducible assumption)) | (with_reducible refine Ext.drew ?_) | (with_reducible refine Ext.setCell ?_ (by simp <;> omega) _)))) (Nat.le_refl _)).more (by simp; omega)) eg56
                  (fun k hk w' he => by
                    have h1 := he.size
                    simp at h1
                    have h2 := (bcell he).1 (w.heap.size + 1 + 1) 0 (by simp)
                    refine Eq.mp ?_ (check2_any W.springs[k] (w.heap.size + 1 + 1) w' (by omega) (h2.trans (by go_simp)))
                    simp) C2.out).mono ?_
                rintro e w1 ⟨rfl, hb1⟩
                obtain ⟨hc1, hf1⟩ := bcell hb1
                have hz1 := hb1.size
                simp only [World.size_alloc] at hz1
                go_wp2_with (go_at_call 46; refine (between_is _ _ _ (by assumption) _).mono ?_; rintro e w1 ⟨rfl, rfl⟩)
                refine (containsSam_is _ _ W.samples _ _ (fun s => !mixOk W.springs.length s) _ hl2 ((hs2.below (B' := w.heap.size) (by (repeat (first | (with_reducible exact Ext.refl _) | (with_reducible assumption) | (with_reducible refine Ext.alloc ?_ _) | (with_reducible refine Ext.trans ?_ (by with_reducible assumption)) | (with_reducible refine Ext.drew ?_) | (with_reducible refine Ext.setCell ?_ (by simp <;> omega) _)))) (Nat.le_refl _)).more (by omega)) eg60
                  (fun k hk w' he => by
                    have h2 := fun o => (bcell he).1 (w.heap.size + 1) o (by omega)
                    have h3 := fun o => hc1 (w.heap.size + 1) o (by simp)
                    refine Eq.mp ?_ (check3_any W.samples[k] (w.heap.size + 1) As Am W.springs.length cs W.samples.length cm W.most W.misses W.alarms w' hn1 hn2 ⟨by have := he.size; omega, (h2 0).trans ((h3 0).trans (by go_simp)), (h2 1).trans ((h3 1).trans (by go_simp)), (h2 2).trans ((h3 2).trans (by go_simp)), (h2 3).trans ((h3 3).trans (by go_simp)), (h2 4).trans ((h3 4).trans (by go_simp))⟩)
                    simp) C7.out).mono ?_
                rintro e w2 ⟨rfl, hb2⟩
                go_wp2
                go_ret
                exact ⟨ret_int H.out.symm, by (repeat (first | (with_reducible exact Ext.refl _) | (with_reducible assumption) | (with_reducible refine Ext.alloc ?_ _) | (with_reducible refine Ext.trans ?_ (by with_reducible assumption)) | (with_reducible refine Ext.drew ?_) | (with_reducible refine Ext.setCell ?_ (by simp <;> omega) _)))⟩
            · have H := Lib.hid (show checkI W = 40 by simp [checkI, validB, c6])
              have C2 := Lib.hid c2
              clear c2
              go_enter Tryd.func28, Tryd.ntmps28
              go_wp2_with (go_at_call 46; refine (between_is _ _ _ (by assumption) _).mono ?_; rintro e w1 ⟨rfl, rfl⟩)
              refine (containsSpr_is _ _ W.springs _ _ (fun s => !sprOk s) _ hl1 ((hs1.below (B' := w.heap.size) (by (repeat (first | (with_reducible exact Ext.refl _) | (with_reducible assumption) | (with_reducible refine Ext.alloc ?_ _) | (with_reducible refine Ext.trans ?_ (by with_reducible assumption)) | (with_reducible refine Ext.drew ?_) | (with_reducible refine Ext.setCell ?_ (by simp <;> omega) _)))) (Nat.le_refl _)).more (by simp; omega)) eg56
                (fun k hk w' he => by
                  have h1 := he.size
                  simp at h1
                  have h2 := (bcell he).1 (w.heap.size + 1 + 1) 0 (by simp)
                  refine Eq.mp ?_ (check2_any W.springs[k] (w.heap.size + 1 + 1) w' (by omega) (h2.trans (by go_simp)))
                  simp) C2.out).mono ?_
              rintro e w1 ⟨rfl, hb1⟩
              obtain ⟨hc1, hf1⟩ := bcell hb1
              have hz1 := hb1.size
              simp only [World.size_alloc] at hz1
              go_wp2_with (go_at_call 46; refine (between_is _ _ _ (by assumption) _).mono ?_; rintro e w1 ⟨rfl, rfl⟩)
              go_ret
              exact ⟨ret_int H.out.symm, by (repeat (first | (with_reducible exact Ext.refl _) | (with_reducible assumption) | (with_reducible refine Ext.alloc ?_ _) | (with_reducible refine Ext.trans ?_ (by with_reducible assumption)) | (with_reducible refine Ext.drew ?_) | (with_reducible refine Ext.setCell ?_ (by simp <;> omega) _)))⟩
    · have H := Lib.hid (show checkI W = 40 by simp [checkI, validB, c2])
      have C2 := Lib.hid c2
      clear c2
      go_enter Tryd.func28, Tryd.ntmps28
      go_wp2_with (go_at_call 46; refine (between_is _ _ _ (by assumption) _).mono ?_; rintro e w1 ⟨rfl, rfl⟩)
      refine (containsSpr_is _ _ W.springs _ _ (fun s => !sprOk s) _ hl1 ((hs1.below (B' := w.heap.size) (by (repeat (first | (with_reducible exact Ext.refl _) | (with_reducible assumption) | (with_reducible refine Ext.alloc ?_ _) | (with_reducible refine Ext.trans ?_ (by with_reducible assumption)) | (with_reducible refine Ext.drew ?_) | (with_reducible refine Ext.setCell ?_ (by simp <;> omega) _)))) (Nat.le_refl _)).more (by simp; omega)) eg56
        (fun k hk w' he => by
          have h1 := he.size
          simp at h1
          have h2 := (bcell he).1 (w.heap.size + 1 + 1) 0 (by simp)
          refine Eq.mp ?_ (check2_any W.springs[k] (w.heap.size + 1 + 1) w' (by omega) (h2.trans (by go_simp)))
          simp) C2.out).mono ?_
      rintro e w1 ⟨rfl, hb1⟩
      obtain ⟨hc1, hf1⟩ := bcell hb1
      have hz1 := hb1.size
      simp only [World.size_alloc] at hz1
      go_wp2_with (go_at_call 46; refine (between_is _ _ _ (by assumption) _).mono ?_; rintro e w1 ⟨rfl, rfl⟩)
      go_ret
      exact ⟨ret_int H.out.symm, by (repeat (first | (with_reducible exact Ext.refl _) | (with_reducible assumption) | (with_reducible refine Ext.alloc ?_ _) | (with_reducible refine Ext.trans ?_ (by with_reducible assumption)) | (with_reducible refine Ext.drew ?_) | (with_reducible refine Ext.setCell ?_ (by simp <;> omega) _)))⟩
  
end Go.Proofs.YtabcmnfofekeeaaDoor
