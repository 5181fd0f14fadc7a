/- Ropes: an outing, and Check. -/
import Derived.Test.YtchinfamepolkaaRop11
namespace Go.Proofs.Ytchinfamepolkaa
set_option linter.unusedSimpArgs false
set_option linter.unusedVariables false
set_option linter.unusedSectionVars false
open Go Go.Proofs Go.RowKit Go.Shelf
set_option maxHeartbeats 1000000
set_option maxRecDepth 20000

structure Outing where
  day : Int
  grade : Int
  spacing : Int
  guides : List Guide
  clients : List Int
  model : Model
  ropes : List RopeX
structure OutA where
  Ag : Option Addr
  Ac : Option Addr
  Am : Option Addr
  Ar : Option Addr
  cg : Nat
  cc : Nat
  cm : Nat
  cr : Nat
abbrev outV (a : OutA) (O : Outing) : Value := .agg #[.int .i64 O.day, .int .i64 O.grade, .int .i64 O.spacing, .slice a.Ag O.guides.length a.cg, .slice a.Ac O.clients.length a.cc, .int .i64 O.model.shelf, .int .i64 O.model.use, .int .i64 O.model.bears, .slice a.Am O.model.wears.length a.cm, .slice a.Ar O.ropes.length a.cr]
abbrev outC (a : OutA) (O : Outing) : List Value := [.int .i64 O.day, .int .i64 O.grade, .int .i64 O.spacing, .slice a.Ag O.guides.length a.cg, .slice a.Ac O.clients.length a.cc, .int .i64 O.model.shelf, .int .i64 O.model.use, .int .i64 O.model.bears, .slice a.Am O.model.wears.length a.cm, .slice a.Ar O.ropes.length a.cr]
structure OutIn (w : World) (a : OutA) (O : Outing) : Prop where
  g : SlOf guideC 3 w w.heap.size a.Ag O.guides
  c : SlOf intC 1 w w.heap.size a.Ac O.clients
  m : SlOf wearC 2 w w.heap.size a.Am O.model.wears
  r : SlOf ropeC 4 w w.heap.size a.Ar O.ropes
  f : ∀ r ∈ O.ropes, SlOf fallC 5 w w.heap.size r.A r.rope.falls
theorem OutIn.ext {w w' : World} {a : OutA} {O : Outing} (h : OutIn w a O) (he : Ext w w') : OutIn w' a O :=
  ⟨h.g.ext he, h.c.ext he, h.m.ext he, h.r.ext he, fun r hr => (h.f r hr).ext he⟩
structure OutLen (O : Outing) : Prop where
  g : O.guides.length ≤ 1000000
  c : O.clients.length ≤ 1000000
  m : O.model.wears.length ≤ 1000000
  r : O.ropes.length ≤ 1000000
  f : ∀ r ∈ O.ropes, r.rope.falls.length ≤ 1000000
def guideB (g : Guide) : Bool := withinB g.grade 1 6 && withinB g.until_ 0 99999 && withinB g.points 0 20
def outB (O : Outing) : Bool := withinB O.day 0 99999 && withinB O.grade 1 6 && withinB O.spacing 1 100 && decide (O.guides.length ≤ 4) && O.guides.all guideB && decide (O.clients.length ≤ 6) && O.clients.all (fun n => withinB n 1 20) && decide (O.ropes.length ≤ 6) && O.ropes.all (fun r => decide (r.rope.made ≤ O.day))
def checkE (O : Outing) : Int := if !isModelB O.model then 90 else if !O.ropes.all (fun r => isRopeB r.rope) then 91 else if !outB O then 93 else 0
theorem range_all {α : Type} (l : List α) (P : α → Bool) : (List.range l.length).all (fun k => (l[k]?).any P) = l.all P := by
  rw [Bool.eq_iff_iff, List.all_eq_true, List.all_eq_true]
  constructor
  · intro h x hx
    obtain ⟨k, hk, rfl⟩ := List.getElem_of_mem hx
    have := h k (by simpa using hk)
    rw [List.getElem?_eq_getElem hk] at this
    simpa using this
  · intro h k hk
    have hk : k < l.length := by simpa using hk
    rw [List.getElem?_eq_getElem hk]
    simpa using h _ (List.getElem_mem hk)
theorem guideF_any (g : Guide) (w : World) : Calls Try.prog 60 #[guideV g] w fun e w' => e = .returned (.bool (guideB g)) ∧ Ext w w' := by
  cases h0 : withinB g.grade 1 6
  · have G0 := Lib.hid h0
    clear h0
    have HR := Lib.hid (show guideB g = false by unfold guideB; rw [G0.out]; simp)
    go_enter Try.func60, Try.ntmps60
    go_wp2_with (first | (go_at_call 51; (with_reducible refine (within_is _ _ _ G0.out _).mono ?_); rintro e w1 ⟨rfl, rfl⟩))
    go_ret
    exact ⟨ret_bool HR.out.symm, by (repeat (first | (with_reducible exact Ext.refl _) | (with_reducible assumption) | (with_reducible refine Ext.alloc ?_ _) | (with_reducible refine Ext.trans ?_ (by with_reducible assumption)) | (with_reducible refine Ext.drew ?_) | (with_reducible refine Ext.setCell ?_ (by simp <;> omega) _)))⟩
  · have G0 := Lib.hid h0
    clear h0
    cases h1 : withinB g.until_ 0 99999
    · have G1 := Lib.hid h1
      clear h1
      have HR := Lib.hid (show guideB g = false by unfold guideB; rw [G0.out, G1.out]; simp)
      go_enter Try.func60, Try.ntmps60
      go_wp2_with (first | (go_at_call 51; (with_reducible refine (within_is _ _ _ G0.out _).mono ?_); rintro e w1 ⟨rfl, rfl⟩) | (go_at_call 51; (with_reducible refine (within_is _ _ _ G1.out _).mono ?_); rintro e w1 ⟨rfl, rfl⟩))
      go_ret
      exact ⟨ret_bool HR.out.symm, by (repeat (first | (with_reducible exact Ext.refl _) | (with_reducible assumption) | (with_reducible refine Ext.alloc ?_ _) | (with_reducible refine Ext.trans ?_ (by with_reducible assumption)) | (with_reducible refine Ext.drew ?_) | (with_reducible refine Ext.setCell ?_ (by simp <;> omega) _)))⟩
    · have G1 := Lib.hid h1
      clear h1
      cases h2 : withinB g.points 0 20
      · have G2 := Lib.hid h2
        clear h2
        have HR := Lib.hid (show guideB g = false by unfold guideB; rw [G0.out, G1.out, G2.out]; simp)
        go_enter Try.func60, Try.ntmps60
        go_wp2_with (first | (go_at_call 51; (with_reducible refine (within_is _ _ _ G0.out _).mono ?_); rintro e w1 ⟨rfl, rfl⟩) | (go_at_call 51; (with_reducible refine (within_is _ _ _ G1.out _).mono ?_); rintro e w1 ⟨rfl, rfl⟩) | (go_at_call 51; (with_reducible refine (within_is _ _ _ G2.out _).mono ?_); rintro e w1 ⟨rfl, rfl⟩))
        go_ret
        exact ⟨ret_bool HR.out.symm, by (repeat (first | (with_reducible exact Ext.refl _) | (with_reducible assumption) | (with_reducible refine Ext.alloc ?_ _) | (with_reducible refine Ext.trans ?_ (by with_reducible assumption)) | (with_reducible refine Ext.drew ?_) | (with_reducible refine Ext.setCell ?_ (by simp <;> omega) _)))⟩
      · have G2 := Lib.hid h2
        clear h2
        have HR := Lib.hid (show guideB g = true by unfold guideB; rw [G0.out, G1.out, G2.out]; rfl)
        go_enter Try.func60, Try.ntmps60
        go_wp2_with (first | (go_at_call 51; (with_reducible refine (within_is _ _ _ G0.out _).mono ?_); rintro e w1 ⟨rfl, rfl⟩) | (go_at_call 51; (with_reducible refine (within_is _ _ _ G1.out _).mono ?_); rintro e w1 ⟨rfl, rfl⟩) | (go_at_call 51; (with_reducible refine (within_is _ _ _ G2.out _).mono ?_); rintro e w1 ⟨rfl, rfl⟩))
        go_ret
        exact ⟨ret_bool HR.out.symm, by (repeat (first | (with_reducible exact Ext.refl _) | (with_reducible assumption) | (with_reducible refine Ext.alloc ?_ _) | (with_reducible refine Ext.trans ?_ (by with_reducible assumption)) | (with_reducible refine Ext.drew ?_) | (with_reducible refine Ext.setCell ?_ (by simp <;> omega) _)))⟩
theorem clientF_any (n : Int) (w : World) : Calls Try.prog 61 #[intV n] w fun e w' => e = .returned (.bool (withinB n 1 20)) ∧ Ext w w' := by
  go_enter Try.func61, Try.ntmps61
  go_wp2_with (go_at_call 51; refine (within_any _ _ _ _).mono ?_; rintro e w1 ⟨rfl, rfl⟩)
  go_ret
  exact ⟨rfl, by (repeat (first | (with_reducible exact Ext.refl _) | (with_reducible assumption) | (with_reducible refine Ext.alloc ?_ _) | (with_reducible refine Ext.trans ?_ (by with_reducible assumption)) | (with_reducible refine Ext.drew ?_) | (with_reducible refine Ext.setCell ?_ (by simp <;> omega) _)))⟩
theorem madeF_any (x : RopeX) (b : Nat) (day : Int) (w : World) (hc : w.cell? ⟨b, 0, none⟩ = some (.int .i64 day)) :
    Calls Try.prog 62 #[ropeXV x, .pointer (some ⟨b, 0, none⟩)] w fun e w' => e = .returned (.bool (decide (x.rope.made ≤ day))) ∧ Ext w w' := by
  have z := World.block_lt_of_cell? w _ hc
  simp only at z
  obtain ⟨w1, hw1⟩ : ∃ w1, w.alloc (.cells #[.int .i64 x.rope.made, .int .i64 x.rope.first, .int .i64 x.rope.length, .slice x.A x.rope.falls.length x.c] 27) = w1 := ⟨_, rfl⟩
  have x0 : w1.cell? ⟨w.heap.size, 0, none⟩ = some (.int .i64 x.rope.made) := by rw [← hw1]; clear hw1; go_simp
  have hE : Ext w w1 := by rw [← hw1]; exact (Ext.refl _).alloc _
  have y0 := ((bcell hE).1 b 0 z).trans hc
  have HW := Lib.hid hw1
  clear hw1
  go_enter Try.func62, Try.ntmps62
  go_wp2_with fail
  try rw [HW.out]
  go_wp2_with fail
  go_ret
  exact ⟨rfl, hE⟩
theorem check_any (a : OutA) (O : Outing) (w : World) (hl : OutLen O) (hs : OutIn w a O) :
    Calls Try.prog 27 #[outV a O] w fun e w' => e = .returned (.int .i64 (checkE O)) ∧ Ext w w' := by
  have HS := Lib.hid hs
  have HL := Lib.hid hl
  clear hs hl
  obtain ⟨w1, hw1⟩ : ∃ w1, w.alloc (.cells (outC a O).toArray 66) = w1 := ⟨_, rfl⟩
  have hE1 : Ext w w1 := by rw [← hw1]; exact (Ext.refl _).alloc _
  have hx : ∀ i u, (outC a O)[i]? = some u → w1.cell? ⟨w.heap.size, i, none⟩ = some u := fun i u hu => by rw [← hw1]; exact ((Blk.new w _ (outC a O) rfl).cell i).trans hu
  have x0 := hx 0 _ rfl
  have x1 := hx 1 _ rfl
  have x2 := hx (3 - 1) _ rfl
  have x3 := hx (4 - 1) _ rfl
  have x4 := hx (5 - 1) _ rfl
  have x5 := hx (6 - 1) _ rfl
  have x6 := hx (7 - 1) _ rfl
  have x7 := hx (8 - 1) _ rfl
  have x8 := hx (9 - 1) _ rfl
  have x9 := hx (10 - 1) _ rfl
  simp only [Nat.reduceSub] at x0 x1 x2 x3 x4 x5 x6 x7 x8 x9
  have HW := Lib.hid hw1
  have HE1 := Lib.hid hE1
  have z : w.heap.size < w1.heap.size := by rw [← hw1]; simp
  clear hx hw1 hE1
  have eg0 := enters_of (P := Try.prog) Try.func65 (by kernel_rfl) rfl
  have eg1 := enters_of (P := Try.prog) Try.func60 (by kernel_rfl) rfl
  have eg2 := enters_of (P := Try.prog) Try.func61 (by kernel_rfl) rfl
  have eg3 := enters_of (P := Try.prog) Try.func62 (by kernel_rfl) rfl
  have C1 := Lib.hid (fun (W : World) (hW : Ext w W) => show Calls Try.prog 64 #[.slice a.Ar O.ropes.length a.cr, .func (.func 65) #[] #[]] W fun e W' => e = .returned (.bool (O.ropes.all fun r => isRopeB r.rope)) ∧ Ext W W' by
    refine (allRope_any a.Ar a.cr O.ropes 65 #[] (fun k => (O.ropes[k]?).any fun r => isRopeB r.rope) (fun _ W => OutIn W a O) none W.heap.size W (by have := HL.out.r; omega) (Nat.le_refl _) (HS.out.ext hW).r (fun r e => by cases e) eg0 (fun k W W' h he => h.ext he) ?_ (HS.out.ext hW)).mono ?_
    · intro k hk W h hg
      refine (isRope_any _ _ _ W (HL.out.f _ (List.getElem_mem hk)) (h.f _ (List.getElem_mem hk))).mono ?_
      rintro e W' ⟨rfl, hb⟩
      exact ⟨by rw [List.getElem?_eq_getElem hk]; rfl, h.ext hb, ext_grownR hb _⟩
    · rintro e W' ⟨rfl, hg⟩
      exact ⟨by rw [range_all], grown_none hg⟩)
  have C2 := Lib.hid (fun (W : World) (hW : Ext w W) => show Calls Try.prog 66 #[.slice a.Ag O.guides.length a.cg, .func (.func 60) #[] #[]] W fun e W' => e = .returned (.bool (O.guides.all guideB)) ∧ Ext W W' by
    refine (allGuide_any a.Ag a.cg O.guides 60 #[] (fun k => (O.guides[k]?).any guideB) (fun _ _ => True) none W.heap.size W (by have := HL.out.g; omega) (Nat.le_refl _) (HS.out.ext hW).g (fun r e => by cases e) eg1 (fun k W W' h he => h) ?_ trivial).mono ?_
    · intro k hk W h hg
      refine (guideF_any O.guides[k] W).mono ?_
      rintro e W' ⟨rfl, hb⟩
      exact ⟨by rw [List.getElem?_eq_getElem hk]; rfl, trivial, ext_grownR hb _⟩
    · rintro e W' ⟨rfl, hg⟩
      exact ⟨by rw [range_all], grown_none hg⟩)
  have C3 := Lib.hid (fun (W : World) (hW : Ext w W) => show Calls Try.prog 67 #[.slice a.Ac O.clients.length a.cc, .func (.func 61) #[] #[]] W fun e W' => e = .returned (.bool (O.clients.all fun n => withinB n 1 20)) ∧ Ext W W' by
    refine (allInt_any a.Ac a.cc O.clients 61 #[] (fun k => (O.clients[k]?).any fun n => withinB n 1 20) (fun _ _ => True) none W.heap.size W (by have := HL.out.c; omega) (Nat.le_refl _) (HS.out.ext hW).c (fun r e => by cases e) eg2 (fun k W W' h he => h) ?_ trivial).mono ?_
    · intro k hk W h hg
      refine (clientF_any O.clients[k] W).mono ?_
      rintro e W' ⟨rfl, hb⟩
      exact ⟨by rw [List.getElem?_eq_getElem hk]; rfl, trivial, ext_grownR hb _⟩
    · rintro e W' ⟨rfl, hg⟩
      exact ⟨by rw [range_all], grown_none hg⟩)
  have C4 := Lib.hid (fun (W : World) (hW : Ext w W) (hd : W.cell? ⟨w.heap.size, 0, none⟩ = some (.int .i64 O.day)) => show Calls Try.prog 64 #[.slice a.Ar O.ropes.length a.cr, .func (.func 62) #[] #[.pointer (some ⟨w.heap.size, 0, none⟩)]] W fun e W' => e = .returned (.bool (O.ropes.all fun r => decide (r.rope.made ≤ O.day))) ∧ Ext W W' by
    refine (allRope_any a.Ar a.cr O.ropes 62 _ (fun k => (O.ropes[k]?).any fun r => decide (r.rope.made ≤ O.day)) (fun _ W => W.cell? ⟨w.heap.size, 0, none⟩ = some (.int .i64 O.day)) none W.heap.size W (by have := HL.out.r; omega) (Nat.le_refl _) (HS.out.ext hW).r (fun r e => by cases e) eg3 (fun k W W' h he => ((bcell he).1 _ 0 (World.block_lt_of_cell? W _ h)).trans h) ?_ hd).mono ?_
    · intro k hk W h hg
      refine (madeF_any O.ropes[k] _ O.day W h).mono ?_
      rintro e W' ⟨rfl, hb⟩
      exact ⟨by rw [List.getElem?_eq_getElem hk]; rfl, ((bcell hb).1 _ 0 (World.block_lt_of_cell? W _ h)).trans h, ext_grownR hb _⟩
    · rintro e W' ⟨rfl, hg⟩
      exact ⟨by rw [range_all], grown_none hg⟩)
  have z_w1 := z
  have E_w1 := HE1
  cases h0 : isModelB O.model
  · have H0 := Lib.hid h0
    clear h0
    have HR := Lib.hid (show checkE O = 90 by unfold checkE; rw [H0.out]; simp)
    go_enter Try.func27, Try.ntmps27
    go_wp2_with fail
    rw [show w.alloc (.cells #[.int .i64 O.day, .int .i64 O.grade, .int .i64 O.spacing, .slice a.Ag O.guides.length a.cg, .slice a.Ac O.clients.length a.cc, .int .i64 O.model.shelf, .int .i64 O.model.use, .int .i64 O.model.bears, .slice a.Am O.model.wears.length a.cm, .slice a.Ar O.ropes.length a.cr] 66) = w1 from HW.out]
    go_wp2_with (first | (go_at_call 63; refine (isModel_any _ _ _ _ HL.out.m (HS.out.ext E_w1.out).m).mono ?_; rintro e w2 ⟨rfl, hb⟩; rw [H0.out]; have hc_w2 : ∀ o, w2.cell? ⟨w.heap.size, o, none⟩ = _ := fun o => (bcell hb).1 _ o z_w1; have z_w2 := Nat.lt_of_lt_of_le z_w1 (Below.size hb); have E_w2 := Lib.hid (E_w1.out.trans hb); clear hb))
    go_ret
    exact ⟨ret_int HR.out.symm, E_w2.out⟩
  · have H0 := Lib.hid h0
    clear h0
    cases h1 : (O.ropes.all fun r => isRopeB r.rope)
    · have H1 := Lib.hid h1
      clear h1
      have HR := Lib.hid (show checkE O = 91 by unfold checkE; rw [H0.out, H1.out]; simp)
      go_enter Try.func27, Try.ntmps27
      go_wp2_with fail
      rw [show w.alloc (.cells #[.int .i64 O.day, .int .i64 O.grade, .int .i64 O.spacing, .slice a.Ag O.guides.length a.cg, .slice a.Ac O.clients.length a.cc, .int .i64 O.model.shelf, .int .i64 O.model.use, .int .i64 O.model.bears, .slice a.Am O.model.wears.length a.cm, .slice a.Ar O.ropes.length a.cr] 66) = w1 from HW.out]
      go_wp2_with (first | (go_at_call 63; refine (isModel_any _ _ _ _ HL.out.m (HS.out.ext E_w1.out).m).mono ?_; rintro e w2 ⟨rfl, hb⟩; rw [H0.out]; have hc_w2 : ∀ o, w2.cell? ⟨w.heap.size, o, none⟩ = _ := fun o => (bcell hb).1 _ o z_w1; have z_w2 := Nat.lt_of_lt_of_le z_w1 (Below.size hb); have E_w2 := Lib.hid (E_w1.out.trans hb); clear hb) | (go_at_call 64; (with_reducible refine (C1.out _ E_w2.out).mono ?_); rintro e w3 ⟨rfl, hb⟩; rw [H1.out]; have hc_w3 : ∀ o, w3.cell? ⟨w.heap.size, o, none⟩ = _ := fun o => (bcell hb).1 _ o z_w2; have z_w3 := Nat.lt_of_lt_of_le z_w2 (Below.size hb); have E_w3 := Lib.hid (E_w2.out.trans hb); clear hb))
      go_ret
      exact ⟨ret_int HR.out.symm, E_w3.out⟩
    · have H1 := Lib.hid h1
      clear h1
      cases h2 : withinB O.day 0 99999
      · have H2 := Lib.hid h2
        clear h2
        have HR := Lib.hid (show checkE O = 93 by unfold checkE outB; rw [H0.out, H1.out, H2.out]; simp)
        go_enter Try.func27, Try.ntmps27
        go_wp2_with fail
        rw [show w.alloc (.cells #[.int .i64 O.day, .int .i64 O.grade, .int .i64 O.spacing, .slice a.Ag O.guides.length a.cg, .slice a.Ac O.clients.length a.cc, .int .i64 O.model.shelf, .int .i64 O.model.use, .int .i64 O.model.bears, .slice a.Am O.model.wears.length a.cm, .slice a.Ar O.ropes.length a.cr] 66) = w1 from HW.out]
        go_wp2_with (first | (go_at_call 63; refine (isModel_any _ _ _ _ HL.out.m (HS.out.ext E_w1.out).m).mono ?_; rintro e w2 ⟨rfl, hb⟩; rw [H0.out]; have hc_w2 : ∀ o, w2.cell? ⟨w.heap.size, o, none⟩ = _ := fun o => (bcell hb).1 _ o z_w1; have z_w2 := Nat.lt_of_lt_of_le z_w1 (Below.size hb); have E_w2 := Lib.hid (E_w1.out.trans hb); clear hb) | (go_at_call 64; (with_reducible refine (C1.out _ E_w2.out).mono ?_); rintro e w3 ⟨rfl, hb⟩; rw [H1.out]; have hc_w3 : ∀ o, w3.cell? ⟨w.heap.size, o, none⟩ = _ := fun o => (bcell hb).1 _ o z_w2; have z_w3 := Nat.lt_of_lt_of_le z_w2 (Below.size hb); have E_w3 := Lib.hid (E_w2.out.trans hb); clear hb) | (go_at_call 51; (with_reducible refine (within_is _ _ _ H2.out _).mono ?_); rintro e wx ⟨rfl, rfl⟩))
        go_ret
        exact ⟨ret_int HR.out.symm, E_w3.out⟩
      · have H2 := Lib.hid h2
        clear h2
        cases h3 : withinB O.grade 1 6
        · have H3 := Lib.hid h3
          clear h3
          have HR := Lib.hid (show checkE O = 93 by unfold checkE outB; rw [H0.out, H1.out, H2.out, H3.out]; simp)
          go_enter Try.func27, Try.ntmps27
          go_wp2_with fail
          rw [show w.alloc (.cells #[.int .i64 O.day, .int .i64 O.grade, .int .i64 O.spacing, .slice a.Ag O.guides.length a.cg, .slice a.Ac O.clients.length a.cc, .int .i64 O.model.shelf, .int .i64 O.model.use, .int .i64 O.model.bears, .slice a.Am O.model.wears.length a.cm, .slice a.Ar O.ropes.length a.cr] 66) = w1 from HW.out]
          go_wp2_with (first | (go_at_call 63; refine (isModel_any _ _ _ _ HL.out.m (HS.out.ext E_w1.out).m).mono ?_; rintro e w2 ⟨rfl, hb⟩; rw [H0.out]; have hc_w2 : ∀ o, w2.cell? ⟨w.heap.size, o, none⟩ = _ := fun o => (bcell hb).1 _ o z_w1; have z_w2 := Nat.lt_of_lt_of_le z_w1 (Below.size hb); have E_w2 := Lib.hid (E_w1.out.trans hb); clear hb) | (go_at_call 64; (with_reducible refine (C1.out _ E_w2.out).mono ?_); rintro e w3 ⟨rfl, hb⟩; rw [H1.out]; have hc_w3 : ∀ o, w3.cell? ⟨w.heap.size, o, none⟩ = _ := fun o => (bcell hb).1 _ o z_w2; have z_w3 := Nat.lt_of_lt_of_le z_w2 (Below.size hb); have E_w3 := Lib.hid (E_w2.out.trans hb); clear hb) | (go_at_call 51; (with_reducible refine (within_is _ _ _ H2.out _).mono ?_); rintro e wx ⟨rfl, rfl⟩) | (go_at_call 51; (with_reducible refine (within_is _ _ _ H3.out _).mono ?_); rintro e wx ⟨rfl, rfl⟩))
          go_ret
          exact ⟨ret_int HR.out.symm, E_w3.out⟩
        · have H3 := Lib.hid h3
          clear h3
          cases h4 : withinB O.spacing 1 100
          · have H4 := Lib.hid h4
            clear h4
            have HR := Lib.hid (show checkE O = 93 by unfold checkE outB; rw [H0.out, H1.out, H2.out, H3.out, H4.out]; simp)
            go_enter Try.func27, Try.ntmps27
            go_wp2_with fail
            rw [show w.alloc (.cells #[.int .i64 O.day, .int .i64 O.grade, .int .i64 O.spacing, .slice a.Ag O.guides.length a.cg, .slice a.Ac O.clients.length a.cc, .int .i64 O.model.shelf, .int .i64 O.model.use, .int .i64 O.model.bears, .slice a.Am O.model.wears.length a.cm, .slice a.Ar O.ropes.length a.cr] 66) = w1 from HW.out]
            go_wp2_with (first | (go_at_call 63; refine (isModel_any _ _ _ _ HL.out.m (HS.out.ext E_w1.out).m).mono ?_; rintro e w2 ⟨rfl, hb⟩; rw [H0.out]; have hc_w2 : ∀ o, w2.cell? ⟨w.heap.size, o, none⟩ = _ := fun o => (bcell hb).1 _ o z_w1; have z_w2 := Nat.lt_of_lt_of_le z_w1 (Below.size hb); have E_w2 := Lib.hid (E_w1.out.trans hb); clear hb) | (go_at_call 64; (with_reducible refine (C1.out _ E_w2.out).mono ?_); rintro e w3 ⟨rfl, hb⟩; rw [H1.out]; have hc_w3 : ∀ o, w3.cell? ⟨w.heap.size, o, none⟩ = _ := fun o => (bcell hb).1 _ o z_w2; have z_w3 := Nat.lt_of_lt_of_le z_w2 (Below.size hb); have E_w3 := Lib.hid (E_w2.out.trans hb); clear hb) | (go_at_call 51; (with_reducible refine (within_is _ _ _ H2.out _).mono ?_); rintro e wx ⟨rfl, rfl⟩) | (go_at_call 51; (with_reducible refine (within_is _ _ _ H3.out _).mono ?_); rintro e wx ⟨rfl, rfl⟩) | (go_at_call 51; (with_reducible refine (within_is _ _ _ H4.out _).mono ?_); rintro e wx ⟨rfl, rfl⟩))
            go_ret
            exact ⟨ret_int HR.out.symm, E_w3.out⟩
          · have H4 := Lib.hid h4
            clear h4
            rcases Nat.lt_or_ge 4 O.guides.length with h5 | h5
            · have d5 : decide (4 < O.guides.length) = true := decide_eq_true h5
              have HR := Lib.hid (show checkE O = 93 by unfold checkE outB; rw [H0.out, H1.out, H2.out, H3.out, H4.out, decide_eq_false (Nat.not_le.2 h5)]; simp)
              go_enter Try.func27, Try.ntmps27
              go_wp2_with fail
              rw [show w.alloc (.cells #[.int .i64 O.day, .int .i64 O.grade, .int .i64 O.spacing, .slice a.Ag O.guides.length a.cg, .slice a.Ac O.clients.length a.cc, .int .i64 O.model.shelf, .int .i64 O.model.use, .int .i64 O.model.bears, .slice a.Am O.model.wears.length a.cm, .slice a.Ar O.ropes.length a.cr] 66) = w1 from HW.out]
              go_wp2_with (first | (go_at_call 63; refine (isModel_any _ _ _ _ HL.out.m (HS.out.ext E_w1.out).m).mono ?_; rintro e w2 ⟨rfl, hb⟩; rw [H0.out]; have hc_w2 : ∀ o, w2.cell? ⟨w.heap.size, o, none⟩ = _ := fun o => (bcell hb).1 _ o z_w1; have z_w2 := Nat.lt_of_lt_of_le z_w1 (Below.size hb); have E_w2 := Lib.hid (E_w1.out.trans hb); clear hb) | (go_at_call 64; (with_reducible refine (C1.out _ E_w2.out).mono ?_); rintro e w3 ⟨rfl, hb⟩; rw [H1.out]; have hc_w3 : ∀ o, w3.cell? ⟨w.heap.size, o, none⟩ = _ := fun o => (bcell hb).1 _ o z_w2; have z_w3 := Nat.lt_of_lt_of_le z_w2 (Below.size hb); have E_w3 := Lib.hid (E_w2.out.trans hb); clear hb) | (go_at_call 51; (with_reducible refine (within_is _ _ _ H2.out _).mono ?_); rintro e wx ⟨rfl, rfl⟩) | (go_at_call 51; (with_reducible refine (within_is _ _ _ H3.out _).mono ?_); rintro e wx ⟨rfl, rfl⟩) | (go_at_call 51; (with_reducible refine (within_is _ _ _ H4.out _).mono ?_); rintro e wx ⟨rfl, rfl⟩))
              go_ret
              exact ⟨ret_int HR.out.symm, E_w3.out⟩
            · have d5 : decide (4 < O.guides.length) = false := decide_eq_false (by omega)
              have H5 := Lib.hid h5
              cases h6 : O.guides.all guideB
              · have H6 := Lib.hid h6
                clear h6
                have HR := Lib.hid (show checkE O = 93 by unfold checkE outB; rw [H0.out, H1.out, H2.out, H3.out, H4.out, decide_eq_true H5.out, H6.out]; simp)
                go_enter Try.func27, Try.ntmps27
                go_wp2_with fail
                rw [show w.alloc (.cells #[.int .i64 O.day, .int .i64 O.grade, .int .i64 O.spacing, .slice a.Ag O.guides.length a.cg, .slice a.Ac O.clients.length a.cc, .int .i64 O.model.shelf, .int .i64 O.model.use, .int .i64 O.model.bears, .slice a.Am O.model.wears.length a.cm, .slice a.Ar O.ropes.length a.cr] 66) = w1 from HW.out]
                go_wp2_with (first | (go_at_call 63; refine (isModel_any _ _ _ _ HL.out.m (HS.out.ext E_w1.out).m).mono ?_; rintro e w2 ⟨rfl, hb⟩; rw [H0.out]; have hc_w2 : ∀ o, w2.cell? ⟨w.heap.size, o, none⟩ = _ := fun o => (bcell hb).1 _ o z_w1; have z_w2 := Nat.lt_of_lt_of_le z_w1 (Below.size hb); have E_w2 := Lib.hid (E_w1.out.trans hb); clear hb) | (go_at_call 64; (with_reducible refine (C1.out _ E_w2.out).mono ?_); rintro e w3 ⟨rfl, hb⟩; rw [H1.out]; have hc_w3 : ∀ o, w3.cell? ⟨w.heap.size, o, none⟩ = _ := fun o => (bcell hb).1 _ o z_w2; have z_w3 := Nat.lt_of_lt_of_le z_w2 (Below.size hb); have E_w3 := Lib.hid (E_w2.out.trans hb); clear hb) | (go_at_call 51; (with_reducible refine (within_is _ _ _ H2.out _).mono ?_); rintro e wx ⟨rfl, rfl⟩) | (go_at_call 51; (with_reducible refine (within_is _ _ _ H3.out _).mono ?_); rintro e wx ⟨rfl, rfl⟩) | (go_at_call 51; (with_reducible refine (within_is _ _ _ H4.out _).mono ?_); rintro e wx ⟨rfl, rfl⟩) | (go_at_call 66; (with_reducible refine (C2.out _ E_w3.out).mono ?_); rintro e w4 ⟨rfl, hb⟩; rw [H6.out]; have hc_w4 : ∀ o, w4.cell? ⟨w.heap.size, o, none⟩ = _ := fun o => (bcell hb).1 _ o z_w3; have z_w4 := Nat.lt_of_lt_of_le z_w3 (Below.size hb); have E_w4 := Lib.hid (E_w3.out.trans hb); clear hb))
                go_ret
                exact ⟨ret_int HR.out.symm, E_w4.out⟩
              · have H6 := Lib.hid h6
                clear h6
                rcases Nat.lt_or_ge 6 O.clients.length with h7 | h7
                · have d7 : decide (6 < O.clients.length) = true := decide_eq_true h7
                  have HR := Lib.hid (show checkE O = 93 by unfold checkE outB; rw [H0.out, H1.out, H2.out, H3.out, H4.out, decide_eq_true H5.out, H6.out, decide_eq_false (Nat.not_le.2 h7)]; simp)
                  go_enter Try.func27, Try.ntmps27
                  go_wp2_with fail
                  rw [show w.alloc (.cells #[.int .i64 O.day, .int .i64 O.grade, .int .i64 O.spacing, .slice a.Ag O.guides.length a.cg, .slice a.Ac O.clients.length a.cc, .int .i64 O.model.shelf, .int .i64 O.model.use, .int .i64 O.model.bears, .slice a.Am O.model.wears.length a.cm, .slice a.Ar O.ropes.length a.cr] 66) = w1 from HW.out]
                  go_wp2_with (first | (go_at_call 63; refine (isModel_any _ _ _ _ HL.out.m (HS.out.ext E_w1.out).m).mono ?_; rintro e w2 ⟨rfl, hb⟩; rw [H0.out]; have hc_w2 : ∀ o, w2.cell? ⟨w.heap.size, o, none⟩ = _ := fun o => (bcell hb).1 _ o z_w1; have z_w2 := Nat.lt_of_lt_of_le z_w1 (Below.size hb); have E_w2 := Lib.hid (E_w1.out.trans hb); clear hb) | (go_at_call 64; (with_reducible refine (C1.out _ E_w2.out).mono ?_); rintro e w3 ⟨rfl, hb⟩; rw [H1.out]; have hc_w3 : ∀ o, w3.cell? ⟨w.heap.size, o, none⟩ = _ := fun o => (bcell hb).1 _ o z_w2; have z_w3 := Nat.lt_of_lt_of_le z_w2 (Below.size hb); have E_w3 := Lib.hid (E_w2.out.trans hb); clear hb) | (go_at_call 51; (with_reducible refine (within_is _ _ _ H2.out _).mono ?_); rintro e wx ⟨rfl, rfl⟩) | (go_at_call 51; (with_reducible refine (within_is _ _ _ H3.out _).mono ?_); rintro e wx ⟨rfl, rfl⟩) | (go_at_call 51; (with_reducible refine (within_is _ _ _ H4.out _).mono ?_); rintro e wx ⟨rfl, rfl⟩) | (go_at_call 66; (with_reducible refine (C2.out _ E_w3.out).mono ?_); rintro e w4 ⟨rfl, hb⟩; rw [H6.out]; have hc_w4 : ∀ o, w4.cell? ⟨w.heap.size, o, none⟩ = _ := fun o => (bcell hb).1 _ o z_w3; have z_w4 := Nat.lt_of_lt_of_le z_w3 (Below.size hb); have E_w4 := Lib.hid (E_w3.out.trans hb); clear hb))
                  go_ret
                  exact ⟨ret_int HR.out.symm, E_w4.out⟩
                · have d7 : decide (6 < O.clients.length) = false := decide_eq_false (by omega)
                  have H7 := Lib.hid h7
                  cases h8 : (O.clients.all fun n => withinB n 1 20)
                  · have H8 := Lib.hid h8
                    clear h8
                    have HR := Lib.hid (show checkE O = 93 by unfold checkE outB; rw [H0.out, H1.out, H2.out, H3.out, H4.out, decide_eq_true H5.out, H6.out, decide_eq_true H7.out, H8.out]; simp)
                    go_enter Try.func27, Try.ntmps27
                    go_wp2_with fail
                    rw [show w.alloc (.cells #[.int .i64 O.day, .int .i64 O.grade, .int .i64 O.spacing, .slice a.Ag O.guides.length a.cg, .slice a.Ac O.clients.length a.cc, .int .i64 O.model.shelf, .int .i64 O.model.use, .int .i64 O.model.bears, .slice a.Am O.model.wears.length a.cm, .slice a.Ar O.ropes.length a.cr] 66) = w1 from HW.out]
                    go_wp2_with (first | (go_at_call 63; refine (isModel_any _ _ _ _ HL.out.m (HS.out.ext E_w1.out).m).mono ?_; rintro e w2 ⟨rfl, hb⟩; rw [H0.out]; have hc_w2 : ∀ o, w2.cell? ⟨w.heap.size, o, none⟩ = _ := fun o => (bcell hb).1 _ o z_w1; have z_w2 := Nat.lt_of_lt_of_le z_w1 (Below.size hb); have E_w2 := Lib.hid (E_w1.out.trans hb); clear hb) | (go_at_call 64; (with_reducible refine (C1.out _ E_w2.out).mono ?_); rintro e w3 ⟨rfl, hb⟩; rw [H1.out]; have hc_w3 : ∀ o, w3.cell? ⟨w.heap.size, o, none⟩ = _ := fun o => (bcell hb).1 _ o z_w2; have z_w3 := Nat.lt_of_lt_of_le z_w2 (Below.size hb); have E_w3 := Lib.hid (E_w2.out.trans hb); clear hb) | (go_at_call 51; (with_reducible refine (within_is _ _ _ H2.out _).mono ?_); rintro e wx ⟨rfl, rfl⟩) | (go_at_call 51; (with_reducible refine (within_is _ _ _ H3.out _).mono ?_); rintro e wx ⟨rfl, rfl⟩) | (go_at_call 51; (with_reducible refine (within_is _ _ _ H4.out _).mono ?_); rintro e wx ⟨rfl, rfl⟩) | (go_at_call 66; (with_reducible refine (C2.out _ E_w3.out).mono ?_); rintro e w4 ⟨rfl, hb⟩; rw [H6.out]; have hc_w4 : ∀ o, w4.cell? ⟨w.heap.size, o, none⟩ = _ := fun o => (bcell hb).1 _ o z_w3; have z_w4 := Nat.lt_of_lt_of_le z_w3 (Below.size hb); have E_w4 := Lib.hid (E_w3.out.trans hb); clear hb) | (go_at_call 67; (with_reducible refine (C3.out _ E_w4.out).mono ?_); rintro e w5 ⟨rfl, hb⟩; rw [H8.out]; have hc_w5 : ∀ o, w5.cell? ⟨w.heap.size, o, none⟩ = _ := fun o => (bcell hb).1 _ o z_w4; have z_w5 := Nat.lt_of_lt_of_le z_w4 (Below.size hb); have E_w5 := Lib.hid (E_w4.out.trans hb); clear hb))
                    go_ret
                    exact ⟨ret_int HR.out.symm, E_w5.out⟩
                  · have H8 := Lib.hid h8
                    clear h8
                    rcases Nat.lt_or_ge 6 O.ropes.length with h9 | h9
                    · have d9 : decide (6 < O.ropes.length) = true := decide_eq_true h9
                      have HR := Lib.hid (show checkE O = 93 by unfold checkE outB; rw [H0.out, H1.out, H2.out, H3.out, H4.out, decide_eq_true H5.out, H6.out, decide_eq_true H7.out, H8.out, decide_eq_false (Nat.not_le.2 h9)]; simp)
                      go_enter Try.func27, Try.ntmps27
                      go_wp2_with fail
                      rw [show w.alloc (.cells #[.int .i64 O.day, .int .i64 O.grade, .int .i64 O.spacing, .slice a.Ag O.guides.length a.cg, .slice a.Ac O.clients.length a.cc, .int .i64 O.model.shelf, .int .i64 O.model.use, .int .i64 O.model.bears, .slice a.Am O.model.wears.length a.cm, .slice a.Ar O.ropes.length a.cr] 66) = w1 from HW.out]
                      go_wp2_with (first | (go_at_call 63; refine (isModel_any _ _ _ _ HL.out.m (HS.out.ext E_w1.out).m).mono ?_; rintro e w2 ⟨rfl, hb⟩; rw [H0.out]; have hc_w2 : ∀ o, w2.cell? ⟨w.heap.size, o, none⟩ = _ := fun o => (bcell hb).1 _ o z_w1; have z_w2 := Nat.lt_of_lt_of_le z_w1 (Below.size hb); have E_w2 := Lib.hid (E_w1.out.trans hb); clear hb) | (go_at_call 64; (with_reducible refine (C1.out _ E_w2.out).mono ?_); rintro e w3 ⟨rfl, hb⟩; rw [H1.out]; have hc_w3 : ∀ o, w3.cell? ⟨w.heap.size, o, none⟩ = _ := fun o => (bcell hb).1 _ o z_w2; have z_w3 := Nat.lt_of_lt_of_le z_w2 (Below.size hb); have E_w3 := Lib.hid (E_w2.out.trans hb); clear hb) | (go_at_call 51; (with_reducible refine (within_is _ _ _ H2.out _).mono ?_); rintro e wx ⟨rfl, rfl⟩) | (go_at_call 51; (with_reducible refine (within_is _ _ _ H3.out _).mono ?_); rintro e wx ⟨rfl, rfl⟩) | (go_at_call 51; (with_reducible refine (within_is _ _ _ H4.out _).mono ?_); rintro e wx ⟨rfl, rfl⟩) | (go_at_call 66; (with_reducible refine (C2.out _ E_w3.out).mono ?_); rintro e w4 ⟨rfl, hb⟩; rw [H6.out]; have hc_w4 : ∀ o, w4.cell? ⟨w.heap.size, o, none⟩ = _ := fun o => (bcell hb).1 _ o z_w3; have z_w4 := Nat.lt_of_lt_of_le z_w3 (Below.size hb); have E_w4 := Lib.hid (E_w3.out.trans hb); clear hb) | (go_at_call 67; (with_reducible refine (C3.out _ E_w4.out).mono ?_); rintro e w5 ⟨rfl, hb⟩; rw [H8.out]; have hc_w5 : ∀ o, w5.cell? ⟨w.heap.size, o, none⟩ = _ := fun o => (bcell hb).1 _ o z_w4; have z_w5 := Nat.lt_of_lt_of_le z_w4 (Below.size hb); have E_w5 := Lib.hid (E_w4.out.trans hb); clear hb))
                      go_ret
                      exact ⟨ret_int HR.out.symm, E_w5.out⟩
                    · have d9 : decide (6 < O.ropes.length) = false := decide_eq_false (by omega)
                      have H9 := Lib.hid h9
                      cases h10 : (O.ropes.all fun r => decide (r.rope.made ≤ O.day))
                      · have H10 := Lib.hid h10
                        clear h10
                        have HR := Lib.hid (show checkE O = 93 by unfold checkE outB; rw [H0.out, H1.out, H2.out, H3.out, H4.out, decide_eq_true H5.out, H6.out, decide_eq_true H7.out, H8.out, decide_eq_true H9.out, H10.out]; simp)
                        go_enter Try.func27, Try.ntmps27
                        go_wp2_with fail
                        rw [show w.alloc (.cells #[.int .i64 O.day, .int .i64 O.grade, .int .i64 O.spacing, .slice a.Ag O.guides.length a.cg, .slice a.Ac O.clients.length a.cc, .int .i64 O.model.shelf, .int .i64 O.model.use, .int .i64 O.model.bears, .slice a.Am O.model.wears.length a.cm, .slice a.Ar O.ropes.length a.cr] 66) = w1 from HW.out]
                        go_wp2_with (first | (go_at_call 63; refine (isModel_any _ _ _ _ HL.out.m (HS.out.ext E_w1.out).m).mono ?_; rintro e w2 ⟨rfl, hb⟩; rw [H0.out]; have hc_w2 : ∀ o, w2.cell? ⟨w.heap.size, o, none⟩ = _ := fun o => (bcell hb).1 _ o z_w1; have z_w2 := Nat.lt_of_lt_of_le z_w1 (Below.size hb); have E_w2 := Lib.hid (E_w1.out.trans hb); clear hb) | (go_at_call 64; (with_reducible refine (C1.out _ E_w2.out).mono ?_); rintro e w3 ⟨rfl, hb⟩; rw [H1.out]; have hc_w3 : ∀ o, w3.cell? ⟨w.heap.size, o, none⟩ = _ := fun o => (bcell hb).1 _ o z_w2; have z_w3 := Nat.lt_of_lt_of_le z_w2 (Below.size hb); have E_w3 := Lib.hid (E_w2.out.trans hb); clear hb) | (go_at_call 51; (with_reducible refine (within_is _ _ _ H2.out _).mono ?_); rintro e wx ⟨rfl, rfl⟩) | (go_at_call 51; (with_reducible refine (within_is _ _ _ H3.out _).mono ?_); rintro e wx ⟨rfl, rfl⟩) | (go_at_call 51; (with_reducible refine (within_is _ _ _ H4.out _).mono ?_); rintro e wx ⟨rfl, rfl⟩) | (go_at_call 66; (with_reducible refine (C2.out _ E_w3.out).mono ?_); rintro e w4 ⟨rfl, hb⟩; rw [H6.out]; have hc_w4 : ∀ o, w4.cell? ⟨w.heap.size, o, none⟩ = _ := fun o => (bcell hb).1 _ o z_w3; have z_w4 := Nat.lt_of_lt_of_le z_w3 (Below.size hb); have E_w4 := Lib.hid (E_w3.out.trans hb); clear hb) | (go_at_call 67; (with_reducible refine (C3.out _ E_w4.out).mono ?_); rintro e w5 ⟨rfl, hb⟩; rw [H8.out]; have hc_w5 : ∀ o, w5.cell? ⟨w.heap.size, o, none⟩ = _ := fun o => (bcell hb).1 _ o z_w4; have z_w5 := Nat.lt_of_lt_of_le z_w4 (Below.size hb); have E_w5 := Lib.hid (E_w4.out.trans hb); clear hb) | (go_at_call 64; (with_reducible refine (C4.out _ E_w5.out (by rw [hc_w5, hc_w4, hc_w3, hc_w2]; exact x0)).mono ?_); rintro e w6 ⟨rfl, hb⟩; rw [H10.out]; have hc_w6 : ∀ o, w6.cell? ⟨w.heap.size, o, none⟩ = _ := fun o => (bcell hb).1 _ o z_w5; have z_w6 := Nat.lt_of_lt_of_le z_w5 (Below.size hb); have E_w6 := Lib.hid (E_w5.out.trans hb); clear hb))
                        go_ret
                        exact ⟨ret_int HR.out.symm, E_w6.out⟩
                      · have H10 := Lib.hid h10
                        clear h10
                        have HR := Lib.hid (show checkE O = 0 by unfold checkE outB; rw [H0.out, H1.out, H2.out, H3.out, H4.out, decide_eq_true H5.out, H6.out, decide_eq_true H7.out, H8.out, decide_eq_true H9.out, H10.out]; rfl)
                        go_enter Try.func27, Try.ntmps27
                        go_wp2_with fail
                        rw [show w.alloc (.cells #[.int .i64 O.day, .int .i64 O.grade, .int .i64 O.spacing, .slice a.Ag O.guides.length a.cg, .slice a.Ac O.clients.length a.cc, .int .i64 O.model.shelf, .int .i64 O.model.use, .int .i64 O.model.bears, .slice a.Am O.model.wears.length a.cm, .slice a.Ar O.ropes.length a.cr] 66) = w1 from HW.out]
                        go_wp2_with (first | (go_at_call 63; refine (isModel_any _ _ _ _ HL.out.m (HS.out.ext E_w1.out).m).mono ?_; rintro e w2 ⟨rfl, hb⟩; rw [H0.out]; have hc_w2 : ∀ o, w2.cell? ⟨w.heap.size, o, none⟩ = _ := fun o => (bcell hb).1 _ o z_w1; have z_w2 := Nat.lt_of_lt_of_le z_w1 (Below.size hb); have E_w2 := Lib.hid (E_w1.out.trans hb); clear hb) | (go_at_call 64; (with_reducible refine (C1.out _ E_w2.out).mono ?_); rintro e w3 ⟨rfl, hb⟩; rw [H1.out]; have hc_w3 : ∀ o, w3.cell? ⟨w.heap.size, o, none⟩ = _ := fun o => (bcell hb).1 _ o z_w2; have z_w3 := Nat.lt_of_lt_of_le z_w2 (Below.size hb); have E_w3 := Lib.hid (E_w2.out.trans hb); clear hb) | (go_at_call 51; (with_reducible refine (within_is _ _ _ H2.out _).mono ?_); rintro e wx ⟨rfl, rfl⟩) | (go_at_call 51; (with_reducible refine (within_is _ _ _ H3.out _).mono ?_); rintro e wx ⟨rfl, rfl⟩) | (go_at_call 51; (with_reducible refine (within_is _ _ _ H4.out _).mono ?_); rintro e wx ⟨rfl, rfl⟩) | (go_at_call 66; (with_reducible refine (C2.out _ E_w3.out).mono ?_); rintro e w4 ⟨rfl, hb⟩; rw [H6.out]; have hc_w4 : ∀ o, w4.cell? ⟨w.heap.size, o, none⟩ = _ := fun o => (bcell hb).1 _ o z_w3; have z_w4 := Nat.lt_of_lt_of_le z_w3 (Below.size hb); have E_w4 := Lib.hid (E_w3.out.trans hb); clear hb) | (go_at_call 67; (with_reducible refine (C3.out _ E_w4.out).mono ?_); rintro e w5 ⟨rfl, hb⟩; rw [H8.out]; have hc_w5 : ∀ o, w5.cell? ⟨w.heap.size, o, none⟩ = _ := fun o => (bcell hb).1 _ o z_w4; have z_w5 := Nat.lt_of_lt_of_le z_w4 (Below.size hb); have E_w5 := Lib.hid (E_w4.out.trans hb); clear hb) | (go_at_call 64; (with_reducible refine (C4.out _ E_w5.out (by rw [hc_w5, hc_w4, hc_w3, hc_w2]; exact x0)).mono ?_); rintro e w6 ⟨rfl, hb⟩; rw [H10.out]; have hc_w6 : ∀ o, w6.cell? ⟨w.heap.size, o, none⟩ = _ := fun o => (bcell hb).1 _ o z_w5; have z_w6 := Nat.lt_of_lt_of_le z_w5 (Below.size hb); have E_w6 := Lib.hid (E_w5.out.trans hb); clear hb))
                        go_ret
                        exact ⟨ret_int HR.out.symm, E_w6.out⟩
end Go.Proofs.Ytchinfamepolkaa
