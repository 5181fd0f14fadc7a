/- Ropes: prepare. -/
import Derived.Test.YtchinfamepolkaaRop14
import Derived.Deep.RegionHeld3
namespace Go.Proofs.Ytchinfamepolkaa
set_option linter.unusedSimpArgs false
set_option linter.unusedVariables false
set_option linter.unusedSectionVars false
open Go Go.Proofs Go.RowKit Go.Shelf
set_option maxHeartbeats 1000000
set_option maxRecDepth 20000

theorem arr_mem (l : List Nat) (i : Nat) (h : i < l.toArray.size) : l.toArray[i]! ∈ l := by
  rw [getElem!_pos l.toArray i h]
  simp
theorem field_span (a b : Int) (w : World) : (Instr.field 40 (.agg #[.int .i64 a, .int .i64 b]) 1).run Try.prog w = .ok (.int .i64 b) w := by
  kernel_rfl
theorem Cells.of_blk {w : World} {g : Nat} {t : TypeId} {cs : List Value} (h : Blk w g t cs) : Cells w g cs := ⟨h.lt, fun i u hu => (h.cell i).trans hu⟩
theorem prepare_err (a : OutA) (O : Outing) (w : World) (hl : OutLen O) (hs : OutIn w a O) (he : ¬ checkE O = 0) :
    Calls Try.prog 70 #[outV a O] w fun e w' => e = .returned (.tuple #[.pointer none, .int .i64 (checkE O)]) ∧ Ext w w' := by
  have HS := Lib.hid hs
  have HL := Lib.hid hl
  clear hs hl
  have n2 : (checkE O == 0) = false := beq_eq_false_iff_ne.2 he
  go_enter Try.func70, Try.ntmps70
  go_wp2_with fail
  refine (check_any a O _ HL.out (HS.out.ext ((Ext.refl w).alloc _))).mono ?_
  rintro e w2 ⟨rfl, hb2⟩
  go_wp2_with fail
  go_ret2
  exact ⟨rfl, ((Ext.refl w).alloc _).trans hb2⟩
theorem own_capM {w : World} {base e sz n c : Nat} {A : Option Addr} {xs : List Value} (h : w.ownsRow base e sz (.slice A n c) n xs) : c ≤ maxLen := by
  rcases h.2 with ⟨h1, _⟩ | ⟨g, cap, cur, h1, _, _, _, hm, _⟩
  · injection h1 with _ _ h1; rw [h1]; unfold maxLen; omega
  · injection h1 with _ _ h1; rw [h1]; exact hm
theorem prepare_any (a : OutA) (O : Outing) (w : World) (hl : OutLen O) (hs : OutIn w a O) (he : checkE O = 0) :
    Calls Try.prog 70 #[outV a O] w fun e w' => ∃ g A c, e = .returned (.tuple #[.pointer (some ⟨g, 0, none⟩), .int .i64 0]) ∧ Cells w' g (outC a O ++ [.slice A (fitA O).size c]) ∧ (fitA O).size ≤ c ∧ SlOf natI 1 w' w'.heap.size A (fitA O).toList ∧ Ext w w' ∧ w.heap.size ≤ g ∧ (A = none ∨ ∃ g', A = some ⟨g', 0, none⟩ ∧ w.heap.size ≤ g') ∧ c ≤ maxLen := by
  obtain ⟨hM, hRR, hob⟩ := check_ok he
  have hr6 := (out_bd hob).2.2.2.2.2.2.2
  have HMM := Lib.hid hM
  have HRR := Lib.hid hRR
  have HS := Lib.hid hs
  have HL := Lib.hid hl
  have HE := Lib.hid he
  clear hs hl he hM hRR hob
  obtain ⟨Ag, Ac, Am, Ar, cg, cc, cm, cr⟩ := a
  (try dsimp only at *)
  obtain ⟨w1, hw1⟩ : ∃ w1, w.alloc (.cells (outC ⟨Ag, Ac, Am, Ar, cg, cc, cm, cr⟩ O).toArray 66) = w1 := ⟨_, rfl⟩
  have hE1 : Ext w w1 := by rw [← hw1]; exact (Ext.refl _).alloc _
  have hx : ∀ i u, (outC ⟨Ag, Ac, Am, Ar, cg, cc, cm, cr⟩ O)[i]? = some u → w1.cell? ⟨w.heap.size, i, none⟩ = some u := fun i u hu => by rw [← hw1]; exact ((Blk.new w _ (outC ⟨Ag, Ac, Am, Ar, cg, cc, cm, cr⟩ O) rfl).cell i).trans hu
  have x0 := hx 0 _ rfl
  have x1 := hx 1 _ rfl
  have x2 := hx (3 - 1) _ rfl
  have x3 := hx (4 - 1) _ rfl
  have x4 := hx (5 - 1) _ rfl
  have x5 := hx (6 - 1) _ rfl
  have x6 := hx (7 - 1) _ rfl
  have x7 := hx (8 - 1) _ rfl
  have x8 := hx (9 - 1) _ rfl
  have x9 := hx (10 - 1) _ rfl
  simp only [Nat.reduceSub] at x0 x1 x2 x3 x4 x5 x6 x7 x8 x9
  have HW := Lib.hid hw1
  have HE1 := Lib.hid hE1
  have z : w.heap.size < w1.heap.size := by rw [← hw1]; simp
  clear hx hw1 hE1
  go_enter Try.func70, Try.ntmps70
  go_wp2_with fail
  refine (check_any ⟨Ag, Ac, Am, Ar, cg, cc, cm, cr⟩ O _ HL.out (HS.out.ext ((Ext.refl w).alloc _))).mono ?_
  rintro e w2 ⟨rfl, hb2⟩
  rw [HE.out]
  replace hb2 : Ext w1 w2 := by rw [← HW.out]; exact hb2
  replace x0 := ((bcell hb2).1 _ 0 z).trans x0
  replace x1 := ((bcell hb2).1 _ 1 z).trans x1
  replace x2 := ((bcell hb2).1 _ 2 z).trans x2
  replace x3 := ((bcell hb2).1 _ 3 z).trans x3
  replace x4 := ((bcell hb2).1 _ 4 z).trans x4
  replace x5 := ((bcell hb2).1 _ 5 z).trans x5
  replace x6 := ((bcell hb2).1 _ 6 z).trans x6
  replace x7 := ((bcell hb2).1 _ 7 z).trans x7
  replace x8 := ((bcell hb2).1 _ 8 z).trans x8
  replace x9 := ((bcell hb2).1 _ 9 z).trans x9
  replace z := Nat.lt_of_lt_of_le z hb2.size
  have HE2 := Lib.hid (HE1.out.trans hb2)
  obtain ⟨BX, hBX⟩ : ∃ b, w.heap.size = b := ⟨_, rfl⟩
  rw [hBX] at x0 x1 x2 x3 x4 x5 x6 x7 x8 x9 z ⊢
  clear hb2 HE1 HW
  have HX0 := Lib.hid (fun (W' : World) (h : Ext w2 W') => ((bcell h).1 BX 0 z).trans x0)
  have HX9 := Lib.hid (fun (W' : World) (h : Ext w2 W') => ((bcell h).1 BX 9 z).trans x9)
  go_wp2_with fail
  go_region_held3 (fun w' => w'.cell? ⟨BX, 0, none⟩ = some (.int .i64 O.day) ∧ w'.cell? ⟨BX, 1, none⟩ = some (.int .i64 O.grade) ∧ w'.cell? ⟨BX, 2, none⟩ = some (.int .i64 O.spacing) ∧ w'.cell? ⟨BX, 3, none⟩ = some (.slice Ag O.guides.length cg) ∧ w'.cell? ⟨BX, 4, none⟩ = some (.slice Ac O.clients.length cc) ∧ w'.cell? ⟨BX, 5, none⟩ = some (.int .i64 O.model.shelf) ∧ w'.cell? ⟨BX, 6, none⟩ = some (.int .i64 O.model.use) ∧ w'.cell? ⟨BX, 7, none⟩ = some (.int .i64 O.model.bears) ∧ w'.cell? ⟨BX, 8, none⟩ = some (.slice Am O.model.wears.length cm) ∧ w'.cell? ⟨BX, 9, none⟩ = some (.slice Ar O.ropes.length cr))
    (first | (refine ⟨?_, ?_, ?_, ?_, ?_, ?_, ?_, ?_, ?_, ?_⟩ <;> (go_keep; done)) | go_keep)
    (fail)
  · rename_i hHeld
    clear hHeld
    clear x0 x1 x2 x3 x4 x5 x6 x7 x8 x9
    obtain ⟨W, hW⟩ : ∃ W, ((w2.alloc (.cells #[.int .i64 O.day, .int .i64 O.grade, .int .i64 O.spacing, .slice Ag O.guides.length cg, .slice Ac O.clients.length cc, .int .i64 O.model.shelf, .int .i64 O.model.use, .int .i64 O.model.bears, .slice Am O.model.wears.length cm, .slice Ar O.ropes.length cr, .slice none 0 0] 139)).alloc (.cells #[.int .i64 O.model.shelf, .int .i64 O.model.use, .int .i64 O.model.bears, .slice Am O.model.wears.length cm] 92)).drew = W := ⟨_, rfl⟩
    rw [show ((w2.alloc (.cells #[.int .i64 O.day, .int .i64 O.grade, .int .i64 O.spacing, .slice Ag O.guides.length cg, .slice Ac O.clients.length cc, .int .i64 O.model.shelf, .int .i64 O.model.use, .int .i64 O.model.bears, .slice Am O.model.wears.length cm, .slice Ar O.ropes.length cr, .slice none 0 0] 139)).alloc (.cells #[.int .i64 O.model.shelf, .int .i64 O.model.use, .int .i64 O.model.bears, .slice Am O.model.wears.length cm] 92)).drew = W from hW]
    have hbp : Blk W (w2.heap.size) 139 ([.int .i64 O.day, .int .i64 O.grade, .int .i64 O.spacing, .slice Ag O.guides.length cg, .slice Ac O.clients.length cc, .int .i64 O.model.shelf, .int .i64 O.model.use, .int .i64 O.model.bears, .slice Am O.model.wears.length cm, .slice Ar O.ropes.length cr] ++ [.slice none 0 0]) := by rw [← hW]; exact ((Blk.new w2 _ ([.int .i64 O.day, .int .i64 O.grade, .int .i64 O.spacing, .slice Ag O.guides.length cg, .slice Ac O.clients.length cc, .int .i64 O.model.shelf, .int .i64 O.model.use, .int .i64 O.model.bears, .slice Am O.model.wears.length cm, .slice Ar O.ropes.length cr] ++ [.slice none 0 0]) rfl).alloc _).drew
    have hbq : Blk W (w2.heap.size + 1) 92 [.int .i64 O.model.shelf, .int .i64 O.model.use, .int .i64 O.model.bears, .slice Am O.model.wears.length cm] := by rw [← hW]; exact (Blk.new (w2.alloc (.cells #[.int .i64 O.day, .int .i64 O.grade, .int .i64 O.spacing, .slice Ag O.guides.length cg, .slice Ac O.clients.length cc, .int .i64 O.model.shelf, .int .i64 O.model.use, .int .i64 O.model.bears, .slice Am O.model.wears.length cm, .slice Ar O.ropes.length cr, .slice none 0 0] 139)) _ [.int .i64 O.model.shelf, .int .i64 O.model.use, .int .i64 O.model.bears, .slice Am O.model.wears.length cm] (show w2.heap.size + 1 = _ by simp)).drew
    have hEW : Ext w2 W := by rw [← hW]; exact (((Ext.refl w2).alloc _).alloc _).drew
    obtain ⟨p, hp⟩ : ∃ p, w2.heap.size = p := ⟨_, rfl⟩
    obtain ⟨q, hq⟩ : ∃ q, w2.heap.size + 1 = q := ⟨_, rfl⟩
    have hpq : p ≠ q := by omega
    have hp2 : w2.heap.size ≤ p := by omega
    have hq2 : w2.heap.size ≤ q := by omega
    rw [hq] at hbq ⊢
    rw [hp] at hbp ⊢
    clear hW hp hq
    have HEW := Lib.hid hEW
    have y9 := HX9.out W hEW
    have zW : BX < W.heap.size := Nat.lt_of_lt_of_le z hEW.size
    have hpW : p < W.heap.size := hbp.lt
    have hqW : q < W.heap.size := hbq.lt
    have HBP := Lib.hid hbp
    have HBQ := Lib.hid hbq
    have sW := hEW.size
    have egc := enters_of (P := Try.prog) Try.func98 (by kernel_rfl) rfl
    obtain ⟨i0, hi, hz0, hz1, hz2⟩ := info_parts int_info
    clear hbp hbq hEW
    go_wp2_with fail
    go_loopg [23] O.ropes.length (fun gk i wr => ∃ (k : Nat) (v : Value), k + gk = O.ropes.length ∧ i = .int .i64 k ∧ Blk wr p 139 ([.int .i64 O.day, .int .i64 O.grade, .int .i64 O.spacing, .slice Ag O.guides.length cg, .slice Ac O.clients.length cc, .int .i64 O.model.shelf, .int .i64 O.model.use, .int .i64 O.model.bears, .slice Am O.model.wears.length cm, .slice Ar O.ropes.length cr] ++ [v]) ∧ Blk wr q 92 [.int .i64 O.model.shelf, .int .i64 O.model.use, .int .i64 O.model.bears, .slice Am O.model.wears.length cm] ∧ Ext w2 wr ∧ W.heap.size ≤ wr.heap.size ∧ wr.ownsRow W.heap.size 3 1 v (fitIdx O k).length ((fitIdx O k).flatMap natI))
    case atStart => exact ⟨0, .slice none 0 0, by omega, rfl, HBP.out, HBQ.out, HEW.out, Nat.le_refl _, World.ownsRow_nil _ _ _ _⟩
    case round =>
      obtain ⟨k, v, hk, rfl, hbp, hbq, hb, hsz, hown⟩ := hrel
      have HK : k ≤ O.ropes.length := by omega
      have HKG := Lib.hid hk
      have HB := Lib.hid hb
      have HP := Lib.hid hbp
      have HQ := Lib.hid hbq
      have HO := Lib.hid hown
      have HIN := Lib.hid ((HS.out.ext HE2.out).ext hb)
      have y0 := HX0.out wr hb
      have y9 := HX9.out wr hb
      have m0 := hbq.cell 0
      have m1 := hbq.cell 1
      have m2 := hbq.cell 2
      have m3 := hbq.cell 3
      have zq := hbq.lt
      have zb : BX < wr.heap.size := Nat.lt_of_lt_of_le zW hsz
      simp only [List.getElem?_cons_zero, List.getElem?_cons_succ] at m0 m1 m2 m3
      clear hk hb hbp hbq hown
      by_cases hlt : k < O.ropes.length
      · obtain ⟨b, off, rfl, hbl, hcl⟩ := HIN.out.r.at_ ropeC_len hlt
        have c0 := hcl 0 _ (by omega) rfl
        have c1 := hcl 1 _ (by omega) rfl
        have c2 := hcl (3 - 1) _ (by omega) rfl
        have c3 := hcl (4 - 1) _ (by omega) rfl
        clear hcl
        simp only [Nat.add_zero, Nat.reduceSub] at c0 c1 c2 c3
        have HRX := Lib.hid (HRR.out _ (List.getElem_mem hlt))
        have HFL := Lib.hid (HIN.out.f _ (List.getElem_mem hlt))
        have HT := Lib.hid (fitIdx_succ O k hlt)
        generalize O.ropes[k] = x at *
        have k0 : (0 : Int) ≤ (k : Int) := by omega
        have k1 : (k : Int) < (O.ropes.length : Int) := by omega
        go_wp2_with fail
        obtain ⟨w4, hw4⟩ : ∃ w4, wr.alloc (.cells #[.int .i64 x.rope.made, .int .i64 x.rope.first, .int .i64 x.rope.length, .slice x.A x.rope.falls.length x.c] 27) = w4 := ⟨_, rfl⟩
        rw [hw4]
        have hE4 : Ext wr w4 := by rw [← hw4]; exact (Ext.refl _).alloc _
        have r0 : w4.cell? ⟨wr.heap.size, 0, none⟩ = some (.int .i64 x.rope.made) := by rw [← hw4]; clear hw4; go_simp
        have r1 : w4.cell? ⟨wr.heap.size, 1, none⟩ = some (.int .i64 x.rope.first) := by rw [← hw4]; clear hw4; go_simp
        have r2 : w4.cell? ⟨wr.heap.size, 2, none⟩ = some (.int .i64 x.rope.length) := by rw [← hw4]; clear hw4; go_simp
        have r3 : w4.cell? ⟨wr.heap.size, 3, none⟩ = some (.slice x.A x.rope.falls.length x.c) := by rw [← hw4]; clear hw4; go_simp
        have z4 : wr.heap.size < w4.heap.size := by rw [← hw4]; simp
        obtain ⟨BR, hBR⟩ : ∃ b, wr.heap.size = b := ⟨_, rfl⟩
        replace y0 := ((bcell hE4).1 _ 0 zb).trans y0
        replace m0 := ((bcell hE4).1 _ 0 zq).trans m0
        replace m1 := ((bcell hE4).1 _ 1 zq).trans m1
        replace m2 := ((bcell hE4).1 _ 2 zq).trans m2
        replace m3 := ((bcell hE4).1 _ 3 zq).trans m3
        replace zb := Nat.lt_of_lt_of_le zb hE4.size
        replace zq := Nat.lt_of_lt_of_le zq hE4.size
        rw [hBR] at r0 r1 r2 r3 z4 ⊢
        have HE4 := Lib.hid hE4
        clear hw4 hE4 c0 c1 c2 c3 y9
        (refine wp_region_ext (by kernel_rfl) (by kernel_rfl) (fun hX => ?_); (repeat (go_big_quiet_step ((first | (go_at_call 48; exact quiet_ext (damage_any Am x.A cm x.c O.model x.rope _ _ HMM.out HRX.out (HIN.out.m.ext (HE4.out.trans (XW.h _))) (HFL.out.ext (HE4.out.trans (XW.h _))))) | (go_at_call 49; exact quiet_ext (fit_any Am x.A cm x.c O.model x.rope _ _ _ HMM.out HRX.out)) | (rw [field_span]; exact ⟨rfl, rfl⟩))))); refine wpQuiet_nil ?_; rintro w5 ⟨⟨_, hb5⟩, rfl⟩; (try dsimp only))
        have HE5 := Lib.hid (HE4.out.trans hb5)
        have HP5 := Lib.hid (HP.out.ext HE5.out)
        have hs5 := HE5.out.size
        clear hb5
        cases hv : fitV O.model x.rope O.day (damHi O.model x.rope O.day)
        · have HT1 := Lib.hid (show fitIdx O (k + 1) = fitIdx O k by rw [HT.out, hv]; simp)
          clear hv
          go_wp2_with fail
          go_roundg (gk - 1)
          case measure => have := HKG.out; omega
          case rel => exact ⟨k + 1, v, by have := HKG.out; omega, by go_num, HP5.out, HQ.out.ext HE5.out, HB.out.trans HE5.out, by omega, by rw [HT1.out]; exact own_extR HO.out HE5.out⟩
        · have HT1 := Lib.hid (show fitIdx O (k + 1) = fitIdx O k ++ [k] by rw [HT.out, hv]; simp)
          clear hv
          have hfl := fitIdx_len O k
          obtain ⟨Av, cv, ev, hfr, hsl, hnn⟩ := own_form HO.out
          have s10 := HP5.out.cell 10
          have f10 := HP5.out.frozen 10
          have zp5 := HP5.out.lt
          rw [ev] at s10
          replace s10 : w5.cell? ⟨p, 10, none⟩ = some (.slice Av (fitIdx O k).length cv) := s10
          have HO5 := Lib.hid (show w5.ownsRow W.heap.size 3 1 (.slice Av (fitIdx O k).length cv) (fitIdx O k).length ((fitIdx O k).flatMap natI) by rw [← ev]; exact own_extR HO.out HE5.out)
          clear hfr hsl hnn
          go_wp2_with (at_builtin; refine wpList_append_own_at _ rfl _ _ 28 rfl W.heap.size 3 i0 (.int .i64 0) 1 8 Try.underlying28 hi hz0 hz1 hz2 rfl (by decide) _ _ _ rfl (own_extR HO5.out ((Ext.refl w5).alloc _)) ⟨w5.heap.size, 0, none⟩ 1 1 [.int .i64 (k : Int)] rfl rfl (World.news_of_block (cs := #[.int .i64 (k : Int)]) (t := 3) (fr := (0, 0)) (by have := heap_alloc_new w5 (.cells #[.int .i64 (k : Int)] 3); simpa using this)) (by simp [Value.oneCell']) (by unfold maxLen; omega) (by omega) (by simp; omega) ?_; intro v' w6 hown6 hg6 _ _; have hP6 := (HP5.out.alloc (.cells #[.int .i64 (k : Int)] 3)).grown hg6 (fun e => (by have := own_block HO5.out p e.symm; omega)); have s6 : w6.cell? ⟨p, 10, none⟩ = some v := hP6.cell 10; have f6 := hP6.frozen 10; have z6 := hP6.lt; obtain ⟨A6, c6, rfl, _, _, _⟩ := own_form hown6)
          have hQ6 := ((HQ.out.ext HE5.out).alloc (.cells #[.int .i64 (k : Int)] 3)).grown hg6 (fun e => by have := own_block HO5.out q e.symm; omega)
          have hE6 := ((HB.out.trans HE5.out).alloc (.cells #[.int .i64 (k : Int)] 3)).grown hg6 (fun r hr => by have := own_block HO5.out r hr; omega)
          have hs6 := hg6.size
          simp at hs6
          go_roundg (gk - 1)
          case measure => have := HKG.out; omega
          case rel => exact ⟨k + 1, _, by have := HKG.out; omega, by go_num, hP6.set_ 10 _, hQ6.far (fun e => hpq e.symm) _, hE6.setCell (by simp; omega) _, by simp; omega, by rw [HT1.out, List.length_append, List.flatMap_append]; exact own_setCell hown6 (fun e => by have := own_block hown6 p e; omega) _⟩
      · obtain rfl : k = O.ropes.length := by omega
        have hfl := fitIdx_len O O.ropes.length
        rcases HO.out.2 with ⟨e1, e2⟩ | ⟨g, cap, cur, e1, hg, _, _, _, _, _⟩
        · have hnil : fitIdx O O.ropes.length = [] := List.eq_nil_of_length_eq_zero e2
          have HFA := Lib.hid (show fitA O = #[] by unfold fitA; rw [hnil]; exact sortedN_nil _)
          have s10 : wr.cell? ⟨p, 10, none⟩ = some (.slice none 0 0) := by rw [← e1]; exact HP.out.cell 10
          have zp := HP.out.lt
          have HPF := Lib.hid (show Blk wr p 139 ([.int .i64 O.day, .int .i64 O.grade, .int .i64 O.spacing, .slice Ag O.guides.length cg, .slice Ac O.clients.length cc, .int .i64 O.model.shelf, .int .i64 O.model.use, .int .i64 O.model.bears, .slice Am O.model.wears.length cm, .slice Ar O.ropes.length cr] ++ [.slice none 0 0]) by rw [← e1]; exact HP.out)
          clear e1 e2 hnil
          go_wp2_with (go_at_call 97; refine (stableSort_none _ _ _ _).mono ?_; rintro e w5 ⟨rfl, rfl⟩)
          go_ret2
          exact ⟨p, none, 0, rfl, by rw [HFA.out]; exact Cells.of_blk HPF.out, by rw [HFA.out]; exact Nat.le_refl _, by rw [HFA.out]; exact SlOf.nil _ _ _ _ _, HE2.out.trans HB.out, Nat.le_trans HE2.out.size hp2, .inl rfl, by unfold maxLen; omega⟩
        · obtain ⟨d, hd⟩ : ∃ d, (fitIdx O O.ropes.length).toArray = d := ⟨_, rfl⟩
          have hds : d.size = (fitIdx O O.ropes.length).length := by rw [← hd]; simp
          have own' : wr.ownsRow W.heap.size 3 1 (.slice (some ⟨g, 0, none⟩) d.size cap) d.size (rowL d) := by rw [hds, ← e1, ← hd, ← rowL_flat]; exact HO.out
          have s10 : wr.cell? ⟨p, 10, none⟩ = some (.slice (some ⟨g, 0, none⟩) d.size cap) := by rw [hds, ← e1]; exact HP.out.cell 10
          have zp := HP.out.lt
          have HPF := Lib.hid (show Blk wr p 139 ([.int .i64 O.day, .int .i64 O.grade, .int .i64 O.spacing, .slice Ag O.guides.length cg, .slice Ac O.clients.length cc, .int .i64 O.model.shelf, .int .i64 O.model.use, .int .i64 O.model.bears, .slice Am O.model.wears.length cm, .slice Ar O.ropes.length cr] ++ [.slice (some ⟨g, 0, none⟩) d.size cap]) by rw [hds, ← e1]; exact HP.out)
          have HFA := Lib.hid (show fitA O = sortedN (fun x y => cmpI (lenN O y) (lenN O x)) d by unfold fitA; rw [hd])
          have HSZ := Lib.hid (keyed (lenN O) d).1
          have HST := Lib.hid (stableSort_any w2 wr W.heap.size g cap d 98 #[.pointer (some ⟨BX, 0, none⟩)] (fun x y => cmpI (lenN O y) (lenN O x)) (fun x => x < O.ropes.length) (by omega) HB.out sW hg own' egc
            (fun i hi => by
              have hm : d[i]! ∈ fitIdx O O.ropes.length := by
                rw [← hd] at hi ⊢
                exact arr_mem _ i hi
              exact fitIdx_lt hm)
            (fun x y W' hx hy hE => cmpF_any ⟨Ag, Ac, Am, Ar, cg, cc, cm, cr⟩ O BX x y W' HL.out.r hx hy ((HS.out.ext HE2.out).ext hE).r (HX9.out W' hE)))
          clear e1 hd own' hds
          go_wp2_with (go_at_call 97; refine HST.out.mono ?_; rintro e w5 ⟨rfl, hE5, hg5, ho5⟩)
          have hP5 := HPF.out.grown hg5 (fun e => by injection e with e; omega)
          go_ret2
          rw [← HFA.out] at ho5
          have HS2 := HSZ.out
          rw [← HFA.out] at HS2
          refine ⟨p, some ⟨g, 0, none⟩, cap, rfl, by rw [HS2]; exact Cells.of_blk hP5, by rw [HS2]; exact own_capR ho5, ?_, HE2.out.trans hE5, Nat.le_trans HE2.out.size hp2, .inr ⟨g, rfl, Nat.le_trans HE2.out.size (Nat.le_trans sW hg)⟩, own_capM ho5⟩
          have h1 := own_sl ho5
          unfold SlOf
          rw [rowL_flat, Array.length_toList, HS2, Array.toArray_toList]
          exact h1
  · rename_i hHeld
    clear hHeld
    clear x0 x1 x2 x3 x4 x5 x6 x7 x8 x9
    obtain ⟨W, hW⟩ : ∃ W, ((w2.alloc (.cells #[.int .i64 O.model.shelf, .int .i64 O.model.use, .int .i64 O.model.bears, .slice Am O.model.wears.length cm] 92)).alloc (.cells #[.int .i64 O.day, .int .i64 O.grade, .int .i64 O.spacing, .slice Ag O.guides.length cg, .slice Ac O.clients.length cc, .int .i64 O.model.shelf, .int .i64 O.model.use, .int .i64 O.model.bears, .slice Am O.model.wears.length cm, .slice Ar O.ropes.length cr, .slice none 0 0] 139)).drew = W := ⟨_, rfl⟩
    rw [show ((w2.alloc (.cells #[.int .i64 O.model.shelf, .int .i64 O.model.use, .int .i64 O.model.bears, .slice Am O.model.wears.length cm] 92)).alloc (.cells #[.int .i64 O.day, .int .i64 O.grade, .int .i64 O.spacing, .slice Ag O.guides.length cg, .slice Ac O.clients.length cc, .int .i64 O.model.shelf, .int .i64 O.model.use, .int .i64 O.model.bears, .slice Am O.model.wears.length cm, .slice Ar O.ropes.length cr, .slice none 0 0] 139)).drew = W from hW]
    have hbp : Blk W (w2.heap.size + 1) 139 ([.int .i64 O.day, .int .i64 O.grade, .int .i64 O.spacing, .slice Ag O.guides.length cg, .slice Ac O.clients.length cc, .int .i64 O.model.shelf, .int .i64 O.model.use, .int .i64 O.model.bears, .slice Am O.model.wears.length cm, .slice Ar O.ropes.length cr] ++ [.slice none 0 0]) := by rw [← hW]; exact (Blk.new (w2.alloc (.cells #[.int .i64 O.model.shelf, .int .i64 O.model.use, .int .i64 O.model.bears, .slice Am O.model.wears.length cm] 92)) _ ([.int .i64 O.day, .int .i64 O.grade, .int .i64 O.spacing, .slice Ag O.guides.length cg, .slice Ac O.clients.length cc, .int .i64 O.model.shelf, .int .i64 O.model.use, .int .i64 O.model.bears, .slice Am O.model.wears.length cm, .slice Ar O.ropes.length cr] ++ [.slice none 0 0]) (show w2.heap.size + 1 = _ by simp)).drew
    have hbq : Blk W (w2.heap.size) 92 [.int .i64 O.model.shelf, .int .i64 O.model.use, .int .i64 O.model.bears, .slice Am O.model.wears.length cm] := by rw [← hW]; exact ((Blk.new w2 _ [.int .i64 O.model.shelf, .int .i64 O.model.use, .int .i64 O.model.bears, .slice Am O.model.wears.length cm] rfl).alloc _).drew
    have hEW : Ext w2 W := by rw [← hW]; exact (((Ext.refl w2).alloc _).alloc _).drew
    obtain ⟨p, hp⟩ : ∃ p, w2.heap.size + 1 = p := ⟨_, rfl⟩
    obtain ⟨q, hq⟩ : ∃ q, w2.heap.size = q := ⟨_, rfl⟩
    have hpq : p ≠ q := by omega
    have hp2 : w2.heap.size ≤ p := by omega
    have hq2 : w2.heap.size ≤ q := by omega
    rw [hp] at hbp ⊢
    rw [hq] at hbq ⊢
    clear hW hp hq
    have HEW := Lib.hid hEW
    have y9 := HX9.out W hEW
    have zW : BX < W.heap.size := Nat.lt_of_lt_of_le z hEW.size
    have hpW : p < W.heap.size := hbp.lt
    have hqW : q < W.heap.size := hbq.lt
    have HBP := Lib.hid hbp
    have HBQ := Lib.hid hbq
    have sW := hEW.size
    have egc := enters_of (P := Try.prog) Try.func98 (by kernel_rfl) rfl
    obtain ⟨i0, hi, hz0, hz1, hz2⟩ := info_parts int_info
    clear hbp hbq hEW
    go_wp2_with fail
    go_loopg [23] O.ropes.length (fun gk i wr => ∃ (k : Nat) (v : Value), k + gk = O.ropes.length ∧ i = .int .i64 k ∧ Blk wr p 139 ([.int .i64 O.day, .int .i64 O.grade, .int .i64 O.spacing, .slice Ag O.guides.length cg, .slice Ac O.clients.length cc, .int .i64 O.model.shelf, .int .i64 O.model.use, .int .i64 O.model.bears, .slice Am O.model.wears.length cm, .slice Ar O.ropes.length cr] ++ [v]) ∧ Blk wr q 92 [.int .i64 O.model.shelf, .int .i64 O.model.use, .int .i64 O.model.bears, .slice Am O.model.wears.length cm] ∧ Ext w2 wr ∧ W.heap.size ≤ wr.heap.size ∧ wr.ownsRow W.heap.size 3 1 v (fitIdx O k).length ((fitIdx O k).flatMap natI))
    case atStart => exact ⟨0, .slice none 0 0, by omega, rfl, HBP.out, HBQ.out, HEW.out, Nat.le_refl _, World.ownsRow_nil _ _ _ _⟩
    case round =>
      obtain ⟨k, v, hk, rfl, hbp, hbq, hb, hsz, hown⟩ := hrel
      have HK : k ≤ O.ropes.length := by omega
      have HKG := Lib.hid hk
      have HB := Lib.hid hb
      have HP := Lib.hid hbp
      have HQ := Lib.hid hbq
      have HO := Lib.hid hown
      have HIN := Lib.hid ((HS.out.ext HE2.out).ext hb)
      have y0 := HX0.out wr hb
      have y9 := HX9.out wr hb
      have m0 := hbq.cell 0
      have m1 := hbq.cell 1
      have m2 := hbq.cell 2
      have m3 := hbq.cell 3
      have zq := hbq.lt
      have zb : BX < wr.heap.size := Nat.lt_of_lt_of_le zW hsz
      simp only [List.getElem?_cons_zero, List.getElem?_cons_succ] at m0 m1 m2 m3
      clear hk hb hbp hbq hown
      by_cases hlt : k < O.ropes.length
      · obtain ⟨b, off, rfl, hbl, hcl⟩ := HIN.out.r.at_ ropeC_len hlt
        have c0 := hcl 0 _ (by omega) rfl
        have c1 := hcl 1 _ (by omega) rfl
        have c2 := hcl (3 - 1) _ (by omega) rfl
        have c3 := hcl (4 - 1) _ (by omega) rfl
        clear hcl
        simp only [Nat.add_zero, Nat.reduceSub] at c0 c1 c2 c3
        have HRX := Lib.hid (HRR.out _ (List.getElem_mem hlt))
        have HFL := Lib.hid (HIN.out.f _ (List.getElem_mem hlt))
        have HT := Lib.hid (fitIdx_succ O k hlt)
        generalize O.ropes[k] = x at *
        have k0 : (0 : Int) ≤ (k : Int) := by omega
        have k1 : (k : Int) < (O.ropes.length : Int) := by omega
        go_wp2_with fail
        obtain ⟨w4, hw4⟩ : ∃ w4, wr.alloc (.cells #[.int .i64 x.rope.made, .int .i64 x.rope.first, .int .i64 x.rope.length, .slice x.A x.rope.falls.length x.c] 27) = w4 := ⟨_, rfl⟩
        rw [hw4]
        have hE4 : Ext wr w4 := by rw [← hw4]; exact (Ext.refl _).alloc _
        have r0 : w4.cell? ⟨wr.heap.size, 0, none⟩ = some (.int .i64 x.rope.made) := by rw [← hw4]; clear hw4; go_simp
        have r1 : w4.cell? ⟨wr.heap.size, 1, none⟩ = some (.int .i64 x.rope.first) := by rw [← hw4]; clear hw4; go_simp
        have r2 : w4.cell? ⟨wr.heap.size, 2, none⟩ = some (.int .i64 x.rope.length) := by rw [← hw4]; clear hw4; go_simp
        have r3 : w4.cell? ⟨wr.heap.size, 3, none⟩ = some (.slice x.A x.rope.falls.length x.c) := by rw [← hw4]; clear hw4; go_simp
        have z4 : wr.heap.size < w4.heap.size := by rw [← hw4]; simp
        obtain ⟨BR, hBR⟩ : ∃ b, wr.heap.size = b := ⟨_, rfl⟩
        replace y0 := ((bcell hE4).1 _ 0 zb).trans y0
        replace m0 := ((bcell hE4).1 _ 0 zq).trans m0
        replace m1 := ((bcell hE4).1 _ 1 zq).trans m1
        replace m2 := ((bcell hE4).1 _ 2 zq).trans m2
        replace m3 := ((bcell hE4).1 _ 3 zq).trans m3
        replace zb := Nat.lt_of_lt_of_le zb hE4.size
        replace zq := Nat.lt_of_lt_of_le zq hE4.size
        rw [hBR] at r0 r1 r2 r3 z4 ⊢
        have HE4 := Lib.hid hE4
        clear hw4 hE4 c0 c1 c2 c3 y9
        (refine wp_region_ext (by kernel_rfl) (by kernel_rfl) (fun hX => ?_); (repeat (go_big_quiet_step ((first | (go_at_call 48; exact quiet_ext (damage_any Am x.A cm x.c O.model x.rope _ _ HMM.out HRX.out (HIN.out.m.ext (HE4.out.trans (XW.h _))) (HFL.out.ext (HE4.out.trans (XW.h _))))) | (go_at_call 49; exact quiet_ext (fit_any Am x.A cm x.c O.model x.rope _ _ _ HMM.out HRX.out)) | (rw [field_span]; exact ⟨rfl, rfl⟩))))); refine wpQuiet_nil ?_; rintro w5 ⟨⟨_, hb5⟩, rfl⟩; (try dsimp only))
        have HE5 := Lib.hid (HE4.out.trans hb5)
        have HP5 := Lib.hid (HP.out.ext HE5.out)
        have hs5 := HE5.out.size
        clear hb5
        cases hv : fitV O.model x.rope O.day (damHi O.model x.rope O.day)
        · have HT1 := Lib.hid (show fitIdx O (k + 1) = fitIdx O k by rw [HT.out, hv]; simp)
          clear hv
          go_wp2_with fail
          go_roundg (gk - 1)
          case measure => have := HKG.out; omega
          case rel => exact ⟨k + 1, v, by have := HKG.out; omega, by go_num, HP5.out, HQ.out.ext HE5.out, HB.out.trans HE5.out, by omega, by rw [HT1.out]; exact own_extR HO.out HE5.out⟩
        · have HT1 := Lib.hid (show fitIdx O (k + 1) = fitIdx O k ++ [k] by rw [HT.out, hv]; simp)
          clear hv
          have hfl := fitIdx_len O k
          obtain ⟨Av, cv, ev, hfr, hsl, hnn⟩ := own_form HO.out
          have s10 := HP5.out.cell 10
          have f10 := HP5.out.frozen 10
          have zp5 := HP5.out.lt
          rw [ev] at s10
          replace s10 : w5.cell? ⟨p, 10, none⟩ = some (.slice Av (fitIdx O k).length cv) := s10
          have HO5 := Lib.hid (show w5.ownsRow W.heap.size 3 1 (.slice Av (fitIdx O k).length cv) (fitIdx O k).length ((fitIdx O k).flatMap natI) by rw [← ev]; exact own_extR HO.out HE5.out)
          clear hfr hsl hnn
          go_wp2_with (at_builtin; refine wpList_append_own_at _ rfl _ _ 28 rfl W.heap.size 3 i0 (.int .i64 0) 1 8 Try.underlying28 hi hz0 hz1 hz2 rfl (by decide) _ _ _ rfl (own_extR HO5.out ((Ext.refl w5).alloc _)) ⟨w5.heap.size, 0, none⟩ 1 1 [.int .i64 (k : Int)] rfl rfl (World.news_of_block (cs := #[.int .i64 (k : Int)]) (t := 3) (fr := (0, 0)) (by have := heap_alloc_new w5 (.cells #[.int .i64 (k : Int)] 3); simpa using this)) (by simp [Value.oneCell']) (by unfold maxLen; omega) (by omega) (by simp; omega) ?_; intro v' w6 hown6 hg6 _ _; have hP6 := (HP5.out.alloc (.cells #[.int .i64 (k : Int)] 3)).grown hg6 (fun e => (by have := own_block HO5.out p e.symm; omega)); have s6 : w6.cell? ⟨p, 10, none⟩ = some v := hP6.cell 10; have f6 := hP6.frozen 10; have z6 := hP6.lt; obtain ⟨A6, c6, rfl, _, _, _⟩ := own_form hown6)
          have hQ6 := ((HQ.out.ext HE5.out).alloc (.cells #[.int .i64 (k : Int)] 3)).grown hg6 (fun e => by have := own_block HO5.out q e.symm; omega)
          have hE6 := ((HB.out.trans HE5.out).alloc (.cells #[.int .i64 (k : Int)] 3)).grown hg6 (fun r hr => by have := own_block HO5.out r hr; omega)
          have hs6 := hg6.size
          simp at hs6
          go_roundg (gk - 1)
          case measure => have := HKG.out; omega
          case rel => exact ⟨k + 1, _, by have := HKG.out; omega, by go_num, hP6.set_ 10 _, hQ6.far (fun e => hpq e.symm) _, hE6.setCell (by simp; omega) _, by simp; omega, by rw [HT1.out, List.length_append, List.flatMap_append]; exact own_setCell hown6 (fun e => by have := own_block hown6 p e; omega) _⟩
      · obtain rfl : k = O.ropes.length := by omega
        have hfl := fitIdx_len O O.ropes.length
        rcases HO.out.2 with ⟨e1, e2⟩ | ⟨g, cap, cur, e1, hg, _, _, _, _, _⟩
        · have hnil : fitIdx O O.ropes.length = [] := List.eq_nil_of_length_eq_zero e2
          have HFA := Lib.hid (show fitA O = #[] by unfold fitA; rw [hnil]; exact sortedN_nil _)
          have s10 : wr.cell? ⟨p, 10, none⟩ = some (.slice none 0 0) := by rw [← e1]; exact HP.out.cell 10
          have zp := HP.out.lt
          have HPF := Lib.hid (show Blk wr p 139 ([.int .i64 O.day, .int .i64 O.grade, .int .i64 O.spacing, .slice Ag O.guides.length cg, .slice Ac O.clients.length cc, .int .i64 O.model.shelf, .int .i64 O.model.use, .int .i64 O.model.bears, .slice Am O.model.wears.length cm, .slice Ar O.ropes.length cr] ++ [.slice none 0 0]) by rw [← e1]; exact HP.out)
          clear e1 e2 hnil
          go_wp2_with (go_at_call 97; refine (stableSort_none _ _ _ _).mono ?_; rintro e w5 ⟨rfl, rfl⟩)
          go_ret2
          exact ⟨p, none, 0, rfl, by rw [HFA.out]; exact Cells.of_blk HPF.out, by rw [HFA.out]; exact Nat.le_refl _, by rw [HFA.out]; exact SlOf.nil _ _ _ _ _, HE2.out.trans HB.out, Nat.le_trans HE2.out.size hp2, .inl rfl, by unfold maxLen; omega⟩
        · obtain ⟨d, hd⟩ : ∃ d, (fitIdx O O.ropes.length).toArray = d := ⟨_, rfl⟩
          have hds : d.size = (fitIdx O O.ropes.length).length := by rw [← hd]; simp
          have own' : wr.ownsRow W.heap.size 3 1 (.slice (some ⟨g, 0, none⟩) d.size cap) d.size (rowL d) := by rw [hds, ← e1, ← hd, ← rowL_flat]; exact HO.out
          have s10 : wr.cell? ⟨p, 10, none⟩ = some (.slice (some ⟨g, 0, none⟩) d.size cap) := by rw [hds, ← e1]; exact HP.out.cell 10
          have zp := HP.out.lt
          have HPF := Lib.hid (show Blk wr p 139 ([.int .i64 O.day, .int .i64 O.grade, .int .i64 O.spacing, .slice Ag O.guides.length cg, .slice Ac O.clients.length cc, .int .i64 O.model.shelf, .int .i64 O.model.use, .int .i64 O.model.bears, .slice Am O.model.wears.length cm, .slice Ar O.ropes.length cr] ++ [.slice (some ⟨g, 0, none⟩) d.size cap]) by rw [hds, ← e1]; exact HP.out)
          have HFA := Lib.hid (show fitA O = sortedN (fun x y => cmpI (lenN O y) (lenN O x)) d by unfold fitA; rw [hd])
          have HSZ := Lib.hid (keyed (lenN O) d).1
          have HST := Lib.hid (stableSort_any w2 wr W.heap.size g cap d 98 #[.pointer (some ⟨BX, 0, none⟩)] (fun x y => cmpI (lenN O y) (lenN O x)) (fun x => x < O.ropes.length) (by omega) HB.out sW hg own' egc
            (fun i hi => by
              have hm : d[i]! ∈ fitIdx O O.ropes.length := by
                rw [← hd] at hi ⊢
                exact arr_mem _ i hi
              exact fitIdx_lt hm)
            (fun x y W' hx hy hE => cmpF_any ⟨Ag, Ac, Am, Ar, cg, cc, cm, cr⟩ O BX x y W' HL.out.r hx hy ((HS.out.ext HE2.out).ext hE).r (HX9.out W' hE)))
          clear e1 hd own' hds
          go_wp2_with (go_at_call 97; refine HST.out.mono ?_; rintro e w5 ⟨rfl, hE5, hg5, ho5⟩)
          have hP5 := HPF.out.grown hg5 (fun e => by injection e with e; omega)
          go_ret2
          rw [← HFA.out] at ho5
          have HS2 := HSZ.out
          rw [← HFA.out] at HS2
          refine ⟨p, some ⟨g, 0, none⟩, cap, rfl, by rw [HS2]; exact Cells.of_blk hP5, by rw [HS2]; exact own_capR ho5, ?_, HE2.out.trans hE5, Nat.le_trans HE2.out.size hp2, .inr ⟨g, rfl, Nat.le_trans HE2.out.size (Nat.le_trans sW hg)⟩, own_capM ho5⟩
          have h1 := own_sl ho5
          unfold SlOf
          rw [rowL_flat, Array.length_toList, HS2, Array.toArray_toList]
          exact h1
end Go.Proofs.Ytchinfamepolkaa
