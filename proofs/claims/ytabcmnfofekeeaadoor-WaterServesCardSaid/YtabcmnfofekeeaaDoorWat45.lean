/- The law WaterServes of layer 4 (water) answers true at every input, and its arguments read afterwards as they read before.
   Conditions: the row's own: the two tables of the package of bit operations hold what the program's text lays in them (the card ties that to the text); no bound on the arguments' size. -/
import Derived.Test.YtabcmnfofekeeaaDoorWat33
import Derived.Test.YtabcmnfofekeeaaDoorWat43
import Derived.Test.YtabcmnfofekeeaaDoorWat46
namespace Go.Proofs.YtabcmnfofekeeaaDoor
open Go Go.Proofs Go.RowKit Go.Shelf
set_option maxHeartbeats 1000000
set_option maxRecDepth 20000
open Go.ChangeShapes Go.WideShapes Go.ChangeAt

theorem sameInts_same (A B : Option Addr) (c d : Nat) (l : List Nat) (w : World) (hl : l.length ≤ 1048576) (hs : SlOf natI 1 w w.heap.size A l) (ht : SlOf natI 1 w w.heap.size B l) :
    Calls Tryd.prog 30 #[.slice A l.length c, .slice B l.length d] w fun e w' => e = .returned (.bool true) ∧ Ext w w' := by
  have := sameInts_any A B c d l l w hl hl hs ht
  rwa [decide_eq_true rfl] at this
theorem confL_len (W : Water) : (confL W).length ≤ 64 := by
  unfold confL
  split
  · next h =>
    have hv : validB W = true := by
      cases h' : validB W
      · simp [confE, h'] at h
      · rfl
    have := kept_le W W.samples.length
    have := (valid_bd hv).2.2.2
    omega
  · simp
theorem servesLaw_any (As Am : Option Addr) (cs cm : Nat) (W : Water) (need : Int) (w : World) (hin : WaterIn w As Am W) (hf : farB W = false) (ht : TabIn w) :
    Calls Tryd.prog 9 #[wvW As Am cs cm W, .int .i64 need] w fun e w' => e = .returned (.bool true) ∧ Ext w w' := by
  have hn : W.springs.length ≤ 30 ∧ W.samples.length ≤ 60 := by
    simp only [farB, Bool.or_eq_false_iff, Bool.and_eq_false_iff, decide_eq_false_iff_not] at hf
    omega
  have hn30 := hn.1
  have hm6 : W.samples.length ≤ 1000000 := by omega
  have hcl := confL_len W
  obtain ⟨sa, sb, sc, se, hU⟩ := serveU_parts W need
  have HU := Lib.hid hU
  have HF := Lib.hid hf
  have HIN := Lib.hid hin
  have HT := Lib.hid ht
  clear hin ht hf hU
  go_enter Tryd.func9, Tryd.ntmps9
  go_wp2_with fail
  refine (far_any _ _ _ _ W _).mono ?_
  rintro e w1 ⟨rfl, hb1⟩
  rw [HF.out]
  have f0 := ((bcell hb1).1 w.heap.size 0 (by first | (simp; done) | (simp; omega))).trans (show _ = some (.slice As W.springs.length cs) by go_simp)
  have f1 := ((bcell hb1).1 w.heap.size 1 (by first | (simp; done) | (simp; omega))).trans (show _ = some (.int .i64 W.most) by go_simp)
  have f2 := ((bcell hb1).1 w.heap.size 2 (by first | (simp; done) | (simp; omega))).trans (show _ = some (.int .i64 W.misses) by go_simp)
  have f3 := ((bcell hb1).1 w.heap.size 3 (by first | (simp; done) | (simp; omega))).trans (show _ = some (.int .i64 W.alarms) by go_simp)
  have f4 := ((bcell hb1).1 w.heap.size 4 (by first | (simp; done) | (simp; omega))).trans (show _ = some (.slice Am W.samples.length cm) by go_simp)
  have fz : w.heap.size < _ := Nat.lt_of_lt_of_le (show w.heap.size < (w.alloc _).heap.size by first | (simp; done) | (simp; omega)) (Below.size hb1)
  have HW1 := Lib.hid (show Ext w w1 by (repeat (first | (with_reducible exact Ext.refl _) | (with_reducible assumption) | (with_reducible refine Ext.alloc ?_ _) | (with_reducible refine Ext.trans ?_ (by with_reducible assumption)) | (with_reducible refine Ext.drew ?_) | (with_reducible refine Ext.setCell ?_ (by simp <;> omega) _))))
  clear hb1
  go_wp2_with fail
  refine (copy_any _ _ _ _ W _ (HIN.out.ext HW1.out) (by omega) (by omega)).mono ?_
  rintro e w2 ⟨A2, M2, c2, m2, rfl, hin2, _, hbw2⟩
  replace f0 := ((bcell hbw2).1 _ 0 fz).trans f0
  replace f1 := ((bcell hbw2).1 _ 1 fz).trans f1
  replace f2 := ((bcell hbw2).1 _ 2 fz).trans f2
  replace f3 := ((bcell hbw2).1 _ 3 fz).trans f3
  replace f4 := ((bcell hbw2).1 _ 4 fz).trans f4
  replace fz := Nat.lt_of_lt_of_le fz (Below.size hbw2)
  have HW2 := Lib.hid (HW1.out.trans hbw2)
  have HIN2 := Lib.hid hin2
  clear hbw2 hin2
  go_wp2_with fail
  refine (serve_u A2 M2 c2 m2 W need _ (HIN2.out.ext (by (repeat (first | (with_reducible exact Ext.refl _) | (with_reducible assumption) | (with_reducible refine Ext.alloc ?_ _) | (with_reducible refine Ext.trans ?_ (by with_reducible assumption)) | (with_reducible refine Ext.drew ?_) | (with_reducible refine Ext.setCell ?_ (by simp <;> omega) _))))) (HT.out.ext (HW2.out.trans (by (repeat (first | (with_reducible exact Ext.refl _) | (with_reducible assumption) | (with_reducible refine Ext.alloc ?_ _) | (with_reducible refine Ext.trans ?_ (by with_reducible assumption)) | (with_reducible refine Ext.drew ?_) | (with_reducible refine Ext.setCell ?_ (by simp <;> omega) _))))))).mono ?_
  rintro e w3 ⟨rfl, hb3⟩
  rw [HU.out]
  have hw23 : Ext w2 w3 := by (repeat (first | (with_reducible exact Ext.refl _) | (with_reducible assumption) | (with_reducible refine Ext.alloc ?_ _) | (with_reducible refine Ext.trans ?_ (by with_reducible assumption)) | (with_reducible refine Ext.drew ?_) | (with_reducible refine Ext.setCell ?_ (by simp <;> omega) _)))
  replace f0 := ((bcell hw23).1 _ 0 fz).trans f0
  replace f1 := ((bcell hw23).1 _ 1 fz).trans f1
  replace f2 := ((bcell hw23).1 _ 2 fz).trans f2
  replace f3 := ((bcell hw23).1 _ 3 fz).trans f3
  replace f4 := ((bcell hw23).1 _ 4 fz).trans f4
  replace fz := Nat.lt_of_lt_of_le fz (Below.size hw23)
  have g0 := ((bcell hb3).1 w2.heap.size 0 (by first | (simp; done) | (simp; omega))).trans (show _ = some (.slice A2 W.springs.length c2) by go_simp)
  have g1 := ((bcell hb3).1 w2.heap.size 1 (by first | (simp; done) | (simp; omega))).trans (show _ = some (.int .i64 W.most) by go_simp)
  have g2 := ((bcell hb3).1 w2.heap.size 2 (by first | (simp; done) | (simp; omega))).trans (show _ = some (.int .i64 W.misses) by go_simp)
  have g3 := ((bcell hb3).1 w2.heap.size 3 (by first | (simp; done) | (simp; omega))).trans (show _ = some (.int .i64 W.alarms) by go_simp)
  have g4 := ((bcell hb3).1 w2.heap.size 4 (by first | (simp; done) | (simp; omega))).trans (show _ = some (.slice M2 W.samples.length m2) by go_simp)
  have gz : w2.heap.size < _ := Nat.lt_of_lt_of_le (show w2.heap.size < (w2.alloc _).heap.size by first | (simp; done) | (simp; omega)) (Below.size hb3)
  have HW3 := Lib.hid (HW2.out.trans hw23)
  have HIN3 := Lib.hid (HIN2.out.ext hw23)
  clear hb3 hw23
  go_wp2_with fail
  refine (refServe_u _ _ _ _ W need _ (HIN.out.ext HW3.out) hn30 hm6).mono ?_
  rintro e w4 ⟨rfl, hbw4⟩
  replace f0 := ((bcell hbw4).1 _ 0 fz).trans f0
  replace f1 := ((bcell hbw4).1 _ 1 fz).trans f1
  replace f2 := ((bcell hbw4).1 _ 2 fz).trans f2
  replace f3 := ((bcell hbw4).1 _ 3 fz).trans f3
  replace f4 := ((bcell hbw4).1 _ 4 fz).trans f4
  replace fz := Nat.lt_of_lt_of_le fz (Below.size hbw4)
  replace g0 := ((bcell hbw4).1 _ 0 gz).trans g0
  replace g1 := ((bcell hbw4).1 _ 1 gz).trans g1
  replace g2 := ((bcell hbw4).1 _ 2 gz).trans g2
  replace g3 := ((bcell hbw4).1 _ 3 gz).trans g3
  replace g4 := ((bcell hbw4).1 _ 4 gz).trans g4
  replace gz := Nat.lt_of_lt_of_le gz (Below.size hbw4)
  have HW4 := Lib.hid (HW3.out.trans hbw4)
  rw [HU.out]
  have HIN4 := Lib.hid (HIN3.out.ext hbw4)
  clear hbw4
  go_wp2_with fail
  refine (conflict_u A2 M2 c2 m2 W _ HIN4.out).mono ?_
  rintro e w5 ⟨A5, c5, rfl, hs5, hbw5⟩
  replace f0 := ((bcell hbw5).1 _ 0 fz).trans f0
  replace f1 := ((bcell hbw5).1 _ 1 fz).trans f1
  replace f2 := ((bcell hbw5).1 _ 2 fz).trans f2
  replace f3 := ((bcell hbw5).1 _ 3 fz).trans f3
  replace f4 := ((bcell hbw5).1 _ 4 fz).trans f4
  replace fz := Nat.lt_of_lt_of_le fz (Below.size hbw5)
  replace g0 := ((bcell hbw5).1 _ 0 gz).trans g0
  replace g1 := ((bcell hbw5).1 _ 1 gz).trans g1
  replace g2 := ((bcell hbw5).1 _ 2 gz).trans g2
  replace g3 := ((bcell hbw5).1 _ 3 gz).trans g3
  replace g4 := ((bcell hbw5).1 _ 4 gz).trans g4
  replace gz := Nat.lt_of_lt_of_le gz (Below.size hbw5)
  have HW5 := Lib.hid (HW4.out.trans hbw5)
  clear hbw5
  go_wp2_with fail
  refine (refConflict_u _ _ _ _ W _ (HIN.out.ext HW5.out) hn30 hm6).mono ?_
  rintro e w6 ⟨A6, c6, rfl, hs6, hbw6⟩
  replace f0 := ((bcell hbw6).1 _ 0 fz).trans f0
  replace f1 := ((bcell hbw6).1 _ 1 fz).trans f1
  replace f2 := ((bcell hbw6).1 _ 2 fz).trans f2
  replace f3 := ((bcell hbw6).1 _ 3 fz).trans f3
  replace f4 := ((bcell hbw6).1 _ 4 fz).trans f4
  replace fz := Nat.lt_of_lt_of_le fz (Below.size hbw6)
  replace g0 := ((bcell hbw6).1 _ 0 gz).trans g0
  replace g1 := ((bcell hbw6).1 _ 1 gz).trans g1
  replace g2 := ((bcell hbw6).1 _ 2 gz).trans g2
  replace g3 := ((bcell hbw6).1 _ 3 gz).trans g3
  replace g4 := ((bcell hbw6).1 _ 4 gz).trans g4
  replace gz := Nat.lt_of_lt_of_le gz (Below.size hbw6)
  have HW6 := Lib.hid (HW5.out.trans hbw6)
  have hs56 := (hs5.below hbw6 (Nat.le_refl _)).more (Below.size hbw6)
  clear hbw6 hs5
  clear f0 f1 f2 f3 f4 fz g0 g1 g2 g3 g4 gz
  go_wp2_with fail
  refine (sameInts_same _ _ _ _ (confL W) _ (by omega) hs56 hs6).mono ?_
  rintro e w7 ⟨rfl, hb7⟩
  go_wp2_with fail
  refine (works_any _ (HT.out.ext (HW6.out.trans hb7))).mono ?_
  rintro e w8 ⟨rfl, hb8⟩
  go_wp2_with fail
  go_ret
  exact ⟨rfl, (HW6.out.trans hb7).trans hb8⟩
theorem servesLaw_far (As Am : Option Addr) (cs cm : Nat) (W : Water) (need : Int) (w : World) (hf : farB W = true) (ht : TabIn w) :
    Calls Tryd.prog 9 #[wvW As Am cs cm W, .int .i64 need] w fun e w' => e = .returned (.bool true) ∧ Ext w w' := by
  have HT := Lib.hid ht
  have HF := Lib.hid hf
  clear ht hf
  go_enter Tryd.func9, Tryd.ntmps9
  go_wp2_with fail
  refine (far_any _ _ _ _ W _).mono ?_
  rintro e w1 ⟨rfl, hb1⟩
  rw [HF.out]
  go_wp2_with fail
  refine (works_any _ (HT.out.ext (by (repeat (first | (with_reducible exact Ext.refl _) | (with_reducible assumption) | (with_reducible refine Ext.alloc ?_ _) | (with_reducible refine Ext.trans ?_ (by with_reducible assumption)) | (with_reducible refine Ext.drew ?_) | (with_reducible refine Ext.setCell ?_ (by simp <;> omega) _)))))).mono ?_
  rintro e w2 ⟨rfl, hb2⟩
  go_wp2_with fail
  go_ret
  exact ⟨rfl, by (repeat (first | (with_reducible exact Ext.refl _) | (with_reducible assumption) | (with_reducible refine Ext.alloc ?_ _) | (with_reducible refine Ext.trans ?_ (by with_reducible assumption)) | (with_reducible refine Ext.drew ?_) | (with_reducible refine Ext.setCell ?_ (by simp <;> omega) _)))⟩

namespace WaterServes
theorem contract (H : Type) (enc : TypeId × Value → H) (W : World) (base : Nat) (args : Array Value) (ds gs : List (DataW H)) (before : List MemPlace)
    (hval : ∀ (j : Nat) t v, Tryd.f9.params[j]? = some t → args[j]? = some v → Value.okWide Tryd.prog W .any base t v)
    (hW : DataW.Whole enc Tryd.prog Tryd.f9.params.toList Rows.waterServesSpec.vars false W args.toList ds gs before) (hL : laidMetH Tryd.prog Rows.waterServesRow.laid W) :
    Calls Tryd.prog 9 args W fun e W' => ∃ v, e = .returned v ∧ Rows.waterServesSpec.post enc Tryd.prog Tryd.f9 false true false false W args v W' := by
  have hW' := hW
  obtain ⟨p, q, hA0, hV, rfl, hfz, hnd⟩ := hW
  have hA : DataW.TrodAll enc Tryd.prog W 0 (fun _ => true) true Tryd.f9.params.toList args.toList ds p := hA0
  rw [Tryd.params9] at hA hval
  obtain ⟨v0, vs0, d0, ds0, p0, q0, hargs, rfl, rfl, h0, r0⟩ := trodAll_cons hA
  obtain ⟨v1, vs1, d1, ds1, p1, q1, rfl, rfl, rfl, h1, r1⟩ := trodAll_cons r0
  obtain ⟨rfl, rfl, rfl⟩ := trodAll_nil r1
  obtain rfl : args = #[v0, v1] := by cases args; simp_all
  obtain ⟨rfl, rfl⟩ := trodVars_none hV
  obtain ⟨n1, rfl, _, rfl, _⟩ := open_int Tryd.underlying3 (hval 1 3 v1 rfl rfl) h1
  obtain ⟨As, Am, cs, cm, Wt, rfl, hs1, hs2⟩ := water_reads (hval 0 25 v0 rfl rfl) h0
  clear hA0
  have hlt : ∀ x ∈ p0 ++ ([] ++ []) ++ [], x.block < W.heap.size := fun x hx => by simpa using hW'.lt x hx
  have ht := tabIn_of hL
  have walk : Calls Tryd.prog 9 #[wvW As Am cs cm Wt, .int .i64 n1] W fun e w' => e = .returned (.bool true) ∧ Ext W w' := by
    cases hf : farB Wt
    · exact servesLaw_any As Am cs cm Wt n1 W (near_in hf hs1 hs2) hf ht
    · exact servesLaw_far As Am cs cm Wt n1 W hf ht
  refine walk.mono fun e W' ⟨he, hb⟩ => ?_
  subst he
  have keep : ∀ {t : TypeId} {v : Value} {d : DataW H} {ps : List MemPlace}, Tryd.prog.readableRec t = true → t < Tryd.prog.types.size → DataW.Trod enc Tryd.prog W 0 (fun _ => true) true t v d ps → (∀ x ∈ ps, x.block < W.heap.size) → DataW.Trod enc Tryd.prog W' 0 (fun b => decide (b < W.heap.size)) true t v d ps :=
    fun h1 h2 h3 h4 => Below.trod laidOut h1 h2 h3 hb h4
  exact ⟨_, rfl, ⟨_, _, _, [], _, [], hW', trodAll_cons_mk (shut_bool Tryd.underlying4 _) trodAll_mk0,
    (trodAll_cons_mk (keep (by kernel_rfl) (of_decide_eq_true (by kernel_rfl)) h0 (fun x hx => hlt x (by simp [hx]))) (trodAll_cons_mk (keep (by kernel_rfl) (of_decide_eq_true (by kernel_rfl)) h1 (fun x hx => by cases hx)) trodAll_mk0)),
    rfl, hb.frame _, fun h => by cases h⟩⟩

theorem reads (os : Os) {H : Type} (enc : TypeId × Value → H) : ∃ places, DataW.whole enc Tryd.prog ((laidWorld os).forCall (fun _ _ => 0) ⟨#[], #[w00, .int .i64 0], []⟩).memory Tryd.f9.params.toList Rows.waterServesSpec.vars false #[w00, .int .i64 0].toList 8 = some ([.agg [.nil, .lit (.int .i64 0), .lit (.int .i64 0), .lit (.int .i64 0), .nil], .lit (.int .i64 0)], [], places) :=
  ⟨[], by kernel_rfl⟩
theorem met (os : Os) : laidMet Tryd.prog Rows.waterServesRow.laid ((laidWorld os).forCall (fun _ _ => 0) ⟨#[], #[w00, .int .i64 0], []⟩).memory := laidMet_of_run' 8 (by kernel_rfl) (by kernel_rfl)

set_option maxRecDepth 100000 in
theorem lifted (os : Os) (started : os.Started) (H : Type) (enc : TypeId × Value → H) (F : Stop.Interp) :
    ReturnsInHanded {} Tryd.checked os 9 .any ((OpenSpec.ofChange Rows.waterServesSpec).preRow enc Tryd.prog Tryd.f9 Rows.waterServesRow.domain false Rows.waterServesRow.laid) (((OpenSpec.ofChange Rows.waterServesSpec).at F).post enc Tryd.prog Tryd.f9 false true false false) := by
  obtain ⟨places, hx⟩ := reads os enc
  refine returnsInHanded_of_row (C := Tryd.checked) (s := OpenSpec.ofChange Rows.waterServesSpec) own started (by kernel_rfl) Tryd.func9
    (witness_row_at (enc := enc) (C := Tryd.checked) false (laidWorld os) #[w00, .int .i64 0] rfl (by kernel_rfl) (by kernel_rfl) (by kernel_rfl)
      (OpenSpec.preRow_of_cond 8 hx (by kernel_rfl) (fun k hk => by cases hk) (by kernel_rfl) (met os))) ?_
  intro W base args ds gs before hval hW _ _ _ hL _ _
  exact contract H enc W base args ds gs before hval hW hL

theorem said : Rows.WaterServesSaid :=
  OpenClaim.holds_of_cond 9 Tryd.f9 rfl rfl rfl rfl rfl rfl rfl ⟨rfl, rfl, rfl, rfl, rfl⟩ rfl rfl rfl rfl rfl (by kernel_rfl) Tryd.func9 (by kernel_rfl)
    (of_decide_eq_true (by kernel_rfl)) (by unfold Func.isWrapper; first | (rw [if_pos (by decide +kernel)]; kernel_rfl) | (rw [if_neg (by decide +kernel)]; exact ⟨rfl, rfl⟩))
    (fun os started H enc _ F => by rw [OpenClaim.pre_eq_preRow]; exact lifted os started H enc F)

theorem plain (f : FuncId) (fn : Func) (hf : Tryd.pinned.checked.prog.funcNamed "bivouac/bivouaclaw04.WaterServes" = some f) (hfn : Tryd.pinned.checked.prog.funcs[f]? = some fn) :
    false = Tryd.pinned.checked.prog.looks [] ∧ ∀ (j : Nat) t, fn.params[j]? = some t → Tryd.pinned.checked.prog.wantsStandIn t = false := by
  obtain rfl : f = 9 := Option.some.inj ((show Tryd.prog.funcNamed "bivouac/bivouaclaw04.WaterServes" = some 9 by kernel_rfl).symm.trans hf) |>.symm
  obtain rfl : fn = Tryd.f9 := (Option.some.inj (Tryd.func9.symm.trans hfn)).symm
  refine ⟨by kernel_rfl, fun j t ht => ?_⟩
  rw [Tryd.params9] at ht
  have h : t = 25 ∨ t = 3 := by
    have := Array.mem_of_getElem? ht
    simpa using this
  rcases h with rfl | rfl
  · exact (show Tryd.prog.wantsStandIn 25 = false by kernel_rfl)
  · exact (show Tryd.prog.wantsStandIn 3 = false by kernel_rfl)

theorem card : Rows.WaterServesCardSaid :=
  Claim7.holds_tied_plain_at .later [] _ _ _ _ said (fun _ h => by cases h) (by kernel_rfl) (fun _ h => by cases h) waterServes_row_tie rfl ⟨rfl, rfl⟩ (by kernel_rfl) rfl plain (by kernel_rfl)
end WaterServes

end Go.Proofs.YtabcmnfofekeeaaDoor
