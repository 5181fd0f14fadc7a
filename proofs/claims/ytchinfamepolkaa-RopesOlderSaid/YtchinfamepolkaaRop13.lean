/- Ropes: the insertion sort of numbers in an own row, by a comparing closure; SortStableFunc of few. -/
import Derived.Test.YtchinfamepolkaaRop12
import Derived.Test.YtchinfamepolkaaKa
import Derived.Sort.LotA
import Derived.BigRegion
import Derived.Sort.WalkA
import Derived.Laws.OwnMore
namespace Go.Proofs.Ytchinfamepolkaa
set_option linter.unusedSimpArgs false
set_option linter.unusedVariables false
set_option linter.unusedSectionVars false
open Go Go.Proofs Go.RowKit Go.Shelf
set_option maxHeartbeats 1000000
set_option maxRecDepth 20000

open Go.Sort
def rowL (d : Array Nat) : List Value := d.toList.map fun (x : Nat) => Value.int .i64 (x : Int)
theorem rowL_at (d : Array Nat) (j : Nat) (h : j < d.size) : (rowL d)[j]? = some (.int .i64 (d[j]! : Int)) := by
  unfold rowL
  rw [List.getElem?_map, Array.getElem?_toList, getElem!_pos d j h, Array.getElem?_eq_getElem h]
  rfl
theorem rowL_set (d : Array Nat) (j x : Nat) : (rowL d).set j (.int .i64 (x : Int)) = rowL (d.setIfInBounds j x) := by
  unfold rowL
  rw [Array.toList_setIfInBounds, List.map_set]
theorem rowL_swp (d : Array Nat) (i j : Nat) : ((rowL d).set i (.int .i64 (d[j]! : Int))).set j (.int .i64 (d[i]! : Int)) = rowL (swp d i j) := by
  rw [rowL_set, rowL_set]; rfl
theorem swp_all (P : Nat → Prop) (d : Array Nat) (i j : Nat) (hi : i < d.size) (hj : j < d.size) (h : ∀ k, k < d.size → P d[k]!) : ∀ k, k < (swp d i j).size → P (swp d i j)[k]! := by
  intro k hk
  rw [swp_size] at hk
  rw [swp_get d hi hj k]
  split
  · exact h i hi
  · split
    · exact h j hj
    · exact h k hk
def ltF (cf : Nat → Nat → Int) (x y : Nat) : Bool := decide (cf x y < 0)
def sortedN (cf : Nat → Nat → Int) (d : Array Nat) : Array Nat := Sort.insertionSort (ltF cf) d 0 d.size
theorem insertion_any (w0 w : World) (base g c : Nat) (d : Array Nat) (f : Nat) (lb : Array Value) (cf : Nat → Nat → Int) (P : Nat → Prop) (hn : d.size ≤ 100) (hE : Ext w0 w) (hb0 : w0.heap.size ≤ base) (hbg : base ≤ g)
    (ho : w.ownsRow base 3 1 (.slice (some ⟨g, 0, none⟩) d.size c) d.size (rowL d))
    (eg : ∀ (args : Array Value) (w : World), (callFunc f args).run Try.prog w = .ok (.enter f args) w) (hP : ∀ k, k < d.size → P d[k]!)
    (hf : ∀ (x y : Nat) (W : World), P x → P y → Ext w0 W → Calls Try.prog f (#[.int .i64 (x : Int), .int .i64 (y : Int)] ++ lb) W fun e W' => e = .returned (.int .i64 (cf x y)) ∧ Ext W W') :
    Calls Try.prog 118 #[.slice (some ⟨g, 0, none⟩) d.size c, .int .i64 0, .int .i64 (d.size : Int), .func (.func f) #[] lb] w fun e w' => e = .returned (.tuple #[]) ∧ Ext w0 w' ∧ w.grownBy w' (some g) ∧ w'.ownsRow base 3 1 (.slice (some ⟨g, 0, none⟩) d.size c) d.size (rowL (sortedN cf d)) := by
  have HF := Lib.hid hf
  have HO0 := Lib.hid ho
  have HP0 := Lib.hid hP
  have HE0 := Lib.hid hE
  have hcap := own_capR ho
  clear hf ho hP hE
  obtain ⟨n, hdn⟩ : ∃ n, d.size = n := ⟨_, rfl⟩
  rw [hdn] at hn hcap
  rw [show (.slice (some ⟨g, 0, none⟩) d.size c : Value) = .slice (some ⟨g, 0, none⟩) n c by rw [hdn], show (d.size : Int) = (n : Int) by rw [hdn]]
  have HSZ := Lib.hid hdn
  have HR := Lib.hid (show sortedN cf d = insOuter (ltF cf) 0 n 1 d by unfold sortedN Sort.insertionSort; rw [hdn])
  rw [hdn] at HO0 HP0 ⊢
  clear hdn
  go_enter Try.func118, Try.ntmps118
  go_wp2_with fail
  go_loopg [8] n (fun g1 vi wr => ∃ (i : Nat) (dk : Array Nat), vi = .int .i64 i ∧ 0 < i ∧ i ≤ n + 1 ∧ n + 1 - i ≤ g1 + 1 ∧ dk.size = n ∧ (∀ k, k < dk.size → P dk[k]!) ∧ Ext w0 wr ∧ w.grownBy wr (some g) ∧ wr.ownsRow base 3 1 (.slice (some ⟨g, 0, none⟩) n c) n (rowL dk) ∧ insOuter (ltF cf) 0 n i dk = insOuter (ltF cf) 0 n 1 d)
  case atStart => exact ⟨1, d, by go_num, by omega, by omega, by omega, HSZ.out, fun k hk => HP0.out k (by rw [← HSZ.out]; exact hk), HE0.out, grown_refl _ _, HO0.out, rfl⟩
  case round =>
    obtain ⟨i, dk, rfl, hai, hib, hg1, hsk, hpk, hEk, hgk, hok, ho⟩ := hrel
    have HGK := Lib.hid hgk
    have HG1 := Lib.hid hg1
    have HPK := Lib.hid hpk
    have HEK := Lib.hid hEk
    have HOK := Lib.hid hok
    have HO := Lib.hid ho
    have HSK := Lib.hid hsk
    clear hg1 hpk hEk hgk hok ho hsk
    by_cases hlt : i < n
    · have hltz : (i : Int) < (n : Int) := by omega
      go_wp2_with fail
      obtain ⟨GO, hGO⟩ : ∃ x : Nat, x = gk := ⟨_, rfl⟩
      subst hGO
      obtain ⟨wo, hwo⟩ : ∃ x : World, x = wr := ⟨_, rfl⟩
      subst hwo
      go_loopg [9] i (fun g2 vj wr2 => ∃ (j : Nat) (dj : Array Nat), vj = .int .i64 j ∧ j ≤ i ∧ j ≤ g2 ∧ dj.size = n ∧ (∀ k, k < dj.size → P dj[k]!) ∧ Ext w0 wr2 ∧ w.grownBy wr2 (some g) ∧ wr2.ownsRow base 3 1 (.slice (some ⟨g, 0, none⟩) n c) n (rowL dj) ∧ insInner (ltF cf) 0 j dj = insInner (ltF cf) 0 i dk)
      case atStart => exact ⟨i, dk, rfl, Nat.le_refl _, Nat.le_refl _, HSK.out, HPK.out, HEK.out, HGK.out, HOK.out, rfl⟩
      case round =>
        obtain ⟨j, dj, rfl, hji, hg2, hsj, hpj, hEj, hgj, hoj, hi⟩ := hrel
        have HGJ := Lib.hid hgj
        have HG2 := Lib.hid hg2
        have HPJ := Lib.hid hpj
        have HEJ := Lib.hid hEj
        have HOJ := Lib.hid hoj
        have HI := Lib.hid hi
        have HSJ := Lib.hid hsj
        clear hg2 hpj hEj hgj hoj hi hsj
        have OUT := Lib.hid (show (j ≤ 0 ∨ ltF cf dj[j]! dj[j - 1]! = false) → insOuter (ltF cf) 0 n (i + 1) dj = insOuter (ltF cf) 0 n 1 d from fun hs => by rw [← HO.out, insOuter_go _ _ _ _ _ hlt, ← HI.out, insInner_stop _ _ _ _ hs])
        by_cases hj0 : j = 0
        · subst hj0
          have d0 : decide ((0 : Int) < ((0 : Nat) : Int)) = false := rfl
          go_wp2_with fail
          (refine wp_region_ext (by kernel_rfl) (by kernel_rfl) (fun hX => ?_); (repeat (go_big_quiet_step (fail))); refine wpQuiet_nil ?_; rintro w5 ⟨⟨_, hb5⟩, rfl⟩; (try dsimp only))
          go_wp2_with fail
          go_roundg (n - (i + 1))
          case measure => have := HG1.out; omega
          case rel => exact ⟨i + 1, dj, by go_num, by omega, by omega, by omega, HSJ.out, HPJ.out, HEJ.out.trans hb5, grown_trans HGJ.out (ext_grownR hb5 _), own_extR HOJ.out hb5, OUT.out (.inl (Nat.le_refl _))⟩
        · obtain ⟨jp, rfl⟩ : ∃ jp, j = jp + 1 := ⟨j - 1, by omega⟩
          simp only [Nat.add_sub_cancel] at OUT
          have hjn : jp + 1 < n := by omega
          have cj := (HOJ.out.cellAt (jp + 1) (by omega)).trans (rowL_at dj (jp + 1) (by rw [HSJ.out]; omega))
          have cp := (HOJ.out.cellAt jp (by omega)).trans (rowL_at dj jp (by rw [HSJ.out]; omega))
          have fj := HOJ.out.frozenAt (jp + 1)
          have fp := HOJ.out.frozenAt jp
          have z : g < wr.heap.size := World.block_lt_of_cell? wr _ cj
          have PJ := Lib.hid (HPJ.out (jp + 1) (by rw [HSJ.out]; omega))
          have PP := Lib.hid (HPJ.out jp (by rw [HSJ.out]; omega))
          have HSW := Lib.hid (rowL_swp dj (jp + 1) jp)
          have HGO := Lib.hid (insInner_go (ltF cf) 0 (jp + 1) dj (by omega))
          simp only [Nat.add_sub_cancel] at HGO
          obtain ⟨xj, hxj⟩ : ∃ x, dj[jp + 1]! = x := ⟨_, rfl⟩
          obtain ⟨xp, hxp⟩ : ∃ x, dj[jp]! = x := ⟨_, rfl⟩
          rw [hxj, hxp] at HSW HGO OUT
          rw [hxj] at cj PJ
          rw [hxp] at cp PP
          clear hxj hxp
          have hwp : IntKind.i64.wrap (jp : Int) = (jp : Int) := by rw [IntKind.wrap_i64]; omega
          have jz : (jp : Int) + 1 < (n : Int) := by omega
          have jz1 : (jp : Int) < (n : Int) := by omega
          have jz2 : (0 : Int) < (jp : Int) + 1 := by omega
          have jz3 : (0 : Int) ≤ (jp : Int) := by omega
          have p0 : (0 : Int) ≤ (jp : Int) + 1 := by omega
          have e0 : ((jp : Int) + 1).toNat = jp + 1 := by omega
          by_cases hlv : cf xj xp < 0
          · have HLV := Lib.hid hlv
            go_wp2_with fail
            (refine wp_region_ext (by kernel_rfl) (by kernel_rfl) (fun hX => ?_); (repeat (go_big_quiet_step ((go_at_fn f; exact quiet_ext (HF.out xj xp _ PJ.out PP.out (HEJ.out.trans (XW.h _))))))); refine wpQuiet_nil ?_; rintro w5 ⟨⟨_, hb5⟩, rfl⟩; (try dsimp only))
            go_wp2_with fail
            have HE5 := Lib.hid hb5
            replace cj := ((bcell hb5).1 _ (jp + 1) z).trans cj
            replace cp := ((bcell hb5).1 _ jp z).trans cp
            replace fj := ((bcell hb5).2 _ (jp + 1) z).trans fj
            replace fp := ((bcell hb5).2 _ jp z).trans fp
            replace z := Nat.lt_of_lt_of_le z hb5.size
            clear hb5
            obtain ⟨j1, hj1⟩ : ∃ j1, j1 = jp + 1 := ⟨_, rfl⟩
            have J1 := Lib.hid hj1
            rw [← hj1] at cj fj e0
            clear hj1
            go_big_region
            all_goals go_wp2_with fail
            rw [J1.out]
            go_roundg jp
            case measure => have := HG2.out; omega
            case rel => exact ⟨jp, swp dj (jp + 1) jp, rfl, by omega, Nat.le_refl _, (swp_size _ _ _).trans HSJ.out, swp_all P dj (jp + 1) jp (by rw [HSJ.out]; omega) (by rw [HSJ.out]; omega) HPJ.out, ((((HEJ.out.trans HE5.out).setCell (by simp; omega) _).setCell (by simp; omega) _).drew), grown_trans (grown_trans (grown_trans (grown_trans HGJ.out (ext_grownR HE5.out _)) (grown_setCell _ ⟨g, jp + 1, none⟩ _)) (grown_setCell _ ⟨g, jp, none⟩ _)) (ext_grownR (Ext.drew (Ext.refl _)) _), by rw [← HSW.out]; exact own_extR (((own_extR HOJ.out HE5.out).stored (jp + 1) _).1.stored jp _).1 (Ext.drew (Ext.refl _)), by rw [← HGO.out (decide_eq_true HLV.out)]; exact HI.out⟩
          · have HLV := Lib.hid hlv
            go_wp2_with fail
            (refine wp_region_ext (by kernel_rfl) (by kernel_rfl) (fun hX => ?_); (repeat (go_big_quiet_step ((go_at_fn f; exact quiet_ext (HF.out xj xp _ PJ.out PP.out (HEJ.out.trans (XW.h _))))))); refine wpQuiet_nil ?_; rintro w5 ⟨⟨_, hb5⟩, rfl⟩; (try dsimp only))
            go_wp2_with fail
            go_roundg (n - (i + 1))
            case measure => have := HG1.out; omega
            case rel => exact ⟨i + 1, dj, by go_num, by omega, by omega, by omega, HSJ.out, HPJ.out, HEJ.out.trans hb5, grown_trans HGJ.out (ext_grownR hb5 _), own_extR HOJ.out hb5, OUT.out (.inr (decide_eq_false (Int.not_lt.2 HLV.out)))⟩
    · have hltz : ¬ (i : Int) < (n : Int) := by omega
      go_wp2_with fail
      go_end0
      exact ⟨rfl, HEK.out, HGK.out, by rw [HR.out, ← HO.out, insOuter_stop _ _ _ _ _ hlt]; exact HOK.out⟩
theorem stable_any (w0 w : World) (base g c : Nat) (d : Array Nat) (f : Nat) (lb : Array Value) (cf : Nat → Nat → Int) (P : Nat → Prop) (hn : d.size < 20) (hE : Ext w0 w) (hb0 : w0.heap.size ≤ base) (hbg : base ≤ g)
    (ho : w.ownsRow base 3 1 (.slice (some ⟨g, 0, none⟩) d.size c) d.size (rowL d))
    (eg : ∀ (args : Array Value) (w : World), (callFunc f args).run Try.prog w = .ok (.enter f args) w) (hP : ∀ k, k < d.size → P d[k]!)
    (hf : ∀ (x y : Nat) (W : World), P x → P y → Ext w0 W → Calls Try.prog f (#[.int .i64 (x : Int), .int .i64 (y : Int)] ++ lb) W fun e W' => e = .returned (.int .i64 (cf x y)) ∧ Ext W W') :
    Calls Try.prog 112 #[.slice (some ⟨g, 0, none⟩) d.size c, .int .i64 (d.size : Int), .func (.func f) #[] lb] w fun e w' => e = .returned (.tuple #[]) ∧ Ext w0 w' ∧ w.grownBy w' (some g) ∧ w'.ownsRow base 3 1 (.slice (some ⟨g, 0, none⟩) d.size c) d.size (rowL (sortedN cf d)) := by
  have H := Lib.hid (insertion_any w0 w base g c d f lb cf P (by omega) hE hb0 hbg ho eg hP hf)
  clear hf ho hP hE
  have n20 : (20 : Int) > (d.size : Int) := by omega
  have n20' : ¬ (20 : Int) ≤ (d.size : Int) := by omega
  have n20'' : ¬ (20 : Int) < (d.size : Int) := by omega
  go_enter Try.func112, Try.ntmps112
  go_wp2_with fail
  go_loopg [7, 8] 0 (fun gk x y wr => x = .int .i64 0 ∧ y = .int .i64 20 ∧ w = wr)
  case atStart => exact ⟨rfl, rfl, rfl⟩
  case round =>
    obtain ⟨rfl, rfl, rfl⟩ := hrel
    go_wp2_with (go_at_call 118; refine H.out.mono ?_; rintro e w2 ⟨rfl, hE2, hg2, ho2⟩)
    go_loopg [6] 0 (fun gk x wr => x = .int .i64 20 ∧ w2 = wr)
    case atStart => exact ⟨rfl, rfl⟩
    case round =>
      obtain ⟨rfl, rfl⟩ := hrel
      go_wp2_with fail
      go_end0
      exact ⟨rfl, hE2, hg2, ho2⟩
theorem stableSort_any (w0 w : World) (base g c : Nat) (d : Array Nat) (f : Nat) (lb : Array Value) (cf : Nat → Nat → Int) (P : Nat → Prop) (hn : d.size < 20) (hE : Ext w0 w) (hb0 : w0.heap.size ≤ base) (hbg : base ≤ g)
    (ho : w.ownsRow base 3 1 (.slice (some ⟨g, 0, none⟩) d.size c) d.size (rowL d))
    (eg : ∀ (args : Array Value) (w : World), (callFunc f args).run Try.prog w = .ok (.enter f args) w) (hP : ∀ k, k < d.size → P d[k]!)
    (hf : ∀ (x y : Nat) (W : World), P x → P y → Ext w0 W → Calls Try.prog f (#[.int .i64 (x : Int), .int .i64 (y : Int)] ++ lb) W fun e W' => e = .returned (.int .i64 (cf x y)) ∧ Ext W W') :
    Calls Try.prog 97 #[.slice (some ⟨g, 0, none⟩) d.size c, .func (.func f) #[] lb] w fun e w' => e = .returned (.tuple #[]) ∧ Ext w0 w' ∧ w.grownBy w' (some g) ∧ w'.ownsRow base 3 1 (.slice (some ⟨g, 0, none⟩) d.size c) d.size (rowL (sortedN cf d)) := by
  have H := Lib.hid (stable_any w0 w base g c d f lb cf P hn hE hb0 hbg ho eg hP hf)
  clear hf ho hP hE
  go_enter Try.func97, Try.ntmps97
  go_wp2_with (go_at_call 112; refine H.out.mono ?_; rintro e w2 ⟨rfl, hE2, hg2, ho2⟩)
  go_end0
  exact ⟨rfl, hE2, hg2, ho2⟩
theorem stableSort_none (c : Nat) (f : Nat) (lb : Array Value) (w : World) :
    Calls Try.prog 97 #[.slice none 0 c, .func (.func f) #[] lb] w fun e w' => e = .returned (.tuple #[]) ∧ w = w' := by
  have H1 : ∀ w, Calls Try.prog 118 #[.slice none 0 c, .int .i64 0, .int .i64 0, .func (.func f) #[] lb] w fun e w' => e = .returned (.tuple #[]) ∧ w = w' := by
    intro w
    go_enter Try.func118, Try.ntmps118
    go_wp2_with fail
    go_loopg [8] 0 (fun gk x wr => x = .int .i64 1 ∧ w = wr)
    case atStart => exact ⟨rfl, rfl⟩
    case round =>
      obtain ⟨rfl, rfl⟩ := hrel
      go_wp2_with fail
      go_end0
      exact ⟨rfl, rfl⟩
  have H2 : ∀ w, Calls Try.prog 112 #[.slice none 0 c, .int .i64 0, .func (.func f) #[] lb] w fun e w' => e = .returned (.tuple #[]) ∧ w = w' := by
    intro w
    have HH := Lib.hid H1
    clear H1
    go_enter Try.func112, Try.ntmps112
    go_wp2_with fail
    go_loopg [7, 8] 0 (fun gk x y wr => x = .int .i64 0 ∧ y = .int .i64 20 ∧ w = wr)
    case atStart => exact ⟨rfl, rfl, rfl⟩
    case round =>
      obtain ⟨rfl, rfl, rfl⟩ := hrel
      go_wp2_with (go_at_call 118; refine (HH.out _).mono ?_; rintro e w2 ⟨rfl, rfl⟩)
      go_loopg [6] 0 (fun gk x wr => x = .int .i64 20 ∧ w = wr)
      case atStart => exact ⟨rfl, rfl⟩
      case round =>
        obtain ⟨rfl, rfl⟩ := hrel
        go_wp2_with fail
        go_end0
        exact ⟨rfl, rfl⟩
  have HH := Lib.hid H2
  clear H1 H2
  go_enter Try.func97, Try.ntmps97
  go_wp2_with (go_at_call 112; refine (HH.out _).mono ?_; rintro e w2 ⟨rfl, rfl⟩)
  go_end0
  exact ⟨rfl, rfl⟩
end Go.Proofs.Ytchinfamepolkaa
