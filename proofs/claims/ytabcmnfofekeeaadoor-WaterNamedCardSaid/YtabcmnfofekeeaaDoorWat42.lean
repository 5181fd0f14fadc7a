/- Conflict: samples that contradict each other. -/
import Derived.Test.YtabcmnfofekeeaaDoorWat40
import Derived.Test.YtabcmnfofekeeaaDoorDel
import Derived.Test.YtabcmnfofekeeaaDoorWat38
namespace Go.Proofs.YtabcmnfofekeeaaDoor
open Go Go.Proofs Go.RowKit Go.Shelf
set_option maxHeartbeats 1000000
set_option maxRecDepth 20000
/-! ### plain facts -/
def anyL (W : Water) (l : List Sample) : Bool := !(truthsTo (2 ^ W.springs.length) W.most W.misses W.alarms l).isEmpty
theorem anyL_empty (W : Water) (l : List Sample) : (truthsTo (2 ^ W.springs.length) W.most W.misses W.alarms l).isEmpty = !anyL W l := by simp [anyL]
theorem anyL_iff (W : Water) (l : List Sample) : anyL W l = true ↔ ∃ t, t < 2 ^ W.springs.length ∧ possN W.most W.misses W.alarms l t = true := by
  unfold anyL truthsTo
  rw [Bool.not_eq_true', List.isEmpty_eq_false_iff_exists_mem]
  simp only [List.mem_filter, List.mem_range]
def smp (W : Water) (i : Nat) : Sample := (W.samples[i]?).getD ⟨0, false⟩
def smpl (W : Water) (l : List Nat) : List Sample := l.map (smp W)
theorem smpl_all (W : Water) : smpl W (List.range' 0 W.samples.length) = W.samples := by
  apply List.ext_getElem
  · simp [smpl]
  · intro i h1 h2
    simp [smpl, smp, h2]
theorem smp_mem {W : Water} {i : Nat} (h : i < W.samples.length) : smp W i ∈ W.samples := by
  unfold smp
  rw [List.getElem?_eq_getElem h]
  exact List.getElem_mem h
/-- What is kept of the first k samples. -/
def kept (W : Water) : Nat → List Nat
  | 0 => []
  | k + 1 => if anyL W (smpl W (kept W k ++ List.range' (k + 1) (W.samples.length - (k + 1)))) = true then kept W k ++ [k] else kept W k
def leftI (W : Water) (k : Nat) : List Nat := kept W k ++ List.range' k (W.samples.length - k)
def lessI (W : Water) (k : Nat) : List Nat := kept W k ++ List.range' (k + 1) (W.samples.length - (k + 1))
theorem kept_le (W : Water) (k : Nat) : (kept W k).length ≤ k := by
  induction k with
  | zero => simp [kept]
  | succ k ih =>
    unfold kept
    split
    · simp; omega
    · omega
theorem kept_lt (W : Water) (k : Nat) : ∀ i ∈ kept W k, i < k := by
  induction k with
  | zero => simp [kept]
  | succ k ih =>
    unfold kept
    split
    · intro i hi
      rw [List.mem_append, List.mem_singleton] at hi
      rcases hi with hi | rfl
      · have := ih i hi; omega
      · omega
    · intro i hi; have := ih i hi; omega
theorem range'_cons' {k m : Nat} (h : k < m) : List.range' k (m - k) = k :: List.range' (k + 1) (m - (k + 1)) := by
  rw [show m - k = (m - (k + 1)) + 1 by omega, List.range'_succ]
theorem left_erase (W : Water) {k : Nat} (h : k < W.samples.length) : (leftI W k).eraseIdx (kept W k).length = lessI W k := by
  unfold leftI lessI
  rw [range'_cons' h, List.eraseIdx_append_of_length_le (Nat.le_refl _), Nat.sub_self, List.eraseIdx_cons_zero]
theorem smpl_erase (W : Water) (l : List Nat) (i : Nat) : (smpl W l).eraseIdx i = smpl W (l.eraseIdx i) := by
  unfold smpl
  rw [List.eraseIdx_eq_take_drop_succ, List.eraseIdx_eq_take_drop_succ, List.map_append, List.map_take, List.map_drop]
theorem left_yes (W : Water) {k : Nat} (h : k < W.samples.length) (ha : anyL W (smpl W (lessI W k)) = true) : kept W (k + 1) = kept W k ++ [k] ∧ leftI W (k + 1) = leftI W k := by
  have e : kept W (k + 1) = kept W k ++ [k] := by unfold lessI at ha; rw [kept, if_pos ha]
  refine ⟨e, ?_⟩
  unfold leftI
  rw [e, range'_cons' h, List.append_assoc]
  rfl
theorem left_no (W : Water) {k : Nat} (ha : anyL W (smpl W (lessI W k)) = false) : kept W (k + 1) = kept W k ∧ leftI W (k + 1) = lessI W k := by
  have e : kept W (k + 1) = kept W k := by unfold lessI at ha; rw [kept, if_neg (by simp [ha])]
  refine ⟨e, ?_⟩
  unfold leftI lessI
  rw [e]
theorem left_len (W : Water) {k : Nat} (h : k ≤ W.samples.length) : (leftI W k).length = (kept W k).length + (W.samples.length - k) := by simp [leftI]
theorem less_len (W : Water) (k : Nat) : (lessI W k).length = (kept W k).length + (W.samples.length - (k + 1)) := by simp [lessI]
theorem less_mem {W : Water} {k : Nat} (h : k < W.samples.length) : ∀ i ∈ lessI W k, i < W.samples.length := by
  intro i hi
  unfold lessI at hi
  rw [List.mem_append] at hi
  rcases hi with hi | hi
  · have := kept_lt W k i hi; omega
  · simp at hi; omega
theorem mix_of {W : Water} (h : MixNat W.samples) {l : List Nat} (hl : ∀ i ∈ l, i < W.samples.length) : MixNat (smpl W l) := by
  intro s hs
  unfold smpl at hs
  rw [List.mem_map] at hs
  obtain ⟨i, hi, rfl⟩ := hs
  exact h _ (smp_mem (hl i hi))
theorem smpl_len (W : Water) (l : List Nat) : (smpl W l).length = l.length := by simp [smpl]
/-! ### Conflict -/
theorem ownBlock_slice (A : Option Addr) (n c : Nat) : (Value.slice A n c).ownBlock = A.map (·.block) := by cases A <;> rfl
theorem Sl.grown {w w' : World} {B sz n : Nat} {A : Option Addr} {xs : List Value} {row : Option Nat} (h : Sl w B sz A n xs) (hB : B ≤ w.heap.size) (hg : w.grownBy w' row) (hne : ∀ a, A = some a → some a.block ≠ row) : Sl w' B sz A n xs :=
  ⟨h.1, fun hn => by
    obtain ⟨b, off, e, hb, hc⟩ := h.2 hn
    refine ⟨b, off, e, hb, fun j u hu => ?_⟩
    exact hg.cell (a := ⟨b, off + j, none⟩) (hc j u hu) (show some b ≠ row from hne _ e)⟩
def confE (W : Water) : Int := if !validB W then 40 else if anyL W W.samples then 3 else 0
def confL (W : Water) : List Nat := if confE W = 0 then kept W W.samples.length else []
def LeftIs (u : Value) (w : World) (l : List Sample) : Prop := ∃ A c, u = .slice A l.length c ∧ SlOf samC 2 w w.heap.size A l
theorem conflict_err (As Am : Option Addr) (cs cm : Nat) (W : Water) (w : World) (hin : WaterIn w As Am W) (hE : confE W ≠ 0) :
    Calls Tryd.prog 33 #[wvW As Am cs cm W] w fun e w' => e = .returned (.tuple #[.slice none 0 0, .int .i64 (confE W)]) ∧ Ext w w' := by
  have HIN := Lib.hid hin
  clear hin
  cases hv : validB W
  · have HC := Lib.hid (show checkI W = 40 by simp [checkI, hv])
    rw [show confE W = 40 by simp [confE, hv]]
    clear hE hv
    go_enter Tryd.func33, Tryd.ntmps33
    go_wp2_with fail
    refine (check_any _ _ _ _ W _ (HIN.out.ext (by (repeat (first | (with_reducible exact Ext.refl _) | (with_reducible assumption) | (with_reducible refine Ext.alloc ?_ _) | (with_reducible refine Ext.trans ?_ (by with_reducible assumption)) | (with_reducible refine Ext.drew ?_) | (with_reducible refine Ext.setCell ?_ (by simp <;> omega) _)))))).mono ?_
    rintro e w1 ⟨rfl, hb1⟩
    rw [HC.out]
    go_wp2_with fail
    go_ret2
    exact ⟨rfl, by (repeat (first | (with_reducible exact Ext.refl _) | (with_reducible assumption) | (with_reducible refine Ext.alloc ?_ _) | (with_reducible refine Ext.trans ?_ (by with_reducible assumption)) | (with_reducible refine Ext.drew ?_) | (with_reducible refine Ext.setCell ?_ (by simp <;> omega) _)))⟩
  · have ha : anyL W W.samples = true := by
      cases h : anyL W W.samples
      · exfalso; apply hE; simp [confE, hv, h]
      · rfl
    have HC := Lib.hid (show checkI W = 0 by simp [checkI, hv])
    have hn8 := (valid_len hv).2
    have HMX := Lib.hid (valid_mix hv)
    rw [show confE W = 3 by simp [confE, hv, ha]]
    have HA := Lib.hid (show (truthsTo (2 ^ W.springs.length) W.most W.misses W.alarms W.samples).isEmpty = !true by rw [anyL_empty, ha])
    clear hE hv ha
    go_enter Tryd.func33, Tryd.ntmps33
    go_wp2_with fail
    refine (check_any _ _ _ _ W _ (HIN.out.ext (by (repeat (first | (with_reducible exact Ext.refl _) | (with_reducible assumption) | (with_reducible refine Ext.alloc ?_ _) | (with_reducible refine Ext.trans ?_ (by with_reducible assumption)) | (with_reducible refine Ext.drew ?_) | (with_reducible refine Ext.setCell ?_ (by simp <;> omega) _)))))).mono ?_
    rintro e w1 ⟨rfl, hb1⟩
    rw [HC.out]
    (have f0 := ((bcell hb1).1 w.heap.size 0 (by simp)).trans (show _ = some (.slice As W.springs.length cs) by go_simp); have f1 := ((bcell hb1).1 w.heap.size 1 (by simp)).trans (show _ = some (.int .i64 W.most) by go_simp); have f2 := ((bcell hb1).1 w.heap.size 2 (by simp)).trans (show _ = some (.int .i64 W.misses) by go_simp); have f3 := ((bcell hb1).1 w.heap.size 3 (by simp)).trans (show _ = some (.int .i64 W.alarms) by go_simp); have f4 := ((bcell hb1).1 w.heap.size 4 (by simp)).trans (show _ = some (.slice Am W.samples.length cm) by go_simp); have hz := Nat.lt_of_lt_of_le (show w.heap.size < (w.alloc _).heap.size by simp) (Below.size hb1))
    have hw1 : Ext w w1 := by (repeat (first | (with_reducible exact Ext.refl _) | (with_reducible assumption) | (with_reducible refine Ext.alloc ?_ _) | (with_reducible refine Ext.trans ?_ (by with_reducible assumption)) | (with_reducible refine Ext.drew ?_) | (with_reducible refine Ext.setCell ?_ (by simp <;> omega) _)))
    clear hb1
    go_wp2_with fail
    refine (anyF_any As Am Am W.springs.length cs W.samples.length cm cm W.most W.misses W.alarms W.samples _ hn8 HIN.out.2.2.2 (HIN.out.ext (by (repeat (first | (with_reducible exact Ext.refl _) | (with_reducible assumption) | (with_reducible refine Ext.alloc ?_ _) | (with_reducible refine Ext.trans ?_ (by with_reducible assumption)) | (with_reducible refine Ext.drew ?_) | (with_reducible refine Ext.setCell ?_ (by simp <;> omega) _))))).2.1 HMX.out HA.out).mono ?_
    rintro e w2 ⟨rfl, hb2⟩
    go_wp2_with fail
    go_ret2
    exact ⟨rfl, by (repeat (first | (with_reducible exact Ext.refl _) | (with_reducible assumption) | (with_reducible refine Ext.alloc ?_ _) | (with_reducible refine Ext.trans ?_ (by with_reducible assumption)) | (with_reducible refine Ext.drew ?_) | (with_reducible refine Ext.setCell ?_ (by simp <;> omega) _)))⟩
theorem conflict_ok (As Am : Option Addr) (cs cm : Nat) (W : Water) (w : World) (hin : WaterIn w As Am W) (hE : confE W = 0) :
    Calls Tryd.prog 33 #[wvW As Am cs cm W] w fun e w' => ∃ A c, e = .returned (.tuple #[.slice A (kept W W.samples.length).length c, .int .i64 0]) ∧ SlOf natI 1 w' w'.heap.size A (kept W W.samples.length) ∧ Ext w w' := by
  have hv : validB W = true := by
    cases h : validB W
    · simp [confE, h] at hE
    · rfl
  have ha : anyL W W.samples = false := by
    cases h : anyL W W.samples
    · rfl
    · simp [confE, h, hv] at hE
  obtain ⟨i0, hi, hz0, hz1, hz2⟩ := info_parts int_info
  have HIN := Lib.hid hin
  have HC := Lib.hid (show checkI W = 0 by simp [checkI, hv])
  have hn8 := (valid_len hv).2
  have hm20 := (valid_bd hv).2.2.2
  have HMX := Lib.hid (valid_mix hv)
  have HA := Lib.hid (show (truthsTo (2 ^ W.springs.length) W.most W.misses W.alarms W.samples).isEmpty = !false by rw [anyL_empty, ha])
  clear hE hv ha hin
  go_enter Tryd.func33, Tryd.ntmps33
  go_wp2_with fail
  refine (check_any _ _ _ _ W _ (HIN.out.ext (by (repeat (first | (with_reducible exact Ext.refl _) | (with_reducible assumption) | (with_reducible refine Ext.alloc ?_ _) | (with_reducible refine Ext.trans ?_ (by with_reducible assumption)) | (with_reducible refine Ext.drew ?_) | (with_reducible refine Ext.setCell ?_ (by simp <;> omega) _)))))).mono ?_
  rintro e w1 ⟨rfl, hb1⟩
  rw [HC.out]
  (have f0 := ((bcell hb1).1 w.heap.size 0 (by simp)).trans (show _ = some (.slice As W.springs.length cs) by go_simp); have f1 := ((bcell hb1).1 w.heap.size 1 (by simp)).trans (show _ = some (.int .i64 W.most) by go_simp); have f2 := ((bcell hb1).1 w.heap.size 2 (by simp)).trans (show _ = some (.int .i64 W.misses) by go_simp); have f3 := ((bcell hb1).1 w.heap.size 3 (by simp)).trans (show _ = some (.int .i64 W.alarms) by go_simp); have f4 := ((bcell hb1).1 w.heap.size 4 (by simp)).trans (show _ = some (.slice Am W.samples.length cm) by go_simp); have hz := Nat.lt_of_lt_of_le (show w.heap.size < (w.alloc _).heap.size by simp) (Below.size hb1))
  have hw1 : Ext w w1 := by (repeat (first | (with_reducible exact Ext.refl _) | (with_reducible assumption) | (with_reducible refine Ext.alloc ?_ _) | (with_reducible refine Ext.trans ?_ (by with_reducible assumption)) | (with_reducible refine Ext.drew ?_) | (with_reducible refine Ext.setCell ?_ (by simp <;> omega) _)))
  clear hb1
  go_wp2_with fail
  refine (anyF_any As Am Am W.springs.length cs W.samples.length cm cm W.most W.misses W.alarms W.samples _ hn8 HIN.out.2.2.2 (HIN.out.ext (by (repeat (first | (with_reducible exact Ext.refl _) | (with_reducible assumption) | (with_reducible refine Ext.alloc ?_ _) | (with_reducible refine Ext.trans ?_ (by with_reducible assumption)) | (with_reducible refine Ext.drew ?_) | (with_reducible refine Ext.setCell ?_ (by simp <;> omega) _))))).2.1 HMX.out HA.out).mono ?_
  rintro e w2 ⟨rfl, hb2⟩
  (have g0 := ((bcell hb2).1 w1.heap.size 0 (by simp)).trans (show _ = some (.slice As W.springs.length cs) by go_simp); have g1 := ((bcell hb2).1 w1.heap.size 1 (by simp)).trans (show _ = some (.int .i64 W.most) by go_simp); have g2 := ((bcell hb2).1 w1.heap.size 2 (by simp)).trans (show _ = some (.int .i64 W.misses) by go_simp); have g3 := ((bcell hb2).1 w1.heap.size 3 (by simp)).trans (show _ = some (.int .i64 W.alarms) by go_simp); have g4 := ((bcell hb2).1 w1.heap.size 4 (by simp)).trans (show _ = some (.slice Am W.samples.length cm) by go_simp); have gz := Nat.lt_of_lt_of_le (show w1.heap.size < (World.alloc _ _).heap.size by simp) (Below.size hb2))
  have hw12 : Ext w1 w2 := by (repeat (first | (with_reducible exact Ext.refl _) | (with_reducible assumption) | (with_reducible refine Ext.alloc ?_ _) | (with_reducible refine Ext.trans ?_ (by with_reducible assumption)) | (with_reducible refine Ext.drew ?_) | (with_reducible refine Ext.setCell ?_ (by simp <;> omega) _)))
  (replace f0 := ((bcell hw12).1 _ 0 hz).trans f0; replace f1 := ((bcell hw12).1 _ 1 hz).trans f1; replace f2 := ((bcell hw12).1 _ 2 hz).trans f2; replace f3 := ((bcell hw12).1 _ 3 hz).trans f3; replace f4 := ((bcell hw12).1 _ 4 hz).trans f4; replace hz := Nat.lt_of_lt_of_le hz (Below.size hw12))
  have HW2 := Lib.hid (hw1.trans hw12)
  clear hb2 hw12 hw1
  go_wp2_with fail
  refine (cloneSam_any Am cm W.samples _ (by omega) (HIN.out.ext HW2.out).2.1).mono ?_
  rintro e w3 ⟨A3, c3, rfl, hown3, hb3⟩
  have hs3 : SlOf samC 2 w3 w3.heap.size A3 W.samples := (show SlOf samC 2 _ _ _ _ from own_sl hown3)
  (replace f0 := ((bcell hb3).1 _ 0 hz).trans f0; replace f1 := ((bcell hb3).1 _ 1 hz).trans f1; replace f2 := ((bcell hb3).1 _ 2 hz).trans f2; replace f3 := ((bcell hb3).1 _ 3 hz).trans f3; replace f4 := ((bcell hb3).1 _ 4 hz).trans f4; replace hz := Nat.lt_of_lt_of_le hz (Below.size hb3))
  (replace g0 := ((bcell hb3).1 _ 0 gz).trans g0; replace g1 := ((bcell hb3).1 _ 1 gz).trans g1; replace g2 := ((bcell hb3).1 _ 2 gz).trans g2; replace g3 := ((bcell hb3).1 _ 3 gz).trans g3; replace g4 := ((bcell hb3).1 _ 4 gz).trans g4; replace gz := Nat.lt_of_lt_of_le gz (Below.size hb3))
  have HW3 := Lib.hid (HW2.out.trans hb3)
  clear hb3 hown3
  go_wp2_with fail
  clear f0 f1 f2 f3 f4 hz
  have hl0 : LeftIs (.slice A3 W.samples.length c3) w3 (smpl W (leftI W 0)) := by
    have e : smpl W (leftI W 0) = W.samples := by unfold leftI; simp only [kept, List.nil_append, Nat.sub_zero]; exact smpl_all W
    rw [e]; exact ⟨A3, c3, rfl, hs3⟩
  have HL0 := Lib.hid hl0
  clear hl0 hs3
  go_loopg [6, 7, 28] W.samples.length (fun gk v u i wr => ∃ k : Nat, k + gk = W.samples.length ∧ i = .int .i64 k ∧ wr.ownsRow w3.heap.size 3 1 v (kept W k).length (i64s (kept W k)) ∧ LeftIs u wr (smpl W (leftI W k)) ∧ Apart v u ∧ Ext w3 wr)
  case atStart => exact ⟨0, by omega, rfl, World.ownsRow_nil _ _ _ _, HL0.out, Apart.nil _, Ext.refl _⟩
  case round =>
    obtain ⟨k, hk, rfl, hown, hleft, hap, hb⟩ := hrel
    have HK : k ≤ W.samples.length := by omega
    have HKG := Lib.hid hk
    obtain ⟨AK, cK, rfl, _, _, _⟩ := own_form hown
    have HO := Lib.hid hown
    have HLF := Lib.hid hleft
    have HAP := Lib.hid hap
    have HB := Lib.hid hb
    (replace g0 := ((bcell hb).1 _ 0 gz).trans g0; replace g1 := ((bcell hb).1 _ 1 gz).trans g1; replace g2 := ((bcell hb).1 _ 2 gz).trans g2; replace g3 := ((bcell hb).1 _ 3 gz).trans g3; replace g4 := ((bcell hb).1 _ 4 gz).trans g4; replace gz := Nat.lt_of_lt_of_le gz (Below.size hb))
    have hz := hb.size
    have hkl := kept_le W k
    clear hk hown hleft hap hb
    by_cases hlt : k < W.samples.length
    · have hll := left_len W HK
      have hle := less_len W k
      have hlm := smpl_len W (leftI W k)
      have hsm := smpl_len W (lessI W k)
      have HER := Lib.hid (show (smpl W (leftI W k)).eraseIdx (kept W k).length = smpl W (lessI W k) by rw [smpl_erase, left_erase W hlt])
      have HMI := Lib.hid (mix_of HMX.out (less_mem hlt))
      have hx1 : (kept W k).length < (smpl W (leftI W k)).length := by omega
      have hx2 : (smpl W (leftI W k)).length ≤ 64 := by omega
      have hx3 : (smpl W (lessI W k)).length ≤ 64 := by omega
      obtain ⟨A, c, rfl, hs⟩ := HLF.out
      have HS := Lib.hid hs
      have HLY := Lib.hid (left_yes W hlt)
      have HLN := Lib.hid (left_no W (k := k))
      clear hll hle hlm hsm hs HLF
      generalize hK : kept W k = K at *
      generalize hLL : smpl W (leftI W k) = L at *
      generalize hLS : smpl W (lessI W k) = S at *
      have HHK := Lib.hid hK
      have HHL := Lib.hid hLL
      have HHS := Lib.hid hLS
      clear hK hLL hLS
      go_wp2_with fail
      refine (cloneSam_any A c L _ hx2 HS.out).mono ?_
      rintro e w4 ⟨A4, c4, rfl, hown4, hb4⟩
      have HO4 := Lib.hid hown4
      have HB4 := Lib.hid hb4
      clear hown4 hb4
      go_wp2_with fail
      refine (delSam_any A4 c4 L K.length wr.heap.size w4 hx1 hx2 HO4.out).mono ?_
      rintro e w5 ⟨rfl, hs5, hb5⟩
      rw [HER.out] at hs5 ⊢
      have hE5 : Ext wr w5 := Below.trans HB4.out hb5
      (replace g0 := ((bcell hE5).1 _ 0 gz).trans g0; replace g1 := ((bcell hE5).1 _ 1 gz).trans g1; replace g2 := ((bcell hE5).1 _ 2 gz).trans g2; replace g3 := ((bcell hE5).1 _ 3 gz).trans g3; replace g4 := ((bcell hE5).1 _ 4 gz).trans g4; replace gz := Nat.lt_of_lt_of_le gz (Below.size hE5))
      have HS5 := Lib.hid hs5
      have HE5 := Lib.hid hE5
      clear hs5 hb5 hE5
      cases hany : anyL W S
      · have HAN := Lib.hid (show (truthsTo (2 ^ W.springs.length) W.most W.misses W.alarms S).isEmpty = !false by rw [anyL_empty, hany])
        have HNX := Lib.hid (HLN.out hany)
        clear hany
        go_wp2_with fail
        refine (anyF_any As Am A4 W.springs.length cs W.samples.length cm c4 W.most W.misses W.alarms S _ hn8 (by omega) HS5.out HMI.out HAN.out).mono ?_
        rintro e w6 ⟨rfl, hb6⟩
        have HE6 := Lib.hid (HE5.out.trans hb6)
        have hs6 := (HS5.out.below hb6 (Nat.le_refl _)).more hb6.size
        have HS6 := Lib.hid hs6
        clear hb6 hs6
        go_wp2_with fail
        go_roundg (gk - 1)
        case measure => have := HKG.out; omega
        case rel => exact ⟨k + 1, by have := HKG.out; omega, by go_num, by rw [HNX.out.1]; exact own_ext HO.out HE6.out, by rw [HNX.out.2, HHS.out]; exact ⟨A4, c4, rfl, HS6.out⟩, fun g g1 g2 => by have h1 := (HO.out.lt g g1).2; have h2 := own_block HO4.out g (by rw [ownBlock_slice] at g2 ⊢; exact g2); omega, HB.out.trans HE6.out⟩
      · have HAN := Lib.hid (show (truthsTo (2 ^ W.springs.length) W.most W.misses W.alarms S).isEmpty = !true by rw [anyL_empty, hany])
        have HNX := Lib.hid (HLY.out hany)
        clear hany
        go_wp2_with fail
        refine (anyF_any As Am A4 W.springs.length cs W.samples.length cm c4 W.most W.misses W.alarms S _ hn8 (by omega) HS5.out HMI.out HAN.out).mono ?_
        rintro e w6 ⟨rfl, hb6⟩
        have HE6 := Lib.hid (HE5.out.trans hb6)
        have HO6 := Lib.hid (own_ext HO.out HE6.out)
        have hz6 := HE6.out.size
        clear hb6
        go_wp2_with (at_builtin; refine wpList_append_own_at _ rfl _ _ 32 rfl _ 3 i0 (.int .i64 0) 1 8 Tryd.underlying32 hi hz0 hz1 hz2 rfl (by decide) _ _ _ rfl (HO6.out.alloc _) ⟨w6.heap.size, 0, none⟩ 1 1 [.int .i64 (k : Int)] rfl rfl (cell_one_new _ _ _) (by simp [Value.oneCell']) (by unfold maxLen; omega) (by omega) (by simp; omega) ?_; intro v' w7 hown7 hg7 _ h57)
        have hE7 : Ext w3 w7 := ((HB.out.trans HE6.out).alloc _).grown hg7 (own_block HO6.out)
        have hs7 := ((HS.out.below (HE6.out.alloc (.cells #[.int .i64 (k : Int)] 3)) (Nat.le_refl _)).more (HE6.out.alloc (.cells #[.int .i64 (k : Int)] 3)).size)
        have hs8 : SlOf samC 2 w7 w7.heap.size A L := (Sl.grown hs7 (Nat.le_refl _) hg7 (fun a e e2 => HAP.out a.block e2.symm (by rw [ownBlock_slice, e]; rfl))).more hg7.size
        have hap7 := HAP.out.next (B := (w6.alloc (.cells #[.int .i64 (k : Int)] 3)).heap.size) (fun g hg => by
          obtain ⟨b, off, e, hb, _⟩ := HS.out.2 (by omega)
          rw [ownBlock_slice, e] at hg
          have : b = g := by simpa using hg
          have := HE6.out.size
          simp; omega) h57
        have HO7 := Lib.hid hown7
        have HE7 := Lib.hid hE7
        have HS8 := Lib.hid hs8
        have HAP7 := Lib.hid hap7
        clear hown7 hg7 h57 hE7 hs7 hs8 hap7
        go_wp2_with fail
        go_roundg (gk - 1)
        case measure => have := HKG.out; omega
        case rel => exact ⟨k + 1, by have := HKG.out; omega, by go_num, by rw [HNX.out.1, i64s_snoc]; simpa using HO7.out, by rw [HNX.out.2, HHL.out]; exact ⟨A, c, rfl, HS8.out⟩, HAP7.out, HE7.out⟩
    · obtain rfl : k = W.samples.length := by omega
      have hs3 := own_sl HO.out
      go_wp2_with fail
      go_ret2
      exact ⟨AK, cK, rfl, sl_ints hs3, HW3.out.trans HB.out⟩
end Go.Proofs.YtabcmnfofekeeaaDoor
