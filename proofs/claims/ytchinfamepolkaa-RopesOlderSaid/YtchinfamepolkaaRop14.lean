/- Ropes: prepare. -/
import Derived.Test.YtchinfamepolkaaRop13
namespace Go.Proofs.Ytchinfamepolkaa
set_option linter.unusedSimpArgs false
set_option linter.unusedVariables false
set_option linter.unusedSectionVars false
open Go Go.Proofs Go.RowKit Go.Shelf
set_option maxHeartbeats 1000000
set_option maxRecDepth 20000

open Go.Sort
def cmpI (a b : Int) : Int := if a < b then -1 else if b < a then 1 else 0
theorem compareI_any (a b : Int) (w : World) : Calls Try.prog 99 #[.int .i64 a, .int .i64 b] w fun e w' => e = .returned (.int .i64 (cmpI a b)) ∧ w = w' := by
  by_cases h1 : a < b
  · have H := Lib.hid (show cmpI a b = -1 by simp [cmpI, h1])
    go_enter Try.func99, Try.ntmps99
    go_wp2_with (go_at_call 113; refine (isNaN_int _ _).mono ?_; rintro e w1 ⟨rfl, rfl⟩)
    go_ret
    exact ⟨ret_int H.out.symm, rfl⟩
  · by_cases h2 : b < a
    · have H := Lib.hid (show cmpI a b = 1 by simp [cmpI, h1, h2])
      go_enter Try.func99, Try.ntmps99
      go_wp2_with (go_at_call 113; refine (isNaN_int _ _).mono ?_; rintro e w1 ⟨rfl, rfl⟩)
      go_ret
      exact ⟨ret_int H.out.symm, rfl⟩
    · have H := Lib.hid (show cmpI a b = 0 by simp [cmpI, h1, h2])
      go_enter Try.func99, Try.ntmps99
      go_wp2_with (go_at_call 113; refine (isNaN_int _ _).mono ?_; rintro e w1 ⟨rfl, rfl⟩)
      go_ret
      exact ⟨ret_int H.out.symm, rfl⟩
def lenN (O : Outing) (k : Nat) : Int := ((O.ropes[k]?).map fun r => r.rope.length).getD 0
theorem lenN_is (O : Outing) (k : Nat) (h : k < O.ropes.length) : lenN O k = O.ropes[k].rope.length := by unfold lenN; rw [List.getElem?_eq_getElem h]; rfl
theorem cmpF_any (a : OutA) (O : Outing) (b0 x y : Nat) (W : World) (hr : O.ropes.length ≤ 1000000) (hx : x < O.ropes.length) (hy : y < O.ropes.length) (hin : SlOf ropeC 4 W W.heap.size a.Ar O.ropes) (hc : W.cell? ⟨b0, 9, none⟩ = some (.slice a.Ar O.ropes.length a.cr)) :
    Calls Try.prog 98 #[.int .i64 (x : Int), .int .i64 (y : Int), .pointer (some ⟨b0, 0, none⟩)] W fun e W' => e = .returned (.int .i64 (cmpI (lenN O y) (lenN O x))) ∧ Ext W W' := by
  obtain ⟨b, off, ea, hbl, hcx⟩ := hin.at_ ropeC_len hx
  obtain ⟨b', off', ea', hbl', hcy⟩ := hin.at_ ropeC_len hy
  rw [ea] at ea'
  injection ea' with ea'; injection ea' with e1 e2; subst e1 e2
  have c0 := hcx (3 - 1) _ (by omega) rfl
  have d0 := hcy (3 - 1) _ (by omega) rfl
  clear hcx hcy
  simp only [Nat.reduceSub] at c0 d0
  rw [← lenN_is O x hx] at c0
  rw [← lenN_is O y hy] at d0
  have z := World.block_lt_of_cell? W _ hc
  simp only at z
  rw [ea] at hc
  clear hin ea
  have k0 : (0 : Int) ≤ (x : Int) := by omega
  have k1 : (x : Int) < (O.ropes.length : Int) := by omega
  have l0 : (0 : Int) ≤ (y : Int) := by omega
  have l1 : (y : Int) < (O.ropes.length : Int) := by omega
  generalize lenN O x = vx at *
  generalize lenN O y = vy at *
  go_enter Try.func98, Try.ntmps98
  go_wp2_with fail
  (refine wp_region_ext (by kernel_rfl) (by kernel_rfl) (fun hX => ?_); (repeat (go_big_quiet_step ((go_at_call 99; exact quiet_same (compareI_any _ _ _))))); refine wpQuiet_nil ?_; rintro w5 ⟨⟨_, hb5⟩, rfl⟩; (try dsimp only))
  go_wp2_with fail
  go_ret
  exact ⟨rfl, hb5⟩
def fitIdx (O : Outing) (n : Nat) : List Nat := (List.range n).filter fun k => (O.ropes[k]?).any fun r => fitV O.model r.rope O.day (damHi O.model r.rope O.day)
theorem fitIdx_succ (O : Outing) (n : Nat) (h : n < O.ropes.length) : fitIdx O (n + 1) = fitIdx O n ++ (if fitV O.model O.ropes[n].rope O.day (damHi O.model O.ropes[n].rope O.day) = true then [n] else []) := by
  unfold fitIdx
  rw [List.range_succ, List.filter_append]
  congr 1
  rw [List.filter_cons, List.getElem?_eq_getElem h]
  rfl
def fitA (O : Outing) : Array Nat := sortedN (fun x y => cmpI (lenN O y) (lenN O x)) (fitIdx O O.ropes.length).toArray
theorem check_ok {O : Outing} (h : checkE O = 0) : isModelB O.model = true ∧ (∀ r ∈ O.ropes, isRopeB r.rope = true) ∧ outB O = true := by
  unfold checkE at h
  cases h1 : isModelB O.model <;> simp [h1] at h
  by_cases h2 : ∀ x ∈ O.ropes, isRopeB x.rope = true
  · refine ⟨rfl, h2, ?_⟩
    cases h3 : outB O
    · have e : ¬ ∃ x, x ∈ O.ropes ∧ isRopeB x.rope = false := fun ⟨x, hx, hf⟩ => by rw [h2 x hx] at hf; cases hf
      simp [h3, e] at h
    · rfl
  · have e : ∃ x, x ∈ O.ropes ∧ isRopeB x.rope = false := by
      simp only [Classical.not_forall] at h2
      obtain ⟨x, hx, hn⟩ := h2
      exact ⟨x, hx, by cases hh : isRopeB x.rope <;> simp_all⟩
    simp [e] at h
theorem out_bd {O : Outing} (h : outB O = true) : (0 ≤ O.day ∧ O.day ≤ 99999) ∧ (1 ≤ O.grade ∧ O.grade ≤ 6) ∧ (1 ≤ O.spacing ∧ O.spacing ≤ 100) ∧ O.guides.length ≤ 4 ∧ (∀ g ∈ O.guides, guideB g = true) ∧ O.clients.length ≤ 6 ∧ (∀ n ∈ O.clients, 1 ≤ n ∧ n ≤ 20) ∧ O.ropes.length ≤ 6 := by
  unfold outB at h
  simp only [Bool.and_eq_true, decide_eq_true_eq, List.all_eq_true] at h
  obtain ⟨⟨⟨⟨⟨⟨⟨⟨h1, h2⟩, h3⟩, h4⟩, h5⟩, h6⟩, h7⟩, h8⟩, _⟩ := h
  exact ⟨withinB_true h1, withinB_true h2, withinB_true h3, h4, h5, h6, fun n hn => withinB_true (h7 n hn), h8⟩
theorem rowL_flat (l : List Nat) : l.flatMap natI = rowL l.toArray := by
  unfold rowL
  induction l with
  | nil => rfl
  | cons x l ih => rw [List.flatMap_cons, ih]; rfl
theorem sortedN_nil (cf : Nat → Nat → Int) : sortedN cf #[] = #[] := by
  unfold sortedN Sort.insertionSort
  exact insOuter_stop _ _ _ _ _ (by simp)
theorem key_swo (k : Nat → Int) : SWO (ltF fun x y => cmpI (k y) (k x)) := by
  have e : ∀ x y, ltF (fun x y => cmpI (k y) (k x)) x y = decide (k y < k x) := fun x y => by
    unfold ltF cmpI
    by_cases h1 : k y < k x
    · simp [h1]
    · by_cases h2 : k x < k y <;> simp [h1, h2]
  exact ⟨fun x => by rw [e]; simp, fun x y z h1 h2 => by rw [e] at *; simp only [decide_eq_true_eq] at *; omega, fun x y z h1 h2 => by rw [e] at *; simp only [decide_eq_false_iff_not] at *; omega⟩
theorem ext_all (d : Array Nat) : d.extract 0 d.size = d := by simp
theorem key_lt (k : Nat → Int) (x y : Nat) : ltF (fun x y => cmpI (k y) (k x)) x y = decide (k y < k x) := by
  unfold ltF cmpI
  by_cases h1 : k y < k x
  · simp [h1]
  · by_cases h2 : k x < k y <;> simp [h1, h2]
theorem ext_all2 (d : Array Nat) (n : Nat) (h : d.size = n) : d.extract 0 n = d := by subst h; simp
theorem keyed (k : Nat → Int) (d : Array Nat) : (sortedN (fun x y => cmpI (k y) (k x)) d).size = d.size ∧ (sortedN (fun x y => cmpI (k y) (k x)) d).toList.Perm d.toList ∧ ∀ i j, i < j → j < d.size → k (sortedN (fun x y => cmpI (k y) (k x)) d)[j]! ≤ k (sortedN (fun x y => cmpI (k y) (k x)) d)[i]! := by
  have h := insertionSort_holds (lt := ltF fun x y => cmpI (k y) (k x)) (key_swo k) d 0 d.size (Nat.zero_le _) (Nat.le_refl _)
  unfold sortedN
  generalize Sort.insertionSort (ltF fun x y => cmpI (k y) (k x)) d 0 d.size = D at *
  obtain ⟨⟨h1, _, h3⟩, h4⟩ := h
  refine ⟨h1, ?_, fun i j hij hj => ?_⟩
  · rw [ext_all2 D d.size h1, ext_all] at h3
    exact h3
  · have h := h4 i j (Nat.zero_le _) hij hj
    rw [key_lt] at h
    exact Int.not_lt.1 (of_decide_eq_false h)
theorem fitA_mem {O : Outing} {x : Nat} (h : x ∈ (fitA O).toList) : x ∈ fitIdx O O.ropes.length := by
  have := (keyed (lenN O) (fitIdx O O.ropes.length).toArray).2.1.mem_iff.1 h
  simpa using this
theorem fitIdx_lt {O : Outing} {n x : Nat} (h : x ∈ fitIdx O n) : x < n := by
  have := (List.mem_filter.1 h).1
  simpa using this
theorem fitIdx_len (O : Outing) (n : Nat) : (fitIdx O n).length ≤ n := by
  unfold fitIdx
  have := List.length_filter_le (fun k => (O.ropes[k]?).any fun r => fitV O.model r.rope O.day (damHi O.model r.rope O.day)) (List.range n)
  simpa using this
end Go.Proofs.Ytchinfamepolkaa
