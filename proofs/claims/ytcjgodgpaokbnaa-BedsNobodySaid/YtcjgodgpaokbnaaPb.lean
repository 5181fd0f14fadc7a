/- Texts Dp6, Dp7, Dp8, Dp9 in one. -/
import Derived.Test.YtcjgodgpaokbnaaPa
import Derived.Test.YtcjgodgpaokbnaaDq2
/- Beds, plain: distinct. -/
namespace Go.Proofs.Ytcjgodgpaokbnaa
set_option linter.constructorNameAsVariable false
set_option linter.unusedSimpArgs false
set_option linter.unusedVariables false
set_option linter.unusedSectionVars false
open Go Go.Proofs Go.RowKit
set_option maxHeartbeats 1000000
section
variable {α : Type} [DecidableEq α]
def goC (p : α) : List α → List α
  | [] => []
  | y :: l => if y = p then goC y l else y :: goC y l
def compactL : List α → List α
  | [] => []
  | x :: l => x :: goC x l
theorem goC_app (B : List α) (q : α) : ∀ (A : List α) (p : α), goC p (A ++ q :: B) = goC p (A ++ [q]) ++ goC q B
  | [], p => by
    simp only [List.nil_append, goC]
    split <;> simp
  | x :: A, p => by
    simp only [List.cons_append, goC]
    split
    · exact goC_app B q A x
    · rw [goC_app B q A x, List.cons_append]
theorem compactL_app (A : List α) (p : α) (B : List α) : compactL (A ++ p :: B) = compactL (A ++ [p]) ++ goC p B := by
  cases A with
  | nil => simp [compactL, goC]
  | cons x A => simp only [List.cons_append, compactL, goC_app B p A x]
def adjP : List α → Prop
  | x :: y :: l => x ≠ y ∧ adjP (y :: l)
  | _ => True
theorem goC_adj : ∀ (l : List α) (p : α), adjP (p :: goC p l)
  | [], _ => trivial
  | y :: l, p => by
    unfold goC
    split
    · rename_i h; rw [← h]; exact goC_adj l y
    · rename_i h; exact ⟨fun e => h e.symm, goC_adj l y⟩
theorem compactL_adj (l : List α) : adjP (compactL l) := by
  cases l with
  | nil => exact trivial
  | cons x l => exact goC_adj l x
theorem adjP_at : ∀ (l : List α), adjP l → ∀ i (h : i + 1 < l.length), l[i + 1] ≠ l[i]
  | x :: y :: l, hp, 0, _ => fun e => hp.1 e.symm
  | x :: y :: l, hp, i + 1, h => adjP_at (y :: l) hp.2 i (by simpa using h)
  | [], _, i, h => by simp at h
  | [x], _, i, h => by simp at h
theorem goC_mem : ∀ (l : List α) (p x : α), x ∈ goC p l → x ∈ l
  | y :: l, p, x, h => by
    unfold goC at h
    split at h
    · exact List.mem_cons_of_mem _ (goC_mem l y x h)
    · rcases List.mem_cons.1 h with rfl | h
      · exact List.mem_cons_self
      · exact List.mem_cons_of_mem _ (goC_mem l y x h)
theorem compactL_mem {l : List α} {x : α} (h : x ∈ compactL l) : x ∈ l := by
  cases l with
  | nil => cases h
  | cons y l =>
    rcases List.mem_cons.1 h with rfl | h
    · exact List.mem_cons_self
    · exact List.mem_cons_of_mem _ (goC_mem l y x h)
theorem mem_goC : ∀ (l : List α) (p x : α), x ∈ l → x = p ∨ x ∈ goC p l
  | y :: l, p, x, h => by
    unfold goC
    split
    · rename_i hy
      rcases List.mem_cons.1 h with rfl | h
      · exact .inl hy
      · rw [← hy]; exact mem_goC l y x h
    · rcases List.mem_cons.1 h with rfl | h
      · exact .inr List.mem_cons_self
      · rcases mem_goC l y x h with rfl | h
        · exact .inr List.mem_cons_self
        · exact .inr (List.mem_cons_of_mem _ h)
theorem mem_compactL {l : List α} {x : α} (h : x ∈ l) : x ∈ compactL l := by
  cases l with
  | nil => cases h
  | cons y l =>
    rcases List.mem_cons.1 h with rfl | h
    · exact List.mem_cons_self
    · rcases mem_goC l y x h with rfl | h
      · exact List.mem_cons_self
      · exact List.mem_cons_of_mem _ h
theorem goC_len : ∀ (l : List α) (p : α), (goC p l).length ≤ l.length
  | [], _ => Nat.le_refl _
  | y :: l, p => by
    unfold goC
    have := goC_len l y
    split <;> simp <;> omega
theorem compactL_len (l : List α) : (compactL l).length ≤ l.length := by
  cases l with
  | nil => exact Nat.le_refl _
  | cons x l => have := goC_len l x; simp [compactL]; exact this
end
theorem cutO_in {len k : Nat} (h : k ≤ len) : cutO len (k : Int) = some k := by
  unfold cutO; rw [if_pos ⟨by omega, by omega⟩]; simp
theorem guardO_t {p : Bool} (h : p = true) : guardO p = some () := by rw [h]; rfl
theorem latTD {α : Type} (d : List α) {k m j : Nat} (h : j < m) : lat (List.take m (List.drop k d)) (j : Int) = d[k + j]? := by
  rw [lat_nat, List.getElem?_take, if_pos h, List.getElem?_drop]
theorem dist1_sp (n : Nat) (x y : Msg) (hx : x.2.2.2.2.length ≤ 1000) (hn : 2000 ≤ n) : beds_distinct_1_F n (x, (y, ())) = some (decide (x = y), ()) := by
  rw [beds_distinct_1_F_eq, cmpM_sp n x y hx hn]
  simp only [Option.bind_some]
  by_cases h : x = y
  · rw [iEq_t (cmpM_zero.2 h)]; simp [h]
  · rw [iEq_f (fun e => h (cmpM_zero.1 e))]; simp [h]
theorem comp_in (n k len : Nat) (hn : 2000 ≤ n) (hlen : len ≤ 1000) : ∀ (rest C G : List Msg) (prev : Msg) (k2 n' : Nat), k + k2 = C.length + G.length + 1 → C.length + G.length + 1 + rest.length = len → 1 ≤ k2 → rest.length < n' → (∀ z, z ∈ rest → z.2.2.2.2.length ≤ 1000) →
    ∃ E : List Msg, iterO n' (slices_CompactFunc_apiMessage_beds_distinct_1w_s1F n) (((), ()), ((C.length : Int), ((k2 : Int), ((C ++ (G ++ prev :: rest)), ((k, len - k), ()))))) = some (((C ++ goC prev rest).length : Int), ((C ++ goC prev rest) ++ E, ())) ∧ ((C ++ goC prev rest) ++ E).length = len := by
  intro rest
  induction rest with
  | nil =>
    intro C G prev k2 n' hk hlen2 h1 hn' hs
    obtain ⟨n', rfl⟩ : ∃ m, n' = m + 1 := ⟨n' - 1, by omega⟩
    rw [iterO_succ, slices_CompactFunc_apiMessage_beds_distinct_1w_s1F_eq]
    simp only [List.length_nil] at hlen2
    have : iLt (k2 : Int) ((len - k : Nat) : Int) = false := by unfold iLt; exact decide_eq_false (by omega)
    simp only [this, cond_false, goC, List.append_nil]
    exact ⟨G ++ [prev], rfl, by simp; omega⟩
  | cons y rest ih =>
    intro C G prev k2 n' hk hlen2 h1 hn' hs
    obtain ⟨n', rfl⟩ : ∃ m, n' = m + 1 := ⟨n' - 1, by omega⟩
    simp only [List.length_cons] at hlen2 hn'
    obtain ⟨k3, rfl⟩ : ∃ m, k2 = m + 1 := ⟨k2 - 1, by omega⟩
    have hA : (C ++ G).length = k + k3 := by simp; omega
    have e1 : (C ++ (G ++ prev :: y :: rest))[k + (k3 + 1)]? = some y := by
      rw [← List.append_assoc, ← Nat.add_assoc, ← hA]; exact app1 _ _ _ _
    have e0 : (C ++ (G ++ prev :: y :: rest))[k + k3]? = some prev := by
      rw [← List.append_assoc, ← hA]; exact app0 _ _ _ _
    have eC : ∃ z, (C ++ (G ++ prev :: y :: rest))[C.length]? = some z := by
      rw [List.getElem?_append_right (Nat.le_refl _), Nat.sub_self]
      cases G with
      | nil => exact ⟨_, rfl⟩
      | cons g G => exact ⟨_, rfl⟩
    obtain ⟨z, eC⟩ := eC
    rw [iterO_succ, slices_CompactFunc_apiMessage_beds_distinct_1w_s1F_eq]
    have hy := hs y List.mem_cons_self
    have hs' : ∀ z, z ∈ rest → z.2.2.2.2.length ≤ 1000 := fun z hz => hs z (List.mem_cons_of_mem _ hz)
    have c1 : iLt ((k3 + 1 : Nat) : Int) ((len - k : Nat) : Int) = true := by unfold iLt; exact decide_eq_true (by omega)
    simp only [c1, cond_true, latTD _ (show k3 + 1 < len - k by omega), iW_pred (show k3 < 9223372036854775807 by omega), latTD _ (show k3 < len - k by omega), toNat_cast, nAdd, e1, e0, Option.bind_some, dist1_sp n y prev hy hn, lat_nat, eC, iW_succ (show C.length < 9223372036854775807 by omega), iW_succ (show k3 + 1 < 9223372036854775807 by omega)]
    by_cases h : y = prev
    · simp only [h, decide_true, Bool.not_true, cond_false]
      obtain ⟨E, h2, h3⟩ := ih C (G ++ [prev]) prev (k3 + 1 + 1) n' (by simp; omega) (by simp; omega) (by omega) (by omega) hs'
      rw [goC, if_pos rfl]
      simp only [List.append_assoc, List.cons_append, List.nil_append] at h2 h3 ⊢
      exact ⟨E, h2, h3⟩
    · simp only [h, decide_false, Bool.not_false, cond_true]
      rw [goC, if_neg h]
      cases G with
      | nil =>
        simp only [List.nil_append, List.length_nil] at *
        obtain ⟨E, h2, h3⟩ := ih (C ++ [y]) [] y (k3 + 1 + 1) n' (by simp; omega) (by simp; omega) (by omega) (by omega) hs'
        simp only [List.nil_append, List.length_append, List.length_cons, List.length_nil, Nat.zero_add, List.append_assoc, List.cons_append] at h2 h3 ⊢
        refine ⟨E, ?_, by simpa using h3⟩
        rw [show (C ++ prev :: y :: rest).set C.length y = C ++ y :: y :: rest by simp]
        rw [h2]
      | cons g G =>
        obtain ⟨E, h2, h3⟩ := ih (C ++ [y]) (G ++ [prev]) y (k3 + 1 + 1) n' (by simp at *; omega) (by simp at *; omega) (by omega) (by omega) hs'
        simp only [List.length_append, List.length_cons, List.length_nil, Nat.zero_add, List.append_assoc, List.cons_append, List.nil_append] at h2 h3 ⊢
        refine ⟨E, ?_, by simpa using h3⟩
        rw [show (C ++ g :: (G ++ prev :: y :: rest)).set C.length y = C ++ y :: (G ++ prev :: y :: rest) by simp]
        rw [h2]
theorem comp_out (n len : Nat) (hn : 2000 ≤ n) (hlen : len ≤ 1000) : ∀ (rest A : List Msg) (p : Msg) (n' : Nat), A.length + 1 + rest.length = len → compactL (A ++ [p]) = A ++ [p] → rest.length < n' → (∀ z, z ∈ rest → z.2.2.2.2.length ≤ 1000) →
    ∃ (l2 : List Msg) (w : Nat), (Option.bind (iterO n' (slices_CompactFunc_apiMessage_beds_distinct_1w_s0F n) (((), ()), (((A.length + 1 : Nat) : Int), ((A ++ p :: rest), ())))) fun y => (Sum.elim (fun a => (some (a.1, (((0 : Nat), (List.length a.1)), ())))) (fun b => (some b)) y)) = some (l2, ((0, w), ())) ∧ w ≤ l2.length ∧ l2.take w = compactL (A ++ p :: rest) := by
  intro rest
  induction rest with
  | nil =>
    intro A p n' hl hc hn' hs
    obtain ⟨n', rfl⟩ : ∃ m, n' = m + 1 := ⟨n' - 1, by omega⟩
    rw [iterO_succ, slices_CompactFunc_apiMessage_beds_distinct_1w_s0F_eq]
    have : iLt ((A.length + 1 : Nat) : Int) ((List.length (A ++ [p]) : Nat) : Int) = false := by simp [iLt]
    simp only [this, cond_false, Option.bind_some, Sum.elim_inl]
    exact ⟨_, _, rfl, Nat.le_refl _, by rw [List.take_length, hc]⟩
  | cons y rest ih =>
    intro A p n' hl hc hn' hs
    obtain ⟨n', rfl⟩ : ∃ m, n' = m + 1 := ⟨n' - 1, by omega⟩
    simp only [List.length_cons] at hl hn'
    rw [iterO_succ, slices_CompactFunc_apiMessage_beds_distinct_1w_s0F_eq]
    have hy := hs y List.mem_cons_self
    have hs' : ∀ z, z ∈ rest → z.2.2.2.2.length ≤ 1000 := fun z hz => hs z (List.mem_cons_of_mem _ hz)
    have c1 : iLt ((A.length + 1 : Nat) : Int) ((List.length (A ++ p :: y :: rest) : Nat) : Int) = true := by unfold iLt; exact decide_eq_true (by simp; omega)
    have hL : (A ++ p :: y :: rest).length = len := by simp; omega
    simp only [c1, cond_true, lat_nat, toNat_cast, app1, app0, iW_pred (show A.length < 9223372036854775807 by omega), Option.bind_some, dist1_sp n y p hy hn]
    by_cases h : y = p
    · subst h
      simp only [decide_true, cond_true, hL, cutO_in (show A.length + 1 ≤ len by omega), Option.bind_some]
      obtain ⟨E, h2, h3⟩ := comp_in n (A.length + 1) len hn hlen rest (A ++ [y]) [] y 1 n (by simp) (by simp; omega) (by omega) (by omega) hs'
      simp only [List.nil_append, List.append_assoc, List.cons_append, List.length_append, List.length_cons, List.length_nil, Nat.zero_add] at h2 h3
      have e : (A ++ y :: y :: rest) = A ++ y :: (y :: rest) := rfl
      rw [show (((1 : Int), ((A ++ y :: y :: rest), ((A.length + 1, len - (A.length + 1)), ())))) = (((1 : Nat) : Int), ((A ++ y :: y :: rest), ((A.length + 1, len - (A.length + 1)), ()))) from rfl, h2]
      obtain ⟨D, hD⟩ : ∃ D, D = A ++ y :: goC y rest := ⟨_, rfl⟩
      have hDl : D.length = A.length + (goC y rest).length + 1 := by rw [hD]; simp; omega
      have hDE : A ++ (y :: (goC y rest ++ E)) = D ++ E := by rw [hD]; simp
      have hc2 : compactL (A ++ y :: y :: rest) = D := by rw [compactL_app A y (y :: rest), hc, goC, if_pos rfl, hD]; simp
      simp only [Option.bind_some]
      rw [hDE, show A.length + ((goC y rest).length + 1) = D.length by omega]
      have hEl : (D ++ E).length = len := by rw [← hDE]; simp at h3 ⊢; omega
      rw [cutO_in (by simp)]
      simp only [Option.bind_some]
      rw [guardO_t (by rw [Nat.ble_eq, hEl]; have : D.length ≤ len := by rw [← hEl]; simp
                       omega)]
      simp only [Option.bind_some]
      rw [cutO_in (by first | (simp [List.append_eq]; done) | (simp [List.append_eq]; omega))]
      simp only [Option.bind_some, Sum.elim_inr]
      refine ⟨_, _, rfl, by first | (simp [List.append_eq]; done) | (simp [List.append_eq]; omega), ?_⟩
      rw [hc2]
      simp [List.append_eq]
    · simp only [h, decide_false, cond_false, iW_succ (show A.length + 1 < 9223372036854775807 by omega)]
      obtain ⟨l2, w, h2, h3, h4⟩ := ih (A ++ [p]) y n' (by simp; omega) (by
        rw [List.append_assoc, List.cons_append, List.nil_append, compactL_app A p [y], hc, goC, if_neg h]
        simp [goC]) (by omega) hs'
      simp only [List.append_assoc, List.cons_append, List.nil_append, List.length_append, List.length_cons, List.length_nil, Nat.zero_add] at h2 h4
      exact ⟨l2, w, h2, h3, h4⟩
theorem compact_sp (n : Nat) (l : List Msg) (hl : l.length ≤ 1000) (hs : ∀ z, z ∈ l → z.2.2.2.2.length ≤ 1000) (hn : 2000 ≤ n) : ∃ (l2 : List Msg) (w : Nat), slices_CompactFunc_apiMessage_beds_distinct_1w_F n (((), ()), (l, ())) = some (l2, ((0, w), ())) ∧ w ≤ l2.length ∧ l2.take w = compactL l := by
  rw [slices_CompactFunc_apiMessage_beds_distinct_1w_F_eq]
  match l, hl, hs with
  | [], _, _ => exact ⟨[], 0, rfl, Nat.le_refl _, rfl⟩
  | [x], _, _ => exact ⟨[x], 1, rfl, Nat.le_refl _, rfl⟩
  | x :: y :: l, hl, hs =>
    have c : iLt ((List.length (x :: y :: l) : Nat) : Int) 2 = false := by unfold iLt; exact decide_eq_false (by simp; omega)
    simp only [c, cond_false]
    exact comp_out n (x :: y :: l).length hn hl (y :: l) [] x n (by simp; omega) rfl (by simp at hl ⊢; omega) (fun z hz => hs z (List.mem_cons_of_mem _ hz))
theorem grow_0 (n : Nat) : slices_Grow_apiMessage_raww_M n (Value.slice none 0 0, ((0 : Int), ())) = some ([], ()) := by kernel_rfl
theorem grow_1 (n : Nat) : slices_Grow_apiMessage_raww_M n (Value.slice none 0 0, ((1 : Int), ())) = some ([], ()) := by kernel_rfl
theorem grow_2 (n : Nat) : slices_Grow_apiMessage_raww_M n (Value.slice none 0 0, ((2 : Int), ())) = some ([], ()) := by kernel_rfl
theorem grow_3 (n : Nat) : slices_Grow_apiMessage_raww_M n (Value.slice none 0 0, ((3 : Int), ())) = some ([], ()) := by kernel_rfl
theorem grow_4 (n : Nat) : slices_Grow_apiMessage_raww_M n (Value.slice none 0 0, ((4 : Int), ())) = some ([], ()) := by kernel_rfl
theorem grow_5 (n : Nat) : slices_Grow_apiMessage_raww_M n (Value.slice none 0 0, ((5 : Int), ())) = some ([], ()) := by kernel_rfl
theorem grow_6 (n : Nat) : slices_Grow_apiMessage_raww_M n (Value.slice none 0 0, ((6 : Int), ())) = some ([], ()) := by kernel_rfl
theorem grow_7 (n : Nat) : slices_Grow_apiMessage_raww_M n (Value.slice none 0 0, ((7 : Int), ())) = some ([], ()) := by kernel_rfl
theorem grow_8 (n : Nat) : slices_Grow_apiMessage_raww_M n (Value.slice none 0 0, ((8 : Int), ())) = some ([], ()) := by kernel_rfl
theorem grow_9 (n : Nat) : slices_Grow_apiMessage_raww_M n (Value.slice none 0 0, ((9 : Int), ())) = some ([], ()) := by kernel_rfl
theorem grow_10 (n : Nat) : slices_Grow_apiMessage_raww_M n (Value.slice none 0 0, ((10 : Int), ())) = some ([], ()) := by kernel_rfl
theorem grow_11 (n : Nat) : slices_Grow_apiMessage_raww_M n (Value.slice none 0 0, ((11 : Int), ())) = some ([], ()) := by kernel_rfl
theorem grow_12 (n : Nat) : slices_Grow_apiMessage_raww_M n (Value.slice none 0 0, ((12 : Int), ())) = some ([], ()) := by kernel_rfl
theorem grow_sp (n : Nat) : ∀ k : Nat, k ≤ 12 → slices_Grow_apiMessage_raww_F n (Value.slice none 0 0, ((k : Int), ())) = some ([], ()) := by
  intro k hk
  unfold slices_Grow_apiMessage_raww_F
  match k, hk with
  | 0, _ => exact grow_0 n
  | 1, _ => exact grow_1 n
  | 2, _ => exact grow_2 n
  | 3, _ => exact grow_3 n
  | 4, _ => exact grow_4 n
  | 5, _ => exact grow_5 n
  | 6, _ => exact grow_6 n
  | 7, _ => exact grow_7 n
  | 8, _ => exact grow_8 n
  | 9, _ => exact grow_9 n
  | 10, _ => exact grow_10 n
  | 11, _ => exact grow_11 n
  | 12, _ => exact grow_12 n
theorem concat_sp (n : Nat) (l : List Msg) (hl : l.length ≤ 12) (hn : 2000 ≤ n) : slices_Concat_apiMessagew_F n ([l], ()) = some (l, ()) := by
  rw [slices_Concat_apiMessagew_F_eq]
  obtain ⟨n', rfl⟩ : ∃ m, n = m + 2 := ⟨n - 2, by omega⟩
  have e1 : iW (iAdd (0 : Int) (l.length : Int)) = (l.length : Int) := by rw [iW_in (by unfold iAdd; omega) (by unfold iAdd; omega)]; unfold iAdd; omega
  have e2 : iLt (l.length : Int) 0 = false := by unfold iLt; exact decide_eq_false (by omega)
  rw [iterO_succ, slices_Concat_apiMessagew_s0F_eq]
  simp only [show iLt (0 : Int) (([l] : List (List Msg)).length : Int) = true from rfl, cond_true, lat_zero, Option.bind_some, e1, e2, cond_false]
  rw [iterO_succ, slices_Concat_apiMessagew_s0F_eq]
  simp only [show iLt (iW (iAdd (0 : Int) 1)) (([l] : List (List Msg)).length : Int) = false from rfl, cond_false, Option.bind_some, grow_sp _ _ hl]
  rw [iterO_succ, slices_Concat_apiMessagew_s1F_eq]
  simp only [show iLt (0 : Int) (([l] : List (List Msg)).length : Int) = true from rfl, cond_true, lat_zero, Option.bind_some]
  rw [guardO_t (by rw [Nat.ble_eq]; unfold nAdd; simp; omega)]
  simp only [Option.bind_some]
  rw [iterO_succ, slices_Concat_apiMessagew_s1F_eq]
  simp only [show iLt (iW (iAdd (0 : Int) 1)) (([l] : List (List Msg)).length : Int) = false from rfl, cond_false, Option.bind_some]
  rfl
def distL (l : List Msg) : List Msg := compactL (isort (fun x y => decide (cmpM x y < 0)) l)
theorem distL_mem {l : List Msg} {x : Msg} : x ∈ distL l ↔ x ∈ l := ⟨fun h => (isort_perm _ l).mem_iff.1 (compactL_mem h), fun h => mem_compactL ((isort_perm _ l).mem_iff.2 h)⟩
theorem distL_len (l : List Msg) : (distL l).length ≤ l.length := Nat.le_trans (compactL_len _) (Nat.le_of_eq (isort_perm _ l).length_eq)
theorem distinct_sp (n : Nat) (l : List Msg) (hl : l.length ≤ 12) (hs : ∀ z, z ∈ l → z.2.2.2.2.length ≤ 1000) (hn : 2000 ≤ n) : beds_distinctw_F n ([l], ()) = some (distL l, ()) := by
  rw [beds_distinctw_F_eq, concat_sp n l hl hn]
  simp only [Option.bind_some]
  rw [sM_sort n l hs hl hn]
  simp only [Option.bind_some]
  have hp := isort_perm (fun x y => decide (cmpM x y < 0)) l
  obtain ⟨l2, w, h1, h2, h3⟩ := compact_sp n _ (by rw [hp.length_eq]; omega) (fun z hz => hs z (hp.mem_iff.1 hz)) hn
  rw [h1]
  simp only [Option.bind_some, show Nat.beq 0 0 = true from rfl, cond_true]
  rw [show Nat.ble w l2.length = true by rw [Nat.ble_eq]; exact h2, h3]
  rfl
theorem clashP_sp (n : Nat) (l : List Msg) (hl : l.length ≤ 1000) (ha : adjP l) (hc : ∀ x y, x ∈ l → y ∈ l → x.2.1 = y.2.1 → x.1 = y.1 → x = y) (hn : 2000 ≤ n) : beds_clash_F n (l, ()) = some (false, ()) := by
  rw [beds_clash_F_eq]
  have h1 := iterO_any (step := beds_clash_s0F n) l (fun k => (l, (l, ((l.length : Int), ((k : Int), ()))))) (fun _ => false) (.inr (true, ())) (.inl ()) (fun rec k hk => by
    rw [beds_clash_s0F_eq]
    simp only [iLt_nat hk, cond_true, lat_lt l hk, Option.bind_some, iW_succ (show k < 9223372036854775807 by omega), cond_false]
    cases k with
    | zero => rfl
    | succ k =>
      have hk' : k < l.length := by omega
      simp only [iGt_succ, cond_true, iW_pred (show k < 9223372036854775807 by omega), lat_lt l hk', Option.bind_some]
      by_cases h1 : l[k + 1].2.1 = l[k].2.1
      · rw [iEq_t h1]
        by_cases h2 : l[k + 1].1 = l[k].1
        · exact (adjP_at l ha k hk (hc _ _ (List.getElem_mem _) (List.getElem_mem _) h1 h2)).elim
        · rw [iEq_f h2]; rfl
      · rw [iEq_f h1]; rfl) (fun rec => by
    rw [beds_clash_s0F_eq]
    simp only [iLt_len, cond_false]) (n := n) (by omega)
  show Option.bind (iterO n _ (l, (l, ((l.length : Int), (((0 : Nat) : Int), ()))))) _ = _
  rw [h1, show (l.any fun _ => false) = false by rw [List.any_eq_false]; intro x hx; simp]
  rfl
theorem chainB_in {c : Chn} (h : chainB c = true) : 1 ≤ c.1.length ∧ c.1.length ≤ 6 ∧ 1 ≤ c.2 ∧ c.2 ≤ 20 := by
  unfold chainB at h
  simp only [Bool.and_eq_true, wi_true] at h
  omega
theorem checkP_sp (n : Nat) (c : Chn) (l : List Msg) (V : Vld c l) (hl : l.length ≤ 12) (hn : 2000 ≤ n) : beds_Check_F n (c, (l, ())) = some (0, ()) := by
  obtain ⟨h1, h2, h3, h4⟩ := chainB_in V.ch
  have hs : ∀ z, z ∈ l → z.2.2.2.2.length ≤ 1000 := fun z hz => by have := V.st z hz; omega
  obtain ⟨u, hu⟩ := mesContains_sp n c l (by omega) (by omega) (by omega) (by omega) hs hn
  rw [show (l.any fun m => !mesB c m) = false by rw [List.any_eq_false]; intro m hm; rw [V.ms m hm]; simp] at hu
  rw [beds_Check_F_eq, is_sp n c (by omega) hn, V.ch]
  simp only [Option.bind_some, Bool.not_true, cond_false]
  rw [beds_chain_messages_F_eq]
  have c1 : iGt (l.length : Int) 40 = false := by unfold iGt; exact decide_eq_false (by omega)
  simp only [c1, cond_false, hu, Option.bind_some, distinct_sp n l hl hs hn]
  rw [clashP_sp n (distL l) (by have := distL_len l; omega) (compactL_adj _) (fun x y hx hy => clashB_false V.cl x y (distL_mem.1 hx) (distL_mem.1 hy)) hn]
  rfl
end Go.Proofs.Ytcjgodgpaokbnaa

/- Beds, plain: the queue. -/
namespace Go.Proofs.Ytcjgodgpaokbnaa
set_option linter.constructorNameAsVariable false
set_option linter.unusedSimpArgs false
set_option linter.unusedVariables false
set_option linter.unusedSectionVars false
open Go Go.Proofs Go.RowKit
set_option maxHeartbeats 1000000
theorem clone_cons (n : Nat) (a : Ty.den T30) (l : List (Ty.den T30)) : slices_Clone_apiMessagew_M n (a :: l, ()) = Option.bind (guardO (Nat.ble (nAdd (0 : Nat) (List.length (a :: l))) 1000000)) fun _ => (some ((List.append [] (a :: l)), ())) := by kernel_rfl
theorem clone_no (n : Nat) : slices_Clone_apiMessageh_F n ([], ()) = some ([], ()) := by kernel_rfl
theorem clone_is (n : Nat) (a : Msg) (l : List Msg) : slices_Clone_apiMessageh_F n (a :: l, ()) = slices_Clone_apiMessagew_M n (a :: l, ()) := by kernel_rfl
theorem clone_sp (n : Nat) (l : List Msg) (hl : l.length ≤ 1000) : slices_Clone_apiMessageh_F n (l, ()) = some (l, ()) := by
  cases l with
  | nil => exact clone_no n
  | cons a l =>
    rw [clone_is]
    refine (clone_cons n a l).trans ?_
    rw [guardO_t (by rw [Nat.ble_eq]; exact Nat.le_trans (Nat.le_of_eq (Nat.zero_add _)) (Nat.le_trans hl (by decide)))]
    rfl
def canc (all : List Msg) (m : Msg) : Bool := all.any fun x => decide (x.1 = 2) && decide (x.2.1 = m.2.1)
def gone (all : List Msg) (m : Msg) : Bool := decide (m.1 = 2) || canc all m
theorem canc_sp (n : Nat) (all : List Msg) (m : Msg) (hl : all.length ≤ 1000) (hn : 2000 ≤ n) : ∃ u, slices_ContainsFunc_apiMessage_beds_queue_1_1w_F n (all, (m, ())) = some (canc all m, u) := by
  rw [slices_ContainsFunc_apiMessage_beds_queue_1_1w_F_eq, slices_IndexFunc_apiMessage_beds_queue_1_1w_F_eq]
  have h3 := iterO_find (step := slices_IndexFunc_apiMessage_beds_queue_1_1w_s0F n) all (fun k => (all, ((all.length : Int), ((k : Int), (m, ()))))) (fun x => decide (x.1 = 2) && decide (x.2.1 = m.2.1)) (fun k => .inr ((k : Int), (m, ()))) (.inl (m, ())) (fun rec k hk => by
    rw [slices_IndexFunc_apiMessage_beds_queue_1_1w_s0F_eq]
    simp only [iLt_nat hk, cond_true, lat_lt all hk, Option.bind_some, beds_queue_1_1w_F_eq, iW_succ (show k < 9223372036854775807 by omega)]
    by_cases h1 : all[k].1 = 2
    · rw [iEq_t h1]
      by_cases h2 : all[k].2.1 = m.2.1
      · rw [iEq_t h2]; simp [h1, h2]
      · rw [iEq_f h2]; simp [h2]
    · rw [iEq_f h1]; simp [h1]) (fun rec => by
    rw [slices_IndexFunc_apiMessage_beds_queue_1_1w_s0F_eq]
    simp only [iLt_len, cond_false]) (n := n) (by omega)
  show ∃ u, Option.bind (Option.bind (iterO n _ (all, ((all.length : Int), (((0 : Nat) : Int), (m, ()))))) _) _ = _
  unfold canc
  rcases h3 with ⟨h4, h5⟩ | ⟨k, hk, h4, _, h5⟩
  · rw [h5, h4]; exact ⟨_, rfl⟩
  · rw [h5, show (all.any fun x => decide (x.1 = 2) && decide (x.2.1 = m.2.1)) = true from List.any_eq_true.2 ⟨_, List.getElem_mem hk, h4⟩]
    refine ⟨(m, ()), ?_⟩
    show some (iGe (k : Int) 0, (m, ())) = _
    simp [iGe]
theorem gone_sp (n : Nat) (all : List Msg) (m : Msg) (hl : all.length ≤ 1000) (hn : 2000 ≤ n) : beds_queue_1w_F n (m, (all, ())) = some (gone all m, (all, ())) := by
  rw [beds_queue_1w_F_eq]
  unfold gone
  obtain ⟨u, hu⟩ := canc_sp n all m hl hn
  by_cases h : m.1 = 2
  · rw [iEq_t h]; simp [h]
  · rw [iEq_f h]
    simp only [cond_false, hu, Option.bind_some, h, decide_false, Bool.false_or]
theorem indexRow_sp (n : Nat) (all l : List Msg) (hl : l.length ≤ 1000) (ha : all.length ≤ 1000) (hn : 2000 ≤ n) :
    (l.any (gone all) = false ∧ slices_IndexFunc_apiMessage_row_beds_queue_1w_F n (l, (all, ())) = some (-1, (l, (all, ())))) ∨ (∃ k, ∃ hk : k < l.length, gone all l[k] = true ∧ (l.take k).any (gone all) = false ∧ slices_IndexFunc_apiMessage_row_beds_queue_1w_F n (l, (all, ())) = some ((k : Int), (l, (all, ())))) := by
  rw [slices_IndexFunc_apiMessage_row_beds_queue_1w_F_eq]
  have h3 := iterO_find (step := slices_IndexFunc_apiMessage_row_beds_queue_1w_s0F n) l (fun k => ((l.length : Int), ((k : Int), (l, (all, ()))))) (gone all) (fun k => .inr ((k : Int), (l, (all, ())))) (.inl (l, (all, ()))) (fun rec k hk => by
    rw [slices_IndexFunc_apiMessage_row_beds_queue_1w_s0F_eq]
    simp only [iLt_nat hk, cond_true, lat_lt l hk, toNat_cast, List.getElem?_eq_getElem hk, Option.bind_some, gone_sp n all _ ha hn, iW_succ (show k < 9223372036854775807 by omega)]) (fun rec => by
    rw [slices_IndexFunc_apiMessage_row_beds_queue_1w_s0F_eq]
    simp only [iLt_len, cond_false]) (n := n) (by omega)
  rcases h3 with ⟨h4, h5⟩ | ⟨k, hk, h4, h6, h5⟩
  · refine .inl ⟨h4, ?_⟩
    show Option.bind (iterO n _ ((l.length : Int), (((0 : Nat) : Int), (l, (all, ()))))) _ = _
    rw [h5]; rfl
  · refine .inr ⟨k, hk, h4, h6, ?_⟩
    show Option.bind (iterO n _ ((l.length : Int), (((0 : Nat) : Int), (l, (all, ()))))) _ = _
    rw [h5]; rfl
theorem del_in (n len : Nat) (all : List Msg) (ha : all.length ≤ 1000) (hn : 2000 ≤ n) (hlen : len ≤ 1000) : ∀ (rest C G : List Msg) (g : Msg) (n' : Nat), C.length + G.length + 1 + rest.length = len → rest.length < n' →
    ∃ E : List Msg, iterO n' (slices_DeleteFunc_apiMessage_beds_queue_1w_s0F n) ((C.length : Int), (((C.length + (G.length + 1) : Nat) : Int), ((C ++ (g :: (G ++ rest))), (all, ())))) = some (((C ++ rest.filter fun m => !gone all m).length : Int), ((C ++ rest.filter fun m => !gone all m) ++ E, (all, ()))) ∧ ((C ++ rest.filter fun m => !gone all m) ++ E).length = len := by
  intro rest
  induction rest with
  | nil =>
    intro C G g n' hl hn'
    obtain ⟨n', rfl⟩ : ∃ m, n' = m + 1 := ⟨n' - 1, by omega⟩
    rw [iterO_succ, slices_DeleteFunc_apiMessage_beds_queue_1w_s0F_eq]
    have : iLt ((C.length + (G.length + 1) : Nat) : Int) ((List.length (C ++ g :: G) : Nat) : Int) = false := by unfold iLt; exact decide_eq_false (by simp)
    simp only [this, cond_false, List.append_nil, List.filter_nil]
    exact ⟨g :: G, rfl, by simp at hl ⊢; omega⟩
  | cons y rest ih =>
    intro C G g n' hl hn'
    obtain ⟨n', rfl⟩ : ∃ m, n' = m + 1 := ⟨n' - 1, by omega⟩
    simp only [List.length_cons] at hl hn'
    have e1 : (C ++ g :: (G ++ y :: rest))[C.length + (G.length + 1)]? = some y := by
      rw [List.getElem?_append_right (by omega), show C.length + (G.length + 1) - C.length = G.length + 1 by omega, List.getElem?_cons_succ, List.getElem?_append_right (Nat.le_refl _), Nat.sub_self]; rfl
    have e0 : (C ++ g :: (G ++ y :: rest))[C.length]? = some g := by simp
    have c1 : iLt ((C.length + (G.length + 1) : Nat) : Int) ((List.length (C ++ g :: (G ++ y :: rest)) : Nat) : Int) = true := by unfold iLt; exact decide_eq_true (by simp; omega)
    rw [iterO_succ, slices_DeleteFunc_apiMessage_beds_queue_1w_s0F_eq]
    simp only [c1, cond_true, lat_nat, toNat_cast, e1, e0, Option.bind_some, gone_sp n all y ha hn, iW_succ (show C.length < 9223372036854775807 by omega), iW_succ (show C.length + (G.length + 1) < 9223372036854775807 by omega)]
    cases hg : gone all y with
    | true =>
      simp only [Bool.not_true, cond_false]
      obtain ⟨E, h2, h3⟩ := ih C (G ++ [y]) g n' (by simp; omega) (by omega)
      rw [List.filter_cons_of_neg (by simp [hg])]
      simp only [List.append_assoc, List.cons_append, List.nil_append, List.length_append, List.length_cons, List.length_nil, Nat.zero_add] at h2 h3 ⊢
      exact ⟨E, h2, h3⟩
    | false =>
      simp only [Bool.not_false, cond_true]
      rw [List.filter_cons_of_pos (by simp [hg]), show (C ++ g :: (G ++ y :: rest)).set C.length y = C ++ y :: (G ++ y :: rest) by simp]
      cases G with
      | nil =>
        obtain ⟨E, h2, h3⟩ := ih (C ++ [y]) [] y n' (by simp at hl ⊢; omega) (by omega)
        simp only [List.append_assoc, List.cons_append, List.nil_append, List.length_append, List.length_cons, List.length_nil, Nat.zero_add] at h2 h3 ⊢
        exact ⟨E, h2, h3⟩
      | cons g2 G =>
        obtain ⟨E, h2, h3⟩ := ih (C ++ [y]) (G ++ [y]) g2 n' (by simp at hl ⊢; omega) (by omega)
        simp only [List.append_assoc, List.cons_append, List.nil_append, List.length_append, List.length_cons, List.length_nil, Nat.zero_add] at h2 h3 ⊢
        refine ⟨E, ?_, h3⟩
        rw [← h2, show C.length + (G.length + 1 + 1) + 1 = C.length + 1 + (G.length + 1 + 1) by omega]
theorem filter_take {l : List Msg} {k : Nat} {p : Msg → Bool} (hk : k < l.length) (h1 : p l[k] = true) (h2 : (l.take k).any p = false) : l.filter (fun m => !p m) = l.take k ++ (l.drop (k + 1)).filter fun m => !p m := by
  have e : l = l.take k ++ l[k] :: l.drop (k + 1) := by simp
  conv => lhs; rw [e]
  rw [List.filter_append, List.filter_cons_of_neg (by simp [h1])]
  congr 1
  rw [List.filter_eq_self]
  intro x hx
  rw [List.any_eq_false] at h2
  have := h2 x hx
  simpa using this
theorem delete_sp (n : Nat) (all l : List Msg) (hl : l.length ≤ 1000) (ha : all.length ≤ 1000) (hn : 2000 ≤ n) : ∃ (l2 : List Msg) (w : Nat), slices_DeleteFunc_apiMessage_beds_queue_1w_F n (l, (all, ())) = some (l2, (all, ((0, w), ()))) ∧ w ≤ l2.length ∧ l2.take w = l.filter fun m => !gone all m := by
  rw [slices_DeleteFunc_apiMessage_beds_queue_1w_F_eq]
  rcases indexRow_sp n all l hl ha hn with ⟨h1, h2⟩ | ⟨k, hk, h1, h3, h2⟩
  · rw [h2]
    refine ⟨l, l.length, rfl, Nat.le_refl _, ?_⟩
    rw [List.take_length, eq_comm, List.filter_eq_self]
    intro x hx
    rw [List.any_eq_false] at h1
    simpa using h1 x hx
  · rw [h2]
    simp only [Option.bind_some]
    rw [show iEq (k : Int) (Int.negSucc 0) = false from iEq_f (by omega)]
    simp only [cond_false, iW_succ (show k < 9223372036854775807 by omega)]
    obtain ⟨E, h4, h5⟩ := del_in n l.length all ha hn hl (l.drop (k + 1)) (l.take k) [] l[k] n (by simp; omega) (by simp; omega)
    rw [List.nil_append] at h4
    rw [show l.take k ++ l[k] :: l.drop (k + 1) = l by simp, List.length_take, Nat.min_eq_left (Nat.le_of_lt hk)] at h4
    rw [← filter_take hk h1 h3] at h4 h5
    rw [show k + (([] : List Msg).length + 1) = k + 1 by rfl] at h4
    rw [h4]
    simp only [Option.bind_some]
    obtain ⟨D, hD⟩ : ∃ D, D = l.filter fun m => !gone all m := ⟨_, rfl⟩
    rw [← hD] at h5 ⊢
    rw [cutO_in (by simp)]
    simp only [Option.bind_some]
    rw [guardO_t (by rw [Nat.ble_eq, h5]; have : D.length ≤ l.length := by rw [← h5]; simp
                     omega)]
    simp only [Option.bind_some]
    rw [cutO_in (by first | (simp [List.append_eq]; done) | (simp [List.append_eq]; omega))]
    simp only [Option.bind_some]
    refine ⟨_, _, rfl, by first | (simp [List.append_eq]; done) | (simp [List.append_eq]; omega), ?_⟩
    simp [List.append_eq]
def qlt (x y : Msg) : Bool := decide (cmpQ x y < 0)
def keptL (l : List Msg) : List Msg := (distL l).filter fun m => !gone (distL l) m
def queueL (l : List Msg) : List Msg := isort qlt (keptL l)
theorem queueL_mem {l : List Msg} {x : Msg} : x ∈ queueL l ↔ x ∈ l ∧ gone (distL l) x = false := by
  unfold queueL keptL
  rw [(isort_perm _ _).mem_iff, List.mem_filter, distL_mem]
  simp
theorem queueL_len (l : List Msg) : (queueL l).length ≤ l.length := by
  unfold queueL keptL
  rw [(isort_perm _ _).length_eq]
  exact Nat.le_trans (List.length_filter_le _ _) (distL_len l)
theorem queue_sp (n : Nat) (l : List Msg) (hl : l.length ≤ 12) (hs : ∀ z, z ∈ l → z.2.2.2.2.length ≤ 1000) (hn : 2000 ≤ n) : beds_queue_F n (l, ()) = some (queueL l, ()) := by
  have hd := distL_len l
  rw [beds_queue_F_eq]
  simp only [distinct_sp n l hl hs hn, Option.bind_some, clone_sp n (distL l) (by omega)]
  obtain ⟨l2, w, h1, h2, h3⟩ := delete_sp n (distL l) (distL l) (by omega) (by omega) hn
  rw [h1]
  simp only [Option.bind_some, show Nat.beq 0 0 = true from rfl, cond_true]
  rw [show Nat.ble w l2.length = true by rw [Nat.ble_eq]; exact h2, h3]
  simp only [cond_true]
  show Option.bind (slices_SortFunc_apiMessage_beds_queue_2w_F n (((), ()), (keptL l, ()))) _ = _
  rw [sQ_sort n (keptL l) (by unfold keptL; exact Nat.le_trans (List.length_filter_le _ _) (by omega)) hn]
  rfl
end Go.Proofs.Ytcjgodgpaokbnaa

/- Beds, plain: the office. -/
namespace Go.Proofs.Ytcjgodgpaokbnaa
set_option linter.constructorNameAsVariable false
set_option linter.unusedSimpArgs false
set_option linter.unusedVariables false
set_option linter.unusedSectionVars false
open Go Go.Proofs Go.RowKit
set_option maxHeartbeats 1000000
abbrev Spot := Int × Int
abbrev Used := List (Spot × Int)
def valL (x : Spot) : Used → Int
  | [] => 0
  | p :: l => if x = p.1 then p.2 else valL x l
def putL (x : Spot) (v : Int) : Used → Used
  | [] => [(x, v)]
  | p :: l => if x = p.1 then (p.1, v) :: l else p :: putL x v l
def hasU (x : Spot) : Used → Bool
  | [] => false
  | p :: l => if x = p.1 then true else hasU x l
def ixL (x : Spot) : Used → Nat
  | [] => 0
  | p :: l => if x = p.1 then 0 else ixL x l + 1
theorem eqSpot (a b : Spot) : Ty.eqB T80 a b = decide (a = b) := by
  obtain ⟨a1, a2⟩ := a
  obtain ⟨b1, b2⟩ := b
  show ((a1 == b1) && (a2 == b2)) = _
  by_cases h1 : a1 = b1 <;> by_cases h2 : a2 = b2 <;> simp [h1, h2]
theorem at_is (x : Spot) : ∀ (l : Used) (i : Nat), mpAt T80 x l i = if hasU x l then some (i + ixL x l, valL x l) else none
  | [], _ => rfl
  | p :: l, i => by
    unfold hasU ixL valL
    show (match T80.eqB x p.1 with
      | true => some (i, p.2)
      | false => mpAt T80 x l (i + 1)) = _
    rw [show T80.eqB x p.1 = decide (x = p.1) from eqSpot x p.1]
    by_cases h : x = p.1
    · rw [if_pos h, if_pos h, if_pos h, show decide (x = p.1) = true from decide_eq_true h]
      rfl
    · rw [if_neg h, if_neg h, if_neg h, show decide (x = p.1) = false from decide_eq_false h]
      show mpAt T80 x l (i + 1) = _
      rw [at_is x l (i + 1)]
      congr 2
      rw [show i + 1 + ixL x l = i + (ixL x l + 1) by omega]
theorem val_no {x : Spot} {v : Int} : ∀ {l : Used}, hasU x l = false → valL x l = 0 ∧ putL x v l = l ++ [(x, v)] ∧ ixL x l = l.length
  | [], _ => ⟨rfl, rfl, rfl⟩
  | p :: l, h => by
    unfold hasU at h
    split at h
    · cases h
    · rename_i hx
      obtain ⟨h1, h2, h3⟩ := val_no (v := v) h
      unfold valL putL ixL
      rw [if_neg hx, if_neg hx, if_neg hx, h1, h2, h3]
      exact ⟨rfl, rfl, rfl⟩
theorem put_yes {x : Spot} {v : Int} : ∀ {l : Used}, hasU x l = true → mpSet (ixL x l) v l = putL x v l ∧ ixL x l < l.length
  | [], h => by cases h
  | p :: l, h => by
    unfold hasU at h
    unfold ixL putL
    split at h
    · rename_i hx
      rw [if_pos hx, if_pos hx]
      exact ⟨rfl, by simp⟩
    · rename_i hx
      rw [if_neg hx, if_neg hx]
      obtain ⟨h1, h2⟩ := put_yes (v := v) h
      refine ⟨?_, by simp; omega⟩
      rw [← h1]
      simp [mpSet]
theorem mpVal_is (x : Spot) (l : Used) : mpVal T80 (0 : Int) x l = valL x l := by
  unfold mpVal
  rw [at_is x l 0]
  cases h : hasU x l with
  | true => rfl
  | false => exact (val_no (v := 0) h).1.symm
theorem mpIx_is (x : Spot) (l : Used) : mpIx T80 x l = ixL x l := by
  unfold mpIx
  rw [at_is x l 0]
  cases h : hasU x l with
  | true => show 0 + ixL x l = _; omega
  | false => exact (val_no (v := 0) h).2.2.symm
theorem mpIns_is (x : Spot) (l : Used) : mpIns T80 (0 : Int) x l = if hasU x l then l else l ++ [(x, 0)] := by
  unfold mpIns
  rw [at_is x l 0]
  cases h : hasU x l with
  | true => rfl
  | false => rfl
theorem mod_end {α : Type} (a : α) (f : α → α) : ∀ l : List α, List.modify (l ++ [a]) l.length f = l ++ [f a]
  | [] => rfl
  | b :: l => by
    have := mod_end a f l
    simp only [List.cons_append, List.length_cons, List.modify_succ_cons, this]
theorem len_end {α : Type} (a : α) (l : List α) : l.length < (l ++ [a]).length := by simp
theorem put_is (x : Spot) (v : Int) (l : Used) : mpSet (ixL x l) v (mpIns T80 (0 : Int) x l) = putL x v l ∧ ixL x l < (mpIns T80 (0 : Int) x l).length := by
  rw [mpIns_is]
  cases h : hasU x l with
  | true => exact put_yes h
  | false =>
    obtain ⟨_, h2, h3⟩ := val_no (v := v) h
    rw [h2, h3]
    exact ⟨mod_end (x, (0 : Int)) (fun p => (p.1, v)) l, len_end (x, (0 : Int)) l⟩
theorem valL_put (x z : Spot) (v : Int) : ∀ (l : Used), valL z (putL x v l) = if z = x then v else valL z l
  | [] => by simp [putL, valL]
  | p :: l => by
    unfold putL
    split
    · rename_i hx
      unfold valL
      by_cases h : z = x
      · rw [if_pos h, if_pos (by rw [h, hx])]
      · rw [if_neg h, if_neg (by rw [← hx]; exact h), if_neg (by rw [← hx]; exact h)]
    · rename_i hx
      unfold valL
      by_cases h : z = p.1
      · rw [if_pos h, if_pos h, if_neg (fun e => hx (by rw [← e, h]))]
      · rw [if_neg h, if_neg h, valL_put x z v l]
def addU (p : Int) (sps : List Spot) (u : Used) : Used := sps.foldl (fun u s => putL s (valL s u + p) u) u
theorem valL_add (p : Int) (z : Spot) : ∀ (sps : List Spot) (u : Used), sps.Nodup → valL z (addU p sps u) = if z ∈ sps then valL z u + p else valL z u
  | [], u, _ => by simp [addU]
  | s :: sps, u, hn => by
    rw [List.nodup_cons] at hn
    have ih := valL_add p z sps (putL s (valL s u + p) u) hn.2
    show valL z (addU p sps (putL s (valL s u + p) u)) = _
    rw [ih, valL_put]
    by_cases h : z = s
    · subst h
      rw [if_neg hn.1]
      simp
    · simp [h]
theorem spotsOf_mem (h : Int) : ∀ (n : Nat) (lo : Int) (s : Spot), s ∈ spotsOf h lo n → s.1 = h ∧ lo ≤ s.2 ∧ s.2 < lo + n
  | n + 1, lo, s, hs => by
    rcases List.mem_cons.1 hs with rfl | hs
    · exact ⟨rfl, by simp, by simp; omega⟩
    · obtain ⟨h1, h2, h3⟩ := spotsOf_mem h n (lo + 1) s hs
      exact ⟨h1, by omega, by omega⟩
theorem spotsOf_nodup (h : Int) : ∀ (n : Nat) (lo : Int), (spotsOf h lo n).Nodup
  | 0, _ => List.nodup_nil
  | n + 1, lo => by
    rw [spotsOf, List.nodup_cons]
    refine ⟨fun hm => ?_, spotsOf_nodup h n (lo + 1)⟩
    have := (spotsOf_mem h n (lo + 1) _ hm).2.1
    simp at this
    omega
theorem spotsL_ok (nh nn : Int) : ∀ (ss : List Stay) (last : Int), staysB nh nn last ss = true → (∀ s, s ∈ spotsL ss → (0 ≤ s.1 ∧ s.1 ≤ nh - 1) ∧ last < s.2 ∧ s.2 < nn) ∧ (spotsL ss).Nodup ∧ (∀ s, s ∈ ss → last < s.2.1 ∧ s.2.2 < nn)
  | [], _, _ => ⟨fun s hs => (by cases hs), List.nodup_nil, fun s hs => (by cases hs)⟩
  | s :: ss, last, h => by
    unfold staysB at h
    simp only [Bool.and_eq_true, decide_eq_true_eq, wi_true] at h
    obtain ⟨⟨h1, h2, h3, h4⟩, h5⟩ := h
    obtain ⟨i1, i2, i3⟩ := spotsL_ok nh nn ss s.2.2 h5
    have hm : ∀ z, z ∈ spotsN s → z.1 = s.1 ∧ s.2.1 ≤ z.2 ∧ z.2 ≤ s.2.2 := fun z hz => by
      obtain ⟨a, b, c⟩ := spotsOf_mem _ _ _ _ hz
      exact ⟨a, b, by omega⟩
    refine ⟨fun z hz => ?_, ?_, fun z hz => ?_⟩
    · rcases List.mem_append.1 hz with hz | hz
      · obtain ⟨a, b, c⟩ := hm z hz
        exact ⟨by rw [a]; exact h1, by omega, by omega⟩
      · obtain ⟨a, b, c⟩ := i1 z hz
        exact ⟨a, by omega, c⟩
    · show (spotsN s ++ spotsL ss).Nodup
      rw [List.nodup_append]
      refine ⟨spotsOf_nodup _ _ _, i2, fun x hx y hy e => ?_⟩
      subst e
      have := hm x hx
      have := i1 x hy
      omega
    · rcases List.mem_cons.1 hz with rfl | hz
      · exact ⟨h2, h4⟩
      · have := i3 z hz
        exact ⟨by omega, this.2⟩
def bedsOf (c : Chn) (h : Int) : Int := match lat c.1 h with
  | some y => y.1
  | none => 0
def okS (c : Chn) (s : Spot) : Prop := 0 ≤ s.1 ∧ s.1 ≤ (c.1.length : Int) - 1
theorem hut_at {c : Chn} (hc : chainB c = true) {s : Spot} (h : okS c s) : ∃ y, lat c.1 s.1 = some y ∧ hutB y = true ∧ bedsOf c s.1 = y.1 := by
  unfold okS at h
  obtain ⟨k, hk⟩ : ∃ k : Nat, s.1 = k := ⟨s.1.toNat, by omega⟩
  have hlt : k < c.1.length := by omega
  have e : lat c.1 s.1 = some (c.1[k]) := by rw [hk, lat_lt c.1 hlt]
  refine ⟨_, e, ?_, by unfold bedsOf; rw [e]⟩
  unfold chainB at hc
  simp only [Bool.and_eq_true, List.all_eq_true] at hc
  exact hc.1 _ (List.getElem_mem hlt)
def lft (c : Chn) (u : Used) (s : Spot) : Int := bedsOf c s.1 - valL s u
theorem left_sp (n : Nat) (c : Chn) (hc : chainB c = true) (a w : List Msg) (u : Used) (s : Spot) (hs : okS c s) (h1 : -1000 ≤ valL s u) (h2 : valL s u ≤ 1000) : Pbeds_office_leftw_F n (s, ((c, ()), (a, (w, (u, ()))))) = some (lft c u s, ((c, ()), (a, (w, (u, ()))))) := by
  obtain ⟨y, e1, e2, e3⟩ := hut_at hc hs
  unfold hutB at e2
  simp only [Bool.and_eq_true, wi_true] at e2
  rw [Pbeds_office_leftw_F_eq]
  simp only [e1, Option.bind_some, mpVal_is]
  rw [iW_in (by unfold iSub; omega) (by unfold iSub; omega)]
  unfold lft iSub
  rw [e3]
def shortB (c : Chn) (u : Used) (m : Msg) : Bool := (spotsL m.2.2.2.2).any fun s => decide (m.2.2.2.1 - lft c u s > 0)
theorem short_in (n : Nat) (c : Chn) (hc : chainB c = true) (a w : List Msg) (u : Used) (m : Msg) (hp : 0 ≤ m.2.2.2.1 ∧ m.2.2.2.1 ≤ 1000) : ∀ (sps : List Spot), (∀ s, s ∈ sps → okS c s ∧ -1000 ≤ valL s u ∧ valL s u ≤ 1000) →
    ((sps.any fun s => decide (m.2.2.2.1 - lft c u s > 0)) = false ∧ rgF (Pbeds_office_shortw_s0F n) (sps.map fun y => (y, ())) ((c, ()), (a, (w, (u, (m, (((0 : Int), (0 : Int)), ((0 : Int), ()))))))) = some (.inl ((c, ()), (a, (w, (u, (m, (((0 : Int), (0 : Int)), ((0 : Int), ())))))))))
    ∨ (∃ (sp : Spot) (k : Int), (sps.any fun s => decide (m.2.2.2.1 - lft c u s > 0)) = true ∧ 0 < k ∧ rgF (Pbeds_office_shortw_s0F n) (sps.map fun y => (y, ())) ((c, ()), (a, (w, (u, (m, (((0 : Int), (0 : Int)), ((0 : Int), ()))))))) = some (.inr ((c, ()), (a, (w, (u, (sp, (k, ()))))))))
  | [], _ => .inl ⟨rfl, rfl⟩
  | s :: sps, h => by
    obtain ⟨h1, h2, h3⟩ := h s List.mem_cons_self
    have ih := short_in n c hc a w u m hp sps fun z hz => h z (List.mem_cons_of_mem _ hz)
    obtain ⟨y, e1, e2, e3⟩ := hut_at hc h1
    unfold hutB at e2
    simp only [Bool.and_eq_true, wi_true] at e2
    have hl : -2000 ≤ lft c u s ∧ lft c u s ≤ 2000 := by unfold lft; rw [e3]; omega
    rw [List.map_cons, rgF, Pbeds_office_shortw_s0F_eq]
    simp only [left_sp n c hc a w u s h1 h2 h3, Option.bind_some]
    rw [iW_in (n := iSub m.2.2.2.1 (lft c u s)) (by unfold iSub; omega) (by unfold iSub; omega)]
    by_cases h4 : m.2.2.2.1 - lft c u s > 0
    · refine .inr ⟨s, iSub m.2.2.2.1 (lft c u s), by rw [List.any_cons, decide_eq_true h4]; rfl, h4, ?_⟩
      rw [show iGt (iSub m.2.2.2.1 (lft c u s)) 0 = true from decide_eq_true h4]
      rfl
    · rw [show iGt (iSub m.2.2.2.1 (lft c u s)) 0 = false from decide_eq_false h4, List.any_cons, decide_eq_false h4, Bool.false_or]
      exact ih
structure MsgOk (c : Chn) (m : Msg) : Prop where
  p1 : 1 ≤ m.2.2.2.1
  p2 : m.2.2.2.1 ≤ 20
  sp : ∀ s, s ∈ spotsL m.2.2.2.2 → okS c s
  nd : (spotsL m.2.2.2.2).Nodup
  sd : spotsD m.2.2.2.2 = some ((spotsL m.2.2.2.2).map spotY)
theorem msgOk_of {c : Chn} {m : Msg} (hc : chainB c = true) (h : mesB c m = true) (hk : m.1 ≠ 2) : MsgOk c m := by
  obtain ⟨c1, c2, c3, c4⟩ := chainB_in hc
  unfold mesB canB reqB at h
  rw [show decide (m.1 = 2) = false from decide_eq_false hk] at h
  simp only [Bool.false_and, Bool.false_or, Bool.and_eq_true, decide_eq_true_eq, wi_true] at h
  obtain ⟨h0, h1, h2, h3, h4, h5⟩ := h
  obtain ⟨i1, i2, i3⟩ := spotsL_ok _ _ _ _ h5
  refine ⟨h3.1, h3.2, fun s hs => (i1 s hs).1, i2, ?_⟩
  unfold spotsD
  rw [show spotsB m.2.2.2.2 = true from ?_]
  · rfl
  · unfold spotsB
    simp only [Bool.and_eq_true, Nat.ble_eq, List.all_eq_true, decide_eq_true_eq]
    exact ⟨by omega, fun s hs => by have := i3 s hs; omega⟩
def Inv (c : Chn) (u : Used) : Prop := ∀ s, okS c s → 0 ≤ valL s u ∧ valL s u ≤ bedsOf c s.1
theorem Inv.b {c : Chn} {u : Used} (h : Inv c u) (hc : chainB c = true) {s : Spot} (hs : okS c s) : 0 ≤ valL s u ∧ valL s u ≤ 20 := by
  obtain ⟨y, e1, e2, e3⟩ := hut_at hc hs
  unfold hutB at e2
  simp only [Bool.and_eq_true, wi_true] at e2
  have := h s hs
  rw [e3] at this
  omega
theorem short_sp (n : Nat) (c : Chn) (hc : chainB c = true) (a w : List Msg) (u : Used) (m : Msg) (hm : MsgOk c m) (hu : Inv c u) : ∃ (sp : Spot) (k : Int), Pbeds_office_shortw_F n (m, ((c, ()), (a, (w, (u, ()))))) = some (sp, (k, ((c, ()), (a, (w, (u, ())))))) ∧ iGt k 0 = shortB c u m := by
  rw [Pbeds_office_shortw_F_eq, beds_spots_F_eq]
  simp only [Option.bind_some, hm.sd]
  have hp := hm.p1
  have hp2 := hm.p2
  have := short_in n c hc a w u m (by omega) (spotsL m.2.2.2.2) (fun s hs => by have := hu.b hc (hm.sp s hs); exact ⟨hm.sp s hs, by omega, by omega⟩)
  rcases this with ⟨h1, h2⟩ | ⟨sp, k, h1, h2, h3⟩
  · refine ⟨(0, 0), 0, ?_, ?_⟩
    · refine (congrArg (fun o => Option.bind o _) h2).trans ?_
      rfl
    · unfold shortB; rw [h1]; rfl
  · refine ⟨sp, k, ?_, ?_⟩
    · refine (congrArg (fun o => Option.bind o _) h3).trans ?_
      rfl
    · unfold shortB; rw [h1]; exact decide_eq_true h2
theorem add_in (n : Nat) (q : List Msg) (ln i : Int) (c : Chn) (a w : List Msg) (m : Msg) (hp : 0 ≤ m.2.2.2.1 ∧ m.2.2.2.1 ≤ 1000) : ∀ (sps : List Spot) (u : Used), sps.Nodup → (∀ s, s ∈ sps → -1000 ≤ valL s u ∧ valL s u ≤ 1000) →
    rgF (beds_decide_nilw_s1F n) (sps.map fun y => (y, ())) (q, (ln, (i, ((c, ()), (a, (w, (u, (m, ())))))))) = some (.inl (q, (ln, (i, ((c, ()), (a, (w, (addU m.2.2.2.1 sps u, (m, ()))))))))) 
  | [], u, _, _ => rfl
  | s :: sps, u, hn, h => by
    obtain ⟨h1, h2⟩ := h s List.mem_cons_self
    rw [List.nodup_cons] at hn
    obtain ⟨p1, p2⟩ := put_is s (valL s u + m.2.2.2.1) u
    rw [List.map_cons, rgF, beds_decide_nilw_s1F_eq]
    simp only [mpIx_is, mpVal_is]
    rw [cutO_in (by omega)]
    simp only [Option.bind_some]
    rw [guardO_t (by rw [Nat.ble_eq]; unfold nAdd; omega)]
    simp only [Option.bind_some]
    rw [iW_in (n := iAdd (valL s u) m.2.2.2.1) (by unfold iAdd; omega) (by unfold iAdd; omega)]
    refine Eq.trans (congrArg (fun z : Used => rgF (beds_decide_nilw_s1F n) (sps.map fun y => (y, ())) (q, (ln, (i, ((c, ()), (a, (w, (z, (m, ()))))))))) p1) ?_
    exact add_in n q ln i c a w m hp sps _ hn.2 fun z hz => by
      have : z ≠ s := fun e => hn.1 (by rw [← e]; exact hz)
      rw [valL_put, if_neg this]
      exact h z (List.mem_cons_of_mem _ hz)
abbrev DecS := List Msg × (List Msg × Used)
def dcF (c : Chn) (d : DecS) (m : Msg) : DecS := if shortB c d.2.2 m then (d.1, (d.2.1 ++ [m], d.2.2)) else (d.1 ++ [m], (d.2.1, addU m.2.2.2.1 (spotsL m.2.2.2.2) d.2.2))
theorem decF_inv {c : Chn} {d : DecS} {m : Msg} (hm : MsgOk c m) (h : Inv c d.2.2) : Inv c (dcF c d m).2.2 := by
  unfold dcF
  split
  · exact h
  · rename_i hs
    intro s hsp
    show 0 ≤ valL s (addU m.2.2.2.1 (spotsL m.2.2.2.2) d.2.2) ∧ valL s (addU m.2.2.2.1 (spotsL m.2.2.2.2) d.2.2) ≤ _
    rw [valL_add _ _ _ _ hm.nd]
    have h1 := h s hsp
    have := hm.p1
    split
    · rename_i hmem
      simp only [shortB, List.any_eq_true, decide_eq_true_eq, not_exists, not_and] at hs
      have := hs s hmem
      unfold lft at this
      omega
    · exact h1
theorem dec_in (n : Nat) (c : Chn) (hc : chainB c = true) (q : List Msg) (hq : ∀ m, m ∈ q → MsgOk c m) (hl : q.length ≤ 1000) : ∀ (j k : Nat) (d : DecS) (n' : Nat), k + j = q.length → j < n' → Inv c d.2.2 → d.1.length + d.2.1.length ≤ k →
    iterO n' (beds_decide_nilw_s0F n) (q, ((q.length : Int), ((k : Int), ((c, ()), (d.1, (d.2.1, (d.2.2, ()))))))) = some ((c, ()), (((q.drop k).foldl (dcF c) d).1, (((q.drop k).foldl (dcF c) d).2.1, (((q.drop k).foldl (dcF c) d).2.2, ())))) := by
  intro j
  induction j with
  | zero =>
    intro k d n' hk hn' hi hd
    obtain ⟨n', rfl⟩ : ∃ m, n' = m + 1 := ⟨n' - 1, by omega⟩
    have : k = q.length := by omega
    subst this
    rw [iterO_succ, beds_decide_nilw_s0F_eq, List.drop_length]
    simp only [iLt_len, cond_false]
    rfl
  | succ j ih =>
    intro k d n' hk hn' hi hd
    obtain ⟨n', rfl⟩ : ∃ m, n' = m + 1 := ⟨n' - 1, by omega⟩
    have hlt : k < q.length := by omega
    have hm := hq _ (List.getElem_mem hlt)
    obtain ⟨sp, kk, h1, h2⟩ := short_sp n c hc d.1 d.2.1 d.2.2 q[k] hm hi
    have hinv := decF_inv hm hi
    have hfold : (q.drop k).foldl (dcF c) d = (q.drop (k + 1)).foldl (dcF c) (dcF c d q[k]) := by rw [List.drop_eq_getElem_cons hlt]; rfl
    rw [hfold]
    have ih' := ih (k + 1) (dcF c d q[k]) n' (by omega) (by omega) hinv (by unfold dcF; split <;> simp <;> omega)
    rw [iterO_succ, beds_decide_nilw_s0F_eq]
    simp only [iLt_nat hlt, cond_true, lat_lt q hlt, Option.bind_some, h1, iW_succ (show k < 9223372036854775807 by omega)]
    rw [h2]
    cases hs : shortB c d.2.2 q[k] with
    | true =>
      have hdf : dcF c d q[k] = (d.1, (d.2.1 ++ [q[k]], d.2.2)) := by unfold dcF; rw [if_pos hs]
      simp only [cond_true]
      rw [guardO_t (by rw [Nat.ble_eq]; unfold nAdd; omega)]
      simp only [Option.bind_some]
      rw [hdf] at ih' ⊢
      exact ih'
    | false =>
      have hdf : dcF c d q[k] = (d.1 ++ [q[k]], (d.2.1, addU q[k].2.2.2.1 (spotsL q[k].2.2.2.2) d.2.2)) := by unfold dcF; rw [if_neg (by rw [hs]; simp)]
      simp only [cond_false]
      rw [guardO_t (by rw [Nat.ble_eq]; unfold nAdd; omega)]
      simp only [Option.bind_some, beds_spots_F_eq, hm.sd]
      have hp1 := hm.p1
      have hp2 := hm.p2
      have ha := add_in n q q.length k c (d.1 ++ [q[k]]) d.2.1 q[k] (by omega) (spotsL q[k].2.2.2.2) d.2.2 hm.nd (fun s hs => by have := hi.b hc (hm.sp s hs); omega)
      refine (congrArg (fun o => Option.bind o _) ha).trans ?_
      simp only [Option.bind_some, Sum.elim_inl, iW_succ (show k < 9223372036854775807 by omega)]
      rw [hdf] at ih' ⊢
      exact ih'
def dcL (c : Chn) (q : List Msg) : DecS := q.foldl (dcF c) ([], ([], []))
theorem decide_sp (n : Nat) (c : Chn) (hc : chainB c = true) (q : List Msg) (hq : ∀ m, m ∈ q → MsgOk c m) (hl : q.length ≤ 1000) (hn : 2000 ≤ n) : beds_decide_nilw_F n ((c, ()), (q, ())) = some ((c, ()), ((dcL c q).1, ((dcL c q).2.1, ((dcL c q).2.2, ())))) := by
  rw [beds_decide_nilw_F_eq]
  have h := dec_in n c hc q hq hl q.length 0 ([], ([], [])) n (by omega) (by omega) (fun s hs => by
    obtain ⟨y, e1, e2, e3⟩ := hut_at hc hs
    unfold hutB at e2
    simp only [Bool.and_eq_true, wi_true] at e2
    show 0 ≤ (0 : Int) ∧ (0 : Int) ≤ _
    rw [e3]
    omega) (by simp)
  rw [List.drop_zero] at h
  show Option.bind (iterO n _ (q, ((q.length : Int), (((0 : Nat) : Int), ((c, ()), ([], ([], ([], ())))))))) _ = _
  rw [h]
  rfl
theorem decL_inv {c : Chn} (hc : chainB c = true) {q : List Msg} (hq : ∀ m, m ∈ q → MsgOk c m) : Inv c (dcL c q).2.2 := by
  have go : ∀ (q : List Msg) (d : DecS), (∀ m, m ∈ q → MsgOk c m) → Inv c d.2.2 → Inv c (q.foldl (dcF c) d).2.2 := by
    intro q
    induction q with
    | nil => intro d _ h; exact h
    | cons m q ih => intro d hq h; exact ih _ (fun z hz => hq z (List.mem_cons_of_mem _ hz)) (decF_inv (hq m List.mem_cons_self) h)
  refine go q _ hq (fun s hs => ?_)
  obtain ⟨y, e1, e2, e3⟩ := hut_at hc hs
  unfold hutB at e2
  simp only [Bool.and_eq_true, wi_true] at e2
  show 0 ≤ (0 : Int) ∧ (0 : Int) ≤ bedsOf c s.1
  rw [e3]
  omega
theorem queue_ok {c : Chn} {l : List Msg} (V : Vld c l) : ∀ m, m ∈ queueL l → MsgOk c m := fun m hm => by
  obtain ⟨h1, h2⟩ := queueL_mem.1 hm
  refine msgOk_of V.ch (V.ms m h1) fun e => ?_
  unfold gone at h2
  rw [decide_eq_true e] at h2
  cases h2
end Go.Proofs.Ytcjgodgpaokbnaa

/- Beds, plain: what the exported functions answer to valid messages; the examples; nobody on the floor. -/
namespace Go.Proofs.Ytcjgodgpaokbnaa
set_option linter.constructorNameAsVariable false
set_option linter.unusedSimpArgs false
set_option linter.unusedVariables false
set_option linter.unusedSectionVars false
open Go Go.Proofs Go.RowKit
set_option maxHeartbeats 1000000
def badS (c : Chn) (s : Spot) : Bool := !(wi s.1 0 (c.1.length - 1) && wi s.2 0 (c.2 - 1))
theorem open1_sp (n : Nat) (c : Chn) (s : Spot) (hc : chainB c = true) : beds_open_1w_F n (s, ((c, ()), ())) = some (badS c s, ((c, ()), ())) := by
  obtain ⟨h1, h2, h3, h4⟩ := chainB_in hc
  rw [beds_open_1w_F_eq]
  simp only [hut_sp n c _ (by omega), night_sp n c _ (by omega) (by omega), Option.bind_some]
  unfold badS
  cases wi s.1 0 ((c.1.length : Int) - 1) <;> cases wi s.2 0 (c.2 - 1) <;> rfl
theorem openC_sp (n : Nat) (c : Chn) (ps : List Spot) (hc : chainB c = true) (hl : ps.length ≤ 100) (hn : 2000 ≤ n) : slices_ContainsFunc_bedsspot_beds_open_1w_F n (ps, ((c, ()), ())) = some (ps.any (badS c), ((c, ()), ())) := by
  rw [slices_ContainsFunc_bedsspot_beds_open_1w_F_eq, slices_IndexFunc_bedsspot_beds_open_1w_F_eq]
  have h3 := iterO_find (step := slices_IndexFunc_bedsspot_beds_open_1w_s0F n) ps (fun k => (ps, ((ps.length : Int), ((k : Int), ((c, ()), ()))))) (badS c) (fun k => .inr ((k : Int), ((c, ()), ()))) (.inl ((c, ()), ())) (fun rec k hk => by
    rw [slices_IndexFunc_bedsspot_beds_open_1w_s0F_eq]
    simp only [iLt_nat hk, cond_true, lat_lt ps hk, Option.bind_some, open1_sp n c _ hc, iW_succ (show k < 9223372036854775807 by omega)]) (fun rec => by
    rw [slices_IndexFunc_bedsspot_beds_open_1w_s0F_eq]
    simp only [iLt_len, cond_false]) (n := n) (by omega)
  show Option.bind (Option.bind (iterO n _ (ps, ((ps.length : Int), (((0 : Nat) : Int), ((c, ()), ()))))) _) _ = _
  rcases h3 with ⟨h4, h5⟩ | ⟨k, hk, h4, _, h5⟩
  · rw [h5, h4]; rfl
  · rw [h5, show ps.any (badS c) = true from List.any_eq_true.2 ⟨_, List.getElem_mem hk, h4⟩]
    show some (iGe (k : Int) 0, ((c, ()), ())) = _
    simp [iGe]
def offL (c : Chn) (l : List Msg) : DecS := dcL c (queueL l)
theorem open_sp (n : Nat) (c : Chn) (l : List Msg) (V : Vld c l) (ps : List Spot) (hl : l.length ≤ 12) (hp : ps.length ≤ 100) (hn : 2000 ≤ n) :
    beds_openw_F n (c, (l, (ps, ()))) = some (cond (ps.any (badS c)) (.inr (1, ())) (.inl (0, ((c, ()), ((offL c l).1, ((offL c l).2.1, ((offL c l).2.2, ()))))))) := by
  rw [beds_openw_F_eq, checkP_sp n c l V hl hn]
  simp only [Option.bind_some, iNe_f rfl, cond_false, openC_sp n c ps V.ch hp hn]
  cases ps.any (badS c) with
  | true => rfl
  | false =>
    have hs : ∀ z, z ∈ l → z.2.2.2.2.length ≤ 1000 := fun z hz => by have := V.st z hz; omega
    simp only [cond_false, queue_sp n l hl hs hn, Option.bind_some, decide_sp n c V.ch (queueL l) (queue_ok V) (by have := queueL_len l; omega) hn]
    rfl
theorem ids_sp (n : Nat) (l : List Msg) (hl : l.length ≤ 1000) (hn : 2000 ≤ n) : beds_idsw_F n (l, ()) = some (l.map (·.2.1), ()) := by
  rw [beds_idsw_F_eq]
  have h := iterO_fold (step := beds_idsw_s0F n) l (fun k b => (l, ((l.length : Int), ((k : Int), (b, ()))))) (fun b m => b ++ [m.2.1]) ([] : List Int) (fun b => (b, ())) (fun rec k b hk hb => by
    have hbl : b.length = k := by
      rw [hb]
      have : ∀ (l : List Msg) (b : List Int), (l.foldl (fun b m => b ++ [m.2.1]) b).length = b.length + l.length := by
        intro l
        induction l with
        | nil => intro b; rfl
        | cons x l ih => intro b; rw [List.foldl_cons, ih]; simp; omega
      rw [this]; simp; omega
    rw [beds_idsw_s0F_eq]
    simp only [iLt_nat hk, cond_true, lat_lt l hk, Option.bind_some, iW_succ (show k < 9223372036854775807 by omega)]
    rw [guardO_t (by rw [Nat.ble_eq]; unfold nAdd; omega)]
    rfl) (fun rec b => by
    rw [beds_idsw_s0F_eq]
    simp only [iLt_len, cond_false]) (n := n) (by omega)
  show Option.bind (iterO n _ (l, ((l.length : Int), (((0 : Nat) : Int), ([], ()))))) _ = _
  rw [h]
  have : ∀ (l : List Msg) (b : List Int), l.foldl (fun b m => b ++ [m.2.1]) b = b ++ l.map (·.2.1) := by
    intro l
    induction l with
    | nil => intro b; simp
    | cons x l ih => intro b; rw [List.foldl_cons, ih]; simp
  rw [this]
  rfl
theorem dcL_len (c : Chn) : ∀ (q : List Msg) (d : DecS), (q.foldl (dcF c) d).1.length + (q.foldl (dcF c) d).2.1.length = d.1.length + d.2.1.length + q.length
  | [], d => rfl
  | m :: q, d => by
    rw [List.foldl_cons, dcL_len c q]
    unfold dcF
    split <;> simp <;> omega
theorem offL_len (c : Chn) (l : List Msg) : (offL c l).1.length + (offL c l).2.1.length ≤ l.length := by
  have := dcL_len c (queueL l) ([], ([], []))
  have h2 := queueL_len l
  unfold offL dcL
  simp at this
  omega
def accL (c : Chn) (l : List Msg) : List Int := isort (fun x y => decide (x < y)) ((offL c l).1.map (·.2.1))
def waitL (c : Chn) (l : List Msg) : List Int := (offL c l).2.1.map (·.2.1)
theorem accepted_sp (n : Nat) (c : Chn) (l : List Msg) (V : Vld c l) (hl : l.length ≤ 12) (hn : 2000 ≤ n) : beds_Accepted_F n (c, (l, ())) = some (accL c l, (0, ())) := by
  have := offL_len c l
  rw [beds_Accepted_F_eq]
  simp only [open_sp n c l V [] hl (by simp) hn, List.any_nil, cond_false, Option.bind_some, Sum.elim_inl, iNe_f rfl, ids_sp n (offL c l).1 (by omega) hn]
  rw [sI_sort n ((offL c l).1.map (·.2.1)) (by simp; omega) hn]
  rfl
theorem waiting_sp (n : Nat) (c : Chn) (l : List Msg) (V : Vld c l) (hl : l.length ≤ 12) (hn : 2000 ≤ n) : beds_Waiting_F n (c, (l, ())) = some (waitL c l, (0, ())) := by
  have := offL_len c l
  rw [beds_Waiting_F_eq]
  simp only [open_sp n c l V [] hl (by simp) hn, List.any_nil, cond_false, Option.bind_some, Sum.elim_inl, iNe_f rfl, ids_sp n (offL c l).2.1 (by omega) hn]
  rfl
theorem offL_inv {c : Chn} {l : List Msg} (V : Vld c l) : Inv c (offL c l).2.2 := decL_inv V.ch (queue_ok V)
theorem leftF_sp (n : Nat) (c : Chn) (l : List Msg) (V : Vld c l) (hut night : Int) (h1 : wi hut 0 (c.1.length - 1) = true) (h2 : wi night 0 (c.2 - 1) = true) (hl : l.length ≤ 12) (hn : 2000 ≤ n) : beds_Left_F n (c, (l, (hut, (night, ())))) = some (lft c (offL c l).2.2 (hut, night), (0, ())) := by
  have hb : ([(hut, night)] : List Spot).any (badS c) = false := by simp [badS, h1, h2]
  have hok : okS c (hut, night) := by have := wi_true.1 h1; exact ⟨this.1, this.2⟩
  have hi := (offL_inv V).b V.ch hok
  rw [beds_Left_F_eq]
  simp only [open_sp n c l V [(hut, night)] hl (by simp) hn, hb, cond_false, Option.bind_some, Sum.elim_inl, iNe_f rfl, left_sp n c V.ch (offL c l).1 (offL c l).2.1 (offL c l).2.2 (hut, night) hok (by omega) (by omega)]
def minI (a b : Int) : Int := if b < a then b else a
theorem lft_in {c : Chn} {l : List Msg} (V : Vld c l) {s : Spot} (hok : okS c s) : 0 ≤ lft c (offL c l).2.2 s ∧ lft c (offL c l).2.2 s ≤ 20 := by
  obtain ⟨y, e1, e2, e3⟩ := hut_at V.ch hok
  have hin := offL_inv V _ hok
  unfold hutB at e2
  simp only [Bool.and_eq_true, wi_true] at e2
  unfold lft
  generalize valL s (offL c l).2.2 = L at *
  omega
theorem letIn_sp (n : Nat) (c : Chn) (l : List Msg) (V : Vld c l) (hut night pe : Int) (y : Int × Int) (hy : lat c.1 hut = some y) (h1 : wi hut 0 (c.1.length - 1) = true) (h2 : wi night 0 (c.2 - 1) = true) (h3 : 0 ≤ pe ∧ pe ≤ 100) (hl : l.length ≤ 12) (hn : 2000 ≤ n) :
    beds_LetIn_F n (c, (l, (hut, (night, (pe, ()))))) = some (minI pe (lft c (offL c l).2.2 (hut, night)), (minI (pe - minI pe (lft c (offL c l).2.2 (hut, night))) y.2, (pe - minI pe (lft c (offL c l).2.2 (hut, night)) - minI (pe - minI pe (lft c (offL c l).2.2 (hut, night))) y.2, (0, ())))) := by
  have hb : ([(hut, night)] : List Spot).any (badS c) = false := by simp [badS, h1, h2]
  have hok : okS c (hut, night) := by have := wi_true.1 h1; exact ⟨this.1, this.2⟩
  have hi := (offL_inv V).b V.ch hok
  have hy2 : 0 ≤ y.2 ∧ y.2 ≤ 20 := by
    obtain ⟨y', e1, e2, e3⟩ := hut_at V.ch hok
    have e4 : some y' = some y := e1.symm.trans hy
    injection e4 with e4
    subst e4
    unfold hutB at e2
    simp only [Bool.and_eq_true, wi_true] at e2
    exact e2.2
  have hlf := lft_in V hok
  have hw : wi pe 0 100 = true := wi_true.2 h3
  rw [beds_LetIn_F_eq]
  simp only [open_sp n c l V [(hut, night)] hl (by simp) hn, hb, cond_false, Option.bind_some, Sum.elim_inl, iNe_f rfl, iEq_t rfl, cond_true, between_sp, hw, Bool.not_true, left_sp n c V.ch (offL c l).1 (offL c l).2.1 (offL c l).2.2 (hut, night) hok (by omega) (by omega), hy]
  generalize lft c (offL c l).2.2 (hut, night) = L at *
  have A : (L < pe ∧ minI pe L = L) ∨ (pe ≤ L ∧ minI pe L = pe) := by unfold minI; split <;> omega
  have e4 : iMin pe L = minI pe L := rfl
  have e5 : iMin (pe - minI pe L) y.2 = minI (pe - minI pe L) y.2 := rfl
  rw [e4]
  clear e4
  have e6 : iW (iSub pe (minI pe L)) = pe - minI pe L := iW_in (by unfold iSub; omega) (by unfold iSub; omega)
  rw [e6, e5]
  have B : (y.2 < pe - minI pe L ∧ minI (pe - minI pe L) y.2 = y.2) ∨ (pe - minI pe L ≤ y.2 ∧ minI (pe - minI pe L) y.2 = pe - minI pe L) := by
    clear e5 e6
    generalize minI pe L = a at *
    unfold minI; split <;> omega
  clear e5 e6
  generalize minI (pe - minI pe L) y.2 = b at *
  generalize minI pe L = a at *
  rw [show iW (iSub (pe - a) b) = pe - a - b from iW_in (by unfold iSub; omega) (by unfold iSub; omega)]
def exC : Chn := ([(3, 2), (2, 0)], 4)
def exL : List Msg := [(1, (5, (10, (2, [(0, (0, 1)), (1, (2, 2))])))), (1, (3, (20, (2, [(0, (1, 2))])))), (1, (8, (20, (1, [(0, (1, 1)), (1, (2, 3))])))), (1, (9, (30, (1, [(0, (1, 3))]))))]
theorem ex_sp (n : Nat) : bivouaclaw02_Example_F n () = some (exC, (exL, ())) := by
  rw [bivouaclaw02_Example_F_eq]
  rfl
theorem ex_vld : Vld exC exL := ⟨by decide +kernel, by decide +kernel, by decide +kernel, by decide +kernel, by decide +kernel, by decide +kernel⟩
theorem ex_acc : accL exC exL = [5, 9] := by decide +kernel
theorem ex_wait : waitL exC exL = [3, 8] := by decide +kernel
theorem sameInts_sp (n : Nat) (a b : List Int) (ha : a.length ≤ 1000) (hn : 2000 ≤ n) : bivouaclaw02_sameInts_F n (a, (b, ())) = some (decide (a = b), ()) := by
  rw [bivouaclaw02_sameInts_F_eq]
  by_cases e5 : a.length = b.length
  · have h1 := iterO_all (step := bivouaclaw02_sameInts_s0F n) (a.zip b) (fun k => (a, (b, ((k : Int), ())))) (fun p => decide (p.1 = p.2)) (.inl ()) (.inr (false, ())) (fun rec k hk => by
      rw [bivouaclaw02_sameInts_s0F_eq]
      have hka : k < a.length := by rw [List.length_zip] at hk; omega
      have hkb : k < b.length := by omega
      simp only [iLt_nat hka, cond_true, lat_lt a hka, lat_lt b hkb, Option.bind_some, iW_succ (show k < 9223372036854775807 by omega), List.getElem_zip]
      by_cases h : a[k] = b[k]
      · rw [iNe_f h]; simp [h]
      · rw [iNe_t h]; simp [h]) (fun rec => by
      rw [bivouaclaw02_sameInts_s0F_eq]
      simp only [List.length_zip, e5, Nat.min_self, iLt_len, cond_false]) (n := n) (by simp; omega)
    rw [iNe_f (a := (a.length : Int)) (b := (b.length : Int)) (by omega)]
    simp only [cond_false]
    show Option.bind (iterO n _ (a, (b, (((0 : Nat) : Int), ())))) _ = _
    rw [h1]
    have h2 : (a.zip b).all (fun p => decide (p.1 = p.2)) = decide (a = b) := by
      clear h1 ha
      induction a generalizing b with
      | nil => cases b with
        | nil => rfl
        | cons b bs => cases e5
      | cons x a ih => cases b with
        | nil => cases e5
        | cons y b =>
          rw [List.zip_cons_cons, List.all_cons, ih b (by simpa using e5)]
          by_cases h : x = y <;> by_cases h' : a = b <;> simp [h, h']
    rw [h2]
    by_cases h : a = b <;> simp [h]
  · have h : a ≠ b := fun h => e5 (by rw [h])
    rw [iNe_t (a := (a.length : Int)) (b := (b.length : Int)) (by omega)]; simp [h]
theorem works_sp (n : Nat) (hn : 2000 ≤ n) : bivouaclaw02_works_F n () = some (true, ()) := by
  rw [bivouaclaw02_works_F_eq]
  simp only [ex_sp, Option.bind_some, accepted_sp n exC exL ex_vld (by decide) hn, waiting_sp n exC exL ex_vld (by decide) hn, ex_acc, ex_wait, iEq_t rfl, cond_true]
  rw [sameInts_sp n [5, 9] [5, 9] (by decide) hn]
  simp only [decide_true, Option.bind_some, cond_true]
  rw [sameInts_sp n [3, 8] [3, 8] (by decide) hn]
  rfl
theorem nobody_sp (n : Nat) (c : Chn) (l : List Msg) (x : Int × (Int × (Int × Int))) (hl : l.length ≤ 9223372036854775807) (hn : l.length + 2000 ≤ n) : bivouaclaw02_BedsNobody_F n (c, (l, (x, ()))) = some (true, ()) := by
  have hw := works_sp n (by omega)
  rw [bivouaclaw02_BedsNobody_F_eq]
  simp only [valid_sp n c l hl (by omega), Option.bind_some, hw]
  cases hv : validB c l with
  | false => rfl
  | true =>
    obtain ⟨V, h9⟩ := validB_true hv
    obtain ⟨hut, night, pe, id⟩ := x
    simp only [Bool.not_true, cond_false, checkNight_sp n c l hut night hv (by omega), Option.bind_some]
    cases h1 : wi hut 0 ((c.1.length : Int) - 1) with
    | false => rfl
    | true =>
    cases h2 : wi night 0 (c.2 - 1) with
    | false => rfl
    | true =>
    simp only [Bool.and_self, cond_true, iNe_f rfl, cond_false]
    by_cases h3 : pe < 0
    · rw [show iLt pe 0 = true from decide_eq_true h3]; rfl
    · rw [show iLt pe 0 = false from decide_eq_false h3]
      by_cases h4 : pe > 100
      · rw [show iGt pe 100 = true from decide_eq_true h4]; rfl
      · rw [show iGt pe 100 = false from decide_eq_false h4]
        have hok : okS c (hut, night) := by have := wi_true.1 h1; exact ⟨this.1, this.2⟩
        obtain ⟨y, e1, e2, e3⟩ := hut_at V.ch hok
        have hin := offL_inv V _ hok
        simp only [show lat c.1 hut = some y from e1, cond_false, letIn_sp n c l V hut night pe y e1 h1 h2 (by omega) (by omega) (by omega), leftF_sp n c l V hut night h1 h2 (by omega) (by omega), Option.bind_some, iNe_f rfl]
        have hL : lft c (offL c l).2.2 (hut, night) = bedsOf c hut - valL (hut, night) (offL c l).2.2 := rfl
        unfold hutB at e2
        simp only [Bool.and_eq_true, wi_true] at e2
        rw [show bedsOf c (hut, night).1 = bedsOf c hut from rfl] at hin e3
        have hL0 : 0 ≤ lft c (offL c l).2.2 (hut, night) ∧ lft c (offL c l).2.2 (hut, night) ≤ 20 := by rw [hL]; omega
        generalize lft c (offL c l).2.2 (hut, night) = L at *
        have A : (L < pe ∧ minI pe L = L) ∨ (pe ≤ L ∧ minI pe L = pe) := by unfold minI; split <;> omega
        have B : (y.2 < pe - minI pe L ∧ minI (pe - minI pe L) y.2 = y.2) ∨ (pe - minI pe L ≤ y.2 ∧ minI (pe - minI pe L) y.2 = pe - minI pe L) := by
          generalize minI pe L = a at *
          unfold minI; split <;> omega
        generalize minI (pe - minI pe L) y.2 = b at *
        generalize minI pe L = a at *
        simp only [iEq_t rfl, cond_true] at *
        rw [show iLt a 0 = false from decide_eq_false (by omega), show iLt b 0 = false from decide_eq_false (by omega), show iLt (pe - a - b) 0 = false from decide_eq_false (by omega),
          iW_in (n := iAdd a b) (by unfold iAdd; omega) (by unfold iAdd; omega), iW_in (n := iAdd (iAdd a b) (pe - a - b)) (by unfold iAdd; omega) (by unfold iAdd; omega),
          iNe_f (a := iAdd (iAdd a b) (pe - a - b)) (b := pe) (by unfold iAdd; omega), show iGt a L = false from decide_eq_false (by omega), show iGt b y.2 = false from decide_eq_false (by omega)]
        simp only [cond_false]
        by_cases hb0 : b = 0
        · rw [iEq_t hb0]
          by_cases hf0 : pe - a - b = 0
          · rw [iEq_t hf0]; rfl
          · rw [iEq_f hf0, iEq_t (a := b) (b := y.2) (by omega), iEq_t (a := a) (b := L) (by omega)]; rfl
        · rw [iEq_f hb0, iEq_t (a := a) (b := L) (by omega)]
          by_cases hf0 : pe - a - b = 0
          · rw [iEq_t hf0]; rfl
          · rw [iEq_f hf0, iEq_t (a := b) (b := y.2) (by omega)]; rfl
end Go.Proofs.Ytcjgodgpaokbnaa
