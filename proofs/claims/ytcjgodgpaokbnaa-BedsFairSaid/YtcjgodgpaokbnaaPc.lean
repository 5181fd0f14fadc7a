/- Texts Dp12, Dp13, Dp14, Dp15, Dp16 in one. -/
import Derived.Test.YtcjgodgpaokbnaaPb
import Derived.Test.YtcjgodgpaokbnaaDq3
/- Beds, plain: the reference's queue, and what requests need. -/
namespace Go.Proofs.Ytcjgodgpaokbnaa
set_option linter.constructorNameAsVariable false
set_option linter.unusedSimpArgs false
set_option linter.unusedVariables false
set_option linter.unusedSectionVars false
open Go Go.Proofs Go.RowKit
set_option maxHeartbeats 1000000
theorem qBv {α β : Type} (g : β → List α) : ∀ (l : List β) (b : List α), l.foldl (fun b x => b ++ g x) b = b ++ l.flatMap g
  | [], b => by simp
  | x :: l, b => by rw [List.foldl_cons, qBv g l]; simp
theorem qJ3 {α : Type} {l : List α} {p : α → Bool} {k : Nat} (hk : k < l.length) (h : p l[k] = true) (h' : (l.take k).any p = false) : l.find? p = some l[k] := by
  rw [List.find?_eq_some_iff_getElem]
  refine ⟨h, k, hk, rfl, fun j hj => ?_⟩
  rw [List.any_eq_false] at h'
  have := h' l[j] (List.mem_take_iff_getElem.2 ⟨j, by omega, rfl⟩)
  simpa using this
def isIK (i k : Int) (m : Msg) : Bool := decide (m.2.1 = i) && decide (m.1 = k)
def qlU (l : List Msg) (i k : Int) : List Msg := (l.find? (isIK i k)).toList
theorem qx3 (l : List Msg) (i k : Int) : (qlU l i k).length ≤ 1 := by unfold qlU; cases l.find? (isIK i k) <;> simp
theorem qJq (n : Nat) (l out : List Msg) (i k : Int) (hl : l.length ≤ 1000) (ho : out.length ≤ 1000) (hn : 2000 ≤ n) : qg n (qhj n) (l, (i, (k, ((0 : Int), (out, ()))))) = some (l, (i, (k, (out ++ qlU l i k, ())))) := by
  have h := qoy (step := qhj n) l (fun j => (l, (i, (k, ((j : Int), (out, ())))))) (isIK i k) (fun j => (l, (i, (k, (out ++ (l[j]?).toList, ()))))) (l, (i, (k, (out, ())))) (fun rec j hj => by
    rw [qnw]
    simp only [qbq hj, cond_true, qcq l hj, Option.bind_some, qK (show j < 9223372036854775807 by omega)]
    unfold isIK
    rw [qeB (by rw [Nat.ble_eq]; unfold nAdd; omega)]
    by_cases h1 : l[j].2.1 = i
    · by_cases h2 : l[j].1 = k
      · rw [qdU h1, qdU h2]; simp [h1, h2, List.getElem?_eq_getElem hj]
      · rw [qdU h1, qf4 h2]; simp [h2]
    · rw [qf4 h1]; simp [h1]) (fun rec => by
    rw [qnw]
    simp only [qbC, cond_false]) (n := n) (by omega)
  unfold qlU
  rcases h with ⟨h1, h2⟩ | ⟨j, hj, h1, h2, h3⟩
  · rw [List.find?_eq_none.2 (fun x hx => by rw [List.any_eq_false] at h1; exact h1 x hx)]
    simpa using h2
  · rw [qJ3 hj h1 h2]
    rw [List.getElem?_eq_getElem hj] at h3
    exact h3
def refD (l : List Msg) : List Msg := (List.range 100).flatMap fun i : Nat => qlU l i 1 ++ qlU l i 2
theorem qGS {β α : Type} (g : β → List α) (c : Nat) : ∀ l : List β, (∀ x, x ∈ l → (g x).length ≤ c) → (l.flatMap g).length ≤ c * l.length
  | [], _ => by simp
  | x :: l, h => by
    have h1 := qGS g c l fun y hy => h y (List.mem_cons_of_mem _ hy)
    have h2 := h x List.mem_cons_self
    rw [List.flatMap_cons, List.length_append, List.length_cons, Nat.mul_add]
    omega
theorem qGb (n : Nat) (l : List Msg) (hl : l.length ≤ 1000) (hn : 2000 ≤ n) : qli n (l, ()) = some (refD l, ()) := by
  rw [qwc]
  have h := qtV (step := qjW n) (List.range 100) (fun k b => (l, ((k : Int), (b, ())))) (fun b (i : Nat) => b ++ (qlU l i 1 ++ qlU l i 2)) [] (fun b => (b, ())) (fun rec k b hk hb => by
    have hk' : k < 100 := by simpa using hk
    have hbl : b.length ≤ 200 := by
      rw [hb, qBv]
      have := qGS (fun i : Nat => qlU l i 1 ++ qlU l i 2) 2 ((List.range 100).take k) fun i _ => by
        have := qx3 l i 1
        have := qx3 l i 2
        simp
        omega
      have h2 : ((List.range 100).take k).length ≤ 100 := by simp; omega
      simp at this ⊢
      omega
    have p1 := qx3 l (k : Int) 1
    have p2 := qx3 l (k : Int) 2
    obtain ⟨n, rfl⟩ : ∃ m, n = m + 3 := ⟨n - 3, by omega⟩
    rw [qnx]
    rw [show iLe (k : Int) 99 = true from decide_eq_true (by omega)]
    simp only [cond_true]
    rw [qu, qiA]
    simp only [show iLe (1 : Int) 2 = true from rfl, cond_true, qJq (n + 3) l b k 1 hl (by omega) hn, Option.bind_some]
    rw [show iW (iAdd 1 1) = 2 from rfl, qu, qiA]
    simp only [show iLe (2 : Int) 2 = true from rfl, cond_true, qJq (n + 3) l (b ++ qlU l k 1) k 2 hl (by simp; omega) hn, Option.bind_some]
    rw [show iW (iAdd 2 1) = 3 from rfl, qu, qiA]
    simp only [show iLe (3 : Int) 2 = false from rfl, cond_false, Option.bind_some, qK (show k < 9223372036854775807 by omega), List.getElem_range, List.append_assoc]) (fun rec b => by
    rw [qnx]
    simp only [List.length_range]
    rfl) (n := n) (by simp; omega)
  show Option.bind (qg n _ (l, (((0 : Nat) : Int), ([], ())))) _ = _
  rw [h, qBv]
  rfl
theorem qGc {i k : Int} {m : Msg} : isIK i k m = true ↔ m.2.1 = i ∧ m.1 = k := by unfold isIK; simp
theorem qqg {l : List Msg} {i k : Int} {x : Msg} (h : x ∈ qlU l i k) : x ∈ l ∧ x.2.1 = i ∧ x.1 = k := by
  unfold qlU at h
  rw [Option.mem_toList] at h
  exact ⟨List.mem_of_find?_eq_some h, qGc.1 (List.find?_some h)⟩
theorem qMo {l : List Msg} (M : Msgs l) {x : Msg} (h : x ∈ l) : x ∈ qlU l x.2.1 x.1 := by
  unfold qlU
  rw [Option.mem_toList]
  cases hf : l.find? (isIK x.2.1 x.1) with
  | none =>
    rw [List.find?_eq_none] at hf
    exact absurd (qGc.2 ⟨rfl, rfl⟩) (hf x h)
  | some y =>
    have h1 := qGc.1 (List.find?_some hf)
    rw [M.cl y x (List.mem_of_find?_eq_some hf) h h1.1 h1.2]
theorem qNo {l : List Msg} (M : Msgs l) : refD l = qgK l := by
  refine qqD key1 _ _ ?_ (qx2 M) fun x => ?_
  · unfold refD
    rw [List.pairwise_flatMap]
    refine ⟨fun i _ => ?_, ?_⟩
    · rw [List.pairwise_append]
      have one : ∀ k, (qlU l i k).Pairwise (fun a b => key1 a < key1 b) := fun k => by
        have := qx3 l i k
        match qlU l i k, this with
        | [], _ => exact List.Pairwise.nil
        | [x], _ => exact List.pairwise_singleton _ _
      refine ⟨one 1, one 2, fun a ha b hb => ?_⟩
      have h1 := qqg ha
      have h2 := qqg hb
      unfold key1
      omega
    · refine List.Pairwise.imp (fun {i j} hij a ha b hb => ?_) (List.pairwise_lt_range (n := 100))
      have h1 : a ∈ l ∧ a.2.1 = (i : Int) ∧ (a.1 = 1 ∨ a.1 = 2) := by
        rcases List.mem_append.1 ha with h | h
        · have := qqg h; exact ⟨this.1, this.2.1, .inl this.2.2⟩
        · have := qqg h; exact ⟨this.1, this.2.1, .inr this.2.2⟩
      have h2 : b ∈ l ∧ b.2.1 = (j : Int) ∧ (b.1 = 1 ∨ b.1 = 2) := by
        rcases List.mem_append.1 hb with h | h
        · have := qqg h; exact ⟨this.1, this.2.1, .inl this.2.2⟩
        · have := qqg h; exact ⟨this.1, this.2.1, .inr this.2.2⟩
      unfold key1
      omega
  · rw [qfQ]
    unfold refD
    rw [List.mem_flatMap]
    constructor
    · rintro ⟨i, _, hx⟩
      rcases List.mem_append.1 hx with h | h
      · exact (qqg h).1
      · exact (qqg h).1
    · intro hx
      have h1 := M.id x hx
      refine ⟨x.2.1.toNat, by simp; omega, ?_⟩
      have h2 := qMo M hx
      rw [show ((x.2.1.toNat : Nat) : Int) = x.2.1 by omega]
      rcases M.kd x hx with h | h <;> rw [h] at h2 <;> simp [h2]
def qlo (m x : Msg) : Bool := decide (x.2.2.1 < m.2.2.1) || (decide (x.2.2.1 = m.2.2.1) && decide (x.2.1 < m.2.1))
def insS (m : Msg) (out : List Msg) : List Msg := out.takeWhile (qlo m) ++ m :: out.dropWhile (qlo m)
theorem qOl (n : Nat) (all : List Msg) (i : Int) (m : Msg) : ∀ (B A : List Msg) (n' : Nat), A.length + B.length ≤ 1000 → B.length < n' →
    qg n' (qgG n) (all, (i, ((A.length : Int), (m, (A ++ B, ()))))) = some (all, (i, (((A ++ B.takeWhile (qlo m)).length : Int), (m, (A ++ B, ()))))) := by
  intro B
  induction B with
  | nil =>
    intro A n' hl hn
    obtain ⟨n', rfl⟩ : ∃ m, n' = m + 1 := ⟨n' - 1, by omega⟩
    rw [qu, qps]
    simp only [List.append_nil, qbC, cond_false, List.takeWhile_nil]
  | cons x B ih =>
    intro A n' hl hn
    simp only [List.length_cons] at hl hn
    obtain ⟨n', rfl⟩ : ∃ m, n' = m + 1 := ⟨n' - 1, by omega⟩
    rw [qu, qps]
    have hk : A.length < (A ++ x :: B).length := by simp
    have hx : (A ++ x :: B)[A.length]? = some x := by simp
    have ih' := ih (A ++ [x]) n' (by simp; omega) (by omega)
    simp only [List.length_append, List.length_cons, List.length_nil, Nat.zero_add, List.append_assoc, List.cons_append, List.nil_append] at ih'
    simp only [qbq hk, cond_true, qls, qlR, hx, Option.bind_some, qK (show A.length < 9223372036854775807 by omega)]
    rw [List.takeWhile_cons]
    by_cases h1 : x.2.2.1 < m.2.2.1
    · rw [show iLt x.2.2.1 m.2.2.1 = true from decide_eq_true h1, show qlo m x = true by unfold qlo; simp [h1]]
      simp only [cond_true, if_true, List.length_append, List.length_cons]
      rw [ih']
    · rw [show iLt x.2.2.1 m.2.2.1 = false from decide_eq_false h1]
      by_cases h2 : x.2.2.1 = m.2.2.1
      · rw [qdU h2]
        by_cases h3 : x.2.1 < m.2.1
        · rw [show iLt x.2.1 m.2.1 = true from decide_eq_true h3, show qlo m x = true by unfold qlo; simp [h2, h3]]
          simp only [cond_true, cond_false, if_true, List.length_append, List.length_cons]
          rw [ih']
        · rw [show iLt x.2.1 m.2.1 = false from decide_eq_false h3, show qlo m x = false by unfold qlo; simp [h2, h3]]
          simp
      · rw [qf4 h2, show qlo m x = false by unfold qlo; simp [h1, h2]]
        simp
def qkU (all : List Msg) (m : Msg) : Bool := decide (m.1 = 1) && !all.any fun y => decide (y.1 = 2) && decide (y.2.1 = m.2.1)
theorem qGT (m : Msg) (out : List Msg) : (insS m out).Perm (m :: out) := by
  unfold insS
  refine List.perm_middle.trans (List.Perm.cons m ?_)
  rw [List.takeWhile_append_dropWhile]
theorem qqE (p : Msg → Bool) : ∀ (l out : List Msg), (l.foldl (fun b m => cond (p m) (insS m b) b) out).Perm (out ++ l.filter p)
  | [], out => by simp
  | x :: l, out => by
    rw [List.foldl_cons, List.filter_cons]
    cases h : p x with
    | true =>
      simp only [cond_true, if_true]
      refine (qqE p l _).trans (((qGT x out).append_right _).trans ?_)
      exact List.perm_middle.symm
    | false => simpa using qqE p l out
theorem qIK {m : Msg} {out : List Msg} (hm : 0 ≤ m.2.1 ∧ m.2.1 ≤ 99) (ho : ∀ x, x ∈ out → 0 ≤ x.2.1 ∧ x.2.1 ≤ 99) (h : out.Pairwise (fun a b => key2 a ≤ key2 b)) : (insS m out).Pairwise (fun a b => key2 a ≤ key2 b) := by
  unfold insS
  have hlo : ∀ x, x ∈ out → (qlo m x = true → key2 x ≤ key2 m) ∧ (qlo m x = false → key2 m ≤ key2 x) := fun x hx => by
    have := ho x hx
    unfold qlo key2
    simp only [Bool.or_eq_true, Bool.and_eq_true, decide_eq_true_eq, Bool.or_eq_false_iff, Bool.and_eq_false_iff, decide_eq_false_iff_not]
    omega
  rw [List.pairwise_append, List.pairwise_cons]
  have h1 := h.sublist (List.takeWhile_sublist (qlo m))
  have h2 := h.sublist (List.dropWhile_sublist (qlo m))
  have hA : ∀ x, x ∈ out.takeWhile (qlo m) → key2 x ≤ key2 m := fun x hx => (hlo x ((List.takeWhile_sublist _).subset hx)).1 (by
    have := List.all_takeWhile (p := qlo m) (l := out)
    rw [List.all_eq_true] at this
    exact this x hx)
  have hB : ∀ x, x ∈ out.dropWhile (qlo m) → key2 m ≤ key2 x := fun x hx => by
    cases hd : out.dropWhile (qlo m) with
    | nil => rw [hd] at hx; cases hx
    | cons y r =>
      have hy : qlo m y = false := by
        have := List.head?_dropWhile_not (qlo m) out
        rw [hd] at this
        simpa using this
      have hym : y ∈ out := (List.dropWhile_sublist (qlo m)).subset (by rw [hd]; exact List.mem_cons_self)
      have h3 := (hlo y hym).2 hy
      rw [hd] at hx h2
      rcases List.mem_cons.1 hx with rfl | hx
      · exact h3
      · exact Int.le_trans h3 ((List.pairwise_cons.1 h2).1 x hx)
  refine ⟨h1, ⟨hB, h2⟩, fun a ha b hb => ?_⟩
  rcases List.mem_cons.1 hb with rfl | hb
  · exact hA a ha
  · exact Int.le_trans (hA a ha) (hB b hb)
theorem qsc (p : Msg → Bool) : ∀ (l out : List Msg), (∀ x, x ∈ out ++ l → 0 ≤ x.2.1 ∧ x.2.1 ≤ 99) → out.Pairwise (fun a b => key2 a ≤ key2 b) → (l.foldl (fun b m => cond (p m) (insS m b) b) out).Pairwise (fun a b => key2 a ≤ key2 b)
  | [], out, _, h => h
  | x :: l, out, hid, h => by
    rw [List.foldl_cons]
    cases hp : p x with
    | true =>
      refine qsc p l _ (fun y hy => ?_) (qIK (hid x (by simp)) (fun y hy => hid y (by simp [hy])) h)
      rcases List.mem_append.1 hy with hy | hy
      · rcases List.mem_cons.1 ((qGT x out).mem_iff.1 hy) with rfl | hy
        · exact hid _ (by simp)
        · exact hid _ (by simp [hy])
      · exact hid _ (by simp [hy])
    | false => exact qsc p l out (fun y hy => hid y (by rcases List.mem_append.1 hy with hy | hy <;> simp [hy])) h
theorem qGd {all : List Msg} (M : Msgs all) (hs : all.Pairwise (fun a b => key1 a < key1 b)) {k : Nat} (hk : k < all.length) (h1 : all[k].1 = 1) : (all.any fun y => decide (y.1 = 2) && decide (y.2.1 = all[k].2.1)) = true ↔ ∃ h : k + 1 < all.length, all[k + 1].2.1 = all[k].2.1 := by
  rw [List.pairwise_iff_getElem] at hs
  rw [List.any_eq_true]
  constructor
  · rintro ⟨y, hy, h2⟩
    simp only [Bool.and_eq_true, decide_eq_true_eq] at h2
    obtain ⟨j, hj, rfl⟩ := List.mem_iff_getElem.1 hy
    have hkj : k < j := by
      rcases Nat.lt_trichotomy k j with h | h | h
      · exact h
      · subst h; omega
      · have := hs j k hj hk h
        unfold key1 at this
        omega
    have hj1 : j = k + 1 := by
      rcases Nat.lt_or_ge (k + 1) j with h | h
      · have e1 := hs k (k + 1) hk (by omega) (by omega)
        have e2 := hs (k + 1) j (by omega) hj h
        unfold key1 at e1 e2
        omega
      · omega
    subst hj1
    exact ⟨hj, h2.2⟩
  · rintro ⟨h, h2⟩
    refine ⟨all[k + 1], List.getElem_mem h, ?_⟩
    have e1 := hs k (k + 1) hk h (by omega)
    have e2 := M.kd all[k + 1] (List.getElem_mem h)
    unfold key1 at e1
    simp only [Bool.and_eq_true, decide_eq_true_eq]
    omega
theorem qIL (n : Nat) (all : List Msg) (M : Msgs all) (hs : all.Pairwise (fun a b => key1 a < key1 b)) (hl : all.length ≤ 900) (hn : 2000 ≤ n) :
    qg n (qiQ n) (all, ((0 : Int), ([], ()))) = some (all.foldl (fun b m => cond (qkU all m) (insS m b) b) [], ()) := by
  refine qtV (step := qiQ n) all (fun k b => (all, ((k : Int), (b, ())))) (fun b m => cond (qkU all m) (insS m b) b) [] (fun b => (b, ())) (fun rec k b hk hb => ?_) (fun rec b => by
    rw [qpt]
    simp only [qbC, cond_false]) (n := n) (by omega)
  have hbl : b.length ≤ k := by
    rw [hb, (qqE _ _ _).length_eq]
    have := List.length_filter_le (qkU all) (all.take k)
    simp at this ⊢
    omega
  rw [qpt]
  simp only [qbq hk, cond_true, qcq all hk, Option.bind_some, qK (show k < 9223372036854775807 by omega)]
  have ins : (Option.bind (qg n (qgG n) (all, ((k : Int), ((0 : Int), (all[k], (b, ())))))) fun y1 => (Option.bind (cutO (List.length y1.2.2.2.2.1) y1.2.2.1) fun y2 => (Option.bind (cutO (List.length y1.2.2.2.2.1) y1.2.2.1) fun y3 => (Option.bind (qbh (Nat.ble (y3 + ((List.length y1.2.2.2.2.1) - y3)) (List.length y1.2.2.2.2.1))) fun _ => (Option.bind (qbh (Nat.ble (nAdd (1 : Nat) (List.length (List.take ((List.length y1.2.2.2.2.1) - y3) (List.drop y3 y1.2.2.2.2.1)))) 1000000)) fun _ => (Option.bind (qbh (Nat.ble y2 (List.length y1.2.2.2.2.1))) fun _ => (Option.bind (qbh (Nat.ble (nAdd (List.length (List.take y2 y1.2.2.2.2.1)) (List.length (List.append (y1.2.2.2.1 :: []) (List.take ((List.length y1.2.2.2.2.1) - y3) (List.drop y3 y1.2.2.2.2.1))))) 1000000)) fun _ => (rec (y1.1, ((iW (iAdd y1.2.1 (1 : Int))), ((List.append (List.take y2 y1.2.2.2.2.1) (List.append (y1.2.2.2.1 :: []) (List.take ((List.length y1.2.2.2.2.1) - y3) (List.drop y3 y1.2.2.2.2.1)))), ()))))))))))) = rec (all, (((k + 1 : Nat) : Int), (insS all[k] b, ()))) := by
    have h := qOl n all k all[k] b [] n (by simp; omega) (by omega)
    simp only [List.nil_append, List.length_nil] at h
    rw [show ((0 : Nat) : Int) = 0 from rfl] at h
    rw [h]
    simp only [Option.bind_some]
    obtain ⟨A, B, hA, hB, hAB⟩ : ∃ A B, b.takeWhile (qlo all[k]) = A ∧ b.dropWhile (qlo all[k]) = B ∧ b = A ++ B := ⟨_, _, rfl, rfl, (List.takeWhile_append_dropWhile).symm⟩
    unfold insS
    rw [hA, hB]
    have hlen : A.length ≤ b.length := by rw [hAB]; simp
    have htk : List.take A.length b = A := by rw [hAB]; simp
    have hdr : List.drop A.length b = B := by rw [hAB]; simp
    have hBl : b.length - A.length = B.length := by rw [hAB]; simp
    have hbl2 : A.length + B.length = b.length := by omega
    rw [qnB hlen]
    simp only [Option.bind_some, htk, hdr, hBl, List.take_length]
    rw [qeB (by rw [Nat.ble_eq]; omega), qeB (by rw [Nat.ble_eq]; unfold nAdd; omega), qeB (by rw [Nat.ble_eq]; omega), qeB (by rw [Nat.ble_eq]; unfold nAdd; simp [List.append_eq]; omega)]
    simp only [Option.bind_some, qK (show k < 9223372036854775807 by omega)]
    rfl
  by_cases h1 : all[k].1 = 1
  · rw [qeQ h1]
    simp only [cond_false]
    by_cases h2 : k + 1 < all.length
    · rw [qbq h2]
      simp only [cond_true, qcq all h2, Option.bind_some]
      by_cases h3 : all[k + 1].2.1 = all[k].2.1
      · rw [qdU h3]
        have : qkU all all[k] = false := by unfold qkU; rw [(qGd M hs hk h1).2 ⟨h2, h3⟩]; simp
        rw [this]; rfl
      · rw [qf4 h3]
        have : qkU all all[k] = true := by
          unfold qkU
          have : (all.any fun y => decide (y.1 = 2) && decide (y.2.1 = all[k].2.1)) = false := by
            rw [← Bool.not_eq_true]
            exact fun h => by obtain ⟨_, h⟩ := (qGd M hs hk h1).1 h; exact h3 h
          rw [this]; simp [h1]
        rw [this]
        simp only [cond_false, cond_true]
        exact ins
    · rw [show iLt ((k + 1 : Nat) : Int) (all.length : Int) = false from decide_eq_false (by omega)]
      have : qkU all all[k] = true := by
        unfold qkU
        have : (all.any fun y => decide (y.1 = 2) && decide (y.2.1 = all[k].2.1)) = false := by
          rw [← Bool.not_eq_true]
          exact fun h => by obtain ⟨h, _⟩ := (qGd M hs hk h1).1 h; exact h2 h
        rw [this]; simp [h1]
      rw [this]
      simp only [cond_false, cond_true]
      exact ins
  · rw [qrS h1]
    have : qkU all all[k] = false := by unfold qkU; simp [h1]
    rw [this]; rfl
theorem qIM (n : Nat) (l : List Msg) (M : Msgs l) (hl : l.length ≤ 900) (hn : 2000 ≤ n) : qor n (l, ()) = some (qm l, ()) := by
  have hs := qx2 M
  have M' : Msgs (qgK l) := ⟨fun m hm => M.kd m (qfQ.1 hm), fun m hm => M.id m (qfQ.1 hm), fun x y hx hy => M.cl x y (qfQ.1 hx) (qfQ.1 hy)⟩
  have hdl := qy5 l
  rw [qyl, qGb n l (by omega) hn, qNo M]
  simp only [Option.bind_some]
  rw [qIL n _ M' hs (by omega) hn]
  simp only [Option.bind_some]
  have hp := qqE (qkU (qgK l)) (qgK l) []
  rw [List.nil_append] at hp
  have h1 := qsc (qkU (qgK l)) (qgK l) [] (fun x hx => M'.id x (by simpa using hx)) List.Pairwise.nil
  have h2 : ((qgK l).filter (qkU (qgK l))).Pairwise (fun a b => a ≠ b) := (hs.sublist List.filter_sublist).imp fun {a b} h e => by subst e; omega
  have hm : ∀ x, x ∈ (qgK l).foldl (fun b m => cond (qkU (qgK l) m) (insS m b) b) [] ↔ x ∈ qgK l ∧ qkU (qgK l) x = true := fun x => by rw [hp.mem_iff, List.mem_filter]
  have h3 := qGP key2 h1 (hp.symm.pairwise h2 (fun {a b} h e => h e.symm)) fun x y hx hy h => by
    have hx' := (hm x).1 hx
    have hy' := (hm y).1 hy
    have i1 := M'.id x hx'.1
    have i2 := M'.id y hy'.1
    unfold qkU at hx' hy'
    simp only [Bool.and_eq_true, decide_eq_true_eq] at hx' hy'
    unfold key2 at h
    exact M'.cl x y hx'.1 hy'.1 (by omega) (by rw [hx'.2.1, hy'.2.1])
  congr 2
  refine qqD key2 _ _ h3 (qgL M) fun x => ?_
  rw [hm, qeS]
  unfold qkU Live
  simp only [Bool.and_eq_true, Bool.not_eq_true', decide_eq_true_eq, qfQ]
  rw [List.any_eq_false]
  constructor
  · rintro ⟨h1, h2, h3⟩
    refine ⟨h1, by omega, fun y hy h4 h5 => h3 y (qfQ.2 hy) (by simp [h4, h5])⟩
  · rintro ⟨h1, h2, h3⟩
    refine ⟨h1, by rcases M.kd x h1 with h | h; exact h; exact absurd h h2, fun y hy h4 => ?_⟩
    simp only [Bool.and_eq_true, decide_eq_true_eq] at h4
    exact h3 y (qfQ.1 hy) h4.1 h4.2
end Go.Proofs.Ytcjgodgpaokbnaa

/- Beds, plain: what requests need; the beds that a cancellation frees. -/
namespace Go.Proofs.Ytcjgodgpaokbnaa
set_option linter.constructorNameAsVariable false
set_option linter.unusedSimpArgs false
set_option linter.unusedVariables false
set_option linter.unusedSectionVars false
open Go Go.Proofs Go.RowKit
set_option maxHeartbeats 1000000
def qmK (h t : Int) (s : Stay) : Bool := decide (s.1 = h) && wi t s.2.1 s.2.2
def qwO (m : Msg) (h t : Int) : Int := ((m.2.2.2.2.filter (qmK h t)).length : Int) * m.2.2.2.1
def qqF (l : List Msg) (h t : Int) : Int := l.foldl (fun b m => b + qwO m h t) 0
theorem qN1 {k : Nat} {p : Int} (hk : k ≤ 1000) (h0 : 0 ≤ p) (h1 : p ≤ 1000) : 0 ≤ (k : Int) * p ∧ (k : Int) * p ≤ 1000 * (k : Int) := by
  constructor
  · exact Int.mul_nonneg (by omega) h0
  · rw [Int.mul_comm 1000]; exact Int.mul_le_mul_of_nonneg_left h1 (by omega)
theorem qNp (n : Nat) (l : List Msg) (h t : Int) (i : Nat) (m : Msg) (hi : l[i]? = some m) (hp : 0 ≤ m.2.2.2.1 ∧ m.2.2.2.1 ≤ 1000) : ∀ (B A : List Stay) (acc : Int) (n' : Nat), m.2.2.2.2 = A ++ B → 0 ≤ acc → acc + 1000 * (B.length : Int) ≤ 1000000000 → A.length + B.length ≤ 1000 → B.length < n' →
    qg n' (qlj n) (l, (h, (t, (acc, ((i : Int), ((A.length : Int), ())))))) = some (l, (h, (t, (acc + ((B.filter (qmK h t)).length : Int) * m.2.2.2.1, ((i : Int), ()))))) := by
  intro B
  induction B with
  | nil =>
    intro A acc n' hm h0 h1 hl hn
    obtain ⟨n', rfl⟩ : ∃ m, n' = m + 1 := ⟨n' - 1, by omega⟩
    rw [List.append_nil] at hm
    rw [qu, qoJ]
    simp only [qls, hi, Option.bind_some, hm, qbC, cond_false, List.filter_nil, List.length_nil]
    simp
  | cons s B ih =>
    intro A acc n' hm h0 h1 hl hn
    simp only [List.length_cons] at h1 hl hn
    obtain ⟨n', rfl⟩ : ∃ m, n' = m + 1 := ⟨n' - 1, by omega⟩
    rw [qu, qoJ]
    have hk : A.length < (A ++ s :: B).length := by simp
    have hs : (A ++ s :: B)[A.length]? = some s := by simp
    have hm' : m.2.2.2.2 = (A ++ [s]) ++ B := by rw [hm]; simp
    simp only [qls, hi, Option.bind_some, hm, qbq hk, cond_true, hs, qsL, qK (show A.length < 9223372036854775807 by omega)]
    have ih1 := ih (A ++ [s]) (acc + m.2.2.2.1) n' hm' (by omega) (by omega) (by simp; omega) (by omega)
    have ih2 := ih (A ++ [s]) acc n' hm' h0 (by omega) (by simp; omega) (by omega)
    simp only [List.length_append, List.length_cons, List.length_nil, Nat.zero_add] at ih1 ih2
    rw [List.filter_cons]
    by_cases e1 : s.1 = h
    · rw [qdU e1]
      simp only [cond_true]
      cases e2 : wi t s.2.1 s.2.2 with
      | true =>
        rw [show qmK h t s = true by unfold qmK; simp [e1, e2]]
        simp only [cond_true, if_true, List.length_cons]
        rw [show iW (iAdd acc m.2.2.2.1) = acc + m.2.2.2.1 from qmI (by unfold iAdd; omega) (by unfold iAdd; omega), ih1]
        have : ((((B.filter (qmK h t)).length + 1 : Nat)) : Int) * m.2.2.2.1 = ((B.filter (qmK h t)).length : Int) * m.2.2.2.1 + m.2.2.2.1 := by
          rw [Int.natCast_add, Int.add_mul]; simp
        rw [this, Int.add_assoc, Int.add_comm m.2.2.2.1]
      | false =>
        rw [show qmK h t s = false by unfold qmK; simp [e2]]
        simp only [cond_false]
        rw [ih2]
        rfl
    · rw [qf4 e1, show qmK h t s = false by unfold qmK; simp [e1]]
      simp only [cond_false]
      rw [ih2]
      rfl
def qFv (m : Msg) : Prop := (0 ≤ m.2.2.2.1 ∧ m.2.2.2.1 ≤ 1000) ∧ m.2.2.2.2.length ≤ 500
theorem qMp {m : Msg} (h : qFv m) (x t : Int) : 0 ≤ qwO m x t ∧ qwO m x t ≤ 500000 := by
  have h1 := List.length_filter_le (qmK x t) m.2.2.2.2
  have h3 := h.2
  have h2 := qN1 (k := (m.2.2.2.2.filter (qmK x t)).length) (by omega) h.1.1 h.1.2
  unfold qwO
  omega
theorem qy8 (h t : Int) : ∀ (l : List Msg) (b : Int), l.foldl (fun b m => b + qwO m h t) b = b + qqF l h t
  | [], b => by simp [qqF]
  | m :: l, b => by
    unfold qqF
    rw [List.foldl_cons, List.foldl_cons, qy8 h t l, qy8 h t l]
    omega
theorem qFw (m : Msg) (l : List Msg) (h t : Int) : qqF (m :: l) h t = qwO m h t + qqF l h t := by
  unfold qqF
  rw [List.foldl_cons, qy8]
  unfold qqF
  omega
theorem qMq {l : List Msg} (hs : ∀ m, m ∈ l → qFv m) (h t : Int) : 0 ≤ qqF l h t ∧ qqF l h t ≤ 500000 * l.length := by
  induction l with
  | nil => simp [qqF]
  | cons m l ih =>
    have h1 := qMp (hs m List.mem_cons_self) h t
    have h2 := ih fun x hx => hs x (List.mem_cons_of_mem _ hx)
    rw [qFw, List.length_cons]
    omega
theorem qK5 (n : Nat) (l : List Msg) (h t : Int) (hs : ∀ m, m ∈ l → qFv m) (hl : l.length ≤ 500) (hn : 2000 ≤ n) : qnt n (l, (h, (t, ()))) = some (qqF l h t, ()) := by
  rw [qxX]
  have h1 := qtV (step := qlk n) l (fun k b => (l, (h, (t, (b, ((k : Int), ())))))) (fun b m => b + qwO m h t) 0 (fun b => (b, ())) (fun rec k b hk hb => by
    have hbb : 0 ≤ b ∧ b ≤ 500000 * 500 := by
      rw [qy8] at hb
      have := qMq (l := l.take k) (fun m hm => hs m (List.mem_of_mem_take hm)) h t
      have h2 : (l.take k).length ≤ 500 := by simp; omega
      omega
    have hm := hs l[k] (List.getElem_mem hk)
    have hm2 := hm.2
    rw [qoK]
    simp only [qbq hk, cond_true]
    rw [show (0 : Int) = (([] : List Stay).length : Int) from rfl, qNp n l h t k l[k] (List.getElem?_eq_getElem hk) hm.1 l[k].2.2.2.2 [] b n rfl hbb.1 (by omega) (by simp; omega) (by omega)]
    simp only [Option.bind_some, qK (show k < 9223372036854775807 by omega)]
    rfl) (fun rec b => by
    rw [qoK]
    simp only [qbC, cond_false]) (n := n) (by omega)
  show Option.bind (qg n _ (l, (h, (t, (0, (((0 : Nat) : Int), ())))))) _ = _
  rw [h1]
  rfl
theorem qDY (h : Int) : ∀ (n : Nat) (lo : Int) (x t : Int), (x, t) ∈ qkf h lo n ↔ x = h ∧ lo ≤ t ∧ t < lo + n
  | 0, lo, x, t => by simp [qkf]; try omega
  | n + 1, lo, x, t => by
    unfold qkf
    rw [List.mem_cons, qDY h n]
    simp only [Prod.mk.injEq]
    omega
theorem qFx (s : Stay) (x t : Int) : (x, t) ∈ qtE s ↔ qmK x t s = true := by
  unfold qtE qmK wi
  rw [qDY]
  simp only [Bool.and_eq_true, decide_eq_true_eq]
  omega
theorem qDZ (x t : Int) : ∀ ss : List Stay, (qbe ss).Nodup → (ss.filter (qmK x t)).length = if (x, t) ∈ qbe ss then 1 else 0
  | [], _ => by simp [qbe]
  | s :: ss, h => by
    unfold qbe at h ⊢
    rw [List.nodup_append] at h
    have ih := qDZ x t ss h.2.1
    rw [List.filter_cons]
    cases hm : qmK x t s with
    | true =>
      have h1 := (qFx s x t).2 hm
      have h2 : (x, t) ∉ qbe ss := fun h3 => h.2.2 _ h1 _ h3 rfl
      rw [if_neg h2] at ih
      simp only [if_true, List.length_cons, ih, List.mem_append, h1, true_or]
    | false =>
      have h1 : (x, t) ∉ qtE s := fun h3 => by rw [(qFx s x t).1 h3] at hm; cases hm
      simp only [Bool.false_eq_true, if_false, ih, List.mem_append, h1, false_or]
theorem qMr {c : Chn} {m : Msg} (hm : MsgOk c m) (x t : Int) : qwO m x t = if (x, t) ∈ qbe m.2.2.2.2 then m.2.2.2.1 else 0 := by
  unfold qwO
  rw [qDZ x t _ hm.nd]
  split <;> simp
theorem qNq {q : List Msg} {k : Nat} (hk : k < q.length) : List.drop k (List.take (k + 1) q) = [q[k]] := by
  rw [List.take_succ_eq_append_getElem hk, List.drop_append_of_le_length (by simp; omega)]
  simp
end Go.Proofs.Ytcjgodgpaokbnaa

/- Beds, plain: the freed beds. -/
namespace Go.Proofs.Ytcjgodgpaokbnaa
set_option linter.constructorNameAsVariable false
set_option linter.unusedSimpArgs false
set_option linter.unusedVariables false
set_option linter.unusedSectionVars false
open Go Go.Proofs Go.RowKit
set_option maxHeartbeats 1000000
theorem MsgOk.small {c : Chn} {m : Msg} (h : MsgOk c m) (hl : m.2.2.2.2.length ≤ 500) : qFv m := ⟨⟨by have := h.p1; omega, by have := h.p2; omega⟩, hl⟩
theorem qIN {c : Chn} {l : List Msg} (V : Vld c l) : ∀ m, m ∈ qm l → qFv m := fun m hm => (qsa V m hm).small (by have := V.st m (qlS.1 hm).1; omega)
theorem qtX {l : List Msg} (M : Msgs l) {x y : Msg} (hx : x ∈ qm l) (hy : y ∈ qm l) (h : x.2.1 = y.2.1) : x = y := by
  have h1 := qeS.1 hx
  have h2 := qeS.1 hy
  have k1 := M.kd x h1.1
  have k2 := M.kd y h2.1
  have e1 : x.1 = 1 := by rcases k1 with k | k; exact k; exact absurd k h1.2.1
  have e2 : y.1 = 1 := by rcases k2 with k | k; exact k; exact absurd k h2.2.1
  exact M.cl x y h1.1 h2.1 h (by rw [e1, e2])
theorem qzr {l : List Msg} (M : Msgs l) : (qm l).Pairwise (fun a b => a ≠ b) := (qgL M).imp fun {a b} h e => by subst e; omega
theorem qK6 {c : Chn} {m : Msg} (h : mesB c m = true) (hk : m.1 ≠ 2) : qnA c.1.length c.2 (-1) m.2.2.2.2 = true := by
  unfold mesB canB reqB at h
  rw [show decide (m.1 = 2) = false from decide_eq_false hk] at h
  simp only [Bool.false_and, Bool.false_or, Bool.and_eq_true] at h
  exact h.2.2.2.2.2
end Go.Proofs.Ytcjgodgpaokbnaa

/- Beds, plain: why a request waits. -/
namespace Go.Proofs.Ytcjgodgpaokbnaa
set_option linter.constructorNameAsVariable false
set_option linter.unusedSimpArgs false
set_option linter.unusedVariables false
set_option linter.unusedSectionVars false
open Go Go.Proofs Go.RowKit
set_option maxHeartbeats 1000000
def qoN (c : Chn) (u : Used) (m : Msg) : Spot × Int := match (qbe m.2.2.2.2).find? fun s => decide (m.2.2.2.1 - lft c u s > 0) with
  | some s => (s, m.2.2.2.1 - lft c u s)
  | none => ((0, 0), 0)
theorem qGU (n : Nat) (c : Chn) (hc : qeh c = true) (a w : List Msg) (u : Used) (m : Msg) (hp : 0 ≤ m.2.2.2.1 ∧ m.2.2.2.1 ≤ 1000) : ∀ (sps : List Spot), (∀ s, s ∈ sps → okS c s ∧ -1000 ≤ valL s u ∧ valL s u ≤ 1000) →
    (sps.find? (fun s => decide (m.2.2.2.1 - lft c u s > 0)) = none ∧ rgF (qeA n) (sps.map fun y => (y, ())) ((c, ()), (a, (w, (u, (m, (((0 : Int), (0 : Int)), ((0 : Int), ()))))))) = some (.inl ((c, ()), (a, (w, (u, (m, (((0 : Int), (0 : Int)), ((0 : Int), ())))))))))
    ∨ (∃ sp : Spot, sps.find? (fun s => decide (m.2.2.2.1 - lft c u s > 0)) = some sp ∧ rgF (qeA n) (sps.map fun y => (y, ())) ((c, ()), (a, (w, (u, (m, (((0 : Int), (0 : Int)), ((0 : Int), ()))))))) = some (.inr ((c, ()), (a, (w, (u, (sp, (m.2.2.2.1 - lft c u sp, ()))))))))
  | [], _ => .inl ⟨rfl, rfl⟩
  | s :: sps, h => by
    obtain ⟨h1, h2, h3⟩ := h s List.mem_cons_self
    have ih := qGU n c hc a w u m hp sps fun z hz => h z (List.mem_cons_of_mem _ hz)
    obtain ⟨y, e1, e2, e3⟩ := qvT hc h1
    unfold hutB at e2
    simp only [Bool.and_eq_true, qf5] at e2
    have hl : -2000 ≤ lft c u s ∧ lft c u s ≤ 2000 := by unfold lft; rw [e3]; omega
    rw [List.map_cons, rgF, qoL]
    simp only [qF8 n c hc a w u s h1 h2 h3, Option.bind_some]
    rw [show iW (iSub m.2.2.2.1 (lft c u s)) = m.2.2.2.1 - lft c u s from qmI (by unfold iSub; omega) (by unfold iSub; omega)]
    rw [List.find?_cons]
    by_cases h4 : m.2.2.2.1 - lft c u s > 0
    · refine .inr ⟨s, by rw [decide_eq_true h4], ?_⟩
      rw [show iGt (m.2.2.2.1 - lft c u s) 0 = true from decide_eq_true h4]
      rfl
    · rw [show iGt (m.2.2.2.1 - lft c u s) 0 = false from decide_eq_false h4, decide_eq_false h4]
      exact ih
theorem qK7 (n : Nat) (c : Chn) (hc : qeh c = true) (a w : List Msg) (u : Used) (m : Msg) (hm : MsgOk c m) (hu : Inv c u) : qfl n (m, ((c, ()), (a, (w, (u, ()))))) = some ((qoN c u m).1, ((qoN c u m).2, ((c, ()), (a, (w, (u, ())))))) := by
  rw [qqf, qpu]
  simp only [Option.bind_some, hm.sd]
  have hp := hm.p1
  have hp2 := hm.p2
  have := qGU n c hc a w u m (by omega) (qbe m.2.2.2.2) (fun s hs => by have := hu.b hc (hm.sp s hs); exact ⟨hm.sp s hs, by omega, by omega⟩)
  unfold qoN
  rcases this with ⟨h1, h2⟩ | ⟨sp, h1, h2⟩
  · rw [h1]
    refine (congrArg (fun o => Option.bind o _) h2).trans ?_
    rfl
  · rw [h1]
    refine (congrArg (fun o => Option.bind o _) h2).trans ?_
    rfl
theorem qK8 {c : Chn} {u : Used} {m : Msg} (h : qlT c u m = true) : (qoN c u m).1 ∈ qbe m.2.2.2.2 ∧ (qoN c u m).2 = m.2.2.2.1 - lft c u (qoN c u m).1 ∧ 0 < (qoN c u m).2 := by
  unfold qlT at h
  unfold qoN
  cases hf : (qbe m.2.2.2.2).find? fun s => decide (m.2.2.2.1 - lft c u s > 0) with
  | none =>
    rw [List.find?_eq_none] at hf
    rw [List.any_eq_true] at h
    obtain ⟨s, h1, h2⟩ := h
    exact absurd h2 (hf s h1)
  | some s =>
    refine ⟨List.mem_of_find?_eq_some hf, rfl, ?_⟩
    have := List.find?_some hf
    simpa using this
theorem qJr (n : Nat) (q : List Msg) (ln i id : Int) (c : Chn) (a w : List Msg) (m : Msg) (hp : 0 ≤ m.2.2.2.1 ∧ m.2.2.2.1 ≤ 1000) : ∀ (sps : List Spot) (u : Used), sps.Nodup → (∀ s, s ∈ sps → -1000 ≤ valL s u ∧ valL s u ≤ 1000) →
    rgF (qfq n) (sps.map fun y => (y, ())) (q, (ln, (i, (id, ((c, ()), (a, (w, (u, (m, ()))))))))) = some (.inl (q, (ln, (i, (id, ((c, ()), (a, (w, (addU m.2.2.2.1 sps u, (m, ())))))))))) 
  | [], u, _, _ => rfl
  | s :: sps, u, hn, h => by
    obtain ⟨h1, h2⟩ := h s List.mem_cons_self
    rw [List.nodup_cons] at hn
    obtain ⟨p1, p2⟩ := qKZ s (valL s u + m.2.2.2.1) u
    rw [List.map_cons, rgF, qsb]
    simp only [qJl, qEr]
    rw [qnB (by omega)]
    simp only [Option.bind_some]
    rw [qeB (by rw [Nat.ble_eq]; unfold nAdd; omega)]
    simp only [Option.bind_some]
    rw [qmI (n := iAdd (valL s u) m.2.2.2.1) (by unfold iAdd; omega) (by unfold iAdd; omega)]
    refine Eq.trans (congrArg (fun z : Used => rgF (qfq n) (sps.map fun y => (y, ())) (q, (ln, (i, (id, ((c, ()), (a, (w, (z, (m, ())))))))))) p1) ?_
    exact qJr n q ln i id c a w m hp sps _ hn.2 fun z hz => by
      have : z ≠ s := fun e => hn.1 (by rw [← e]; exact hz)
      rw [qBq, if_neg this]
      exact h z (List.mem_cons_of_mem _ hz)
theorem qNr (n : Nat) (c : Chn) (id : Int) (hc : qeh c = true) (q : List Msg) (hq : ∀ m, m ∈ q → MsgOk c m) (hl : q.length ≤ 1000) : ∀ (j k : Nat) (d : DecS) (n' : Nat), k + j = q.length → j < n' → Inv c d.2.2 → d.1.length + d.2.1.length ≤ k →
    qg n' (qh9 n) (q, ((q.length : Int), ((k : Int), (id, ((c, ()), (d.1, (d.2.1, (d.2.2, ())))))))) = some (id, ((c, ()), (((((q.drop k).takeWhile fun m => !decide (m.2.1 = id))).foldl (dcF c) d).1, (((((q.drop k).takeWhile fun m => !decide (m.2.1 = id))).foldl (dcF c) d).2.1, (((((q.drop k).takeWhile fun m => !decide (m.2.1 = id))).foldl (dcF c) d).2.2, ()))))) := by
  intro j
  induction j with
  | zero =>
    intro k d n' hk hn' hi hd
    obtain ⟨n', rfl⟩ : ∃ m, n' = m + 1 := ⟨n' - 1, by omega⟩
    have : k = q.length := by omega
    subst this
    rw [qu, qkL, List.drop_length]
    simp only [qbC, cond_false]
    rfl
  | succ j ih =>
    intro k d n' hk hn' hi hd
    obtain ⟨n', rfl⟩ : ∃ m, n' = m + 1 := ⟨n' - 1, by omega⟩
    have hlt : k < q.length := by omega
    have hm := hq _ (List.getElem_mem hlt)
    rw [qu, qkL, List.drop_eq_getElem_cons hlt, List.takeWhile_cons]
    simp only [qbq hlt, cond_true, qcq q hlt, Option.bind_some, qK (show k < 9223372036854775807 by omega), qC1]
    by_cases hid : q[k].2.1 = id
    · rw [qdU hid]
      simp [hid]
    · obtain ⟨sp, kk, h1, h2⟩ := qIm n c hc d.1 d.2.1 d.2.2 q[k] hm hi
      have hinv := qEs hm hi
      have ih' := ih (k + 1) (dcF c d q[k]) n' (by omega) (by omega) hinv (by unfold dcF; split <;> simp <;> omega)
      rw [qf4 hid]
      simp only [hid, decide_false, Bool.not_false, if_true, cond_false, h1, Option.bind_some, List.foldl_cons]
      rw [h2]
      cases hs : qlT c d.2.2 q[k] with
      | true =>
        have hdf : dcF c d q[k] = (d.1, (d.2.1 ++ [q[k]], d.2.2)) := by unfold dcF; rw [if_pos hs]
        simp only [cond_true]
        rw [qeB (by rw [Nat.ble_eq]; unfold nAdd; omega)]
        simp only [Option.bind_some]
        rw [hdf] at ih' ⊢
        exact ih'
      | false =>
        have hdf : dcF c d q[k] = (d.1 ++ [q[k]], (d.2.1, addU q[k].2.2.2.1 (qbe q[k].2.2.2.2) d.2.2)) := by unfold dcF; rw [if_neg (by rw [hs]; simp)]
        simp only [cond_false]
        rw [qeB (by rw [Nat.ble_eq]; unfold nAdd; omega)]
        simp only [Option.bind_some, qpu, hm.sd]
        have hp1 := hm.p1
        have hp2 := hm.p2
        have ha := qJr n q q.length k id c (d.1 ++ [q[k]]) d.2.1 q[k] (by omega) (qbe q[k].2.2.2.2) d.2.2 hm.nd (fun s hs => by have := hi.b hc (hm.sp s hs); omega)
        refine (congrArg (fun o => Option.bind o _) ha).trans ?_
        simp only [Option.bind_some, Sum.elim_inl, qK (show k < 9223372036854775807 by omega)]
        rw [hdf] at ih' ⊢
        exact ih'
def qjP (q : List Msg) (id : Int) : List Msg := q.takeWhile fun m => !decide (m.2.1 = id)
theorem qJ4 (n : Nat) (c : Chn) (id : Int) (hc : qeh c = true) (q : List Msg) (hq : ∀ m, m ∈ q → MsgOk c m) (hl : q.length ≤ 1000) (hn : 2000 ≤ n) : qi9 n ((c, ()), (q, (id, ()))) = some (id, ((c, ()), ((dcL c (qjP q id)).1, ((dcL c (qjP q id)).2.1, ((dcL c (qjP q id)).2.2, ()))))) := by
  rw [qtW]
  have h := qNr n c id hc q hq hl q.length 0 ([], ([], [])) n (by omega) (by omega) (fun s hs => by
      obtain ⟨y, e1, e2, e3⟩ := qvT hc hs
      unfold hutB at e2
      simp only [Bool.and_eq_true, qf5] at e2
      show 0 ≤ (0 : Int) ∧ (0 : Int) ≤ _
      rw [e3]
      omega) (by simp)
  rw [List.drop_zero] at h
  show Option.bind (qg n _ (q, ((q.length : Int), (((0 : Nat) : Int), (id, ((c, ()), ([], ([], ([], ()))))))))) _ = _
  rw [h]
  rfl
theorem qMs (n : Nat) (l : List Msg) (id : Int) (hl : l.length ≤ 1000) (hn : 2000 ≤ n) :
    ((∀ m, m ∈ l → m.2.1 ≠ id) ∧ qcc n (l, (id, ())) = some (-1, (id, ()))) ∨ (∃ k, ∃ hk : k < l.length, l[k].2.1 = id ∧ qcc n (l, (id, ())) = some ((k : Int), (id, ()))) := by
  rw [qln]
  have h := qoy (step := qdp n) l (fun k => (l, ((l.length : Int), ((k : Int), (id, ()))))) (fun m => decide (m.2.1 = id)) (fun k => .inr ((k : Int), (id, ()))) (.inl (id, ())) (fun rec k hk => by
    rw [qfR]
    simp only [qbq hk, cond_true, qcq l hk, Option.bind_some, qK (show k < 9223372036854775807 by omega), qC0]
    by_cases h : l[k].2.1 = id
    · rw [qdU h]; simp [h]
    · rw [qf4 h]; simp [h]) (fun rec => by
    rw [qfR]
    simp only [qbC, cond_false]) (n := n) (by omega)
  rcases h with ⟨h1, h2⟩ | ⟨k, hk, h1, h2, h3⟩
  · refine .inl ⟨fun m hm e => ?_, ?_⟩
    · rw [List.any_eq_false] at h1
      have := h1 m hm
      simp [e] at this
    · show Option.bind (qg n _ (l, ((l.length : Int), (((0 : Nat) : Int), (id, ()))))) _ = _
      rw [h2]; rfl
  · refine .inr ⟨k, hk, by simpa using h1, ?_⟩
    show Option.bind (qg n _ (l, ((l.length : Int), (((0 : Nat) : Int), (id, ()))))) _ = _
    rw [h3]; rfl
theorem qK9 (n : Nat) (c : Chn) (l : List Msg) (id : Int) (V : Vld c l) (hl : l.length ≤ 12) (hn : 2000 ≤ n) (h : id ∈ qiS c l) : ∃ m, m ∈ (offL c l).2.1 ∧ m.2.1 = id ∧ qwf n (c, (l, (id, ()))) = some (.inl (m, (0, ((c, ()), ((dcL c (qjP (qm l) id)).1, ((dcL c (qjP (qm l) id)).2.1, ((dcL c (qjP (qm l) id)).2.2, ()))))))) := by
  have hol := qx1 c l
  have hql := qqC l
  have hs : ∀ z, z ∈ l → z.2.2.2.2.length ≤ 1000 := fun z hz => by have := V.st z hz; omega
  obtain ⟨m, hm, hmid⟩ := qGQ.1 h
  rcases qMs n (offL c l).2.1 id (by omega) hn with ⟨h1, h2⟩ | ⟨k, hk, h1, h2⟩
  · exact absurd hmid (h1 m hm)
  · refine ⟨(offL c l).2.1[k], List.getElem_mem hk, h1, ?_⟩
    rw [qEu]
    simp only [qDi n c l V [] hl (by simp) hn, List.any_nil, cond_false, Option.bind_some, Sum.elim_inl, qeQ rfl, h2]
    rw [show iLt (k : Int) 0 = false from decide_eq_false (by omega)]
    simp only [cond_false, qcq _ hk, Option.bind_some, qIj n l hl hs hn, qJ4 n c id V.ch (qm l) (qsa V) (by omega) hn]
theorem qLa {l : List Msg} (M : Msgs l) {m : Msg} (hm : m ∈ qm l) : ∃ B, qm l = qjP (qm l) m.2.1 ++ m :: B := by
  obtain ⟨A, B, h⟩ := List.append_of_mem hm
  have hnd := qzr M
  have hA : ∀ x, x ∈ A → x.2.1 ≠ m.2.1 := fun x hx e => by
    have h2 := hnd
    rw [h, List.pairwise_append] at h2
    exact h2.2.2 x hx m List.mem_cons_self (qtX M (by rw [h]; simp [hx]) hm e)
  refine ⟨B, ?_⟩
  have : qjP (qm l) m.2.1 = A := by
    unfold qjP
    rw [h, List.takeWhile_append_of_pos fun x hx => by simp [hA x hx], List.takeWhile_cons]
    simp
  rw [this, h]
theorem qGe (c : Chn) : ∀ (q : List Msg) (d : DecS), ∃ a w, (q.foldl (dcF c) d).1 = d.1 ++ a ∧ (q.foldl (dcF c) d).2.1 = d.2.1 ++ w ∧ (∀ x, x ∈ a → x ∈ q) ∧ ∀ x, x ∈ w → x ∈ q
  | [], d => ⟨[], [], by simp, by simp, by simp, by simp⟩
  | m :: q, d => by
    obtain ⟨a, w, h1, h2, h3, h4⟩ := qGe c q (dcF c d m)
    rw [List.foldl_cons, h1, h2]
    unfold dcF
    split
    · exact ⟨a, m :: w, rfl, by simp, fun x hx => List.mem_cons_of_mem _ (h3 x hx), fun x hx => by rcases List.mem_cons.1 hx with rfl | hx; exact List.mem_cons_self; exact List.mem_cons_of_mem _ (h4 x hx)⟩
    · exact ⟨m :: a, w, by simp, rfl, fun x hx => by rcases List.mem_cons.1 hx with rfl | hx; exact List.mem_cons_self; exact List.mem_cons_of_mem _ (h3 x hx), fun x hx => List.mem_cons_of_mem _ (h4 x hx)⟩
theorem qvU {c : Chn} {l : List Msg} (M : Msgs l) {A B : List Msg} {m : Msg} (h : qm l = A ++ m :: B) : (m.2.1 ∈ accL c l ↔ qlT c (dcL c A).2.2 m = false) ∧ (m.2.1 ∈ qiS c l ↔ qlT c (dcL c A).2.2 m = true) := by
  have hnd := qzr M
  rw [h, List.pairwise_append, List.pairwise_cons] at hnd
  have hmA : m ∉ A := fun hx => hnd.2.2 m hx m List.mem_cons_self rfl
  have hmB : m ∉ B := fun hx => hnd.2.1.1 m hx rfl
  have hmq : m ∈ qm l := by rw [h]; simp
  have e : offL c l = B.foldl (dcF c) (dcF c (dcL c A) m) := by unfold offL dcL; rw [h, List.foldl_append, List.foldl_cons]
  obtain ⟨a1, w1, g1, g2, g3, g4⟩ := qGe c A ([], ([], []))
  obtain ⟨a2, w2, g5, g6, g7, g8⟩ := qGe c B (dcF c (dcL c A) m)
  have ga : ∀ x, x ∈ (dcL c A).1 → x ∈ A := fun x hx => by unfold dcL at hx; rw [g1] at hx; exact g3 x (by simpa using hx)
  have gw : ∀ x, x ∈ (dcL c A).2.1 → x ∈ A := fun x hx => by unfold dcL at hx; rw [g2] at hx; exact g4 x (by simpa using hx)
  have one : ∀ x, Live l x → x.2.1 = m.2.1 → x = m := fun x hx e => qtX M (qeS.2 hx) hmq e
  have acc : m.2.1 ∈ accL c l ↔ m ∈ (offL c l).1 := by
    rw [qMn]
    constructor
    · rintro ⟨x, h1, h2⟩
      rw [← one x (qEt.1 (.inl h1)) h2]; exact h1
    · exact fun h => ⟨m, h, rfl⟩
  have wai : m.2.1 ∈ qiS c l ↔ m ∈ (offL c l).2.1 := by
    rw [qGQ]
    constructor
    · rintro ⟨x, h1, h2⟩
      rw [← one x (qEt.1 (.inr h1)) h2]; exact h1
    · exact fun h => ⟨m, h, rfl⟩
  rw [acc, wai, e, g5, g6]
  cases hs : qlT c (dcL c A).2.2 m with
  | true =>
    have e2 : dcF c (dcL c A) m = ((dcL c A).1, ((dcL c A).2.1 ++ [m], (dcL c A).2.2)) := by unfold dcF; rw [if_pos hs]
    rw [e2]
    simp only [List.mem_append, List.mem_singleton, or_true, true_or, iff_true]
    refine ⟨?_, trivial⟩
    simp only [Bool.true_eq_false, iff_false]
    rintro (h | h)
    · exact hmA (ga _ h)
    · exact hmB (g7 _ h)
  | false =>
    have e2 : dcF c (dcL c A) m = ((dcL c A).1 ++ [m], ((dcL c A).2.1, addU m.2.2.2.1 (qbe m.2.2.2.2) (dcL c A).2.2)) := by unfold dcF; rw [if_neg (by rw [hs]; simp)]
    rw [e2]
    simp only [List.mem_append, List.mem_singleton, or_true, true_or, iff_true, true_and, Bool.false_eq_true, iff_false]
    rintro (h | h)
    · exact hmA (gw _ h)
    · exact hmB (g8 _ h)
theorem qNs (n : Nat) (c : Chn) (l : List Msg) (V : Vld c l) (hl : l.length ≤ 12) (hn : 2000 ≤ n) {A B : List Msg} {m : Msg} (hq : qm l = A ++ m :: B) (hs : qlT c (dcL c A).2.2 m = true) : qBu n (c, (l, (m.2.1, ()))) = some ((qoN c (dcL c A).2.2 m).1.1, ((qoN c (dcL c A).2.2 m).1.2, ((qoN c (dcL c A).2.2 m).2, (0, ())))) := by
  have hmq : m ∈ qm l := by rw [hq]; simp
  have hAb : qjP (qm l) m.2.1 = A := by
    obtain ⟨B', h⟩ := qLa V.msgs hmq
    have hnd := qzr V.msgs
    have hA : ∀ x, x ∈ A → x.2.1 ≠ m.2.1 := fun x hx e => by
      have h2 := hnd
      rw [hq, List.pairwise_append] at h2
      exact h2.2.2 x hx m List.mem_cons_self (qtX V.msgs (by rw [hq]; simp [hx]) hmq e)
    unfold qjP
    rw [hq, List.takeWhile_append_of_pos fun x hx => by simp [hA x hx], List.takeWhile_cons]
    simp
  obtain ⟨x, h1, h2, h3⟩ := qK9 n c l m.2.1 V hl hn ((qvU V.msgs hq).2.2 hs)
  have hxm : x = m := qtX V.msgs (qeS.2 (qEt.1 (.inr h1))) hmq h2
  subst hxm
  rw [hAb] at h3
  have hok : ∀ y, y ∈ A → MsgOk c y := fun y hy => qsa V y (by rw [hq]; simp [hy])
  rw [qG3, h3]
  simp only [Option.bind_some, Sum.elim_inl, qeQ rfl, cond_false, qK7 n c V.ch (dcL c A).1 (dcL c A).2.1 (dcL c A).2.2 x (qsa V x hmq) (qIn V.ch hok)]
end Go.Proofs.Ytcjgodgpaokbnaa

/- Beds, plain: the queue is fair. -/
namespace Go.Proofs.Ytcjgodgpaokbnaa
set_option linter.constructorNameAsVariable false
set_option linter.unusedSimpArgs false
set_option linter.unusedVariables false
set_option linter.unusedSectionVars false
open Go Go.Proofs Go.RowKit
set_option maxHeartbeats 1000000
theorem qIO {q : List Msg} (M : Msgs q) (h1 : ∀ m, m ∈ q → m.1 = 1) (hs : q.Pairwise (fun a b => key2 a < key2 b)) : qm q = q :=
  qqD key2 _ _ (qgL M) hs fun x => by
    rw [qeS]
    unfold Live
    constructor
    · exact fun h => h.1
    · exact fun h => ⟨h, by have := h1 x h; omega, fun y hy h2 => by have := h1 y hy; omega⟩
theorem qMt {l : List Msg} (M : Msgs l) {m : Msg} (h : m ∈ qm l) : m.1 = 1 := by
  have h1 := qeS.1 h
  rcases M.kd m h1.1 with k | k
  · exact k
  · exact absurd k h1.2.1
theorem qMu (n : Nat) (l : List Msg) (hl : l.length ≤ 1000) (hs : ∀ m, m ∈ l → m.2.2.2.2.length ≤ 1000) (hn : 2000 ≤ n) : qoA n (l, ()) = some (l, ()) := by
  rw [qyr]
  have h := qtV (step := qml n) l (fun k b => (l, ((k : Int), (b, ())))) (fun b m => b ++ [m]) [] (fun b => (b, ())) (fun rec k b hk hb => by
    have hb2 : b = l.take k := by
      have := qBs (fun m : Msg => m) (l.take k) []
      rw [hb, this]; simp
    have hbl : b.length ≤ k := by rw [hb2]; simp; omega
    have hst := hs l[k] (List.getElem_mem hk)
    rw [qpv]
    simp only [qbq hk, cond_true, qcq l hk, Option.bind_some, qK (show k < 9223372036854775807 by omega)]
    rw [qeB (by rw [Nat.ble_eq]; unfold nAdd; omega)]
    simp only [Option.bind_some]
    rw [qeB (by rw [Nat.ble_eq]; unfold nAdd; omega)]
    rfl) (fun rec b => by
    rw [qpv]
    simp only [qbC, cond_false]) (n := n) (by omega)
  show Option.bind (qg n _ (l, (((0 : Nat) : Int), ([], ())))) _ = _
  have h2 := qBs (fun m : Msg => m) l []
  rw [h, h2]
  simp
theorem qNt {c : Chn} {m : Msg} (h : qnA c.1.length c.2 (-1) m.2.2.2.2 = true) {s : Spot} (hs : s ∈ qbe m.2.2.2.2) : wi s.1 0 ((c.1.length : Int) - 1) = true ∧ wi s.2 0 (c.2 - 1) = true := by
  obtain ⟨i1, _, _⟩ := qCX _ _ _ _ h
  have := i1 s hs
  exact ⟨qf5.2 (by omega), qf5.2 (by omega)⟩
theorem qIq {c : Chn} {l : List Msg} (V : Vld c l) (k : Nat) : Vld c ((qm l).take k) ∧ qm ((qm l).take k) = (qm l).take k := by
  have hq : ∀ x, x ∈ (qm l).take k → x ∈ l := fun x hx => (qlS.1 (List.mem_of_mem_take hx)).1
  have V1 : Vld c ((qm l).take k) := V.sub hq (by have := qqC l; have := V.ln; simp; omega)
  exact ⟨V1, qIO V1.msgs (fun m hm => qMt V.msgs (List.mem_of_mem_take hm)) ((qgL V.msgs).sublist (List.take_sublist _ _))⟩
theorem qNu (n : Nat) (c : Chn) (l : List Msg) (more : Msg) (V : Vld c l) (h8 : l.length ≤ 8) (hn : 2000 ≤ n) : ∀ (B A : List Msg) (n' : Nat), qm l = A ++ B → B.length < n' →
    qg n' (qj3 n) (l, (qm l, (accL c l, (qiS c l, ((A.length : Int), (c, (more, ()))))))) = some (.inl (l, (qm l, (accL c l, (qiS c l, (c, (more, ()))))))) := by
  have hql := qqC l
  have hal := qBt c l
  have hwl := qGR c l
  intro B
  induction B with
  | nil =>
    intro A n' hq hn'
    obtain ⟨n', rfl⟩ : ∃ m, n' = m + 1 := ⟨n' - 1, by omega⟩
    rw [List.append_nil] at hq
    rw [qu, qnD]
    simp only [hq, qbC, cond_false]
  | cons m B ih =>
    intro A n' hq hn'
    obtain ⟨n', rfl⟩ : ∃ m, n' = m + 1 := ⟨n' - 1, by omega⟩
    have ih' := ih (A ++ [m]) n' (by rw [hq]; simp) (by simp at hn'; omega)
    rw [List.length_append, List.length_cons, List.length_nil, Nat.zero_add] at ih'
    have hAl : A.length < (qm l).length := by rw [hq]; simp
    have hqA : (qm l)[A.length]? = some m := by rw [hq]; simp
    have hqA' : (qm l)[A.length] = m := by rw [List.getElem?_eq_getElem hAl] at hqA; injection hqA
    have hmq : m ∈ qm l := by rw [hq]; simp
    obtain ⟨V1, q1⟩ := qIq V (A.length + 1)
    obtain ⟨V2, q2⟩ := qIq V A.length
    have t1 : (qm l).take (A.length + 1) = A ++ m :: [] := by rw [List.take_succ_eq_append_getElem hAl, hqA']; rw [hq]; simp
    have t2 : (qm l).take A.length = A := by rw [hq]; simp
    have l1 : ((qm l).take (A.length + 1)).length ≤ 12 := by simp; omega
    have l2 : ((qm l).take A.length).length ≤ 12 := by simp; omega
    have sp1 := qvU (c := c) V1.msgs (l := (qm l).take (A.length + 1)) (A := A) (B := []) (m := m) (by rw [q1, t1])
    have sp0 := qvU (c := c) V.msgs hq
    have al1 := qBt c ((qm l).take (A.length + 1))
    rw [qu, qnD]
    simp only [qbq hAl, cond_true, qK (show A.length < 9223372036854775807 by omega), qls, hqA, Option.bind_some]
    rw [qnB (show A.length + 1 ≤ (qm l).length by omega)]
    simp only [Option.bind_some, qrM n c _ V1 l1 hn, qeQ rfl, cond_false, qiT n (accL c ((qm l).take (A.length + 1))) m.2.1 (by omega) hn, qiT n (accL c l) m.2.1 (by omega) hn, qiT n (qiS c l) m.2.1 (by omega) hn]
    cases hs : qlT c (dcL c A).2.2 m with
    | false =>
      have a0 : m.2.1 ∈ accL c l := sp0.1.2 hs
      have a1 : m.2.1 ∈ accL c ((qm l).take (A.length + 1)) := sp1.1.2 hs
      have w0 : m.2.1 ∉ qiS c l := fun h => by have := sp0.2.1 h; rw [hs] at this; cases this
      simp only [a0, a1, w0, decide_true, decide_false]
      exact ih'
    | true =>
      have a0 : m.2.1 ∉ accL c l := fun h => by have := sp0.1.1 h; rw [hs] at this; cases this
      have a1 : m.2.1 ∉ accL c ((qm l).take (A.length + 1)) := fun h => by have := sp1.1.1 h; rw [hs] at this; cases this
      have w0 : m.2.1 ∈ qiS c l := sp0.2.2 hs
      simp only [a0, a1, w0, decide_true, decide_false, show bNe false false = false from rfl, show bEq false true = false from rfl, cond_false, qNs n c l V (by omega) hn hq hs, Option.bind_some, qeQ rfl]
      rw [qnB (show A.length ≤ A.length + 1 by omega)]
      simp only [Option.bind_some]
      rw [qnB (show A.length ≤ (qm l).length by omega)]
      obtain ⟨v1, v2, v3⟩ := qK8 hs
      have hmok := qsa V m hmq
      have hst := qK6 (V.ms m (qlS.1 hmq).1) (qeS.1 hmq).2.1
      obtain ⟨w1, w2⟩ := qNt hst v1
      rw [qNq hAl, hqA']
      generalize hsv : qoN c (dcL c A).2.2 m = sv at v1 v2 v3 w1 w2
      obtain ⟨⟨sh, st⟩, k⟩ := sv
      simp only at v1 v2 v3 w1 w2 ⊢
      have hof : offL c ((qm l).take A.length) = dcL c A := by unfold offL; rw [q2, t2]
      have hok : okS c (sh, st) := hmok.sp _ v1
      have hlf := qNZ V2 hok
      rw [hof] at hlf
      rw [qK5 n [m] sh st (fun x hx => by rw [List.mem_singleton] at hx; rw [hx]; exact qIN V m hmq) (by simp) hn]
      simp only [Option.bind_some]
      rw [qMj n c _ V2 sh st w1 w2 l2 hn, hof]
      have hne : qqF [m] sh st = m.2.2.2.1 := by
        rw [qFw, qMr hmok, if_pos v1]
        simp [qqF]
      have hp1 := hmok.p1
      have hp2 := hmok.p2
      simp only [Option.bind_some, hne, qeQ rfl, cond_false]
      rw [show iLe k 0 = false from decide_eq_false (by omega)]
      rw [show iW (iAdd (lft c (dcL c A).2.2 (sh, st)) k) = m.2.2.2.1 by rw [qmI (by unfold iAdd; omega) (by unfold iAdd; omega)]; unfold iAdd; omega]
      rw [qeQ rfl]
      exact ih'
theorem qNv (n : Nat) (a b : List Int) (q : List Msg) (ha : a.length ≤ 1000) (hb : b.length ≤ 1000) (hq : q.length ≤ 1000) (h : ∀ m, m ∈ q → (m.2.1 ∈ a ↔ m.2.1 ∈ b)) (hn : 2000 ≤ n) : qg n (qdE n) (q, (a, (b, ((0 : Int), ())))) = some (.inl ()) := by
  have h1 := qvS (step := qdE n) q (fun k => (q, (a, (b, ((k : Int), ()))))) (fun m => !bNe (decide (m.2.1 ∈ a)) (decide (m.2.1 ∈ b))) (.inl ()) (.inr (false, ())) (fun rec k hk => by
    rw [qnC]
    simp only [qbq hk, cond_true, qcq q hk, Option.bind_some, qK (show k < 9223372036854775807 by omega), qiT n a _ ha hn, qiT n b _ hb hn]
    cases bNe (decide (q[k].2.1 ∈ a)) (decide (q[k].2.1 ∈ b)) <;> rfl) (fun rec => by
    rw [qnC]
    simp only [qbC, cond_false]) (n := n) (by omega)
  have h2 : (q.all fun m => !bNe (decide (m.2.1 ∈ a)) (decide (m.2.1 ∈ b))) = true := by
    rw [List.all_eq_true]
    intro m hm
    rw [show decide (m.2.1 ∈ a) = decide (m.2.1 ∈ b) from decide_eq_decide.2 (h m hm)]
    unfold bNe
    simp
  rw [h2] at h1
  exact h1
theorem qJ5 {c : Chn} {l : List Msg} {more : Msg} (V : Vld c l) (V' : Vld c (l ++ [more])) (hk : more.1 = 1) (hl : ∀ x, x ∈ qm l → x.2.2.1 < more.2.2.1) : ∃ T, qm (l ++ [more]) = qm l ++ T := by
  have hs := qgL V.msgs
  have hcan : ∀ y, y ∈ l ++ [more] → y.1 = 2 → y ∈ l := fun y hy h2 => by
    rcases List.mem_append.1 hy with h | h
    · exact h
    · rw [List.mem_singleton] at h; rw [h, hk] at h2; cases h2
  by_cases hc : ∃ y, y ∈ l ∧ y.1 = 2 ∧ y.2.1 = more.2.1
  · refine ⟨[], ?_⟩
    rw [List.append_nil]
    refine qJ2 V'.msgs V.msgs fun x => ?_
    unfold Live
    constructor
    · rintro ⟨h1, h2, h3⟩
      refine ⟨?_, h2, fun y hy => h3 y (by simp [hy])⟩
      rcases List.mem_append.1 h1 with h | h
      · exact h
      · rw [List.mem_singleton] at h
        subst h
        obtain ⟨y, h4, h5, h6⟩ := hc
        exact absurd h6 (h3 y (by simp [h4]) h5)
    · rintro ⟨h1, h2, h3⟩
      exact ⟨by simp [h1], h2, fun y hy h4 => h3 y (hcan y hy h4) h4⟩
  · refine ⟨[more], ?_⟩
    refine qqD key2 _ _ (qgL V'.msgs) ?_ fun x => ?_
    · rw [List.pairwise_append]
      refine ⟨hs, List.pairwise_singleton _ _, fun a ha b hb => ?_⟩
      rw [List.mem_singleton] at hb
      subst hb
      have h1 := hl a ha
      have h2 := V.msgs.id a (qlS.1 ha).1
      have h3 := V'.msgs.id b (by simp)
      unfold key2
      omega
    · rw [qeS, List.mem_append, qeS, List.mem_singleton]
      unfold Live
      constructor
      · rintro ⟨h1, h2, h3⟩
        rcases List.mem_append.1 h1 with h | h
        · exact .inl ⟨h, h2, fun y hy => h3 y (by simp [hy])⟩
        · exact .inr (by simpa using h)
      · rintro (⟨h1, h2, h3⟩ | rfl)
        · exact ⟨by simp [h1], h2, fun y hy h4 => h3 y (hcan y hy h4) h4⟩
        · exact ⟨by simp, by omega, fun y hy h4 h5 => hc ⟨y, hcan y hy h4, h4, h5⟩⟩
theorem qMv {c : Chn} {l : List Msg} {more : Msg} (V : Vld c l) (V' : Vld c (l ++ [more])) (hk : more.1 = 1) (hl : ∀ x, x ∈ qm l → x.2.2.1 < more.2.2.1) : ∀ m, m ∈ qm l → (m.2.1 ∈ accL c l ↔ m.2.1 ∈ accL c (l ++ [more])) := fun m hm => by
  obtain ⟨T, hT⟩ := qJ5 V V' hk hl
  obtain ⟨A, B, h⟩ := List.append_of_mem hm
  rw [(qvU V.msgs h).1, (qvU (c := c) V'.msgs (A := A) (B := B ++ T) (m := m) (by rw [hT, h]; simp)).1]
theorem qNw (n : Nat) (c : Chn) (l : List Msg) (more : Msg) (hl : l.length ≤ 9223372036854775807) (hn : l.length + 9000 ≤ n) : qie n (c, (l, (more, ()))) = some (true, ()) := by
  have hw := qMk n (by omega)
  rw [qwg]
  simp only [qIb n c l hl (by omega), Option.bind_some, hw]
  cases hv : qAg c l with
  | false => rfl
  | true =>
    obtain ⟨V, h9⟩ := qDU hv
    simp only [Bool.not_true, cond_false]
    by_cases h8 : l.length ≤ 8
    · rw [show iGt (l.length : Int) 8 = false from decide_eq_false (by omega)]
      have hal := qBt c l
      have hwl := qGR c l
      have hql := qqC l
      have hsum : (accL c l).length + (qiS c l).length = (qm l).length := by
        have := qF9 c (qm l) ([], ([], []))
        unfold accL qiS offL dcL
        rw [(qgJ _ _).length_eq, List.length_map, List.length_map]
        simpa using this
      have hin := qNu n c l more V h8 (by omega) (qm l) [] n rfl (by omega)
      simp only [List.length_nil] at hin
      rw [show ((0 : Nat) : Int) = 0 from rfl] at hin
      simp only [cond_false, qIM n l V.msgs (by omega) (by omega), qrM n c l V (by omega) (by omega), qFt n c l V (by omega) (by omega), Option.bind_some, qeQ rfl]
      rw [show iW (iAdd ((accL c l).length : Int) ((qiS c l).length : Int)) = ((qm l).length : Int) by rw [qmI (by unfold iAdd; omega) (by unfold iAdd; omega)]; unfold iAdd; omega]
      simp only [qeQ rfl, cond_false, hin, Option.bind_some, Sum.elim_inl, qMu n l (by omega) (fun m hm => by have := V.st m hm; omega) (by omega)]
      rw [qeB (by rw [Nat.ble_eq]; unfold nAdd; omega)]
      simp only [Option.bind_some]
      rw [show List.append l [more] = l ++ [more] from rfl]
      rw [qIb n c (l ++ [more]) (by simp; omega) (by simp; omega)]
      simp only [Option.bind_some]
      cases hv2 : qAg c (l ++ [more]) with
      | false => rfl
      | true =>
        obtain ⟨V', h9'⟩ := qDU hv2
        simp only [Bool.not_true, cond_false]
        by_cases hk : more.1 = 1
        · rw [qeQ hk]
          simp only [cond_false]
          have hal' := qBt c (l ++ [more])
          have hl12 : (l ++ [more]).length ≤ 12 := by simp; omega
          rw [List.length_append, List.length_singleton] at hal'
          have fin : (∀ x, x ∈ qm l → x.2.2.1 < more.2.2.1) → (Option.bind (qg n (qdE n) (qm l, (accL c l, (accL c (l ++ [more]), ((0 : Int), ()))))) fun y12 => (Sum.elim (fun _ => some (true, ())) (fun b => (some b)) y12)) = some (true, ()) := fun hlt => by
            rw [qNv n _ _ _ (by omega) (by omega) (by omega) (qMv V V' hk hlt) (by omega)]
            rfl
          by_cases hq0 : 0 < (qm l).length
          · rw [show iGt ((qm l).length : Int) 0 = true from decide_eq_true (by omega)]
            obtain ⟨q, hqq⟩ : ∃ q, (qm l).length = q + 1 := ⟨(qm l).length - 1, by omega⟩
            have hq1 : q < (qm l).length := by omega
            rw [hqq, qu0 (by omega)]
            simp only [cond_true, qcq _ hq1, Option.bind_some]
            by_cases hst : more.2.2.1 ≤ (qm l)[q].2.2.1
            · rw [show iLe more.2.2.1 (qm l)[q].2.2.1 = true from decide_eq_true hst]; rfl
            · rw [show iLe more.2.2.1 (qm l)[q].2.2.1 = false from decide_eq_false hst]
              simp only [cond_false, qiT n (accL c l) more.2.1 (by omega) (by omega), qiT n (qiS c l) more.2.1 (by omega) (by omega), Option.bind_some]
              have hlt : ∀ x, x ∈ qm l → x.2.2.1 < more.2.2.1 := fun x hx => by
                obtain ⟨j, hj, rfl⟩ := List.mem_iff_getElem.1 hx
                have hle : key2 (qm l)[j] ≤ key2 (qm l)[q] := by
                  rcases Nat.lt_or_ge j q with h | h
                  · exact Int.le_of_lt (List.pairwise_iff_getElem.1 (qgL V.msgs) j q hj hq1 h)
                  · have : j = q := by omega
                    subst this; exact Int.le_refl _
                have i1 := V.msgs.id _ (qlS.1 (List.getElem_mem hj)).1
                have i2 := V.msgs.id _ (qlS.1 (List.getElem_mem hq1)).1
                unfold key2 at hle
                omega
              by_cases ha : more.2.1 ∈ accL c l
              · simp [ha]
              · by_cases hb : more.2.1 ∈ qiS c l
                · simp [ha, hb]
                · simp only [ha, hb, decide_false, cond_false, qrM n c _ V' hl12 (by omega), Option.bind_some, qeQ rfl]
                  exact fin hlt
          · rw [show iGt ((qm l).length : Int) 0 = false from decide_eq_false (by omega)]
            simp only [cond_false, qiT n (accL c l) more.2.1 (by omega) (by omega), qiT n (qiS c l) more.2.1 (by omega) (by omega), Option.bind_some]
            have hlt : ∀ x, x ∈ qm l → x.2.2.1 < more.2.2.1 := fun x hx => by
              have := List.length_pos_of_mem hx
              omega
            by_cases ha : more.2.1 ∈ accL c l
            · simp [ha]
            · by_cases hb : more.2.1 ∈ qiS c l
              · simp [ha, hb]
              · simp only [ha, hb, decide_false, cond_false, qrM n c _ V' hl12 (by omega), Option.bind_some, qeQ rfl]
                exact fin hlt
        · rw [qrS hk]; rfl
    · rw [show iGt (l.length : Int) 8 = true from decide_eq_true (by omega)]; rfl
end Go.Proofs.Ytcjgodgpaokbnaa
