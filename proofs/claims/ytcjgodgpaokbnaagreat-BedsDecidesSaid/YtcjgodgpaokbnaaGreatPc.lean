/- Texts Dp12, Dp13, Dp14, Dp15, Dp16 in one. -/
import Derived.Test.YtcjgodgpaokbnaaGreatPb
import Derived.Test.YtcjgodgpaokbnaaGreatDq3
/- Beds, plain: the reference's queue, and what requests need. -/
namespace Go.Proofs.YtcjgodgpaokbnaaGreat
set_option linter.constructorNameAsVariable false
set_option linter.unusedSimpArgs false
set_option linter.unusedVariables false
set_option linter.unusedSectionVars false
open Go Go.Proofs Go.RowKit
set_option maxHeartbeats 1000000
theorem qzo {α β : Type} (g : β → List α) : ∀ (l : List β) (b : List α), l.foldl (fun b x => b ++ g x) b = b ++ l.flatMap g
  | [], b => by simp
  | x :: l, b => by rw [List.foldl_cons, qzo g l]; simp
theorem qHX {α : Type} {l : List α} {p : α → Bool} {k : Nat} (hk : k < l.length) (h : p l[k] = true) (h' : (l.take k).any p = false) : l.find? p = some l[k] := by
  rw [List.find?_eq_some_iff_getElem]
  refine ⟨h, k, hk, rfl, fun j hj => ?_⟩
  rw [List.any_eq_false] at h'
  have := h' l[j] (List.mem_take_iff_getElem.2 ⟨j, by omega, rfl⟩)
  simpa using this
def isIK (i k : Int) (m : Msg) : Bool := decide (m.2.1 = i) && decide (m.1 = k)
def qkh (l : List Msg) (i k : Int) : List Msg := (l.find? (isIK i k)).toList
theorem qvV (l : List Msg) (i k : Int) : (qkh l i k).length ≤ 1 := by unfold qkh; cases l.find? (isIK i k) <;> simp
theorem qHo (n : Nat) (l out : List Msg) (i k : Int) (hl : l.length ≤ 1000) (ho : out.length ≤ 1000) (hn : 2000 ≤ n) : qf n (qf7 n) (l, (i, (k, ((0 : Int), (out, ()))))) = some (l, (i, (k, (out ++ qkh l i k, ())))) := by
  have h := qoL (step := qf7 n) l (fun j => (l, (i, (k, ((j : Int), (out, ())))))) (isIK i k) (fun j => (l, (i, (k, (out ++ (l[j]?).toList, ()))))) (l, (i, (k, (out, ())))) (fun rec j hj => by
    rw [qlO]
    simp only [q8 hj, cond_true, qcj l hj, Option.bind_some, qB (show j < 9223372036854775807 by omega)]
    unfold isIK
    rw [qcC (by rw [Nat.ble_eq]; unfold nAdd; omega)]
    by_cases h1 : l[j].2.1 = i
    · by_cases h2 : l[j].1 = k
      · rw [qdG h1, qdG h2]; simp [h1, h2, List.getElem?_eq_getElem hj]
      · rw [qdG h1, qfz h2]; simp [h2]
    · rw [qfz h1]; simp [h1]) (fun rec => by
    rw [qlO]
    simp only [qbh, cond_false]) (n := n) (by omega)
  unfold qkh
  rcases h with ⟨h1, h2⟩ | ⟨j, hj, h1, h2, h3⟩
  · rw [List.find?_eq_none.2 (fun x hx => by rw [List.any_eq_false] at h1; exact h1 x hx)]
    simpa using h2
  · rw [qHX hj h1 h2]
    rw [List.getElem?_eq_getElem hj] at h3
    exact h3
def refD (l : List Msg) : List Msg := (List.range 100).flatMap fun i : Nat => qkh l i 1 ++ qkh l i 2
theorem qEI {β α : Type} (g : β → List α) (c : Nat) : ∀ l : List β, (∀ x, x ∈ l → (g x).length ≤ c) → (l.flatMap g).length ≤ c * l.length
  | [], _ => by simp
  | x :: l, h => by
    have h1 := qEI g c l fun y hy => h y (List.mem_cons_of_mem _ hy)
    have h2 := h x List.mem_cons_self
    rw [List.flatMap_cons, List.length_append, List.length_cons, Nat.mul_add]
    omega
theorem qD0 (n : Nat) (l : List Msg) (hl : l.length ≤ 1000) (hn : 2000 ≤ n) : qjO n (l, ()) = some (refD l, ()) := by
  rw [qtP]
  have h := qkf (step := qiw n) (List.range 100) (fun k b => (l, ((k : Int), (b, ())))) (fun b (i : Nat) => b ++ (qkh l i 1 ++ qkh l i 2)) [] (fun b => (b, ())) (fun rec k b hk hb => by
    have hk' : k < 100 := by simpa using hk
    have hbl : b.length ≤ 200 := by
      rw [hb, qzo]
      have := qEI (fun i : Nat => qkh l i 1 ++ qkh l i 2) 2 ((List.range 100).take k) fun i _ => by
        have := qvV l i 1
        have := qvV l i 2
        simp
        omega
      have h2 : ((List.range 100).take k).length ≤ 100 := by simp; omega
      simp at this ⊢
      omega
    have p1 := qvV l (k : Int) 1
    have p2 := qvV l (k : Int) 2
    obtain ⟨n, rfl⟩ : ∃ m, n = m + 3 := ⟨n - 3, by omega⟩
    rw [qlP]
    rw [show iLe (k : Int) 99 = true from decide_eq_true (by omega)]
    simp only [cond_true]
    rw [qn, qg5]
    simp only [show iLe (1 : Int) 2 = true from rfl, cond_true, qHo (n + 3) l b k 1 hl (by omega) hn, Option.bind_some]
    rw [show iW (iAdd 1 1) = 2 from rfl, qn, qg5]
    simp only [show iLe (2 : Int) 2 = true from rfl, cond_true, qHo (n + 3) l (b ++ qkh l k 1) k 2 hl (by simp; omega) hn, Option.bind_some]
    rw [show iW (iAdd 2 1) = 3 from rfl, qn, qg5]
    simp only [show iLe (3 : Int) 2 = false from rfl, cond_false, Option.bind_some, qB (show k < 9223372036854775807 by omega), List.getElem_range, List.append_assoc]) (fun rec b => by
    rw [qlP]
    simp only [List.length_range]
    rfl) (n := n) (by simp; omega)
  show Option.bind (qf n _ (l, (((0 : Nat) : Int), ([], ())))) _ = _
  rw [h, qzo]
  rfl
theorem qD1 {i k : Int} {m : Msg} : isIK i k m = true ↔ m.2.1 = i ∧ m.1 = k := by unfold isIK; simp
theorem qoA {l : List Msg} {i k : Int} {x : Msg} (h : x ∈ qkh l i k) : x ∈ l ∧ x.2.1 = i ∧ x.1 = k := by
  unfold qkh at h
  rw [Option.mem_toList] at h
  exact ⟨List.mem_of_find?_eq_some h, qD1.1 (List.find?_some h)⟩
theorem qKk {l : List Msg} (M : Msgs l) {x : Msg} (h : x ∈ l) : x ∈ qkh l x.2.1 x.1 := by
  unfold qkh
  rw [Option.mem_toList]
  cases hf : l.find? (isIK x.2.1 x.1) with
  | none =>
    rw [List.find?_eq_none] at hf
    exact absurd (qD1.2 ⟨rfl, rfl⟩) (hf x h)
  | some y =>
    have h1 := qD1.1 (List.find?_some hf)
    rw [M.cl y x (List.mem_of_find?_eq_some hf) h h1.1 h1.2]
theorem qLo {l : List Msg} (M : Msgs l) : refD l = qb9 l := by
  refine qzm key1 _ _ ?_ (qvU M) fun x => ?_
  · unfold refD
    rw [List.pairwise_flatMap]
    refine ⟨fun i _ => ?_, ?_⟩
    · rw [List.pairwise_append]
      have one : ∀ k, (qkh l i k).Pairwise (fun a b => key1 a < key1 b) := fun k => by
        have := qvV l i k
        match qkh l i k, this with
        | [], _ => exact List.Pairwise.nil
        | [x], _ => exact List.pairwise_singleton _ _
      refine ⟨one 1, one 2, fun a ha b hb => ?_⟩
      have h1 := qoA ha
      have h2 := qoA hb
      unfold key1
      omega
    · refine List.Pairwise.imp (fun {i j} hij a ha b hb => ?_) (List.pairwise_lt_range (n := 100))
      have h1 : a ∈ l ∧ a.2.1 = (i : Int) ∧ (a.1 = 1 ∨ a.1 = 2) := by
        rcases List.mem_append.1 ha with h | h
        · have := qoA h; exact ⟨this.1, this.2.1, .inl this.2.2⟩
        · have := qoA h; exact ⟨this.1, this.2.1, .inr this.2.2⟩
      have h2 : b ∈ l ∧ b.2.1 = (j : Int) ∧ (b.1 = 1 ∨ b.1 = 2) := by
        rcases List.mem_append.1 hb with h | h
        · have := qoA h; exact ⟨this.1, this.2.1, .inl this.2.2⟩
        · have := qoA h; exact ⟨this.1, this.2.1, .inr this.2.2⟩
      unfold key1
      omega
  · rw [qcE]
    unfold refD
    rw [List.mem_flatMap]
    constructor
    · rintro ⟨i, _, hx⟩
      rcases List.mem_append.1 hx with h | h
      · exact (qoA h).1
      · exact (qoA h).1
    · intro hx
      have h1 := M.id x hx
      refine ⟨x.2.1.toNat, by simp; omega, ?_⟩
      have h2 := qKk M hx
      rw [show ((x.2.1.toNat : Nat) : Int) = x.2.1 by omega]
      rcases M.kd x hx with h | h <;> rw [h] at h2 <;> simp [h2]
def qlo (m x : Msg) : Bool := decide (x.2.2.1 < m.2.2.1) || (decide (x.2.2.1 = m.2.2.1) && decide (x.2.1 < m.2.1))
def insS (m : Msg) (out : List Msg) : List Msg := out.takeWhile (qlo m) ++ m :: out.dropWhile (qlo m)
theorem qMh (n : Nat) (all : List Msg) (i : Int) (m : Msg) : ∀ (B A : List Msg) (n' : Nat), A.length + B.length ≤ 1000 → B.length < n' →
    qf n' (qfu n) (all, (i, ((A.length : Int), (m, (A ++ B, ()))))) = some (all, (i, (((A ++ B.takeWhile (qlo m)).length : Int), (m, (A ++ B, ()))))) := by
  intro B
  induction B with
  | nil =>
    intro A n' hl hn
    obtain ⟨n', rfl⟩ : ∃ m, n' = m + 1 := ⟨n' - 1, by omega⟩
    rw [qn, qnO]
    simp only [List.append_nil, qbh, cond_false, List.takeWhile_nil]
  | cons x B ih =>
    intro A n' hl hn
    simp only [List.length_cons] at hl hn
    obtain ⟨n', rfl⟩ : ∃ m, n' = m + 1 := ⟨n' - 1, by omega⟩
    rw [qn, qnO]
    have hk : A.length < (A ++ x :: B).length := by simp
    have hx : (A ++ x :: B)[A.length]? = some x := by simp
    have ih' := ih (A ++ [x]) n' (by simp; omega) (by omega)
    simp only [List.length_append, List.length_cons, List.length_nil, Nat.zero_add, List.append_assoc, List.cons_append, List.nil_append] at ih'
    simp only [q8 hk, cond_true, qhR, qiC, hx, Option.bind_some, qB (show A.length < 9223372036854775807 by omega)]
    rw [List.takeWhile_cons]
    by_cases h1 : x.2.2.1 < m.2.2.1
    · rw [show iLt x.2.2.1 m.2.2.1 = true from decide_eq_true h1, show qlo m x = true by unfold qlo; simp [h1]]
      simp only [cond_true, if_true, List.length_append, List.length_cons]
      rw [ih']
    · rw [show iLt x.2.2.1 m.2.2.1 = false from decide_eq_false h1]
      by_cases h2 : x.2.2.1 = m.2.2.1
      · rw [qdG h2]
        by_cases h3 : x.2.1 < m.2.1
        · rw [show iLt x.2.1 m.2.1 = true from decide_eq_true h3, show qlo m x = true by unfold qlo; simp [h2, h3]]
          simp only [cond_true, cond_false, if_true, List.length_append, List.length_cons]
          rw [ih']
        · rw [show iLt x.2.1 m.2.1 = false from decide_eq_false h3, show qlo m x = false by unfold qlo; simp [h2, h3]]
          simp
      · rw [qfz h2, show qlo m x = false by unfold qlo; simp [h1, h2]]
        simp
def qjv (all : List Msg) (m : Msg) : Bool := decide (m.1 = 1) && !all.any fun y => decide (y.1 = 2) && decide (y.2.1 = m.2.1)
theorem qEJ (m : Msg) (out : List Msg) : (insS m out).Perm (m :: out) := by
  unfold insS
  refine List.perm_middle.trans (List.Perm.cons m ?_)
  rw [List.takeWhile_append_dropWhile]
theorem qoO (p : Msg → Bool) : ∀ (l out : List Msg), (l.foldl (fun b m => cond (p m) (insS m b) b) out).Perm (out ++ l.filter p)
  | [], out => by simp
  | x :: l, out => by
    rw [List.foldl_cons, List.filter_cons]
    cases h : p x with
    | true =>
      simp only [cond_true, if_true]
      refine (qoO p l _).trans (((qEJ x out).append_right _).trans ?_)
      exact List.perm_middle.symm
    | false => simpa using qoO p l out
theorem qGI {m : Msg} {out : List Msg} (hm : 0 ≤ m.2.1 ∧ m.2.1 ≤ 99) (ho : ∀ x, x ∈ out → 0 ≤ x.2.1 ∧ x.2.1 ≤ 99) (h : out.Pairwise (fun a b => key2 a ≤ key2 b)) : (insS m out).Pairwise (fun a b => key2 a ≤ key2 b) := by
  unfold insS
  have hlo : ∀ x, x ∈ out → (qlo m x = true → key2 x ≤ key2 m) ∧ (qlo m x = false → key2 m ≤ key2 x) := fun x hx => by
    have := ho x hx
    unfold qlo key2
    simp only [Bool.or_eq_true, Bool.and_eq_true, decide_eq_true_eq, Bool.or_eq_false_iff, Bool.and_eq_false_iff, decide_eq_false_iff_not]
    omega
  rw [List.pairwise_append, List.pairwise_cons]
  have h1 := h.sublist (List.takeWhile_sublist (qlo m))
  have h2 := h.sublist (List.dropWhile_sublist (qlo m))
  have hA : ∀ x, x ∈ out.takeWhile (qlo m) → key2 x ≤ key2 m := fun x hx => (hlo x ((List.takeWhile_sublist _).subset hx)).1 (by
    have := List.all_takeWhile (p := qlo m) (l := out)
    rw [List.all_eq_true] at this
    exact this x hx)
  have hB : ∀ x, x ∈ out.dropWhile (qlo m) → key2 m ≤ key2 x := fun x hx => by
    cases hd : out.dropWhile (qlo m) with
    | nil => rw [hd] at hx; cases hx
    | cons y r =>
      have hy : qlo m y = false := by
        have := List.head?_dropWhile_not (qlo m) out
        rw [hd] at this
        simpa using this
      have hym : y ∈ out := (List.dropWhile_sublist (qlo m)).subset (by rw [hd]; exact List.mem_cons_self)
      have h3 := (hlo y hym).2 hy
      rw [hd] at hx h2
      rcases List.mem_cons.1 hx with rfl | hx
      · exact h3
      · exact Int.le_trans h3 ((List.pairwise_cons.1 h2).1 x hx)
  refine ⟨h1, ⟨hB, h2⟩, fun a ha b hb => ?_⟩
  rcases List.mem_cons.1 hb with rfl | hb
  · exact hA a ha
  · exact Int.le_trans (hA a ha) (hB b hb)
theorem qqa (p : Msg → Bool) : ∀ (l out : List Msg), (∀ x, x ∈ out ++ l → 0 ≤ x.2.1 ∧ x.2.1 ≤ 99) → out.Pairwise (fun a b => key2 a ≤ key2 b) → (l.foldl (fun b m => cond (p m) (insS m b) b) out).Pairwise (fun a b => key2 a ≤ key2 b)
  | [], out, _, h => h
  | x :: l, out, hid, h => by
    rw [List.foldl_cons]
    cases hp : p x with
    | true =>
      refine qqa p l _ (fun y hy => ?_) (qGI (hid x (by simp)) (fun y hy => hid y (by simp [hy])) h)
      rcases List.mem_append.1 hy with hy | hy
      · rcases List.mem_cons.1 ((qEJ x out).mem_iff.1 hy) with rfl | hy
        · exact hid _ (by simp)
        · exact hid _ (by simp [hy])
      · exact hid _ (by simp [hy])
    | false => exact qqa p l out (fun y hy => hid y (by rcases List.mem_append.1 hy with hy | hy <;> simp [hy])) h
theorem qD2 {all : List Msg} (M : Msgs all) (hs : all.Pairwise (fun a b => key1 a < key1 b)) {k : Nat} (hk : k < all.length) (h1 : all[k].1 = 1) : (all.any fun y => decide (y.1 = 2) && decide (y.2.1 = all[k].2.1)) = true ↔ ∃ h : k + 1 < all.length, all[k + 1].2.1 = all[k].2.1 := by
  rw [List.pairwise_iff_getElem] at hs
  rw [List.any_eq_true]
  constructor
  · rintro ⟨y, hy, h2⟩
    simp only [Bool.and_eq_true, decide_eq_true_eq] at h2
    obtain ⟨j, hj, rfl⟩ := List.mem_iff_getElem.1 hy
    have hkj : k < j := by
      rcases Nat.lt_trichotomy k j with h | h | h
      · exact h
      · subst h; omega
      · have := hs j k hj hk h
        unfold key1 at this
        omega
    have hj1 : j = k + 1 := by
      rcases Nat.lt_or_ge (k + 1) j with h | h
      · have e1 := hs k (k + 1) hk (by omega) (by omega)
        have e2 := hs (k + 1) j (by omega) hj h
        unfold key1 at e1 e2
        omega
      · omega
    subst hj1
    exact ⟨hj, h2.2⟩
  · rintro ⟨h, h2⟩
    refine ⟨all[k + 1], List.getElem_mem h, ?_⟩
    have e1 := hs k (k + 1) hk h (by omega)
    have e2 := M.kd all[k + 1] (List.getElem_mem h)
    unfold key1 at e1
    simp only [Bool.and_eq_true, decide_eq_true_eq]
    omega
theorem qGJ (n : Nat) (all : List Msg) (M : Msgs all) (hs : all.Pairwise (fun a b => key1 a < key1 b)) (hl : all.length ≤ 900) (hn : 2000 ≤ n) :
    qf n (qhi n) (all, ((0 : Int), ([], ()))) = some (all.foldl (fun b m => cond (qjv all m) (insS m b) b) [], ()) := by
  refine qkf (step := qhi n) all (fun k b => (all, ((k : Int), (b, ())))) (fun b m => cond (qjv all m) (insS m b) b) [] (fun b => (b, ())) (fun rec k b hk hb => ?_) (fun rec b => by
    rw [qnP]
    simp only [qbh, cond_false]) (n := n) (by omega)
  have hbl : b.length ≤ k := by
    rw [hb, (qoO _ _ _).length_eq]
    have := List.length_filter_le (qjv all) (all.take k)
    simp at this ⊢
    omega
  rw [qnP]
  simp only [q8 hk, cond_true, qcj all hk, Option.bind_some, qB (show k < 9223372036854775807 by omega)]
  have ins : (Option.bind (qf n (qfu n) (all, ((k : Int), ((0 : Int), (all[k], (b, ())))))) fun y1 => (Option.bind (cutO (List.length y1.2.2.2.2.1) y1.2.2.1) fun y2 => (Option.bind (cutO (List.length y1.2.2.2.2.1) y1.2.2.1) fun y3 => (Option.bind (qS (Nat.ble (y3 + ((List.length y1.2.2.2.2.1) - y3)) (List.length y1.2.2.2.2.1))) fun _ => (Option.bind (qS (Nat.ble (nAdd (1 : Nat) (List.length (List.take ((List.length y1.2.2.2.2.1) - y3) (List.drop y3 y1.2.2.2.2.1)))) 1000000)) fun _ => (Option.bind (qS (Nat.ble y2 (List.length y1.2.2.2.2.1))) fun _ => (Option.bind (qS (Nat.ble (nAdd (List.length (List.take y2 y1.2.2.2.2.1)) (List.length (List.append (y1.2.2.2.1 :: []) (List.take ((List.length y1.2.2.2.2.1) - y3) (List.drop y3 y1.2.2.2.2.1))))) 1000000)) fun _ => (rec (y1.1, ((iW (iAdd y1.2.1 (1 : Int))), ((List.append (List.take y2 y1.2.2.2.2.1) (List.append (y1.2.2.2.1 :: []) (List.take ((List.length y1.2.2.2.2.1) - y3) (List.drop y3 y1.2.2.2.2.1)))), ()))))))))))) = rec (all, (((k + 1 : Nat) : Int), (insS all[k] b, ()))) := by
    have h := qMh n all k all[k] b [] n (by simp; omega) (by omega)
    simp only [List.nil_append, List.length_nil] at h
    rw [show ((0 : Nat) : Int) = 0 from rfl] at h
    rw [h]
    simp only [Option.bind_some]
    obtain ⟨A, B, hA, hB, hAB⟩ : ∃ A B, b.takeWhile (qlo all[k]) = A ∧ b.dropWhile (qlo all[k]) = B ∧ b = A ++ B := ⟨_, _, rfl, rfl, (List.takeWhile_append_dropWhile).symm⟩
    unfold insS
    rw [hA, hB]
    have hlen : A.length ≤ b.length := by rw [hAB]; simp
    have htk : List.take A.length b = A := by rw [hAB]; simp
    have hdr : List.drop A.length b = B := by rw [hAB]; simp
    have hBl : b.length - A.length = B.length := by rw [hAB]; simp
    have hbl2 : A.length + B.length = b.length := by omega
    rw [qqK hlen]
    simp only [Option.bind_some, htk, hdr, hBl, List.take_length]
    rw [qcC (by rw [Nat.ble_eq]; omega), qcC (by rw [Nat.ble_eq]; unfold nAdd; omega), qcC (by rw [Nat.ble_eq]; omega), qcC (by rw [Nat.ble_eq]; unfold nAdd; simp [List.append_eq]; omega)]
    simp only [Option.bind_some, qB (show k < 9223372036854775807 by omega)]
    rfl
  by_cases h1 : all[k].1 = 1
  · rw [qfA h1]
    simp only [cond_false]
    by_cases h2 : k + 1 < all.length
    · rw [q8 h2]
      simp only [cond_true, qcj all h2, Option.bind_some]
      by_cases h3 : all[k + 1].2.1 = all[k].2.1
      · rw [qdG h3]
        have : qjv all all[k] = false := by unfold qjv; rw [(qD2 M hs hk h1).2 ⟨h2, h3⟩]; simp
        rw [this]; rfl
      · rw [qfz h3]
        have : qjv all all[k] = true := by
          unfold qjv
          have : (all.any fun y => decide (y.1 = 2) && decide (y.2.1 = all[k].2.1)) = false := by
            rw [← Bool.not_eq_true]
            exact fun h => by obtain ⟨_, h⟩ := (qD2 M hs hk h1).1 h; exact h3 h
          rw [this]; simp [h1]
        rw [this]
        simp only [cond_false, cond_true]
        exact ins
    · rw [show iLt ((k + 1 : Nat) : Int) (all.length : Int) = false from decide_eq_false (by omega)]
      have : qjv all all[k] = true := by
        unfold qjv
        have : (all.any fun y => decide (y.1 = 2) && decide (y.2.1 = all[k].2.1)) = false := by
          rw [← Bool.not_eq_true]
          exact fun h => by obtain ⟨h, _⟩ := (qD2 M hs hk h1).1 h; exact h2 h
        rw [this]; simp [h1]
      rw [this]
      simp only [cond_false, cond_true]
      exact ins
  · rw [qiB h1]
    have : qjv all all[k] = false := by unfold qjv; simp [h1]
    rw [this]; rfl
theorem qxo (n : Nat) (l : List Msg) (M : Msgs l) (hl : l.length ≤ 900) (hn : 2000 ≤ n) : qgq n (l, ()) = some (qfv l, ()) := by
  have hs := qvU M
  have M' : Msgs (qb9 l) := ⟨fun m hm => M.kd m (qcE.1 hm), fun m hm => M.id m (qcE.1 hm), fun x y hx hy => M.cl x y (qcE.1 hx) (qcE.1 hy)⟩
  have hdl := qtq l
  rw [qwb, qD0 n l (by omega) hn, qLo M]
  simp only [Option.bind_some]
  rw [qGJ n _ M' hs (by omega) hn]
  simp only [Option.bind_some]
  have hp := qoO (qjv (qb9 l)) (qb9 l) []
  rw [List.nil_append] at hp
  have h1 := qqa (qjv (qb9 l)) (qb9 l) [] (fun x hx => M'.id x (by simpa using hx)) List.Pairwise.nil
  have h2 : ((qb9 l).filter (qjv (qb9 l))).Pairwise (fun a b => a ≠ b) := (hs.sublist List.filter_sublist).imp fun {a b} h e => by subst e; omega
  have hm : ∀ x, x ∈ (qb9 l).foldl (fun b m => cond (qjv (qb9 l) m) (insS m b) b) [] ↔ x ∈ qb9 l ∧ qjv (qb9 l) x = true := fun x => by rw [hp.mem_iff, List.mem_filter]
  have h3 := qEG key2 h1 (hp.symm.pairwise h2 (fun {a b} h e => h e.symm)) fun x y hx hy h => by
    have hx' := (hm x).1 hx
    have hy' := (hm y).1 hy
    have i1 := M'.id x hx'.1
    have i2 := M'.id y hy'.1
    unfold qjv at hx' hy'
    simp only [Bool.and_eq_true, decide_eq_true_eq] at hx' hy'
    unfold key2 at h
    exact M'.cl x y hx'.1 hy'.1 (by omega) (by rw [hx'.2.1, hy'.2.1])
  congr 2
  refine qzm key2 _ _ h3 (qEU M) fun x => ?_
  rw [hm, qBR]
  unfold qjv Live
  simp only [Bool.and_eq_true, Bool.not_eq_true', decide_eq_true_eq, qcE]
  rw [List.any_eq_false]
  constructor
  · rintro ⟨h1, h2, h3⟩
    refine ⟨h1, by omega, fun y hy h4 h5 => h3 y (qcE.2 hy) (by simp [h4, h5])⟩
  · rintro ⟨h1, h2, h3⟩
    refine ⟨h1, by rcases M.kd x h1 with h | h; exact h; exact absurd h h2, fun y hy h4 => ?_⟩
    simp only [Bool.and_eq_true, decide_eq_true_eq] at h4
    exact h3 y (qcE.1 hy) h4.1 h4.2
end Go.Proofs.YtcjgodgpaokbnaaGreat

/- Beds, plain: what requests need; the beds that a cancellation frees. -/
namespace Go.Proofs.YtcjgodgpaokbnaaGreat
set_option linter.constructorNameAsVariable false
set_option linter.unusedSimpArgs false
set_option linter.unusedVariables false
set_option linter.unusedSectionVars false
open Go Go.Proofs Go.RowKit
set_option maxHeartbeats 1000000
def qld (h t : Int) (s : Stay) : Bool := decide (s.1 = h) && wi t s.2.1 s.2.2
def qux (m : Msg) (h t : Int) : Int := ((m.2.2.2.2.filter (qld h t)).length : Int) * m.2.2.2.1
def qdH (l : List Msg) (h t : Int) : Int := l.foldl (fun b m => b + qux m h t) 0
theorem qLW {k : Nat} {p : Int} (hk : k ≤ 1000) (h0 : 0 ≤ p) (h1 : p ≤ 1000) : 0 ≤ (k : Int) * p ∧ (k : Int) * p ≤ 1000 * (k : Int) := by
  constructor
  · exact Int.mul_nonneg (by omega) h0
  · rw [Int.mul_comm 1000]; exact Int.mul_le_mul_of_nonneg_left h1 (by omega)
theorem qLp (n : Nat) (l : List Msg) (h t : Int) (i : Nat) (m : Msg) (hi : l[i]? = some m) (hp : 0 ≤ m.2.2.2.1 ∧ m.2.2.2.1 ≤ 1000) : ∀ (B A : List Stay) (acc : Int) (n' : Nat), m.2.2.2.2 = A ++ B → 0 ≤ acc → acc + 1000 * (B.length : Int) ≤ 1000000000 → A.length + B.length ≤ 1000 → B.length < n' →
    qf n' (qjP n) (l, (h, (t, (acc, ((i : Int), ((A.length : Int), ())))))) = some (l, (h, (t, (acc + ((B.filter (qld h t)).length : Int) * m.2.2.2.1, ((i : Int), ()))))) := by
  intro B
  induction B with
  | nil =>
    intro A acc n' hm h0 h1 hl hn
    obtain ⟨n', rfl⟩ : ∃ m, n' = m + 1 := ⟨n' - 1, by omega⟩
    rw [List.append_nil] at hm
    rw [qn, qmZ]
    simp only [qhR, hi, Option.bind_some, hm, qbh, cond_false, List.filter_nil, List.length_nil]
    simp
  | cons s B ih =>
    intro A acc n' hm h0 h1 hl hn
    simp only [List.length_cons] at h1 hl hn
    obtain ⟨n', rfl⟩ : ∃ m, n' = m + 1 := ⟨n' - 1, by omega⟩
    rw [qn, qmZ]
    have hk : A.length < (A ++ s :: B).length := by simp
    have hs : (A ++ s :: B)[A.length]? = some s := by simp
    have hm' : m.2.2.2.2 = (A ++ [s]) ++ B := by rw [hm]; simp
    simp only [qhR, hi, Option.bind_some, hm, q8 hk, cond_true, hs, qoz, qB (show A.length < 9223372036854775807 by omega)]
    have ih1 := ih (A ++ [s]) (acc + m.2.2.2.1) n' hm' (by omega) (by omega) (by simp; omega) (by omega)
    have ih2 := ih (A ++ [s]) acc n' hm' h0 (by omega) (by simp; omega) (by omega)
    simp only [List.length_append, List.length_cons, List.length_nil, Nat.zero_add] at ih1 ih2
    rw [List.filter_cons]
    by_cases e1 : s.1 = h
    · rw [qdG e1]
      simp only [cond_true]
      cases e2 : wi t s.2.1 s.2.2 with
      | true =>
        rw [show qld h t s = true by unfold qld; simp [e1, e2]]
        simp only [cond_true, if_true, List.length_cons]
        rw [show iW (iAdd acc m.2.2.2.1) = acc + m.2.2.2.1 from qju (by unfold iAdd; omega) (by unfold iAdd; omega), ih1]
        have : ((((B.filter (qld h t)).length + 1 : Nat)) : Int) * m.2.2.2.1 = ((B.filter (qld h t)).length : Int) * m.2.2.2.1 + m.2.2.2.1 := by
          rw [Int.natCast_add, Int.add_mul]; simp
        rw [this, Int.add_assoc, Int.add_comm m.2.2.2.1]
      | false =>
        rw [show qld h t s = false by unfold qld; simp [e2]]
        simp only [cond_false]
        rw [ih2]
        rfl
    · rw [qfz e1, show qld h t s = false by unfold qld; simp [e1]]
      simp only [cond_false]
      rw [ih2]
      rfl
def quy (m : Msg) : Prop := (0 ≤ m.2.2.2.1 ∧ m.2.2.2.1 ≤ 1000) ∧ m.2.2.2.2.length ≤ 500
theorem qKl {m : Msg} (h : quy m) (x t : Int) : 0 ≤ qux m x t ∧ qux m x t ≤ 500000 := by
  have h1 := List.length_filter_le (qld x t) m.2.2.2.2
  have h3 := h.2
  have h2 := qLW (k := (m.2.2.2.2.filter (qld x t)).length) (by omega) h.1.1 h.1.2
  unfold qux
  omega
theorem qwX (h t : Int) : ∀ (l : List Msg) (b : Int), l.foldl (fun b m => b + qux m h t) b = b + qdH l h t
  | [], b => by simp [qdH]
  | m :: l, b => by
    unfold qdH
    rw [List.foldl_cons, List.foldl_cons, qwX h t l, qwX h t l]
    omega
theorem quz (m : Msg) (l : List Msg) (h t : Int) : qdH (m :: l) h t = qux m h t + qdH l h t := by
  unfold qdH
  rw [List.foldl_cons, qwX]
  unfold qdH
  omega
theorem qI1 (a b : List Msg) (h t : Int) : qdH (a ++ b) h t = qdH a h t + qdH b h t := by
  induction a with
  | nil => simp [qdH]
  | cons m a ih => rw [List.cons_append, quz, quz, ih]; omega
theorem qGi {l : List Msg} (hs : ∀ m, m ∈ l → quy m) (h t : Int) : 0 ≤ qdH l h t ∧ qdH l h t ≤ 500000 * l.length := by
  induction l with
  | nil => simp [qdH]
  | cons m l ih =>
    have h1 := qKl (hs m List.mem_cons_self) h t
    have h2 := ih fun x hx => hs x (List.mem_cons_of_mem _ hx)
    rw [quz, List.length_cons]
    omega
theorem qEK (n : Nat) (l : List Msg) (h t : Int) (hs : ∀ m, m ∈ l → quy m) (hl : l.length ≤ 500) (hn : 2000 ≤ n) : qhO n (l, (h, (t, ()))) = some (qdH l h t, ()) := by
  rw [qvO]
  have h1 := qkf (step := qjQ n) l (fun k b => (l, (h, (t, (b, ((k : Int), ())))))) (fun b m => b + qux m h t) 0 (fun b => (b, ())) (fun rec k b hk hb => by
    have hbb : 0 ≤ b ∧ b ≤ 500000 * 500 := by
      rw [qwX] at hb
      have := qGi (l := l.take k) (fun m hm => hs m (List.mem_of_mem_take hm)) h t
      have h2 : (l.take k).length ≤ 500 := by simp; omega
      omega
    have hm := hs l[k] (List.getElem_mem hk)
    have hm2 := hm.2
    rw [qm0]
    simp only [q8 hk, cond_true]
    rw [show (0 : Int) = (([] : List Stay).length : Int) from rfl, qLp n l h t k l[k] (List.getElem?_eq_getElem hk) hm.1 l[k].2.2.2.2 [] b n rfl hbb.1 (by omega) (by simp; omega) (by omega)]
    simp only [Option.bind_some, qB (show k < 9223372036854775807 by omega)]
    rfl) (fun rec b => by
    rw [qm0]
    simp only [qbh, cond_false]) (n := n) (by omega)
  show Option.bind (qf n _ (l, (h, (t, (0, (((0 : Nat) : Int), ())))))) _ = _
  rw [h1]
  rfl
theorem qBS (h : Int) : ∀ (n : Nat) (lo : Int) (x t : Int), (x, t) ∈ qgt h lo n ↔ x = h ∧ lo ≤ t ∧ t < lo + n
  | 0, lo, x, t => by simp [qgt]; try omega
  | n + 1, lo, x, t => by
    unfold qgt
    rw [List.mem_cons, qBS h n]
    simp only [Prod.mk.injEq]
    omega
theorem qDm (s : Stay) (x t : Int) : (x, t) ∈ qpF s ↔ qld x t s = true := by
  unfold qpF qld wi
  rw [qBS]
  simp only [Bool.and_eq_true, decide_eq_true_eq]
  omega
theorem qBT (x t : Int) : ∀ ss : List Stay, (qP ss).Nodup → (ss.filter (qld x t)).length = if (x, t) ∈ qP ss then 1 else 0
  | [], _ => by simp [qP]
  | s :: ss, h => by
    unfold qP at h ⊢
    rw [List.nodup_append] at h
    have ih := qBT x t ss h.2.1
    rw [List.filter_cons]
    cases hm : qld x t s with
    | true =>
      have h1 := (qDm s x t).2 hm
      have h2 : (x, t) ∉ qP ss := fun h3 => h.2.2 _ h1 _ h3 rfl
      rw [if_neg h2] at ih
      simp only [if_true, List.length_cons, ih, List.mem_append, h1, true_or]
    | false =>
      have h1 : (x, t) ∉ qpF s := fun h3 => by rw [(qDm s x t).1 h3] at hm; cases hm
      simp only [Bool.false_eq_true, if_false, ih, List.mem_append, h1, false_or]
theorem qKm {c : Chn} {m : Msg} (hm : MsgOk c m) (x t : Int) : qux m x t = if (x, t) ∈ qP m.2.2.2.2 then m.2.2.2.1 else 0 := by
  unfold qux
  rw [qBT x t _ hm.nd]
  split <;> simp
def qrE (d : DecS) : Prop := ∀ x t, valL (x, t) d.2.2 = qdH d.1 x t
theorem qHY {c : Chn} {d : DecS} {m : Msg} (hm : MsgOk c m) (h : qrE d) : qrE (dcF c d m) := fun x t => by
  unfold dcF
  split
  · exact h x t
  · show valL (x, t) (addU m.2.2.2.1 (qP m.2.2.2.2) d.2.2) = qdH (d.1 ++ [m]) x t
    rw [qCq _ _ _ _ hm.nd, qI1, quz, qKm hm, h x t]
    have : qdH [] x t = 0 := rfl
    rw [this]
    split <;> omega
theorem qBU {c : Chn} : ∀ (q : List Msg) (d : DecS), (∀ m, m ∈ q → MsgOk c m) → qrE d → qrE (q.foldl (dcF c) d)
  | [], _, _, h => h
  | m :: q, d, hq, h => qBU q _ (fun x hx => hq x (List.mem_cons_of_mem _ hx)) (qHY (hq m List.mem_cons_self) h)
theorem qDn {c : Chn} {q : List Msg} (hq : ∀ m, m ∈ q → MsgOk c m) : qrE (dcL c q) := qBU q _ hq fun x t => rfl
end Go.Proofs.YtcjgodgpaokbnaaGreat

/- Beds, plain: queues. -/
namespace Go.Proofs.YtcjgodgpaokbnaaGreat
set_option linter.constructorNameAsVariable false
set_option linter.unusedSimpArgs false
set_option linter.unusedVariables false
set_option linter.unusedSectionVars false
open Go Go.Proofs Go.RowKit
set_option maxHeartbeats 1000000
theorem MsgOk.small {c : Chn} {m : Msg} (h : MsgOk c m) (hl : m.2.2.2.2.length ≤ 500) : quy m := ⟨⟨by have := h.p1; omega, by have := h.p2; omega⟩, hl⟩
theorem qGK {c : Chn} {l : List Msg} (V : Vld c l) : ∀ m, m ∈ qfv l → quy m := fun m hm => (qvT V m hm).small (by have := V.st m (qrA.1 hm).1; omega)
theorem qI2 {c : Chn} {m : Msg} (h : mesB c m = true) (hk : m.1 ≠ 2) : qjf c.1.length c.2 (-1) m.2.2.2.2 = true := by
  unfold mesB canB reqB at h
  rw [show decide (m.1 = 2) = false from decide_eq_false hk] at h
  simp only [Bool.false_and, Bool.false_or, Bool.and_eq_true] at h
  exact h.2.2.2.2.2
end Go.Proofs.YtcjgodgpaokbnaaGreat

/- Beds, plain: why a request waits. -/
namespace Go.Proofs.YtcjgodgpaokbnaaGreat
set_option linter.constructorNameAsVariable false
set_option linter.unusedSimpArgs false
set_option linter.unusedVariables false
set_option linter.unusedSectionVars false
open Go Go.Proofs Go.RowKit
set_option maxHeartbeats 1000000
def qpQ (c : Chn) (u : Used) (m : Msg) : Spot × Int := match (qP m.2.2.2.2).find? fun s => decide (m.2.2.2.1 - lft c u s > 0) with
  | some s => (s, m.2.2.2.1 - lft c u s)
  | none => ((0, 0), 0)
theorem qI3 {c : Chn} {u : Used} {m : Msg} (h : qm1 c u m = true) : (qpQ c u m).1 ∈ qP m.2.2.2.2 ∧ (qpQ c u m).2 = m.2.2.2.1 - lft c u (qpQ c u m).1 ∧ 0 < (qpQ c u m).2 := by
  unfold qm1 at h
  unfold qpQ
  cases hf : (qP m.2.2.2.2).find? fun s => decide (m.2.2.2.1 - lft c u s > 0) with
  | none =>
    rw [List.find?_eq_none] at hf
    rw [List.any_eq_true] at h
    obtain ⟨s, h1, h2⟩ := h
    exact absurd h2 (hf s h1)
  | some s =>
    refine ⟨List.mem_of_find?_eq_some hf, rfl, ?_⟩
    have := List.find?_some hf
    simpa using this
def qAW (q : List Msg) (id : Int) : List Msg := q.takeWhile fun m => !decide (m.2.1 = id)
theorem qHp (c : Chn) : ∀ (q : List Msg) (d : DecS), ∃ a w, (q.foldl (dcF c) d).1 = d.1 ++ a ∧ (q.foldl (dcF c) d).2.1 = d.2.1 ++ w ∧ (∀ x, x ∈ a → x ∈ q) ∧ ∀ x, x ∈ w → x ∈ q
  | [], d => ⟨[], [], by simp, by simp, by simp, by simp⟩
  | m :: q, d => by
    obtain ⟨a, w, h1, h2, h3, h4⟩ := qHp c q (dcF c d m)
    rw [List.foldl_cons, h1, h2]
    unfold dcF
    split
    · exact ⟨a, m :: w, rfl, by simp, fun x hx => List.mem_cons_of_mem _ (h3 x hx), fun x hx => by rcases List.mem_cons.1 hx with rfl | hx; exact List.mem_cons_self; exact List.mem_cons_of_mem _ (h4 x hx)⟩
    · exact ⟨m :: a, w, by simp, rfl, fun x hx => by rcases List.mem_cons.1 hx with rfl | hx; exact List.mem_cons_self; exact List.mem_cons_of_mem _ (h3 x hx), fun x hx => List.mem_cons_of_mem _ (h4 x hx)⟩
end Go.Proofs.YtcjgodgpaokbnaaGreat

/- Beds, plain: parts of queues. -/
namespace Go.Proofs.YtcjgodgpaokbnaaGreat
set_option linter.constructorNameAsVariable false
set_option linter.unusedSimpArgs false
set_option linter.unusedVariables false
set_option linter.unusedSectionVars false
open Go Go.Proofs Go.RowKit
set_option maxHeartbeats 1000000
theorem qKn (n : Nat) (l : List Msg) (hl : l.length ≤ 1000) (hs : ∀ m, m ∈ l → m.2.2.2.2.length ≤ 1000) (hn : 2000 ≤ n) : qmL n (l, ()) = some (l, ()) := by
  rw [qwg]
  have h := qkf (step := qkQ n) l (fun k b => (l, ((k : Int), (b, ())))) (fun b m => b ++ [m]) [] (fun b => (b, ())) (fun rec k b hk hb => by
    have hb2 : b = l.take k := by
      have := qrD (fun m : Msg => m) (l.take k) []
      rw [hb, this]; simp
    have hbl : b.length ≤ k := by rw [hb2]; simp; omega
    have hst := hs l[k] (List.getElem_mem hk)
    rw [qnQ]
    simp only [q8 hk, cond_true, qcj l hk, Option.bind_some, qB (show k < 9223372036854775807 by omega)]
    rw [qcC (by rw [Nat.ble_eq]; unfold nAdd; omega)]
    simp only [Option.bind_some]
    rw [qcC (by rw [Nat.ble_eq]; unfold nAdd; omega)]
    rfl) (fun rec b => by
    rw [qnQ]
    simp only [qbh, cond_false]) (n := n) (by omega)
  show Option.bind (qf n _ (l, (((0 : Nat) : Int), ([], ())))) _ = _
  have h2 := qrD (fun m : Msg => m) l []
  rw [h, h2]
  simp
end Go.Proofs.YtcjgodgpaokbnaaGreat
