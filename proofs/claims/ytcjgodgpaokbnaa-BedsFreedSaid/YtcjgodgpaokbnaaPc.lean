/- Texts Dp12, Dp13, Dp14, Dp15, Dp16 in one. -/
import Derived.Test.YtcjgodgpaokbnaaPb
import Derived.Test.YtcjgodgpaokbnaaDq3
/- Beds, plain: the reference's queue, and what requests need. -/
namespace Go.Proofs.Ytcjgodgpaokbnaa
set_option linter.constructorNameAsVariable false
set_option linter.unusedSimpArgs false
set_option linter.unusedVariables false
set_option linter.unusedSectionVars false
open Go Go.Proofs Go.RowKit
set_option maxHeartbeats 1000000
theorem qAd {α β : Type} (g : β → List α) : ∀ (l : List β) (b : List α), l.foldl (fun b x => b ++ g x) b = b ++ l.flatMap g
  | [], b => by simp
  | x :: l, b => by rw [List.foldl_cons, qAd g l]; simp
theorem qIo {α : Type} {l : List α} {p : α → Bool} {k : Nat} (hk : k < l.length) (h : p l[k] = true) (h' : (l.take k).any p = false) : l.find? p = some l[k] := by
  rw [List.find?_eq_some_iff_getElem]
  refine ⟨h, k, hk, rfl, fun j hj => ?_⟩
  rw [List.any_eq_false] at h'
  have := h' l[j] (List.mem_take_iff_getElem.2 ⟨j, by omega, rfl⟩)
  simpa using this
def isIK (i k : Int) (m : Msg) : Bool := decide (m.2.1 = i) && decide (m.1 = k)
def qll (l : List Msg) (i k : Int) : List Msg := (l.find? (isIK i k)).toList
theorem qwX (l : List Msg) (i k : Int) : (qll l i k).length ≤ 1 := by unfold qll; cases l.find? (isIK i k) <;> simp
theorem qHN (n : Nat) (l out : List Msg) (i k : Int) (hl : l.length ≤ 1000) (ho : out.length ≤ 1000) (hn : 2000 ≤ n) : qg n (qgX n) (l, (i, (k, ((0 : Int), (out, ()))))) = some (l, (i, (k, (out ++ qll l i k, ())))) := by
  have h := qpS (step := qgX n) l (fun j => (l, (i, (k, ((j : Int), (out, ())))))) (isIK i k) (fun j => (l, (i, (k, (out ++ (l[j]?).toList, ()))))) (l, (i, (k, (out, ())))) (fun rec j hj => by
    rw [qmP]
    simp only [qbs hj, cond_true, qcR l hj, Option.bind_some, qE (show j < 9223372036854775807 by omega)]
    unfold isIK
    rw [qgD (by rw [Nat.ble_eq]; unfold nAdd; omega)]
    by_cases h1 : l[j].2.1 = i
    · by_cases h2 : l[j].1 = k
      · rw [qdt h1, qdt h2]; simp [h1, h2, List.getElem?_eq_getElem hj]
      · rw [qdt h1, qfa h2]; simp [h2]
    · rw [qfa h1]; simp [h1]) (fun rec => by
    rw [qmP]
    simp only [qci, cond_false]) (n := n) (by omega)
  unfold qll
  rcases h with ⟨h1, h2⟩ | ⟨j, hj, h1, h2, h3⟩
  · rw [List.find?_eq_none.2 (fun x hx => by rw [List.any_eq_false] at h1; exact h1 x hx)]
    simpa using h2
  · rw [qIo hj h1 h2]
    rw [List.getElem?_eq_getElem hj] at h3
    exact h3
def refD (l : List Msg) : List Msg := (List.range 100).flatMap fun i : Nat => qll l i 1 ++ qll l i 2
theorem qFj {β α : Type} (g : β → List α) (c : Nat) : ∀ l : List β, (∀ x, x ∈ l → (g x).length ≤ c) → (l.flatMap g).length ≤ c * l.length
  | [], _ => by simp
  | x :: l, h => by
    have h1 := qFj g c l fun y hy => h y (List.mem_cons_of_mem _ hy)
    have h2 := h x List.mem_cons_self
    rw [List.flatMap_cons, List.length_append, List.length_cons, Nat.mul_add]
    omega
theorem qEC (n : Nat) (l : List Msg) (hl : l.length ≤ 1000) (hn : 2000 ≤ n) : qkO n (l, ()) = some (refD l, ()) := by
  rw [qu4]
  have h := qsX (step := qjw n) (List.range 100) (fun k b => (l, ((k : Int), (b, ())))) (fun b (i : Nat) => b ++ (qll l i 1 ++ qll l i 2)) [] (fun b => (b, ())) (fun rec k b hk hb => by
    have hk' : k < 100 := by simpa using hk
    have hbl : b.length ≤ 200 := by
      rw [hb, qAd]
      have := qFj (fun i : Nat => qll l i 1 ++ qll l i 2) 2 ((List.range 100).take k) fun i _ => by
        have := qwX l i 1
        have := qwX l i 2
        simp
        omega
      have h2 : ((List.range 100).take k).length ≤ 100 := by simp; omega
      simp at this ⊢
      omega
    have p1 := qwX l (k : Int) 1
    have p2 := qwX l (k : Int) 2
    obtain ⟨n, rfl⟩ : ∃ m, n = m + 3 := ⟨n - 3, by omega⟩
    rw [qmQ]
    rw [show iLe (k : Int) 99 = true from decide_eq_true (by omega)]
    simp only [cond_true]
    rw [qw, qib]
    simp only [show iLe (1 : Int) 2 = true from rfl, cond_true, qHN (n + 3) l b k 1 hl (by omega) hn, Option.bind_some]
    rw [show iW (iAdd 1 1) = 2 from rfl, qw, qib]
    simp only [show iLe (2 : Int) 2 = true from rfl, cond_true, qHN (n + 3) l (b ++ qll l k 1) k 2 hl (by simp; omega) hn, Option.bind_some]
    rw [show iW (iAdd 2 1) = 3 from rfl, qw, qib]
    simp only [show iLe (3 : Int) 2 = false from rfl, cond_false, Option.bind_some, qE (show k < 9223372036854775807 by omega), List.getElem_range, List.append_assoc]) (fun rec b => by
    rw [qmQ]
    simp only [List.length_range]
    rfl) (n := n) (by simp; omega)
  show Option.bind (qg n _ (l, (((0 : Nat) : Int), ([], ())))) _ = _
  rw [h, qAd]
  rfl
theorem qED {i k : Int} {m : Msg} : isIK i k m = true ↔ m.2.1 = i ∧ m.1 = k := by unfold isIK; simp
theorem qpz {l : List Msg} {i k : Int} {x : Msg} (h : x ∈ qll l i k) : x ∈ l ∧ x.2.1 = i ∧ x.1 = k := by
  unfold qll at h
  rw [Option.mem_toList] at h
  exact ⟨List.mem_of_find?_eq_some h, qED.1 (List.find?_some h)⟩
theorem qKG {l : List Msg} (M : Msgs l) {x : Msg} (h : x ∈ l) : x ∈ qll l x.2.1 x.1 := by
  unfold qll
  rw [Option.mem_toList]
  cases hf : l.find? (isIK x.2.1 x.1) with
  | none =>
    rw [List.find?_eq_none] at hf
    exact absurd (qED.2 ⟨rfl, rfl⟩) (hf x h)
  | some y =>
    have h1 := qED.1 (List.find?_some hf)
    rw [M.cl y x (List.mem_of_find?_eq_some hf) h h1.1 h1.2]
theorem qLH {l : List Msg} (M : Msgs l) : refD l = qgn l := by
  refine qvI key1 _ _ ?_ (qwW M) fun x => ?_
  · unfold refD
    rw [List.pairwise_flatMap]
    refine ⟨fun i _ => ?_, ?_⟩
    · rw [List.pairwise_append]
      have one : ∀ k, (qll l i k).Pairwise (fun a b => key1 a < key1 b) := fun k => by
        have := qwX l i k
        match qll l i k, this with
        | [], _ => exact List.Pairwise.nil
        | [x], _ => exact List.pairwise_singleton _ _
      refine ⟨one 1, one 2, fun a ha b hb => ?_⟩
      have h1 := qpz ha
      have h2 := qpz hb
      unfold key1
      omega
    · refine List.Pairwise.imp (fun {i j} hij a ha b hb => ?_) (List.pairwise_lt_range (n := 100))
      have h1 : a ∈ l ∧ a.2.1 = (i : Int) ∧ (a.1 = 1 ∨ a.1 = 2) := by
        rcases List.mem_append.1 ha with h | h
        · have := qpz h; exact ⟨this.1, this.2.1, .inl this.2.2⟩
        · have := qpz h; exact ⟨this.1, this.2.1, .inr this.2.2⟩
      have h2 : b ∈ l ∧ b.2.1 = (j : Int) ∧ (b.1 = 1 ∨ b.1 = 2) := by
        rcases List.mem_append.1 hb with h | h
        · have := qpz h; exact ⟨this.1, this.2.1, .inl this.2.2⟩
        · have := qpz h; exact ⟨this.1, this.2.1, .inr this.2.2⟩
      unfold key1
      omega
  · rw [qfz]
    unfold refD
    rw [List.mem_flatMap]
    constructor
    · rintro ⟨i, _, hx⟩
      rcases List.mem_append.1 hx with h | h
      · exact (qpz h).1
      · exact (qpz h).1
    · intro hx
      have h1 := M.id x hx
      refine ⟨x.2.1.toNat, by simp; omega, ?_⟩
      have h2 := qKG M hx
      rw [show ((x.2.1.toNat : Nat) : Int) = x.2.1 by omega]
      rcases M.kd x hx with h | h <;> rw [h] at h2 <;> simp [h2]
def qlo (m x : Msg) : Bool := decide (x.2.2.1 < m.2.2.1) || (decide (x.2.2.1 = m.2.2.1) && decide (x.2.1 < m.2.1))
def insS (m : Msg) (out : List Msg) : List Msg := out.takeWhile (qlo m) ++ m :: out.dropWhile (qlo m)
theorem qMx (n : Nat) (all : List Msg) (i : Int) (m : Msg) : ∀ (B A : List Msg) (n' : Nat), A.length + B.length ≤ 1000 → B.length < n' →
    qg n' (qgi n) (all, (i, ((A.length : Int), (m, (A ++ B, ()))))) = some (all, (i, (((A ++ B.takeWhile (qlo m)).length : Int), (m, (A ++ B, ()))))) := by
  intro B
  induction B with
  | nil =>
    intro A n' hl hn
    obtain ⟨n', rfl⟩ : ∃ m, n' = m + 1 := ⟨n' - 1, by omega⟩
    rw [qw, qoO]
    simp only [List.append_nil, qci, cond_false, List.takeWhile_nil]
  | cons x B ih =>
    intro A n' hl hn
    simp only [List.length_cons] at hl hn
    obtain ⟨n', rfl⟩ : ∃ m, n' = m + 1 := ⟨n' - 1, by omega⟩
    rw [qw, qoO]
    have hk : A.length < (A ++ x :: B).length := by simp
    have hx : (A ++ x :: B)[A.length]? = some x := by simp
    have ih' := ih (A ++ [x]) n' (by simp; omega) (by omega)
    simp only [List.length_append, List.length_cons, List.length_nil, Nat.zero_add, List.append_assoc, List.cons_append, List.nil_append] at ih'
    simp only [qbs hk, cond_true, qjN, qlk, hx, Option.bind_some, qE (show A.length < 9223372036854775807 by omega)]
    rw [List.takeWhile_cons]
    by_cases h1 : x.2.2.1 < m.2.2.1
    · rw [show iLt x.2.2.1 m.2.2.1 = true from decide_eq_true h1, show qlo m x = true by unfold qlo; simp [h1]]
      simp only [cond_true, if_true, List.length_append, List.length_cons]
      rw [ih']
    · rw [show iLt x.2.2.1 m.2.2.1 = false from decide_eq_false h1]
      by_cases h2 : x.2.2.1 = m.2.2.1
      · rw [qdt h2]
        by_cases h3 : x.2.1 < m.2.1
        · rw [show iLt x.2.1 m.2.1 = true from decide_eq_true h3, show qlo m x = true by unfold qlo; simp [h2, h3]]
          simp only [cond_true, cond_false, if_true, List.length_append, List.length_cons]
          rw [ih']
        · rw [show iLt x.2.1 m.2.1 = false from decide_eq_false h3, show qlo m x = false by unfold qlo; simp [h2, h3]]
          simp
      · rw [qfa h2, show qlo m x = false by unfold qlo; simp [h1, h2]]
        simp
def qkr (all : List Msg) (m : Msg) : Bool := decide (m.1 = 1) && !all.any fun y => decide (y.1 = 2) && decide (y.2.1 = m.2.1)
theorem qFk (m : Msg) (out : List Msg) : (insS m out).Perm (m :: out) := by
  unfold insS
  refine List.perm_middle.trans (List.Perm.cons m ?_)
  rw [List.takeWhile_append_dropWhile]
theorem qpX (p : Msg → Bool) : ∀ (l out : List Msg), (l.foldl (fun b m => cond (p m) (insS m b) b) out).Perm (out ++ l.filter p)
  | [], out => by simp
  | x :: l, out => by
    rw [List.foldl_cons, List.filter_cons]
    cases h : p x with
    | true =>
      simp only [cond_true, if_true]
      refine (qpX p l _).trans (((qFk x out).append_right _).trans ?_)
      exact List.perm_middle.symm
    | false => simpa using qpX p l out
theorem qG8 {m : Msg} {out : List Msg} (hm : 0 ≤ m.2.1 ∧ m.2.1 ≤ 99) (ho : ∀ x, x ∈ out → 0 ≤ x.2.1 ∧ x.2.1 ≤ 99) (h : out.Pairwise (fun a b => key2 a ≤ key2 b)) : (insS m out).Pairwise (fun a b => key2 a ≤ key2 b) := by
  unfold insS
  have hlo : ∀ x, x ∈ out → (qlo m x = true → key2 x ≤ key2 m) ∧ (qlo m x = false → key2 m ≤ key2 x) := fun x hx => by
    have := ho x hx
    unfold qlo key2
    simp only [Bool.or_eq_true, Bool.and_eq_true, decide_eq_true_eq, Bool.or_eq_false_iff, Bool.and_eq_false_iff, decide_eq_false_iff_not]
    omega
  rw [List.pairwise_append, List.pairwise_cons]
  have h1 := h.sublist (List.takeWhile_sublist (qlo m))
  have h2 := h.sublist (List.dropWhile_sublist (qlo m))
  have hA : ∀ x, x ∈ out.takeWhile (qlo m) → key2 x ≤ key2 m := fun x hx => (hlo x ((List.takeWhile_sublist _).subset hx)).1 (by
    have := List.all_takeWhile (p := qlo m) (l := out)
    rw [List.all_eq_true] at this
    exact this x hx)
  have hB : ∀ x, x ∈ out.dropWhile (qlo m) → key2 m ≤ key2 x := fun x hx => by
    cases hd : out.dropWhile (qlo m) with
    | nil => rw [hd] at hx; cases hx
    | cons y r =>
      have hy : qlo m y = false := by
        have := List.head?_dropWhile_not (qlo m) out
        rw [hd] at this
        simpa using this
      have hym : y ∈ out := (List.dropWhile_sublist (qlo m)).subset (by rw [hd]; exact List.mem_cons_self)
      have h3 := (hlo y hym).2 hy
      rw [hd] at hx h2
      rcases List.mem_cons.1 hx with rfl | hx
      · exact h3
      · exact Int.le_trans h3 ((List.pairwise_cons.1 h2).1 x hx)
  refine ⟨h1, ⟨hB, h2⟩, fun a ha b hb => ?_⟩
  rcases List.mem_cons.1 hb with rfl | hb
  · exact hA a ha
  · exact Int.le_trans (hA a ha) (hB b hb)
theorem qrq (p : Msg → Bool) : ∀ (l out : List Msg), (∀ x, x ∈ out ++ l → 0 ≤ x.2.1 ∧ x.2.1 ≤ 99) → out.Pairwise (fun a b => key2 a ≤ key2 b) → (l.foldl (fun b m => cond (p m) (insS m b) b) out).Pairwise (fun a b => key2 a ≤ key2 b)
  | [], out, _, h => h
  | x :: l, out, hid, h => by
    rw [List.foldl_cons]
    cases hp : p x with
    | true =>
      refine qrq p l _ (fun y hy => ?_) (qG8 (hid x (by simp)) (fun y hy => hid y (by simp [hy])) h)
      rcases List.mem_append.1 hy with hy | hy
      · rcases List.mem_cons.1 ((qFk x out).mem_iff.1 hy) with rfl | hy
        · exact hid _ (by simp)
        · exact hid _ (by simp [hy])
      · exact hid _ (by simp [hy])
    | false => exact qrq p l out (fun y hy => hid y (by rcases List.mem_append.1 hy with hy | hy <;> simp [hy])) h
theorem qEE {all : List Msg} (M : Msgs all) (hs : all.Pairwise (fun a b => key1 a < key1 b)) {k : Nat} (hk : k < all.length) (h1 : all[k].1 = 1) : (all.any fun y => decide (y.1 = 2) && decide (y.2.1 = all[k].2.1)) = true ↔ ∃ h : k + 1 < all.length, all[k + 1].2.1 = all[k].2.1 := by
  rw [List.pairwise_iff_getElem] at hs
  rw [List.any_eq_true]
  constructor
  · rintro ⟨y, hy, h2⟩
    simp only [Bool.and_eq_true, decide_eq_true_eq] at h2
    obtain ⟨j, hj, rfl⟩ := List.mem_iff_getElem.1 hy
    have hkj : k < j := by
      rcases Nat.lt_trichotomy k j with h | h | h
      · exact h
      · subst h; omega
      · have := hs j k hj hk h
        unfold key1 at this
        omega
    have hj1 : j = k + 1 := by
      rcases Nat.lt_or_ge (k + 1) j with h | h
      · have e1 := hs k (k + 1) hk (by omega) (by omega)
        have e2 := hs (k + 1) j (by omega) hj h
        unfold key1 at e1 e2
        omega
      · omega
    subst hj1
    exact ⟨hj, h2.2⟩
  · rintro ⟨h, h2⟩
    refine ⟨all[k + 1], List.getElem_mem h, ?_⟩
    have e1 := hs k (k + 1) hk h (by omega)
    have e2 := M.kd all[k + 1] (List.getElem_mem h)
    unfold key1 at e1
    simp only [Bool.and_eq_true, decide_eq_true_eq]
    omega
theorem qG9 (n : Nat) (all : List Msg) (M : Msgs all) (hs : all.Pairwise (fun a b => key1 a < key1 b)) (hl : all.length ≤ 900) (hn : 2000 ≤ n) :
    qg n (qir n) (all, ((0 : Int), ([], ()))) = some (all.foldl (fun b m => cond (qkr all m) (insS m b) b) [], ()) := by
  refine qsX (step := qir n) all (fun k b => (all, ((k : Int), (b, ())))) (fun b m => cond (qkr all m) (insS m b) b) [] (fun b => (b, ())) (fun rec k b hk hb => ?_) (fun rec b => by
    rw [qoP]
    simp only [qci, cond_false]) (n := n) (by omega)
  have hbl : b.length ≤ k := by
    rw [hb, (qpX _ _ _).length_eq]
    have := List.length_filter_le (qkr all) (all.take k)
    simp at this ⊢
    omega
  rw [qoP]
  simp only [qbs hk, cond_true, qcR all hk, Option.bind_some, qE (show k < 9223372036854775807 by omega)]
  have ins : (Option.bind (qg n (qgi n) (all, ((k : Int), ((0 : Int), (all[k], (b, ())))))) fun y1 => (Option.bind (cutO (List.length y1.2.2.2.2.1) y1.2.2.1) fun y2 => (Option.bind (cutO (List.length y1.2.2.2.2.1) y1.2.2.1) fun y3 => (Option.bind (qbD (Nat.ble (y3 + ((List.length y1.2.2.2.2.1) - y3)) (List.length y1.2.2.2.2.1))) fun _ => (Option.bind (qbD (Nat.ble (nAdd (1 : Nat) (List.length (List.take ((List.length y1.2.2.2.2.1) - y3) (List.drop y3 y1.2.2.2.2.1)))) 1000000)) fun _ => (Option.bind (qbD (Nat.ble y2 (List.length y1.2.2.2.2.1))) fun _ => (Option.bind (qbD (Nat.ble (nAdd (List.length (List.take y2 y1.2.2.2.2.1)) (List.length (List.append (y1.2.2.2.1 :: []) (List.take ((List.length y1.2.2.2.2.1) - y3) (List.drop y3 y1.2.2.2.2.1))))) 1000000)) fun _ => (rec (y1.1, ((iW (iAdd y1.2.1 (1 : Int))), ((List.append (List.take y2 y1.2.2.2.2.1) (List.append (y1.2.2.2.1 :: []) (List.take ((List.length y1.2.2.2.2.1) - y3) (List.drop y3 y1.2.2.2.2.1)))), ()))))))))))) = rec (all, (((k + 1 : Nat) : Int), (insS all[k] b, ()))) := by
    have h := qMx n all k all[k] b [] n (by simp; omega) (by omega)
    simp only [List.nil_append, List.length_nil] at h
    rw [show ((0 : Nat) : Int) = 0 from rfl] at h
    rw [h]
    simp only [Option.bind_some]
    obtain ⟨A, B, hA, hB, hAB⟩ : ∃ A B, b.takeWhile (qlo all[k]) = A ∧ b.dropWhile (qlo all[k]) = B ∧ b = A ++ B := ⟨_, _, rfl, rfl, (List.takeWhile_append_dropWhile).symm⟩
    unfold insS
    rw [hA, hB]
    have hlen : A.length ≤ b.length := by rw [hAB]; simp
    have htk : List.take A.length b = A := by rw [hAB]; simp
    have hdr : List.drop A.length b = B := by rw [hAB]; simp
    have hBl : b.length - A.length = B.length := by rw [hAB]; simp
    have hbl2 : A.length + B.length = b.length := by omega
    rw [qmU hlen]
    simp only [Option.bind_some, htk, hdr, hBl, List.take_length]
    rw [qgD (by rw [Nat.ble_eq]; omega), qgD (by rw [Nat.ble_eq]; unfold nAdd; omega), qgD (by rw [Nat.ble_eq]; omega), qgD (by rw [Nat.ble_eq]; unfold nAdd; simp [List.append_eq]; omega)]
    simp only [Option.bind_some, qE (show k < 9223372036854775807 by omega)]
    rfl
  by_cases h1 : all[k].1 = 1
  · rw [qiX h1]
    simp only [cond_false]
    by_cases h2 : k + 1 < all.length
    · rw [qbs h2]
      simp only [cond_true, qcR all h2, Option.bind_some]
      by_cases h3 : all[k + 1].2.1 = all[k].2.1
      · rw [qdt h3]
        have : qkr all all[k] = false := by unfold qkr; rw [(qEE M hs hk h1).2 ⟨h2, h3⟩]; simp
        rw [this]; rfl
      · rw [qfa h3]
        have : qkr all all[k] = true := by
          unfold qkr
          have : (all.any fun y => decide (y.1 = 2) && decide (y.2.1 = all[k].2.1)) = false := by
            rw [← Bool.not_eq_true]
            exact fun h => by obtain ⟨_, h⟩ := (qEE M hs hk h1).1 h; exact h3 h
          rw [this]; simp [h1]
        rw [this]
        simp only [cond_false, cond_true]
        exact ins
    · rw [show iLt ((k + 1 : Nat) : Int) (all.length : Int) = false from decide_eq_false (by omega)]
      have : qkr all all[k] = true := by
        unfold qkr
        have : (all.any fun y => decide (y.1 = 2) && decide (y.2.1 = all[k].2.1)) = false := by
          rw [← Bool.not_eq_true]
          exact fun h => by obtain ⟨h, _⟩ := (qEE M hs hk h1).1 h; exact h2 h
        rw [this]; simp [h1]
      rw [this]
      simp only [cond_false, cond_true]
      exact ins
  · rw [qq9 h1]
    have : qkr all all[k] = false := by unfold qkr; simp [h1]
    rw [this]; rfl
theorem qHa (n : Nat) (l : List Msg) (M : Msgs l) (hl : l.length ≤ 900) (hn : 2000 ≤ n) : qnL n (l, ()) = some (qcy l, ()) := by
  have hs := qwW M
  have M' : Msgs (qgn l) := ⟨fun m hm => M.kd m (qfz.1 hm), fun m hm => M.id m (qfz.1 hm), fun x y hx hy => M.cl x y (qfz.1 hx) (qfz.1 hy)⟩
  have hdl := qxY l
  rw [qxf, qEC n l (by omega) hn, qLH M]
  simp only [Option.bind_some]
  rw [qG9 n _ M' hs (by omega) hn]
  simp only [Option.bind_some]
  have hp := qpX (qkr (qgn l)) (qgn l) []
  rw [List.nil_append] at hp
  have h1 := qrq (qkr (qgn l)) (qgn l) [] (fun x hx => M'.id x (by simpa using hx)) List.Pairwise.nil
  have h2 : ((qgn l).filter (qkr (qgn l))).Pairwise (fun a b => a ≠ b) := (hs.sublist List.filter_sublist).imp fun {a b} h e => by subst e; omega
  have hm : ∀ x, x ∈ (qgn l).foldl (fun b m => cond (qkr (qgn l) m) (insS m b) b) [] ↔ x ∈ qgn l ∧ qkr (qgn l) x = true := fun x => by rw [hp.mem_iff, List.mem_filter]
  have h3 := qFh key2 h1 (hp.symm.pairwise h2 (fun {a b} h e => h e.symm)) fun x y hx hy h => by
    have hx' := (hm x).1 hx
    have hy' := (hm y).1 hy
    have i1 := M'.id x hx'.1
    have i2 := M'.id y hy'.1
    unfold qkr at hx' hy'
    simp only [Bool.and_eq_true, decide_eq_true_eq] at hx' hy'
    unfold key2 at h
    exact M'.cl x y hx'.1 hy'.1 (by omega) (by rw [hx'.2.1, hy'.2.1])
  congr 2
  refine qvI key2 _ _ h3 (qra M) fun x => ?_
  rw [hm, qoc]
  unfold qkr Live
  simp only [Bool.and_eq_true, Bool.not_eq_true', decide_eq_true_eq, qfz]
  rw [List.any_eq_false]
  constructor
  · rintro ⟨h1, h2, h3⟩
    refine ⟨h1, by omega, fun y hy h4 h5 => h3 y (qfz.2 hy) (by simp [h4, h5])⟩
  · rintro ⟨h1, h2, h3⟩
    refine ⟨h1, by rcases M.kd x h1 with h | h; exact h; exact absurd h h2, fun y hy h4 => ?_⟩
    simp only [Bool.and_eq_true, decide_eq_true_eq] at h4
    exact h3 y (qfz.1 hy) h4.1 h4.2
end Go.Proofs.Ytcjgodgpaokbnaa

/- Beds, plain: what requests need; the beds that a cancellation frees. -/
namespace Go.Proofs.Ytcjgodgpaokbnaa
set_option linter.constructorNameAsVariable false
set_option linter.unusedSimpArgs false
set_option linter.unusedVariables false
set_option linter.unusedSectionVars false
open Go Go.Proofs Go.RowKit
set_option maxHeartbeats 1000000
def qma (h t : Int) (s : Stay) : Bool := decide (s.1 = h) && wi t s.2.1 s.2.2
def qmb (m : Msg) (h t : Int) : Int := ((m.2.2.2.2.filter (qma h t)).length : Int) * m.2.2.2.1
def qhS (l : List Msg) (h t : Int) : Int := l.foldl (fun b m => b + qmb m h t) 0
theorem qMd {k : Nat} {p : Int} (hk : k ≤ 1000) (h0 : 0 ≤ p) (h1 : p ≤ 1000) : 0 ≤ (k : Int) * p ∧ (k : Int) * p ≤ 1000 * (k : Int) := by
  constructor
  · exact Int.mul_nonneg (by omega) h0
  · rw [Int.mul_comm 1000]; exact Int.mul_le_mul_of_nonneg_left h1 (by omega)
theorem qLI (n : Nat) (l : List Msg) (h t : Int) (i : Nat) (m : Msg) (hi : l[i]? = some m) (hp : 0 ≤ m.2.2.2.1 ∧ m.2.2.2.1 ≤ 1000) : ∀ (B A : List Stay) (acc : Int) (n' : Nat), m.2.2.2.2 = A ++ B → 0 ≤ acc → acc + 1000 * (B.length : Int) ≤ 1000000000 → A.length + B.length ≤ 1000 → B.length < n' →
    qg n' (qkP n) (l, (h, (t, (acc, ((i : Int), ((A.length : Int), ())))))) = some (l, (h, (t, (acc + ((B.filter (qma h t)).length : Int) * m.2.2.2.1, ((i : Int), ()))))) := by
  intro B
  induction B with
  | nil =>
    intro A acc n' hm h0 h1 hl hn
    obtain ⟨n', rfl⟩ : ∃ m, n' = m + 1 := ⟨n' - 1, by omega⟩
    rw [List.append_nil] at hm
    rw [qw, qn6]
    simp only [qjN, hi, Option.bind_some, hm, qci, cond_false, List.filter_nil, List.length_nil]
    simp
  | cons s B ih =>
    intro A acc n' hm h0 h1 hl hn
    simp only [List.length_cons] at h1 hl hn
    obtain ⟨n', rfl⟩ : ∃ m, n' = m + 1 := ⟨n' - 1, by omega⟩
    rw [qw, qn6]
    have hk : A.length < (A ++ s :: B).length := by simp
    have hs : (A ++ s :: B)[A.length]? = some s := by simp
    have hm' : m.2.2.2.2 = (A ++ [s]) ++ B := by rw [hm]; simp
    simp only [qjN, hi, Option.bind_some, hm, qbs hk, cond_true, hs, qrV, qE (show A.length < 9223372036854775807 by omega)]
    have ih1 := ih (A ++ [s]) (acc + m.2.2.2.1) n' hm' (by omega) (by omega) (by simp; omega) (by omega)
    have ih2 := ih (A ++ [s]) acc n' hm' h0 (by omega) (by simp; omega) (by omega)
    simp only [List.length_append, List.length_cons, List.length_nil, Nat.zero_add] at ih1 ih2
    rw [List.filter_cons]
    by_cases e1 : s.1 = h
    · rw [qdt e1]
      simp only [cond_true]
      cases e2 : wi t s.2.1 s.2.2 with
      | true =>
        rw [show qma h t s = true by unfold qma; simp [e1, e2]]
        simp only [cond_true, if_true, List.length_cons]
        rw [show iW (iAdd acc m.2.2.2.1) = acc + m.2.2.2.1 from qq8 (by unfold iAdd; omega) (by unfold iAdd; omega), ih1]
        have : ((((B.filter (qma h t)).length + 1 : Nat)) : Int) * m.2.2.2.1 = ((B.filter (qma h t)).length : Int) * m.2.2.2.1 + m.2.2.2.1 := by
          rw [Int.natCast_add, Int.add_mul]; simp
        rw [this, Int.add_assoc, Int.add_comm m.2.2.2.1]
      | false =>
        rw [show qma h t s = false by unfold qma; simp [e2]]
        simp only [cond_false]
        rw [ih2]
        rfl
    · rw [qfa e1, show qma h t s = false by unfold qma; simp [e1]]
      simp only [cond_false]
      rw [ih2]
      rfl
def qAe (m : Msg) : Prop := (0 ≤ m.2.2.2.1 ∧ m.2.2.2.1 ≤ 1000) ∧ m.2.2.2.2.length ≤ 500
theorem qKH {m : Msg} (h : qAe m) (x t : Int) : 0 ≤ qmb m x t ∧ qmb m x t ≤ 500000 := by
  have h1 := List.length_filter_le (qma x t) m.2.2.2.2
  have h3 := h.2
  have h2 := qMd (k := (m.2.2.2.2.filter (qma x t)).length) (by omega) h.1.1 h.1.2
  unfold qmb
  omega
theorem qx0 (h t : Int) : ∀ (l : List Msg) (b : Int), l.foldl (fun b m => b + qmb m h t) b = b + qhS l h t
  | [], b => by simp [qhS]
  | m :: l, b => by
    unfold qhS
    rw [List.foldl_cons, List.foldl_cons, qx0 h t l, qx0 h t l]
    omega
theorem qlm (m : Msg) (l : List Msg) (h t : Int) : qhS (m :: l) h t = qmb m h t + qhS l h t := by
  unfold qhS
  rw [List.foldl_cons, qx0]
  unfold qhS
  omega
theorem qJn (a b : List Msg) (h t : Int) : qhS (a ++ b) h t = qhS a h t + qhS b h t := by
  induction a with
  | nil => simp [qhS]
  | cons m a ih => rw [List.cons_append, qlm, qlm, ih]; omega
theorem qKI {l : List Msg} (hs : ∀ m, m ∈ l → qAe m) (h t : Int) : 0 ≤ qhS l h t ∧ qhS l h t ≤ 500000 * l.length := by
  induction l with
  | nil => simp [qhS]
  | cons m l ih =>
    have h1 := qKH (hs m List.mem_cons_self) h t
    have h2 := ih fun x hx => hs x (List.mem_cons_of_mem _ hx)
    rw [qlm, List.length_cons]
    omega
theorem qFl (n : Nat) (l : List Msg) (h t : Int) (hs : ∀ m, m ∈ l → qAe m) (hl : l.length ≤ 500) (hn : 2000 ≤ n) : qiV n (l, (h, (t, ()))) = some (qhS l h t, ()) := by
  rw [qwQ]
  have h1 := qsX (step := qkQ n) l (fun k b => (l, (h, (t, (b, ((k : Int), ())))))) (fun b m => b + qmb m h t) 0 (fun b => (b, ())) (fun rec k b hk hb => by
    have hbb : 0 ≤ b ∧ b ≤ 500000 * 500 := by
      rw [qx0] at hb
      have := qKI (l := l.take k) (fun m hm => hs m (List.mem_of_mem_take hm)) h t
      have h2 : (l.take k).length ≤ 500 := by simp; omega
      omega
    have hm := hs l[k] (List.getElem_mem hk)
    have hm2 := hm.2
    rw [qn7]
    simp only [qbs hk, cond_true]
    rw [show (0 : Int) = (([] : List Stay).length : Int) from rfl, qLI n l h t k l[k] (List.getElem?_eq_getElem hk) hm.1 l[k].2.2.2.2 [] b n rfl hbb.1 (by omega) (by simp; omega) (by omega)]
    simp only [Option.bind_some, qE (show k < 9223372036854775807 by omega)]
    rfl) (fun rec b => by
    rw [qn7]
    simp only [qci, cond_false]) (n := n) (by omega)
  show Option.bind (qg n _ (l, (h, (t, (0, (((0 : Nat) : Int), ())))))) _ = _
  rw [h1]
  rfl
theorem qCy (h : Int) : ∀ (n : Nat) (lo : Int) (x t : Int), (x, t) ∈ qjM h lo n ↔ x = h ∧ lo ≤ t ∧ t < lo + n
  | 0, lo, x, t => by simp [qjM]; try omega
  | n + 1, lo, x, t => by
    unfold qjM
    rw [List.mem_cons, qCy h n]
    simp only [Prod.mk.injEq]
    omega
theorem qDZ (s : Stay) (x t : Int) : (x, t) ∈ qsL s ↔ qma x t s = true := by
  unfold qsL qma wi
  rw [qCy]
  simp only [Bool.and_eq_true, decide_eq_true_eq]
  omega
theorem qCz (x t : Int) : ∀ ss : List Stay, (qV ss).Nodup → (ss.filter (qma x t)).length = if (x, t) ∈ qV ss then 1 else 0
  | [], _ => by simp [qV]
  | s :: ss, h => by
    unfold qV at h ⊢
    rw [List.nodup_append] at h
    have ih := qCz x t ss h.2.1
    rw [List.filter_cons]
    cases hm : qma x t s with
    | true =>
      have h1 := (qDZ s x t).2 hm
      have h2 : (x, t) ∉ qV ss := fun h3 => h.2.2 _ h1 _ h3 rfl
      rw [if_neg h2] at ih
      simp only [if_true, List.length_cons, ih, List.mem_append, h1, true_or]
    | false =>
      have h1 : (x, t) ∉ qsL s := fun h3 => by rw [(qDZ s x t).1 h3] at hm; cases hm
      simp only [Bool.false_eq_true, if_false, ih, List.mem_append, h1, false_or]
theorem qAf {c : Chn} {m : Msg} (hm : MsgOk c m) (x t : Int) : qmb m x t = if (x, t) ∈ qV m.2.2.2.2 then m.2.2.2.1 else 0 := by
  unfold qmb
  rw [qCz x t _ hm.nd]
  split <;> simp
def qBD (d : DecS) : Prop := ∀ x t, valL (x, t) d.2.2 = qhS d.1 x t
theorem qIp {c : Chn} {d : DecS} {m : Msg} (hm : MsgOk c m) (h : qBD d) : qBD (dcF c d m) := fun x t => by
  unfold dcF
  split
  · exact h x t
  · show valL (x, t) (addU m.2.2.2.1 (qV m.2.2.2.2) d.2.2) = qhS (d.1 ++ [m]) x t
    rw [qtZ _ _ _ _ hm.nd, qJn, qlm, qAf hm, h x t]
    have : qhS [] x t = 0 := rfl
    rw [this]
    split <;> omega
theorem qCA {c : Chn} : ∀ (q : List Msg) (d : DecS), (∀ m, m ∈ q → MsgOk c m) → qBD d → qBD (q.foldl (dcF c) d)
  | [], _, _, h => h
  | m :: q, d, hq, h => qCA q _ (fun x hx => hq x (List.mem_cons_of_mem _ hx)) (qIp (hq m List.mem_cons_self) h)
theorem qD0 {c : Chn} {q : List Msg} (hq : ∀ m, m ∈ q → MsgOk c m) : qBD (dcL c q) := qCA q _ hq fun x t => rfl
theorem qAg (c : Chn) : ∀ (q : List Msg) (d : DecS), ∃ a w, (q.foldl (dcF c) d).1 = d.1 ++ a ∧ (q.foldl (dcF c) d).2.1 = d.2.1 ++ w
  | [], d => ⟨[], [], by simp, by simp⟩
  | m :: q, d => by
    obtain ⟨a, w, h1, h2⟩ := qAg c q (dcF c d m)
    rw [List.foldl_cons, h1, h2]
    unfold dcF
    split
    · exact ⟨a, m :: w, rfl, by simp⟩
    · exact ⟨m :: a, w, by simp, rfl⟩
theorem qD1 (c : Chn) : ∀ (q : List Msg) (d : DecS), d.2.1 = [] → (q.foldl (dcF c) d).2.1 ≠ [] → ∃ A m B r, q = A ++ m :: B ∧ (A.foldl (dcF c) d).2.1 = [] ∧ (A.foldl (dcF c) d).1 = d.1 ++ A ∧ qmV c (A.foldl (dcF c) d).2.2 m = true ∧ (q.foldl (dcF c) d).2.1 = m :: r
  | [], d, h, h' => absurd h h'
  | x :: q, d, h, h' => by
    cases hs : qmV c d.2.2 x with
    | true =>
      obtain ⟨a, w, h1, h2⟩ := qAg c q (dcF c d x)
      refine ⟨[], x, q, w, rfl, h, by simp, hs, ?_⟩
      rw [List.foldl_cons, h2]
      unfold dcF
      rw [if_pos hs, h]
      rfl
    | false =>
      have e : dcF c d x = (d.1 ++ [x], (d.2.1, addU x.2.2.2.1 (qV x.2.2.2.2) d.2.2)) := by unfold dcF; rw [if_neg (by rw [hs]; simp)]
      obtain ⟨A, m, B, r, h1, h2, h3, h4, h5⟩ := qD1 c q (dcF c d x) (by rw [e]; exact h) (by simpa using h')
      refine ⟨x :: A, m, B, r, by rw [h1]; rfl, h2, ?_, h4, h5⟩
      rw [List.foldl_cons, h3, e]
      simp
theorem qwY {c : Chn} {u : Used} {m : Msg} : qmV c u m = false ↔ ∀ s, s ∈ qV m.2.2.2.2 → m.2.2.2.1 ≤ qy6 c s.1 - valL s u := by
  unfold qmV
  rw [List.any_eq_false]
  refine forall_congr' fun s => imp_congr_right fun _ => ?_
  unfold lft
  simp only [decide_eq_true_eq]
  omega
theorem qEF {c : Chn} : ∀ (A : List Msg), (∀ m, m ∈ A → MsgOk c m) → ∀ (d d' : DecS), (∀ s, valL s d'.2.2 ≤ valL s d.2.2) → (A.foldl (dcF c) d).2.1 = d.2.1 → ∀ p : Msg → Bool, ((A.filter p).foldl (dcF c) d').2.1 = d'.2.1 ∧ ((A.filter p).foldl (dcF c) d').1 = d'.1 ++ A.filter p ∧ (∀ s, valL s ((A.filter p).foldl (dcF c) d').2.2 ≤ valL s (A.foldl (dcF c) d).2.2)
  | [], _, d, d', hv, _, p => ⟨rfl, by simp, hv⟩
  | x :: A, hA, d, d', hv, hw, p => by
    rw [List.foldl_cons] at hw ⊢
    have hs : qmV c d.2.2 x = false := by
      rw [← Bool.not_eq_true]
      intro hs
      obtain ⟨a, w, _, h2⟩ := qAg c A (dcF c d x)
      rw [h2] at hw
      unfold dcF at hw
      rw [if_pos hs] at hw
      have := congrArg List.length hw
      simp at this
    have e : dcF c d x = (d.1 ++ [x], (d.2.1, addU x.2.2.2.1 (qV x.2.2.2.2) d.2.2)) := by unfold dcF; rw [if_neg (by rw [hs]; simp)]
    have hx := hA x List.mem_cons_self
    have hp := hx.p1
    have hA' : ∀ m, m ∈ A → MsgOk c m := fun m hm => hA m (List.mem_cons_of_mem _ hm)
    have hw' : (A.foldl (dcF c) (dcF c d x)).2.1 = (dcF c d x).2.1 := by rw [hw, e]
    rw [List.filter_cons]
    cases hpx : p x with
    | true =>
      simp only [if_true, List.foldl_cons]
      have hs' : qmV c d'.2.2 x = false := qwY.2 fun s h => by have := qwY.1 hs s h; have := hv s; omega
      have e' : dcF c d' x = (d'.1 ++ [x], (d'.2.1, addU x.2.2.2.1 (qV x.2.2.2.2) d'.2.2)) := by unfold dcF; rw [if_neg (by rw [hs']; simp)]
      obtain ⟨h1, h2, h3⟩ := qEF A hA' (dcF c d x) (dcF c d' x) (fun s => by
        rw [e, e']
        show valL s (addU _ _ _) ≤ valL s (addU _ _ _)
        rw [qtZ _ _ _ _ hx.nd, qtZ _ _ _ _ hx.nd]
        have := hv s
        split <;> omega) hw' p
      exact ⟨by rw [h1, e'], by rw [h2, e']; simp, h3⟩
    | false =>
      simp only [Bool.false_eq_true, if_false]
      exact qEF A hA' (dcF c d x) d' (fun s => by
        rw [e]
        show _ ≤ valL s (addU _ _ _)
        rw [qtZ _ _ _ _ hx.nd]
        have := hv s
        split <;> omega) hw' p
def qBV (id : Int) : List Msg → Nat → Int → Int
  | [], _, o => o
  | x :: l, k, o => qBV id l (k + 1) (if x.2.1 = id then (k : Int) else o)
theorem qGP (id : Int) : ∀ (A : List Msg) (k : Nat) (o : Int), qBV id A k o = o ∨ ∃ j, ∃ h : j < A.length, qBV id A k o = ((k + j : Nat) : Int) ∧ A[j].2.1 = id
  | [], _, _ => .inl rfl
  | x :: A, k, o => by
    unfold qBV
    rcases qGP id A (k + 1) (if x.2.1 = id then (k : Int) else o) with h | ⟨j, h1, h2, h3⟩
    · rw [h]
      split
      · rename_i hx; exact .inr ⟨0, by simp, by simp, hx⟩
      · exact .inl rfl
    · exact .inr ⟨j + 1, by simpa using h1, by rw [h2]; congr 1; omega, by simpa using h3⟩
theorem qKJ (n : Nat) (c : Chn) (l q : List Msg) (id w0 : Int) (w : List Int) (m : Msg) (B : List Msg) (hm : m.2.1 = w0) : ∀ (A P : List Msg) (o : Int) (n' : Nat), q = P ++ (A ++ m :: B) → (∀ x, x ∈ A → x.2.1 ≠ w0) → q.length ≤ 1000 → A.length < n' →
    qg n' (qjd n) (l, (id, (w0 :: w, (q, ((P.length : Int), (o, (c, ()))))))) = some (l, (id, (w0 :: w, (q, (((P ++ A).length : Int), (qBV id A P.length o, (c, ()))))))) := by
  intro A
  induction A with
  | nil =>
    intro P o n' hq hA hl hn
    obtain ⟨n', rfl⟩ : ∃ m, n' = m + 1 := ⟨n' - 1, by omega⟩
    rw [qw, ql0]
    rw [List.nil_append] at hq
    have hk : P.length < q.length := by rw [hq]; simp
    have hx : q[P.length]? = some m := by rw [hq]; simp
    simp only [qbs hk, cond_true, qjN, hx, Option.bind_some, qwU, qiX hm, cond_false, List.append_nil]
    rfl
  | cons x A ih =>
    intro P o n' hq hA hl hn
    simp only [List.length_cons] at hn
    obtain ⟨n', rfl⟩ : ∃ m, n' = m + 1 := ⟨n' - 1, by omega⟩
    rw [qw, ql0]
    rw [List.cons_append] at hq
    have hk : P.length < q.length := by rw [hq]; simp
    have hx : q[P.length]? = some x := by rw [hq]; simp
    have ih' := fun o => ih (P ++ [x]) o n' (by rw [hq]; simp) (fun y hy => hA y (List.mem_cons_of_mem _ hy)) hl (by omega)
    simp only [List.length_append, List.length_cons, List.length_nil, Nat.zero_add, List.append_assoc, List.cons_append, List.nil_append] at ih'
    simp only [qbs hk, cond_true, qjN, hx, Option.bind_some, qwU, qq9 (hA x List.mem_cons_self), qE (show P.length < 9223372036854775807 by omega)]
    unfold qBV
    by_cases h : x.2.1 = id
    · rw [qdt h, if_pos h]
      simp only [cond_true, ih', List.length_append, List.length_cons]
    · rw [qfa h, if_neg h]
      simp only [cond_false, ih', List.length_append, List.length_cons]
theorem qHO {q : List Msg} {k : Nat} (hk : k < q.length) : List.drop k (List.take (k + 1) q) = [q[k]] := by
  rw [List.take_succ_eq_append_getElem hk, List.drop_append_of_le_length (by simp; omega)]
  simp
def badN (m x : Msg) (h t : Int) : Bool := decide (qmb m h t > 0) && decide (qmb x h t = 0)
theorem qKK (n : Nat) (c : Chn) (l q : List Msg) (id h : Int) (w : List Int) (a b : Nat) (ha : a < q.length) (hb : b < q.length) (hs : ∀ m, m ∈ q → qAe m) (hl : q.length ≤ 1000) (hc : 0 ≤ c.2 ∧ c.2 ≤ 100) (hn : 2000 ≤ n) :
    qg n (qgl n) (l, (id, (w, (q, ((a : Int), ((b : Int), (h, ((0 : Int), (c, ()))))))))) = some (cond ((List.range c.2.toNat).any fun t : Nat => badN q[a] q[b] h t) (.inr (true, ())) (.inl (l, (id, (w, (q, ((a : Int), ((b : Int), (h, (c, ()))))))))) ) := by
  have h1 := qnd (step := qgl n) (List.range c.2.toNat) (fun k => (l, (id, (w, (q, ((a : Int), ((b : Int), (h, ((k : Int), (c, ())))))))))) (fun t => badN q[a] q[b] h t) (.inr (true, ())) (.inl (l, (id, (w, (q, ((a : Int), ((b : Int), (h, (c, ())))))))) ) (fun rec k hk => by
    have hk' : k < c.2.toNat := by simpa using hk
    rw [qlY]
    have e1 : iLt (k : Int) c.2 = true := decide_eq_true (by omega)
    simp only [e1, cond_true, qE (show a < 9223372036854775807 by omega), qE (show b < 9223372036854775807 by omega), qE (show k < 9223372036854775807 by omega)]
    rw [qmU (show a + 1 ≤ q.length by omega)]
    simp only [Option.bind_some]
    rw [qmU (show a ≤ a + 1 by omega)]
    simp only [Option.bind_some, qHO ha]
    rw [qFl n [q[a]] h k (fun m hm => by rw [List.mem_singleton] at hm; rw [hm]; exact hs _ (List.getElem_mem ha)) (by simp) hn]
    simp only [Option.bind_some, qlm, show qhS [] h (k : Int) = 0 from rfl, Int.add_zero, List.getElem_range]
    unfold badN
    by_cases h2 : qmb q[a] h k > 0
    · rw [show iGt (qmb q[a] h k) 0 = true from decide_eq_true h2]
      simp only [cond_true]
      rw [qmU (show b + 1 ≤ q.length by omega)]
      simp only [Option.bind_some]
      rw [qmU (show b ≤ b + 1 by omega)]
      simp only [Option.bind_some, qHO hb]
      rw [qFl n [q[b]] h k (fun m hm => by rw [List.mem_singleton] at hm; rw [hm]; exact hs _ (List.getElem_mem hb)) (by simp) hn]
      simp only [Option.bind_some, qlm, show qhS [] h (k : Int) = 0 from rfl, Int.add_zero]
      by_cases h3 : qmb q[b] h k = 0
      · rw [qdt h3, qGL n hn]; simp [h2, h3]
      · rw [qfa h3]; simp [h3]
    · rw [show iGt (qmb q[a] h k) 0 = false from decide_eq_false h2]
      simp [h2]) (fun rec => by
    rw [qlY]
    have e1 : iLt ((List.range c.2.toNat).length : Int) c.2 = false := decide_eq_false (by simp; omega)
    simp only [e1, cond_false]) (n := n) (by simp; omega)
  exact h1
theorem qKL (n : Nat) (c : Chn) (l q : List Msg) (id : Int) (w : List Int) (a b : Nat) (ha : a < q.length) (hb : b < q.length) (hs : ∀ m, m ∈ q → qAe m) (hl : q.length ≤ 1000) (hc : 0 ≤ c.2 ∧ c.2 ≤ 100) (hh : c.1.length ≤ 100) (hn : 2000 ≤ n) :
    qg n (qgm n) (l, (id, (w, (q, ((a : Int), ((b : Int), ((0 : Int), (c, ())))))))) = some (cond ((List.range c.1.length).any fun h : Nat => (List.range c.2.toNat).any fun t : Nat => badN q[a] q[b] h t) (.inr (true, ())) (.inl (l, (id, (w, (c, ())))))) := by
  have h1 := qnd (step := qgm n) (List.range c.1.length) (fun k => (l, (id, (w, (q, ((a : Int), ((b : Int), ((k : Int), (c, ()))))))))) (fun h => (List.range c.2.toNat).any fun t : Nat => badN q[a] q[b] h t) (.inr (true, ())) (.inl (l, (id, (w, (c, ()))))) (fun rec k hk => by
    have hk' : k < c.1.length := by simpa using hk
    rw [qlZ]
    simp only [qbs hk', cond_true, qKK n c l q id k w a b ha hb hs hl hc hn, Option.bind_some, List.getElem_range, qE (show k < 9223372036854775807 by omega)]
    cases (List.range c.2.toNat).any fun t : Nat => badN q[a] q[b] k t with
    | true => rfl
    | false => simp only [cond_false, Sum.elim_inl, qE (show k < 9223372036854775807 by omega)]) (fun rec => by
    rw [qlZ]
    have e1 : iLt ((List.range c.1.length).length : Int) (c.1.length : Int) = false := decide_eq_false (by simp)
    simp only [e1, cond_false]) (n := n) (by simp; omega)
  exact h1
end Go.Proofs.Ytcjgodgpaokbnaa

/- Beds, plain: the freed beds. -/
namespace Go.Proofs.Ytcjgodgpaokbnaa
set_option linter.constructorNameAsVariable false
set_option linter.unusedSimpArgs false
set_option linter.unusedVariables false
set_option linter.unusedSectionVars false
open Go Go.Proofs Go.RowKit
set_option maxHeartbeats 1000000
theorem MsgOk.small {c : Chn} {m : Msg} (h : MsgOk c m) (hl : m.2.2.2.2.length ≤ 500) : qAe m := ⟨⟨by have := h.p1; omega, by have := h.p2; omega⟩, hl⟩
theorem qHb {c : Chn} {l : List Msg} (V : Vld c l) : ∀ m, m ∈ qcy l → qAe m := fun m hm => (qwV V m hm).small (by have := V.st m (qpV.1 hm).1; omega)
theorem qwZ {l : List Msg} (M : Msgs l) {x y : Msg} (hx : x ∈ qcy l) (hy : y ∈ qcy l) (h : x.2.1 = y.2.1) : x = y := by
  have h1 := qoc.1 hx
  have h2 := qoc.1 hy
  have k1 := M.kd x h1.1
  have k2 := M.kd y h2.1
  have e1 : x.1 = 1 := by rcases k1 with k | k; exact k; exact absurd k h1.2.1
  have e2 : y.1 = 1 := by rcases k2 with k | k; exact k; exact absurd k h2.2.1
  exact M.cl x y h1.1 h2.1 h (by rw [e1, e2])
theorem qCB {l : List Msg} (M : Msgs l) : (qcy l).Pairwise (fun a b => a ≠ b) := (qra M).imp fun {a b} h e => by subst e; omega
theorem qFr {c : Chn} {l : List Msg} (V : Vld c l) {id : Int} (hid : 0 ≤ id ∧ id ≤ 99) (hl : l.length ≤ 30) : qcy (qeA l [id]) = (qcy l).filter fun m => !decide (m.2.1 = id) := by
  have V1 : Vld c (qeA l [id]) := V.without (fun i hi => by simp at hi; omega) (by simp; omega)
  refine qvI key2 _ _ (qra V1.msgs) ((qra V.msgs).sublist List.filter_sublist) fun x => ?_
  rw [qoc, qGN, List.mem_filter, qoc]
  simp
theorem qJo {c : Chn} {m x : Msg} (hc : qeR c = true) (hm : MsgOk c m) (hms : qmT c.1.length c.2 (-1) m.2.2.2.2 = true) (hx : MsgOk c x) (h : ((List.range c.1.length).any fun h : Nat => (List.range c.2.toNat).any fun t : Nat => badN m x h t) = false) : ∀ s, s ∈ qV m.2.2.2.2 → s ∈ qV x.2.2.2.2 := fun s hs => by
  obtain ⟨i1, _, _⟩ := qBA _ _ _ _ hms
  have h1 := i1 s hs
  obtain ⟨h0, t0⟩ := s
  simp only at h1
  rw [List.any_eq_false] at h
  have h2 := h h0.toNat (by simp; omega)
  rw [Bool.not_eq_true, List.any_eq_false] at h2
  have h3 := h2 t0.toNat (by simp; omega)
  rw [show ((h0.toNat : Nat) : Int) = h0 by omega, show ((t0.toNat : Nat) : Int) = t0 by omega] at h3
  unfold badN at h3
  rw [qAf hm, qAf hx, if_pos hs] at h3
  have hp := hm.p1
  rcases Classical.em ((h0, t0) ∈ qV x.2.2.2.2) with hin | hin
  · exact hin
  · rw [if_neg hin] at h3
    exfalso
    apply h3
    simp
    omega
theorem qJp {c : Chn} {m : Msg} (h : mesB c m = true) (hk : m.1 ≠ 2) : qmT c.1.length c.2 (-1) m.2.2.2.2 = true := by
  unfold mesB canB reqB at h
  rw [show decide (m.1 = 2) = false from decide_eq_false hk] at h
  simp only [Bool.false_and, Bool.false_or, Bool.and_eq_true] at h
  exact h.2.2.2.2.2
theorem qJq {c : Chn} {l : List Msg} (V : Vld c l) (hl : l.length ≤ 30) {A B : List Msg} {m x : Msg} (hq : qcy l = A ++ m :: B) (hw : (A.foldl (dcF c) ([], ([], []))).2.1 = []) (ha : (A.foldl (dcF c) ([], ([], []))).1 = A) (hx : x ∈ A) (hp : m.2.2.2.1 ≤ x.2.2.2.1) (hs : ∀ s, s ∈ qV m.2.2.2.2 → s ∈ qV x.2.2.2.2) : m.2.1 ∈ accL c (qeA l [x.2.1]) := by
  have hok : ∀ y, y ∈ A ++ m :: B → MsgOk c y := fun y hy => qwV V y (hq ▸ hy)
  have hxq : x ∈ qcy l := by rw [hq]; simp [hx]
  have hmq : m ∈ qcy l := by rw [hq]; simp
  have hid := V.msgs.id x (qpV.1 hxq).1
  have hnd := qCB V.msgs
  rw [hq, List.pairwise_append] at hnd
  have hmx : m.2.1 ≠ x.2.1 := fun e => hnd.2.2 x hx m List.mem_cons_self (qwZ V.msgs hmq hxq e).symm
  rw [qKF]
  refine ⟨m, ?_, rfl⟩
  unfold offL dcL
  rw [qFr V hid hl, hq, List.filter_append, List.filter_cons, if_pos (by simp [hmx]), List.foldl_append, List.foldl_cons]
  obtain ⟨h1, h2, h3⟩ := qEF A (fun y hy => hok y (by simp [hy])) ([], ([], [])) ([], ([], [])) (fun s => Int.le_refl _) hw (fun m => !decide (m.2.1 = x.2.1))
  obtain ⟨d, hd⟩ : ∃ d, (A.filter fun m => !decide (m.2.1 = x.2.1)).foldl (dcF c) ([], ([], [])) = d := ⟨_, rfl⟩
  rw [hd] at h1 h2 h3 ⊢
  have hinv : Inv c (A.foldl (dcF c) ([], ([], []))).2.2 := qKA V.ch (fun y hy => hok y (by simp [hy]))
  have hU := qD0 (c := c) (q := A) (fun y hy => hok y (by simp [hy]))
  have hU' := qD0 (c := c) (q := A.filter fun m => !decide (m.2.1 = x.2.1)) (fun y hy => hok y (by simp [(List.mem_filter.1 hy).1]))
  unfold dcL at hU hU'
  rw [hd] at hU'
  have hshort : qmV c d.2.2 m = false := qwY.2 fun s hsm => by
    have hsx := hs s hsm
    have hokx := hok x (by simp [hx])
    have hb := (hinv s ((hok m (by simp)).sp s hsm))
    obtain ⟨sh, st⟩ := s
    have e1 := hU sh st
    have e2 := hU' sh st
    rw [ha] at e1
    rw [h2, List.nil_append] at e2
    have e3 : qhS A sh st = qhS (A.filter fun m => !decide (m.2.1 = x.2.1)) sh st + qmb x sh st := by
      have hndA : A.Pairwise (fun a b => a ≠ b) := hnd.1
      have hidA : ∀ y, y ∈ A → y.2.1 = x.2.1 → y = x := fun y hy e => qwZ V.msgs (by rw [hq]; simp [hy]) hxq e
      clear hw ha h1 h2 h3 hd hinv hU hU' e1 e2 hq hok hnd hb hokx
      induction A with
      | nil => cases hx
      | cons y A ih =>
        rw [List.pairwise_cons] at hndA
        rw [qlm, List.filter_cons]
        by_cases hyx : y.2.1 = x.2.1
        · have hyx' := hidA y List.mem_cons_self hyx
          subst hyx'
          have : (A.filter fun m => !decide (m.2.1 = y.2.1)) = A := List.filter_eq_self.2 fun z hz => by
            have : z.2.1 ≠ y.2.1 := fun e => hndA.1 z hz (hidA z (List.mem_cons_of_mem _ hz) e).symm
            simp [this]
          rw [this]
          simp
          omega
        · have hxA : x ∈ A := by
            rcases List.mem_cons.1 hx with e | h
            · exact absurd (by rw [e]) hyx
            · exact h
          rw [ih hxA hndA.2 fun z hz => hidA z (List.mem_cons_of_mem _ hz)]
          simp only [hyx, decide_false, Bool.not_false, if_true, qlm]
          omega
    rw [qAf hokx, if_pos hsx] at e3
    omega
  obtain ⟨a, w, g1, _⟩ := qAg c (B.filter fun m => !decide (m.2.1 = x.2.1)) (dcF c d m)
  rw [g1]
  unfold dcF
  rw [if_neg (by rw [hshort]; simp)]
  simp
theorem qKM (n : Nat) (c : Chn) (l : List Msg) (id : Int) (hl : l.length ≤ 9223372036854775807) (hn : l.length + 2000 ≤ n) : qhv n (c, (l, (id, ()))) = some (true, ()) := by
  have hw := qGL n (by omega)
  rw [quL]
  simp only [qKp n c l hl (by omega), Option.bind_some, hw]
  cases hv : qBx c l with
  | false => rfl
  | true =>
    obtain ⟨V, h9⟩ := qG4 hv
    obtain ⟨c1, c2, c3, c4⟩ := qxZ V.ch
    simp only [Bool.not_true, cond_false]
    by_cases h8 : l.length ≤ 8
    · rw [show iGt (l.length : Int) 8 = false from decide_eq_false (by omega)]
      have hal := qGO c l
      simp only [cond_false, qyj n c l V (by omega) (by omega), qDX n c l V (by omega) (by omega), Option.bind_some, qiX rfl]
      cases hwt : qDW c l with
      | nil => rfl
      | cons w0 w =>
        rw [qfa (by simp; omega)]
        simp only [cond_false, qCx n (accL c l) id (by omega) (by omega), Option.bind_some]
        by_cases hid : id ∈ accL c l
        · have hqn : (qcy l).foldl (dcF c) ([], ([], [])) = offL c l := rfl
          have hne : (offL c l).2.1 ≠ [] := fun e => by unfold qDW at hwt; rw [e] at hwt; cases hwt
          obtain ⟨A, m, B, r, q1, q2, q3, q4, q5⟩ := qD1 c (qcy l) ([], ([], [])) rfl hne
          have hm0 : m.2.1 = w0 := by
            unfold qDW at hwt
            rw [← hqn, q5] at hwt
            simp at hwt
            exact hwt.1
          have hnd := qCB V.msgs
          have hmq : m ∈ qcy l := by rw [q1]; simp
          have hAq : ∀ x, x ∈ A → x ∈ qcy l := fun x hx => by rw [q1]; simp [hx]
          have hA : ∀ x, x ∈ A → x.2.1 ≠ w0 := fun x hx e => by
            rw [q1, List.pairwise_append] at hnd
            exact hnd.2.2 x hx m List.mem_cons_self (qwZ V.msgs (hAq x hx) hmq (by rw [e, hm0]))
          have hql := qAa l
          have hs0 := qKJ n c l (qcy l) id w0 w m B hm0 A [] (-1) n (by rw [q1]; rfl) hA (by omega) (by
            have := congrArg List.length q1
            simp at this
            omega)
          simp only [List.length_nil, List.nil_append] at hs0
          simp only [hid, decide_true, Bool.not_true, cond_false, qHa n l V.msgs (by omega) (by omega), Option.bind_some, show (Int.negSucc 0) = -1 from rfl]
          rw [show ((0 : Nat) : Int) = 0 from rfl] at hs0
          rw [hs0]
          have hAl : A.length < (qcy l).length := by rw [q1]; simp
          have hqA : (qcy l)[A.length] = m := by simp [q1]
          simp only [Option.bind_some]
          rw [show iGe (A.length : Int) ((qcy l).length : Int) = false from decide_eq_false (by omega)]
          simp only [cond_false]
          rcases qGP id A 0 (-1) with e | ⟨j, hj, e, hjid⟩
          · rw [e]; rfl
          · rw [Nat.zero_add] at e
            have hjl : j < (qcy l).length := by omega
            have hqj : (qcy l)[j] = A[j] := by simp only [q1]; rw [List.getElem_append_left hj]
            rw [e, show iLt (j : Int) 0 = false from decide_eq_false (by omega)]
            simp only [cond_false, qcR _ hAl, qcR _ hjl, hqA, hqj, Option.bind_some]
            by_cases hp : m.2.2.2.1 > A[j].2.2.2.1
            · rw [show iGt m.2.2.2.1 A[j].2.2.2.1 = true from decide_eq_true hp]; rfl
            · rw [show iGt m.2.2.2.1 A[j].2.2.2.1 = false from decide_eq_false hp]
              simp only [cond_false]
              rw [qKL n c l (qcy l) id (w0 :: w) A.length j hAl hjl (qHb V) (by omega) (by omega) (by omega) (by omega)]
              rw [hqA, hqj]
              cases hbad : (List.range c.1.length).any fun h : Nat => (List.range c.2.toNat).any fun t : Nat => badN m A[j] h t with
              | true => rfl
              | false =>
                have hxm : A[j] ∈ A := List.getElem_mem hj
                have hxq := hAq _ hxm
                have hmk : m.1 ≠ 2 := (qoc.1 hmq).2.1
                have hacc := qJq V (by omega) q1 q2 (by simpa using q3) hxm (by omega) (qJo V.ch (qwV V m hmq) (qJp (V.ms m (qpV.1 hmq).1) hmk) (qwV V _ hxq) hbad)
                rw [hjid, hm0] at hacc
                have hidr := V.msgs.id _ (qpV.1 hxq).1
                rw [hjid] at hidr
                have V1 : Vld c (qeA l [id]) := V.without (fun i hi => by simp at hi; omega) (by simp; omega)
                have hlw : (qeA l [id]).length ≤ 12 := by unfold qeA; simp; omega
                have hal1 := qGO c (qeA l [id])
                simp only [cond_false, Option.bind_some, Sum.elim_inl, qIm n l [id] (by omega) (by simp) (by omega), qyj n c _ V1 hlw (by omega), qdt rfl, cond_true, qwU, qCx n (accL c (qeA l [id])) w0 (by omega) (by omega), hacc, decide_true, hw]
        · simp [hid]
    · rw [show iGt (l.length : Int) 8 = true from decide_eq_true (by omega)]; rfl
end Go.Proofs.Ytcjgodgpaokbnaa

/- Beds, plain: why a request waits. -/
namespace Go.Proofs.Ytcjgodgpaokbnaa
set_option linter.constructorNameAsVariable false
set_option linter.unusedSimpArgs false
set_option linter.unusedVariables false
set_option linter.unusedSectionVars false
open Go Go.Proofs Go.RowKit
set_option maxHeartbeats 1000000
def qBE (q : List Msg) (id : Int) : List Msg := q.takeWhile fun m => !decide (m.2.1 = id)
end Go.Proofs.Ytcjgodgpaokbnaa

/- Beds, plain: the queue is fair. -/
namespace Go.Proofs.Ytcjgodgpaokbnaa
set_option linter.constructorNameAsVariable false
set_option linter.unusedSimpArgs false
set_option linter.unusedVariables false
set_option linter.unusedSectionVars false
open Go Go.Proofs Go.RowKit
set_option maxHeartbeats 1000000
end Go.Proofs.Ytcjgodgpaokbnaa
