/- Texts Dp0, Dp1, Dp2, Dp3, Dp4, Dp5 in one. -/
import Derived.Test.YtcjgodgpaokbnaaGreatDq0
import Derived.Test.YtcjgodgpaokbnaaGreatDq1
/- Plain: loops over lists. Nothing here speaks of the program. -/
namespace Go.Proofs.YtcjgodgpaokbnaaGreat
set_option linter.constructorNameAsVariable false
set_option linter.unusedSimpArgs false
set_option linter.unusedVariables false
set_option linter.unusedSectionVars false
open Go Go.Proofs Go.RowKit
theorem qju {n : Int} (h : -9223372036854775808 ≤ n) (h' : n ≤ 9223372036854775807) : iW n = n := qKw h h'
theorem qB {k : Nat} (h : k < 9223372036854775807) : iW (iAdd (k : Int) 1) = ((k + 1 : Nat) : Int) := by
  rw [qju (by unfold iAdd; omega) (by unfold iAdd; omega)]; unfold iAdd; omega
theorem qhR {α : Type} (l : List α) (k : Nat) : lat l (k : Int) = l[k]? := by unfold lat; simp
theorem qcj {α : Type} (l : List α) {k : Nat} (h : k < l.length) : lat l (k : Int) = some l[k] := by rw [qhR, List.getElem?_eq_getElem h]
theorem qCm {α : Type} (x : α) (l : List α) : lat (x :: l) 0 = some x := rfl
theorem q8 {a b : Nat} (h : a < b) : iLt (a : Int) (b : Int) = true := by simp [iLt]; exact h
theorem qbh {a : Nat} : iLt (a : Int) (a : Int) = false := by simp [iLt]
theorem qHf {α : Type} (o : Option α) : (o.bind fun y => some y) = o := by cases o <;> rfl
theorem qn {σ ξ : Type} (n : Nat) (step : (σ → Option ξ) → σ → Option ξ) (s : σ) : qf (n + 1) step s = step (qf n step) s := rfl
def qlc {α β ξ : Type} (f : Nat → β → α → Option (β ⊕ ξ)) (fin : β → Option ξ) : List α → Nat → β → Option ξ
  | [], _, b => fin b
  | x :: l, k, b => (f k b x).bind (Sum.elim (fun b' => qlc f fin l (k + 1) b') some)
theorem qwV {σ ξ α β : Type} {step : (σ → Option ξ) → σ → Option ξ} (l : List α) (mk : Nat → β → σ) (f : Nat → β → α → Option (β ⊕ ξ)) (fin : β → Option ξ)
    (h : ∀ rec k b (hk : k < l.length), step rec (mk k b) = (f k b l[k]).bind (Sum.elim (fun b' => rec (mk (k + 1) b')) some))
    (h0 : ∀ rec b, step rec (mk l.length b) = fin b) {n : Nat} (b : β) (hn : l.length < n) : qf n step (mk 0 b) = qlc f fin l 0 b := by
  have go : ∀ (m : Nat) (k : Nat) (b : β) (n : Nat), k + m = l.length → m < n → qf n step (mk k b) = qlc f fin (l.drop k) k b := by
    intro m
    induction m with
    | zero =>
      intro k b n hk hn
      obtain ⟨n, rfl⟩ : ∃ m, n = m + 1 := ⟨n - 1, by omega⟩
      have : k = l.length := by omega
      subst this
      rw [List.drop_length]
      exact h0 _ _
    | succ m ih =>
      intro k b n hk hn
      obtain ⟨n, rfl⟩ : ∃ m, n = m + 1 := ⟨n - 1, by omega⟩
      have hlt : k < l.length := by omega
      rw [List.drop_eq_getElem_cons hlt]
      show step (qf n step) (mk k b) = _
      rw [h _ _ _ hlt, qlc]
      congr 1
      funext r
      cases r with
      | inl b' => exact ih (k + 1) b' n (by omega) (by omega)
      | inr r => rfl
  have := go l.length 0 b n (by omega) hn
  simpa using this
theorem qto {σ ξ α : Type} {step : (σ → Option ξ) → σ → Option ξ} (l : List α) (mk : Nat → σ) (p : α → Bool) (hit : ξ) (miss : ξ)
    (h : ∀ rec k (hk : k < l.length), step rec (mk k) = cond (p l[k]) (some hit) (rec (mk (k + 1))))
    (h0 : ∀ rec, step rec (mk l.length) = some miss) {n : Nat} (hn : l.length < n) : qf n step (mk 0) = some (cond (l.any p) hit miss) := by
  have h1 := qwV (β := Unit) l (fun k _ => mk k) (fun _ _ x => some (cond (p x) (.inr hit) (.inl ()))) (fun _ => some miss) (fun rec k b hk => by rw [h rec k hk]; cases p l[k] <;> rfl) (fun rec b => h0 rec) () hn
  rw [h1]
  have : ∀ (l : List α) (k : Nat), qlc (fun _ (_ : Unit) x => some (cond (p x) (.inr hit) (.inl ()))) (fun _ => some miss) l k () = some (cond (l.any p) hit miss) := by
    intro l
    induction l with
    | nil => intro k; rfl
    | cons x l ih =>
      intro k
      rw [qlc, List.any_cons]
      cases p x with
      | true => rfl
      | false => exact ih _
  exact this l 0
theorem qtp {σ ξ α : Type} {step : (σ → Option ξ) → σ → Option ξ} (l : List α) (mk : Nat → σ) (p : α → Bool) (good : ξ) (bad : ξ)
    (h : ∀ rec k (hk : k < l.length), step rec (mk k) = cond (p l[k]) (rec (mk (k + 1))) (some bad))
    (h0 : ∀ rec, step rec (mk l.length) = some good) {n : Nat} (hn : l.length < n) : qf n step (mk 0) = some (cond (l.all p) good bad) := by
  rw [qto l mk (fun x => !p x) bad good (fun rec k hk => by rw [h rec k hk]; cases p l[k] <;> rfl) h0 hn]
  rw [show l.any (fun x => !p x) = !l.all p by simp [List.all_eq_not_any_not]]
  cases l.all p <;> rfl
theorem qoL {σ ξ α : Type} {step : (σ → Option ξ) → σ → Option ξ} (l : List α) (mk : Nat → σ) (p : α → Bool) (hit : Nat → ξ) (miss : ξ)
    (h : ∀ rec k (hk : k < l.length), step rec (mk k) = cond (p l[k]) (some (hit k)) (rec (mk (k + 1))))
    (h0 : ∀ rec, step rec (mk l.length) = some miss) {n : Nat} (hn : l.length < n) :
    (l.any p = false ∧ qf n step (mk 0) = some miss) ∨ (∃ k, ∃ hk : k < l.length, p l[k] = true ∧ (l.take k).any p = false ∧ qf n step (mk 0) = some (hit k)) := by
  have h1 := qwV (β := Unit) l (fun k _ => mk k) (fun k _ x => some (cond (p x) (.inr (hit k)) (.inl ()))) (fun _ => some miss) (fun rec k b hk => by rw [h rec k hk]; cases p l[k] <;> rfl) (fun rec b => h0 rec) () hn
  rw [h1]
  have : ∀ (l : List α) (j : Nat), (l.any p = false ∧ qlc (fun k (_ : Unit) x => some (cond (p x) (.inr (hit k)) (.inl ()))) (fun _ => some miss) l j () = some miss) ∨ (∃ k, ∃ hk : k < l.length, p l[k] = true ∧ (l.take k).any p = false ∧ qlc (fun k (_ : Unit) x => some (cond (p x) (.inr (hit k)) (.inl ()))) (fun _ => some miss) l j () = some (hit (j + k))) := by
    intro l
    induction l with
    | nil => intro j; exact .inl ⟨rfl, rfl⟩
    | cons x l ih =>
      intro j
      cases hx : p x with
      | true => exact .inr ⟨0, by simp, by simpa using hx, rfl, by rw [qlc, hx]; rfl⟩
      | false =>
        rcases ih (j + 1) with ⟨h1, h2⟩ | ⟨k, hk, h1, h2, h3⟩
        · exact .inl ⟨by rw [List.any_cons, hx, h1]; rfl, by rw [qlc, hx]; exact h2⟩
        · refine .inr ⟨k + 1, by simpa using hk, by simpa using h1, by rw [List.take_succ_cons, List.any_cons, hx, h2]; rfl, ?_⟩
          rw [qlc, hx]
          show qlc _ _ l (j + 1) () = _
          rw [h3]
          congr 2
          omega
  have := this l 0
  simpa using this
theorem qkf {σ ξ α β : Type} {step : (σ → Option ξ) → σ → Option ξ} (l : List α) (mk : Nat → β → σ) (f : β → α → β) (b0 : β) (fin : β → ξ)
    (h : ∀ rec k b (hk : k < l.length), b = (l.take k).foldl f b0 → step rec (mk k b) = rec (mk (k + 1) (f b l[k])))
    (h0 : ∀ rec b, step rec (mk l.length b) = some (fin b)) {n : Nat} (hn : l.length < n) : qf n step (mk 0 b0) = some (fin (l.foldl f b0)) := by
  have go : ∀ (m : Nat) (k : Nat) (n : Nat), k + m = l.length → m < n → qf n step (mk k ((l.take k).foldl f b0)) = some (fin (l.foldl f b0)) := by
    intro m
    induction m with
    | zero =>
      intro k n hk hn
      obtain ⟨n, rfl⟩ : ∃ m, n = m + 1 := ⟨n - 1, by omega⟩
      have : k = l.length := by omega
      subst this
      rw [List.take_length]
      exact h0 _ _
    | succ m ih =>
      intro k n hk hn
      obtain ⟨n, rfl⟩ : ∃ m, n = m + 1 := ⟨n - 1, by omega⟩
      have hlt : k < l.length := by omega
      show step (qf n step) (mk k _) = _
      rw [h _ _ _ hlt rfl]
      have := ih (k + 1) n (by omega) (by omega)
      rw [List.take_succ_eq_append_getElem hlt, List.foldl_append] at this
      exact this
  have := go l.length 0 n (by omega) hn
  simpa using this
def insL {α : Type} (lt : α → α → Bool) (x : α) : List α → List α
  | [] => [x]
  | y :: r => cond (lt x y) (y :: insL lt x r) (x :: y :: r)
def qij {α : Type} (lt : α → α → Bool) : List α → List α → List α
  | r, [] => r
  | r, x :: l => qij lt (insL lt x r) l
def qkg {α : Type} (lt : α → α → Bool) (l : List α) : List α := (qij lt [] l).reverse
theorem qp8 {α : Type} (lt : α → α → Bool) (x : α) : ∀ r, (insL lt x r).length = r.length + 1
  | [] => rfl
  | y :: r => by
    unfold insL
    cases lt x y with
    | true => simp [qp8 lt x r]
    | false => simp
theorem qwW {α : Type} (lt : α → α → Bool) (x : α) : ∀ r, (insL lt x r).Perm (x :: r)
  | [] => List.Perm.refl _
  | y :: r => by
    unfold insL
    cases lt x y with
    | true => exact ((qwW lt x r).cons y).trans (List.Perm.swap x y r)
    | false => exact List.Perm.refl _
theorem qBN {α : Type} (lt : α → α → Bool) : ∀ l r, (qij lt r l).Perm (r ++ l)
  | [], r => by simp [qij]
  | x :: l, r => by
    rw [qij]
    refine (qBN lt l _).trans ?_
    refine ((qwW lt x r).append_right l).trans ?_
    simp only [List.cons_append]
    exact List.perm_middle.symm
theorem qgs {α : Type} (lt : α → α → Bool) (l : List α) : (qkg lt l).Perm l := (List.reverse_perm _).trans (by simpa using qBN lt l [])
theorem qBe {σ ξ α : Type} {step : (σ → Option ξ) → σ → Option ξ} (lt : α → α → Bool) (mk : Nat → List α → σ) (fin : List α → Option ξ) (x : α) (N : Nat)
    (h1 : ∀ rec A y m, A.length + 1 ≤ N → step rec (mk (A.length + 1) (A ++ y :: x :: m)) = cond (lt x y) (rec (mk A.length (A ++ x :: y :: m))) (fin (A ++ y :: x :: m)))
    (h0 : ∀ rec d, step rec (mk 0 d) = fin d) : ∀ (r m : List α) (n : Nat), r.length ≤ N → r.length < n → qf n step (mk r.length (r.reverse ++ x :: m)) = fin ((insL lt x r).reverse ++ m)
  | [], m, n + 1, _, _ => h0 _ _
  | y :: r, m, n + 1, hN, hn => by
    have e := h1 (qf n step) r.reverse y m (by simpa using hN)
    rw [List.length_reverse] at e
    simp only [List.length_cons, List.reverse_cons, List.append_assoc, List.cons_append, List.nil_append]
    show step (qf n step) (mk (r.length + 1) (r.reverse ++ y :: x :: m)) = _
    rw [e, insL]
    cases lt x y with
    | true =>
      have := qBe lt mk fin x N h1 h0 r (y :: m) n (by simp at hN; omega) (by simp at hn; omega)
      simp only [cond_true, List.reverse_cons, List.append_assoc, List.cons_append, List.nil_append]
      exact this
    | false => simp
end Go.Proofs.YtcjgodgpaokbnaaGreat

/- Beds, plain: the reference's checks. -/
namespace Go.Proofs.YtcjgodgpaokbnaaGreat
set_option linter.constructorNameAsVariable false
set_option linter.unusedSimpArgs false
set_option linter.unusedVariables false
set_option linter.unusedSectionVars false
open Go Go.Proofs Go.RowKit
set_option maxHeartbeats 1000000
instance decStay : DecidableEq Stay := inferInstance
instance decStays : DecidableEq (List Stay) := inferInstance
instance decMsg : DecidableEq Msg := @instDecidableEqProd _ _ _ (@instDecidableEqProd _ _ _ (@instDecidableEqProd _ _ _ (@instDecidableEqProd _ _ _ decStays)))
theorem qdG {a b : Int} (h : a = b) : iEq a b = true := by simp [iEq, h]
theorem qfz {a b : Int} (h : a ≠ b) : iEq a b = false := by simp [iEq, h]
theorem qiB {a b : Int} (h : a ≠ b) : iNe a b = true := by simp [iNe, h]
theorem qfA {a b : Int} (h : a = b) : iNe a b = false := by simp [iNe, h]
def wi (a lo hi : Int) : Bool := decide (lo ≤ a) && decide (a ≤ hi)
theorem qe0 {a lo hi : Int} : wi a lo hi = true ↔ lo ≤ a ∧ a ≤ hi := by simp [wi]
theorem qoz (n : Nat) (a lo hi : Int) : qx n (a, (lo, (hi, ()))) = some (wi a lo hi, ()) := by
  rw [qvN]
  show cond (decide (a ≥ lo)) (some (decide (a ≤ hi), ())) (some (false, ())) = _
  unfold wi
  by_cases h : lo ≤ a
  · simp [h]
  · simp [h]
theorem qoM (n : Nat) (a lo hi : Int) : qcu n (a, (lo, (hi, ()))) = some (wi a lo hi, ()) := by
  rw [qBu]
  show cond (decide (lo ≤ a)) (some (decide (a ≤ hi), ())) (some (false, ())) = _
  unfold wi
  by_cases h : lo ≤ a
  · simp [h]
  · simp [h]
def hutB (h : Int × Int) : Bool := wi h.1 0 20 && wi h.2 0 20
def qcS (c : Chn) : Bool := c.1.all hutB && (wi c.1.length 1 6 && wi c.2 1 20)
theorem qHS (n : Nat) (c : Chn) (hl : c.1.length ≤ 100) (hn : 200 ≤ n) : qkL n (c, ()) = some (qcS c, ()) := by
  obtain ⟨hs, ni⟩ := c
  rw [quu]
  have hl : hs.length ≤ 100 := hl
  have h1 := qtp (step := qjb n) hs (fun k => ((k : Int), ((hs, ni), ()))) hutB (.inl ((hs, ni), ())) (.inr (false, ())) (fun rec k hk => by
    rw [ql6]
    simp only [q8 hk, cond_true, qcj hs hk, Option.bind_some, qoz, qB (show k < 9223372036854775807 by omega)]
    unfold hutB
    cases wi hs[k].1 0 20 <;> cases wi hs[k].2 0 20 <;> rfl) (fun rec => by
    rw [ql6]
    simp only [qbh, cond_false]) (n := n) (by omega)
  show Option.bind (qf n _ (((0 : Nat) : Int), ((hs, ni), ()))) _ = _
  rw [h1]
  unfold qcS
  cases hs.all hutB with
  | false => rfl
  | true =>
    simp only [Option.bind_some, cond_true, Sum.elim_inl, qoz, Int.ofNat_eq_natCast]
    cases wi hs.length 1 6 <;> rfl
def qjf (nh nn : Int) : Int → List Stay → Bool
  | _, [] => true
  | last, s :: l => (wi s.1 0 (nh - 1) && (decide (last < s.2.1) && (decide (s.2.1 ≤ s.2.2) && decide (s.2.2 < nn)))) && qjf nh nn s.2.2 l
def reqB (c : Chn) (m : Msg) : Bool := decide (m.1 = 1) && (wi m.2.2.1 0 9999 && (wi m.2.2.2.1 1 20 && (wi m.2.2.2.2.length 1 6 && qjf c.1.length c.2 (-1) m.2.2.2.2)))
theorem qBO (nh nn : Int) : ∀ (l : List Stay) (k : Nat) (last : Int), qlc (ξ := Unit ⊕ (Bool × Unit)) (fun _ (last : Int) (s : Stay) => some (cond (wi s.1 0 (nh - 1) && (decide (last < s.2.1) && (decide (s.2.1 ≤ s.2.2) && decide (s.2.2 < nn)))) (.inl s.2.2) (.inr (.inr (false, ()))))) (fun _ => some (.inl ())) l k last = some (cond (qjf nh nn last l) (.inl ()) (.inr (false, ())))
  | [], _, _ => rfl
  | s :: l, k, last => by
    rw [qlc, qjf]
    cases wi s.1 0 (nh - 1) && (decide (last < s.2.1) && (decide (s.2.1 ≤ s.2.2) && decide (s.2.2 < nn))) with
    | false => rfl
    | true => exact qBO nh nn l _ _
theorem qF3 (n : Nat) (c : Chn) (m : Msg) (hh : c.1.length ≤ 100) (hl : m.2.2.2.2.length ≤ 100) (hn : 200 ≤ n) : qdv n (c, (m, ())) = some (reqB c m, ()) := by
  rw [qtl]
  obtain ⟨hs, ni⟩ := c
  obtain ⟨kd, id, st, pe, ss⟩ := m
  simp only at hl hh
  have h1 := qwV (step := qh6 n) ss (fun k last => (last, ((k : Int), ((hs, ni), ((kd, (id, (st, (pe, ss)))), ()))))) (fun _ (last : Int) (s : Stay) => some (cond (wi s.1 0 ((hs.length : Int) - 1) && (decide (last < s.2.1) && (decide (s.2.1 ≤ s.2.2) && decide (s.2.2 < ni)))) (.inl s.2.2) (.inr (.inr (false, ()))))) (fun _ => some (.inl ())) (fun rec k last hk => by
    rw [qk1]
    simp only [q8 hk, cond_true, qcj ss hk, Option.bind_some, qoz, qB (show k < 9223372036854775807 by omega), qju (n := iSub (hs.length : Int) 1) (by unfold iSub; omega) (by unfold iSub; omega)]
    unfold iSub iLe iLt iGe
    cases wi ss[k].1 0 ((hs.length : Int) - 1) with
    | false => rfl
    | true =>
      by_cases h1 : ss[k].2.1 ≤ last
      · have h2 : ¬ last < ss[k].2.1 := by omega
        simp [h1, h2]
      · have h2 : last < ss[k].2.1 := by omega
        by_cases h3 : ss[k].2.2 < ss[k].2.1
        · have h4 : ¬ ss[k].2.1 ≤ ss[k].2.2 := by omega
          simp [h1, h2, h3, h4]
        · have h4 : ss[k].2.1 ≤ ss[k].2.2 := by omega
          by_cases h5 : ss[k].2.2 ≥ ni
          · have h6 : ¬ ss[k].2.2 < ni := by omega
            simp [h1, h2, h3, h4, h5, h6]
          · have h6 : ss[k].2.2 < ni := by omega
            have h5' : ¬ ni ≤ ss[k].2.2 := by omega
            simp [h1, h2, h3, h4, h5', h6]) (fun rec b => by
    rw [qk1]
    simp only [qbh, cond_false]) (n := n) (-1) (by omega)
  rw [qBO] at h1
  unfold reqB
  simp only [qoz, Option.bind_some, Int.ofNat_eq_natCast, show (Int.negSucc 0) = -1 from rfl]
  by_cases hk : kd = 1
  · subst hk
    rw [qfA rfl]
    cases h2 : wi st 0 9999 with
    | false => simp [h2]
    | true =>
      cases h3 : wi pe 1 20 with
      | false => simp [h2, h3]
      | true =>
        cases h4 : wi ss.length 1 6 with
        | false => simp [h2, h3, h4]
        | true =>
          simp only [cond_false, cond_true, Bool.not_true, decide_true, Bool.true_and]
          show Option.bind (qf n _ (-1, (((0 : Nat) : Int), _))) _ = _
          rw [h1]
          cases qjf hs.length ni (-1) ss <;> rfl
  · rw [qiB hk]; simp [hk]
def canB (m : Msg) : Bool := decide (m.1 = 2) && (decide (m.2.2.1 = 0) && (decide (m.2.2.2.1 = 0) && decide (m.2.2.2.2.length = 0)))
def mesB (c : Chn) (m : Msg) : Bool := wi m.2.1 0 99 && (canB m || reqB c m)
theorem qDQ (n : Nat) (c : Chn) (l : List Msg) (hh : c.1.length ≤ 100) (hl : l.length ≤ 100) (hs : ∀ m, m ∈ l → m.2.2.2.2.length ≤ 100) (hn : 200 ≤ n) : qh7 n (c, (l, ())) = some (l.all (mesB c) && decide (l.length ≤ 40), ()) := by
  rw [qrL]
  have h1 := qtp (step := qg4 n) l (fun k => (l, ((k : Int), (c, ())))) (mesB c) (.inl (l, ())) (.inr (false, ())) (fun rec k hk => by
    rw [qjD]
    simp only [q8 hk, cond_true, qcj l hk, Option.bind_some, qoz, qB (show k < 9223372036854775807 by omega), qF3 n c l[k] hh (hs _ (List.getElem_mem hk)) hn]
    unfold mesB canB
    cases wi l[k].2.1 0 99 with
    | false =>
      cases iEq l[k].1 2 <;> cases iEq l[k].2.2.1 0 <;> cases iEq l[k].2.2.2.1 0 <;> rfl
    | true =>
      cases reqB c l[k] with
      | true =>
        simp only [Bool.or_true, Bool.true_and, Bool.not_true, cond_false, cond_true]
        cases iEq l[k].1 2 <;> cases iEq l[k].2.2.1 0 <;> cases iEq l[k].2.2.2.1 0 <;> cases iEq ((l[k].2.2.2.2.length : Nat) : Int) 0 <;> rfl
      | false =>
        simp only [Bool.or_false, Bool.true_and, Bool.not_true, cond_false, Bool.not_false, cond_true]
        by_cases e1 : l[k].1 = 2
        · by_cases e2 : l[k].2.2.1 = 0
          · by_cases e3 : l[k].2.2.2.1 = 0
            · by_cases e4 : l[k].2.2.2.2.length = 0
              · rw [qdG e1, qdG e2, qdG e3, qdG (by omega)]; simp [e1, e2, e3, e4]
              · rw [qdG e1, qdG e2, qdG e3, qfz (by omega)]; simp [e4]
            · rw [qdG e1, qdG e2, qfz e3]; simp [e3]
          · rw [qdG e1, qfz e2]; simp [e2]
        · rw [qfz e1]; simp [e1]) (fun rec => by
    rw [qjD]
    simp only [qbh, cond_false]) (n := n) (by omega)
  show Option.bind (qf n _ (l, (((0 : Nat) : Int), (c, ())))) _ = _
  rw [h1]
  cases l.all (mesB c) with
  | false => rfl
  | true =>
    simp only [Option.bind_some, cond_true, Sum.elim_inl, Bool.true_and]
    unfold iLe
    by_cases h : l.length ≤ 40
    · have : ((l.length : Nat) : Int) ≤ 40 := by omega
      simp [h, this]
    · have : ¬ ((l.length : Nat) : Int) ≤ 40 := by omega
      simp [h, this]
theorem qLA (a b : Stay) : Ty.eqB (Ty.pr (Ty.i .i64) T82) a b = decide (a = b) := by
  obtain ⟨a1, a2, a3⟩ := a
  obtain ⟨b1, b2, b3⟩ := b
  show ((a1 == b1) && ((a2 == b2) && (a3 == b3))) = _
  by_cases h1 : a1 = b1 <;> by_cases h2 : a2 = b2 <;> by_cases h3 : a3 = b3 <;> simp [h1, h2, h3]
theorem qF4 (n : Nat) (a b : Msg) (hl : a.2.2.2.2.length ≤ 100) (hn : 200 ≤ n) : qiv n (a, (b, ())) = some (decide (a = b), ()) := by
  rw [qv8]
  obtain ⟨a1, a2, a3, a4, sa⟩ := a
  obtain ⟨b1, b2, b3, b4, sb⟩ := b
  simp only at hl
  by_cases e1 : a1 = b1
  · by_cases e2 : a2 = b2
    · by_cases e3 : a3 = b3
      · by_cases e4 : a4 = b4
        · subst e1 e2 e3 e4
          simp only [qfA rfl, cond_false]
          by_cases e5 : sa.length = sb.length
          · have h1 := qtp (step := qkM n) (sa.zip sb) (fun k => ((k : Int), ((a1, (a2, (a3, (a4, sa)))), ((a1, (a2, (a3, (a4, sb)))), ())))) (fun p => decide (p.1 = p.2)) (.inl ()) (.inr (false, ())) (fun rec k hk => by
              rw [qnL]
              have hka : k < sa.length := by simp at hk; omega
              have hkb : k < sb.length := by omega
              simp only [q8 hka, cond_true, qcj sa hka, qcj sb hkb, Option.bind_some, qB (show k < 9223372036854775807 by omega), List.getElem_zip]
              rw [show Ty.eqB (Ty.pr (Ty.i .i64) T82) sa[k] sb[k] = decide (sa[k] = sb[k]) from qLA _ _]
              cases decide (sa[k] = sb[k]) <;> rfl) (fun rec => by
              rw [qnL]
              simp only [List.length_zip, e5, Nat.min_self, qbh, cond_false]) (n := n) (by simp; omega)
            rw [qfA (by omega)]
            simp only [cond_false]
            show Option.bind (qf n _ (((0 : Nat) : Int), _)) _ = _
            rw [h1]
            have h2 : (sa.zip sb).all (fun p => decide (p.1 = p.2)) = decide (sa = sb) := by
              clear h1 hl
              induction sa generalizing sb with
              | nil => cases sb with
                | nil => rfl
                | cons b sb => cases e5
              | cons a sa ih => cases sb with
                | nil => cases e5
                | cons b sb =>
                  rw [List.zip_cons_cons, List.all_cons, ih sb (by simpa using e5)]
                  by_cases h : a = b <;> by_cases h' : sa = sb <;> simp [h, h']
            rw [h2]
            by_cases h : sa = sb <;> simp [h]
          · have h : sa ≠ sb := fun h => e5 (by rw [h])
            have e5' : ((sa.length : Nat) : Int) ≠ sb.length := by omega
            rw [qiB e5']; simp [h]
        · rw [qfA e1, qfA e2, qfA e3, qiB e4]; simp [e4]
      · rw [qfA e1, qfA e2, qiB e3]; simp [e3]
    · rw [qfA e1, qiB e2]; simp [e2]
  · rw [qiB e1]; simp [e1]
end Go.Proofs.YtcjgodgpaokbnaaGreat

/- Beds, plain: the reference's checks, what statements look at. -/
namespace Go.Proofs.YtcjgodgpaokbnaaGreat
set_option linter.constructorNameAsVariable false
set_option linter.unusedSimpArgs false
set_option linter.unusedVariables false
set_option linter.unusedSectionVars false
open Go Go.Proofs Go.RowKit
set_option maxHeartbeats 1000000
def claB (x y : Msg) : Bool := decide (x.2.1 = y.2.1) && (decide (x.1 = y.1) && !decide (x = y))
def qjg (l : List Msg) : Bool := (List.range l.length).any fun i => (List.range i).any fun k => match l[i]?, l[k]? with
  | some x, some y => claB x y
  | _, _ => false
theorem qye {m k : Nat} (h : k < (List.range m).length) : (List.range m)[k] = k := by simp
theorem qIQ (n : Nat) (l : List Msg) (i : Nat) (hi : i < l.length) (hl : l.length ≤ 100) (hs : ∀ m, m ∈ l → m.2.2.2.2.length ≤ 100) (hn : 200 ≤ n) :
    qf n (qhh n) (l, ((i : Int), ((0 : Int), ()))) = some (cond ((List.range i).any fun k => match l[i]?, l[k]? with
      | some x, some y => claB x y
      | _, _ => false) (.inr (true, ())) (.inl (l, ((i : Int), ())))) := by
  exact qto (step := qhh n) (List.range i) (fun k => (l, ((i : Int), ((k : Int), ())))) (fun k => match l[i]?, l[k]? with
      | some x, some y => claB x y
      | _, _ => false) (.inr (true, ())) (.inl (l, ((i : Int), ()))) (fun rec k hk => by
    rw [qnM]
    have hk' : k < i := by simpa using hk
    have hkl : k < l.length := by omega
    simp only [q8 hk', cond_true, qcj l hi, qcj l hkl, Option.bind_some, qye, List.getElem?_eq_getElem hi, List.getElem?_eq_getElem hkl, qF4 n _ _ (hs _ (List.getElem_mem hi)) hn, qB (show k < 9223372036854775807 by omega)]
    unfold claB
    by_cases e1 : l[i].2.1 = l[k].2.1
    · rw [qdG e1]
      by_cases e2 : l[i].1 = l[k].1
      · rw [qdG e2]
        by_cases e3 : l[i] = l[k]
        · simp [e3]
        · simp [e1, e2, e3]
      · rw [qfz e2]; simp [e2]
    · rw [qfz e1]; simp [e1]) (fun rec => by
    rw [qnM]
    simp only [List.length_range, qbh, cond_false]) (n := n) (by simp; omega)
theorem qJ2 (n : Nat) (l : List Msg) (hl : l.length ≤ 100) (hs : ∀ m, m ∈ l → m.2.2.2.2.length ≤ 100) (hn : 200 ≤ n) : qmE n (l, ()) = some (qjg l, ()) := by
  rw [qv9]
  have h1 := qto (step := qkN n) (List.range l.length) (fun k => (l, ((k : Int), ()))) (fun i => (List.range i).any fun k => match l[i]?, l[k]? with
      | some x, some y => claB x y
      | _, _ => false) (.inr (true, ())) (.inl ()) (fun rec i hi => by
    rw [qnN]
    have hi' : i < l.length := by simpa using hi
    simp only [q8 hi', cond_true, qye]
    rw [qIQ n l i hi' hl hs hn]
    generalize ((List.range i).any _) = b
    cases b with
    | true => rfl
    | false =>
      simp only [cond_false, Option.bind_some, Sum.elim_inl, qB (show i < 9223372036854775807 by omega)]) (fun rec => by
    rw [qnN]
    simp only [List.length_range, qbh, cond_false]) (n := n) (by simp; omega)
  show Option.bind (qf n _ (l, (((0 : Nat) : Int), ()))) _ = _
  rw [h1]
  show Option.bind (some (cond (qjg l) _ _)) _ = _
  cases qjg l <;> rfl
theorem qrz {l : List Msg} (h : qjg l = false) : ∀ x y, x ∈ l → y ∈ l → x.2.1 = y.2.1 → x.1 = y.1 → x = y := by
  intro x y hx hy h1 h2
  obtain ⟨i, hi, rfl⟩ := List.mem_iff_getElem.1 hx
  obtain ⟨k, hk, rfl⟩ := List.mem_iff_getElem.1 hy
  have key : ∀ a b (ha : a < l.length) (hb : b < a), claB (l[a]) (l[b]'(by omega)) = false := fun a b ha hb => by
    unfold qjg at h
    rw [List.any_eq_false] at h
    have h3 := h a (List.mem_range.2 ha)
    simp only [Bool.not_eq_true] at h3
    rw [List.any_eq_false] at h3
    have h4 := h3 b (List.mem_range.2 hb)
    rw [List.getElem?_eq_getElem ha, List.getElem?_eq_getElem (by omega)] at h4
    simpa using h4
  rcases Nat.lt_trichotomy i k with h3 | h3 | h3
  · have := key k i hk h3
    unfold claB at this
    simp only [Bool.and_eq_false_iff, decide_eq_false_iff_not, Bool.not_eq_false', decide_eq_true_eq] at this
    rcases this with h4 | h4 | h4
    · exact (h4 h1.symm).elim
    · exact (h4 h2.symm).elim
    · exact h4.symm
  · subst h3; rfl
  · have := key i k hi h3
    unfold claB at this
    simp only [Bool.and_eq_false_iff, decide_eq_false_iff_not, Bool.not_eq_false', decide_eq_true_eq] at this
    rcases this with h4 | h4 | h4
    · exact (h4 h1).elim
    · exact (h4 h2).elim
    · exact h4
def chkN (c : Chn) (l : List Msg) : Int := cond (qcS c) (cond (l.all (mesB c) && decide (l.length ≤ 40)) (cond (qjg l) 22 0) 21) 20
theorem qF5 (n : Nat) (c : Chn) (l : List Msg) (hh : c.1.length ≤ 100) (hl : l.length ≤ 100) (hs : ∀ m, m ∈ l → m.2.2.2.2.length ≤ 100) (hn : 200 ≤ n) : qdT n (c, (l, ())) = some (chkN c l, ()) := by
  rw [qwa]
  simp only [qHS n c hh hn, qDQ n c l hh hl hs hn, qJ2 n l hl hs hn, Option.bind_some]
  unfold chkN
  cases qcS c <;> cases (l.all (mesB c) && decide (l.length ≤ 40)) <;> cases qjg l <;> rfl
theorem qHg {c : Chn} {l : List Msg} (h : chkN c l = 0) : qcS c = true ∧ (∀ m, m ∈ l → mesB c m = true) ∧ l.length ≤ 40 ∧ qjg l = false := by
  unfold chkN at h
  cases h1 : qcS c <;> cases h2 : (l.all (mesB c) && decide (l.length ≤ 40)) <;> cases h3 : qjg l <;> rw [h1, h2, h3] at h <;> first | (cases h; done) | skip
  rw [Bool.and_eq_true, List.all_eq_true, decide_eq_true_eq] at h2
  exact ⟨rfl, h2.1, h2.2, rfl⟩
def farB (c : Chn) (l : List Msg) : Bool := l.any (fun m => decide (20 < m.2.2.2.2.length)) || (decide (20 < c.1.length) || ((decide (9 < l.length) && decide (l.length ≤ 40)) || decide (60 < l.length)))
theorem qLB (n : Nat) (c : Chn) (l : List Msg) (hl : l.length ≤ 9223372036854775807) (hn : l.length < n) : qos n (c, (l, ())) = some (farB c l, ()) := by
  rw [qyb]
  have h1 := qto (step := qmI n) l (fun k => (l, ((k : Int), (c, ())))) (fun m => decide (20 < m.2.2.2.2.length)) (.inr (true, ())) (.inl (l, (c, ()))) (fun rec k hk => by
    rw [qo5]
    simp only [q8 hk, cond_true, qcj l hk, Option.bind_some, qB (show k < 9223372036854775807 by omega)]
    rw [show iGt ((l[k].2.2.2.2.length : Nat) : Int) 20 = decide (20 < l[k].2.2.2.2.length) by unfold iGt; congr 1; simp; omega]) (fun rec => by
    rw [qo5]
    simp only [qbh, cond_false]) (n := n) hn
  show Option.bind (qf n _ (l, (((0 : Nat) : Int), (c, ())))) _ = _
  rw [h1]
  unfold farB
  cases l.any (fun m => decide (20 < m.2.2.2.2.length)) with
  | true => rfl
  | false =>
    simp only [Option.bind_some, cond_false, Sum.elim_inl, Bool.false_or]
    rw [show iGt ((c.1.length : Nat) : Int) 20 = decide (20 < c.1.length) by unfold iGt; congr 1; simp; omega, show iGt ((l.length : Nat) : Int) 9 = decide (9 < l.length) by unfold iGt; congr 1; simp; omega, show iLe ((l.length : Nat) : Int) 40 = decide (l.length ≤ 40) by unfold iLe; congr 1; simp; omega, show iGt ((l.length : Nat) : Int) 60 = decide (60 < l.length) by unfold iGt; congr 1; simp; omega]
    cases decide (20 < c.1.length) <;> cases decide (9 < l.length) <;> cases decide (l.length ≤ 40) <;> rfl
theorem qDi {c : Chn} {l : List Msg} (h : farB c l = false) : (∀ m, m ∈ l → m.2.2.2.2.length ≤ 20) ∧ c.1.length ≤ 20 := by
  unfold farB at h
  simp only [Bool.or_eq_false_iff, List.any_eq_false, decide_eq_true_eq, decide_eq_false_iff_not] at h
  exact ⟨fun m hm => by have := h.1 m hm; omega, by omega⟩
def qAS (c : Chn) (l : List Msg) : Bool := !farB c l && (decide (l.length ≤ 9) && decide (chkN c l = 0))
structure Vld (c : Chn) (l : List Msg) : Prop where
  ch : qcS c = true
  ms : ∀ m, m ∈ l → mesB c m = true
  ln : l.length ≤ 40
  cl : qjg l = false
  st : ∀ m, m ∈ l → m.2.2.2.2.length ≤ 20
  hu : c.1.length ≤ 20
theorem qGF {c : Chn} {l : List Msg} (h : qAS c l = true) : Vld c l ∧ l.length ≤ 9 := by
  unfold qAS at h
  simp only [Bool.and_eq_true, Bool.not_eq_true', decide_eq_true_eq] at h
  obtain ⟨h1, h2, h3⟩ := h
  obtain ⟨a1, a2⟩ := qDi h1
  obtain ⟨b1, b2, b3, b4⟩ := qHg h3
  exact ⟨⟨b1, b2, b3, b4, a1, a2⟩, h2⟩
theorem qES (n : Nat) (c : Chn) (l : List Msg) (hut night : Int) (hv : qAS c l = true) (hn : 200 ≤ n) : qf8 n (c, (l, (hut, (night, ())))) = some (cond (wi hut 0 (c.1.length - 1) && wi night 0 (c.2 - 1)) 0 1, ()) := by
  obtain ⟨V, h9⟩ := qGF hv
  have h0 : chkN c l = 0 := by unfold qAS at hv; simp at hv; exact hv.2.2
  have hch := V.ch
  unfold qcS at hch
  simp only [Bool.and_eq_true, qe0] at hch
  rw [qlQ, qF5 n c l (by have := V.hu; omega) (by omega) (fun m hm => by have := V.st m hm; omega) hn]
  simp only [h0, Option.bind_some, qfA rfl, cond_false, qoz, qju (n := iSub (c.1.length : Int) 1) (by unfold iSub; omega) (by unfold iSub; omega), qju (n := iSub c.2 1) (by unfold iSub; omega) (by unfold iSub; omega)]
  unfold iSub
  cases wi hut 0 ((c.1.length : Int) - 1) <;> cases wi night 0 (c.2 - 1) <;> rfl
end Go.Proofs.YtcjgodgpaokbnaaGreat

/- Beds, plain: the program's checks of chains and messages. -/
namespace Go.Proofs.YtcjgodgpaokbnaaGreat
set_option linter.constructorNameAsVariable false
set_option linter.unusedSimpArgs false
set_option linter.unusedVariables false
set_option linter.unusedSectionVars false
open Go Go.Proofs Go.RowKit
set_option maxHeartbeats 1000000
theorem qIR (n : Nat) (c : Chn) (x : Int) (hh : c.1.length ≤ 9223372036854775807) : qmF n ((c, ()), (x, ())) = some (wi x 0 (c.1.length - 1), ()) := by
  rw [qzU]
  simp only [qoM, qju (n := iSub (c.1.length : Int) 1) (by unfold iSub; omega) (by unfold iSub; omega), qHf]
theorem qF6 (n : Nat) (c : Chn) (x : Int) (h1 : -1000 ≤ c.2) (h2 : c.2 ≤ 1000) : qkb n ((c, ()), (x, ())) = some (wi x 0 (c.2 - 1), ()) := by
  rw [qx9]
  simp only [qoM, qju (n := iSub c.2 1) (by unfold iSub; omega) (by unfold iSub; omega), qHf]
theorem qJ3 (n : Nat) (c : Chn) (ss : List Stay) (hh : c.1.length ≤ 100) (h1 : -1000 ≤ c.2) (h2 : c.2 ≤ 1000) (hl : ss.length ≤ 1000) : ∀ (m k : Nat) (last : Int) (n' : Nat), k + m = ss.length → m < n' → -1 ≤ last → last ≤ 1000 →
    qf n' (qmG n) (last, (ss, ((ss.length : Int), ((k : Int), ((c, ()), ()))))) = some (cond (qjf c.1.length c.2 last (ss.drop k)) (.inl ()) (.inr (false, ()))) := by
  intro m
  induction m with
  | zero =>
    intro k last n' hk hn hb hb2
    obtain ⟨n', rfl⟩ : ∃ m, n' = m + 1 := ⟨n' - 1, by omega⟩
    have : k = ss.length := by omega
    subst this
    rw [qn, qo4, List.drop_length]
    simp only [qbh, cond_false]
    rfl
  | succ m ih =>
    intro k last n' hk hn hb hb2
    obtain ⟨n', rfl⟩ : ∃ m, n' = m + 1 := ⟨n' - 1, by omega⟩
    have hlt : k < ss.length := by omega
    rw [qn, qo4, List.drop_eq_getElem_cons hlt, qjf]
    simp only [q8 hlt, cond_true, qcj ss hlt, Option.bind_some, qIR n c _ (by omega), qoM, qF6 n c _ h1 h2, qB (show k < 9223372036854775807 by omega), qju (n := iAdd last 1) (by unfold iAdd; omega) (by unfold iAdd; omega)]
    cases hw : wi ss[k].1 0 ((c.1.length : Int) - 1) with
    | false => simp
    | true =>
      simp only [Bool.not_true, cond_false, Bool.true_and]
      by_cases h3 : wi ss[k].2.1 (iAdd last 1) ss[k].2.2 = true
      · have h3' := qe0.1 h3
        unfold iAdd at h3'
        rw [h3]
        simp only [Bool.not_true, cond_false]
        by_cases h4 : wi ss[k].2.2 0 (c.2 - 1) = true
        · have h4' := qe0.1 h4
          rw [h4]
          simp only [Bool.not_true, cond_false]
          rw [show (decide (last < ss[k].2.1)) = true from decide_eq_true (by omega), show (decide (ss[k].2.1 ≤ ss[k].2.2)) = true from decide_eq_true (by omega), show (decide (ss[k].2.2 < c.2)) = true from decide_eq_true (by omega)]
          simp only [Bool.true_and]
          exact ih (k + 1) ss[k].2.2 n' (by omega) (by omega) (by omega) (by omega)
        · have h4' : ¬ ss[k].2.2 < c.2 := fun h => h4 (qe0.2 ⟨by omega, by omega⟩)
          rw [show wi ss[k].2.2 0 (c.2 - 1) = false by simpa using h4]
          simp [h4']
      · have h3' : ¬ (last < ss[k].2.1 ∧ ss[k].2.1 ≤ ss[k].2.2) := fun h => h3 (qe0.2 ⟨by unfold iAdd; omega, h.2⟩)
        rw [show wi ss[k].2.1 (iAdd last 1) ss[k].2.2 = false by simpa using h3]
        simp only [Bool.not_false, cond_true]
        by_cases h5 : last < ss[k].2.1
        · have h6 : ¬ ss[k].2.1 ≤ ss[k].2.2 := fun h => h3' ⟨h5, h⟩
          simp [h6]
        · simp [h5]
theorem qJ4 (n : Nat) (c : Chn) (ss : List Stay) (hh : c.1.length ≤ 100) (h1 : -1000 ≤ c.2) (h2 : c.2 ≤ 1000) (hl : ss.length ≤ 1000) (hn : 2000 ≤ n) : qoq n ((c, ()), (ss, ())) = some (qjf c.1.length c.2 (-1) ss, ()) := by
  rw [qya]
  have h3 := qJ3 n c ss hh h1 h2 hl ss.length 0 (-1) n (by omega) (by omega) (by omega) (by omega)
  show Option.bind (qf n _ (-1, (ss, ((ss.length : Int), (((0 : Nat) : Int), ((c, ()), ())))))) _ = _
  rw [h3, List.drop_zero]
  cases qjf c.1.length c.2 (-1) ss <;> rfl
theorem qHT (n : Nat) (c : Chn) (m : Msg) (hh : c.1.length ≤ 100) (h1 : -1000 ≤ c.2) (h2 : c.2 ≤ 1000) (hl : m.2.2.2.2.length ≤ 1000) (hn : 2000 ≤ n) : qmH n ((c, ()), (m, ())) = some (mesB c m, ()) := by
  rw [qwc]
  simp only [qoM, Option.bind_some, qJ4 n c _ hh h1 h2 hl hn, Int.ofNat_eq_natCast]
  unfold mesB canB reqB
  cases wi m.2.1 0 99 with
  | false => rfl
  | true =>
    simp only [Bool.not_true, cond_false, Bool.true_and]
    by_cases e1 : m.1 = 2
    · rw [qdG e1]
      have e1' : ¬ m.1 = 1 := by omega
      by_cases e2 : m.2.2.1 = 0
      · rw [qdG e2]
        by_cases e3 : m.2.2.2.1 = 0
        · rw [qdG e3]
          by_cases e4 : m.2.2.2.2.length = 0
          · rw [qdG (by omega)]; simp [e1, e2, e3, e4]
          · rw [qfz (by omega)]; simp [e1', e4]
        · rw [qfz e3]; simp [e1', e3]
      · rw [qfz e2]; simp [e1', e2]
    · rw [qfz e1]
      by_cases e2 : m.1 = 1
      · rw [qdG e2]
        simp only [cond_false, cond_true, e1, decide_false, Bool.false_and, Bool.false_or, e2, decide_true, Bool.true_and]
        cases wi m.2.2.1 0 9999 <;> cases wi m.2.2.2.1 1 20 <;> cases wi (m.2.2.2.2.length : Int) 1 6 <;> rfl
      · rw [qfz e2]; simp [e1, e2]
theorem qLC (n : Nat) (h : Int × Int) : qpn n (h, ()) = some (!hutB h, ()) := by
  rw [qzj]
  simp only [qoM, Option.bind_some]
  unfold hutB
  cases wi h.1 0 20 <;> cases wi h.2 0 20 <;> rfl
theorem qET (n : Nat) (hs : List (Int × Int)) (hl : hs.length ≤ 1000) (hn : 2000 ≤ n) : qc1 n (hs, (((), ()), ())) = some (hs.any fun h => !hutB h, ()) := by
  rw [qjz, qkP]
  have h1 := qoL (step := qdc n) hs (fun k => (hs, (((), ()), ((hs.length : Int), ((k : Int), ()))))) (fun h => !hutB h) (fun k => .inr ((k : Int), ())) (.inl ()) (fun rec k hk => by
    rw [qe6]
    simp only [q8 hk, cond_true, qcj hs hk, Option.bind_some, qLC, qB (show k < 9223372036854775807 by omega)]) (fun rec => by
    rw [qe6]
    simp only [qbh, cond_false]) (n := n) (by omega)
  show Option.bind (Option.bind (qf n _ (hs, (((), ()), ((hs.length : Int), (((0 : Nat) : Int), ()))))) _) _ = _
  rcases h1 with ⟨h1, h2⟩ | ⟨k, hk, h1, _, h2⟩
  · rw [h2, h1]; rfl
  · rw [h2, show (hs.any fun h => !hutB h) = true from List.any_eq_true.2 ⟨_, List.getElem_mem hk, h1⟩]
    show some (iGe (k : Int) 0, ()) = _
    simp [iGe]
theorem qKK (n : Nat) (c : Chn) (hl : c.1.length ≤ 1000) (hn : 2000 ≤ n) : qrx n ((c, ()), ()) = some (qcS c, ()) := by
  rw [qAR]
  simp only [qoM, Option.bind_some, qET n c.1 hl hn, Int.ofNat_eq_natCast]
  unfold qcS
  rw [show c.1.all hutB = !(c.1.any fun h => !hutB h) by simp [List.all_eq_not_any_not]]
  cases wi (c.1.length : Int) 1 6 <;> cases wi c.2 1 20 <;> cases (c.1.any fun h => !hutB h) <;> rfl
theorem qyf (n : Nat) (c : Chn) (l : List Msg) (hh : c.1.length ≤ 100) (h1 : -1000 ≤ c.2) (h2 : c.2 ≤ 1000) (hl : l.length ≤ 1000) (hs : ∀ m, m ∈ l → m.2.2.2.2.length ≤ 1000) (hn : 2000 ≤ n) :
    ∃ u, qbO n (l, ((c, ()), ())) = some (l.any fun m => !mesB c m, u) := by
  rw [qgG, qhj]
  have h3 := qoL (step := qbU n) l (fun k => (l, ((l.length : Int), ((k : Int), ((c, ()), ()))))) (fun m => !mesB c m) (fun k => .inr ((k : Int), ((c, ()), ()))) (.inl ((c, ()), ())) (fun rec k hk => by
    rw [qdf]
    simp only [q8 hk, cond_true, qcj l hk, Option.bind_some, qtm, qHT n c l[k] hh h1 h2 (hs _ (List.getElem_mem hk)) hn, qB (show k < 9223372036854775807 by omega)]) (fun rec => by
    rw [qdf]
    simp only [qbh, cond_false]) (n := n) (by omega)
  show ∃ u, Option.bind (Option.bind (qf n _ (l, ((l.length : Int), (((0 : Nat) : Int), ((c, ()), ()))))) _) _ = _
  rcases h3 with ⟨h4, h5⟩ | ⟨k, hk, h4, _, h5⟩
  · rw [h5, h4]; exact ⟨_, rfl⟩
  · rw [h5, show (l.any fun m => !mesB c m) = true from List.any_eq_true.2 ⟨_, List.getElem_mem hk, h4⟩]
    refine ⟨((c, ()), ()), ?_⟩
    show some (iGe (k : Int) 0, ((c, ()), ())) = _
    simp [iGe]
end Go.Proofs.YtcjgodgpaokbnaaGreat

/- Beds, plain: comparing and sorting (printed by gen_dp4.py). -/
namespace Go.Proofs.YtcjgodgpaokbnaaGreat
set_option linter.constructorNameAsVariable false
set_option linter.unusedSimpArgs false
set_option linter.unusedVariables false
set_option linter.unusedSectionVars false
open Go Go.Proofs Go.RowKit
set_option maxHeartbeats 1000000
def cmpI (x y : Int) : Int := if x < y then -1 else if x > y then 1 else 0
theorem qEC {x y : Int} : cmpI x y = 0 ↔ x = y := by
  unfold cmpI
  split
  · constructor
    · intro h; omega
    · intro h; omega
  · split
    · constructor
      · intro h; omega
      · intro h; omega
    · constructor
      · intro _; omega
      · intro _; rfl
theorem qF7 (n : Nat) (x : Int) : qhP n (x, ()) = some (false, ()) := by rw [qAP]; simp only [qfA rfl]
theorem qDR (n : Nat) (x y : Int) : qca n (x, (y, ())) = some (cmpI x y, ()) := by
  rw [qzh]
  simp only [qF7, Option.bind_some, cond_false]
  unfold cmpI
  show cond (decide (x < y)) _ (cond (decide (x > y)) _ _) = _
  by_cases h : x < y
  · simp [h]
  · by_cases h2 : x > y
    · simp [h, h2]
    · simp [h, h2]
theorem qK7 (n : Nat) (x y : Int) : qsy n (x, (y, ())) = some (decide (x < y), ()) := by
  rw [qBt]
  simp only [qF7, Option.bind_some, cond_false]
def orI : List Int → Int
  | [] => 0
  | x :: l => if x = 0 then orI l else x
theorem qCn : ∀ {l : List Int}, orI l = 0 ↔ ∀ x, x ∈ l → x = 0
  | [] => by simp [orI]
  | x :: l => by
    unfold orI
    split
    · rename_i h
      rw [qCn]
      simp [h]
    · rename_i h
      simp [h]
theorem qF8 : ∀ (l : List Int) (k : Nat), qlc (ξ := (Int × Unit) ⊕ (Int × Unit)) (fun _ (_ : Unit) (x : Int) => some (cond (iNe x 0) (.inr (.inr (x, ()))) (.inl ()))) (fun _ => some (.inl (0, ()))) l k () = if orI l = 0 then some (.inl (0, ())) else some (.inr (orI l, ()))
  | [], _ => rfl
  | x :: l, k => by
    rw [qlc, orI]
    by_cases h : x = 0
    · rw [qfA h, if_pos h]
      exact qF8 l _
    · rw [qiB h, if_neg h, if_neg h]
      rfl
theorem qHU (n : Nat) (l : List Int) (hl : l.length ≤ 1000) (hn : 2000 ≤ n) : qor n (l, ()) = some (orI l, ()) := by
  rw [qDg]
  have h1 := qwV (step := qsz n) l (fun k (_ : Unit) => ((0 : Int), (l, ((l.length : Int), ((k : Int), ()))))) (fun _ _ x => some (cond (iNe x 0) (.inr (.inr (x, ()))) (.inl ()))) (fun _ => some (.inl (0, ()))) (fun rec k _ hk => by
    rw [qt8]
    simp only [q8 hk, cond_true, qcj l hk, Option.bind_some, qB (show k < 9223372036854775807 by omega)]
    cases iNe l[k] 0 <;> rfl) (fun rec _ => by
    rw [qt8]
    simp only [qbh, cond_false]) (n := n) () (by omega)
  show Option.bind (qf n _ ((0 : Int), (l, ((l.length : Int), (((0 : Nat) : Int), ()))))) _ = _
  rw [h1, qF8]
  by_cases h : orI l = 0
  · simp [h]
  · simp [h]
def cmpS (x y : Stay) : Int := orI [cmpI x.1 y.1, cmpI x.2.1 y.2.1, cmpI x.2.2 y.2.2]
theorem qK8 (n : Nat) (x y : Stay) (hn : 2000 ≤ n) : qp7 n (x, (y, ())) = some (cmpS x y, ()) := by
  rw [qzV]
  simp only [qDR, Option.bind_some, qHU n [cmpI x.1 y.1, cmpI x.2.1 y.2.1, cmpI x.2.2 y.2.2] (by simp) hn]
  rfl
theorem qED {x y : Stay} : cmpS x y = 0 ↔ x = y := by
  unfold cmpS
  rw [qCn]
  simp only [List.mem_cons, List.not_mem_nil, or_false, forall_eq_or_imp, forall_eq, qEC]
  obtain ⟨a, b, c⟩ := x
  obtain ⟨d, e, f⟩ := y
  simp
def cmpL : List Stay → List Stay → Int
  | [], [] => 0
  | [], _ :: _ => -1
  | _ :: _, [] => 1
  | x :: a, y :: b => if cmpS x y = 0 then cmpL a b else cmpS x y
theorem qEE : ∀ {a b : List Stay}, cmpL a b = 0 ↔ a = b
  | [], [] => by simp [cmpL]
  | [], _ :: _ => by simp [cmpL]
  | _ :: _, [] => by simp [cmpL]
  | x :: a, y :: b => by
    unfold cmpL
    split
    · rename_i h
      rw [qEE, qED.1 h]
      simp
    · rename_i h
      have : x ≠ y := fun e => h (qED.2 e)
      simp [h, this]
theorem qK9 (n : Nat) (a b : List Stay) (ha : a.length ≤ 1000) (hn : 2000 ≤ n) : ∀ (m k : Nat) (n' : Nat), k + m = a.length → k ≤ b.length → m < n' →
    (Option.bind (qf n' (qcR n) (a, (b, (((), ()), (a, ((a.length : Int), ((k : Int), ()))))))) fun y => (Sum.elim (fun a => (cond (iLt (((List.length a.1) : Nat) : Int) (((List.length a.2.1) : Nat) : Int)) (some ((Int.negSucc (0 : Nat)), ())) (some ((0 : Int), ())))) (fun b => (some b)) y)) = some (cmpL (a.drop k) (b.drop k), ()) := by
  intro m
  induction m with
  | zero =>
    intro k n' hk hb hn'
    obtain ⟨n', rfl⟩ : ∃ m, n' = m + 1 := ⟨n' - 1, by omega⟩
    have : k = a.length := by omega
    subst this
    rw [qn, qeN, List.drop_length]
    simp only [qbh, cond_false, Option.bind_some, Sum.elim_inl]
    rcases Nat.lt_or_ge a.length b.length with h | h
    · rw [q8 h, List.drop_eq_getElem_cons h]
      rfl
    · rw [show iLt (a.length : Int) (b.length : Int) = false by simp [iLt]; omega, List.drop_eq_nil_of_le h]
      rfl
  | succ m ih =>
    intro k n' hk hb hn'
    obtain ⟨n', rfl⟩ : ∃ m, n' = m + 1 := ⟨n' - 1, by omega⟩
    have hlt : k < a.length := by omega
    rw [qn, qeN, List.drop_eq_getElem_cons hlt]
    simp only [q8 hlt, cond_true, qcj a hlt, Option.bind_some]
    rcases Nat.lt_or_ge k b.length with h | h
    · rw [show iGe (k : Int) (b.length : Int) = false by simp [iGe]; omega, List.drop_eq_getElem_cons h, cmpL]
      simp only [cond_false, qcj b h, Option.bind_some, qK8 n _ _ hn, qB (show k < 9223372036854775807 by omega)]
      by_cases h0 : cmpS a[k] b[k] = 0
      · rw [qfA h0, if_pos h0]
        exact ih (k + 1) n' (by omega) (by omega) (by omega)
      · rw [qiB h0, if_neg h0]
        rfl
    · rw [show iGe (k : Int) (b.length : Int) = true by simp [iGe]; omega, List.drop_eq_nil_of_le h]
      rfl
theorem qLa (n : Nat) (a b : List Stay) (ha : a.length ≤ 1000) (hn : 2000 ≤ n) : qdb n (a, (b, (((), ()), ()))) = some (cmpL a b, ()) := by
  rw [qjR]
  have := qK9 n a b ha hn a.length 0 n (by omega) (by omega) (by omega)
  rw [List.drop_zero, List.drop_zero] at this
  exact this
def cmpM (x y : Msg) : Int := orI [cmpI x.2.1 y.2.1, cmpI x.1 y.1, cmpI x.2.2.1 y.2.2.1, cmpI x.2.2.2.1 y.2.2.2.1, cmpL x.2.2.2.2 y.2.2.2.2]
theorem qHh (n : Nat) (x y : Msg) (hx : x.2.2.2.2.length ≤ 1000) (hn : 2000 ≤ n) : qoK n (x, (y, ())) = some (cmpM x y, ()) := by
  rw [qBw]
  simp only [qDR, Option.bind_some, qLa n _ _ hx hn, qHU n [cmpI x.2.1 y.2.1, cmpI x.1 y.1, cmpI x.2.2.1 y.2.2.1, cmpI x.2.2.2.1 y.2.2.2.1, cmpL x.2.2.2.2 y.2.2.2.2] (by simp) hn]
  rfl
theorem qEF {x y : Msg} : cmpM x y = 0 ↔ x = y := by
  unfold cmpM
  rw [qCn]
  simp only [List.mem_cons, List.not_mem_nil, or_false, forall_eq_or_imp, forall_eq, qEC, qEE]
  obtain ⟨a, b, c, d, e⟩ := x
  obtain ⟨a', b', c', d', e'⟩ := y
  simp only [Prod.mk.injEq]
  constructor
  · rintro ⟨h1, h2, h3⟩; exact ⟨h2, h1, h3⟩
  · rintro ⟨h1, h2, h3⟩; exact ⟨h2, h1, h3⟩
def cmpQ (x y : Msg) : Int := orI [cmpI x.2.2.1 y.2.2.1, cmpI x.2.1 y.2.1]
theorem qLb (n : Nat) (x y : Msg) (hn : 2000 ≤ n) : qsA n (x, (y, ())) = some (cmpQ x y, ()) := by
  rw [qBv]
  simp only [qDR, Option.bind_some, qHU n [cmpI x.2.2.1 y.2.2.1, cmpI x.2.1 y.2.1] (by simp) hn]
  rfl
theorem app0 {α : Type} (A : List α) (y x : α) (m : List α) : (A ++ y :: x :: m)[A.length]? = some y := by simp
theorem app1 {α : Type} (A : List α) (y x : α) (m : List α) : (A ++ y :: x :: m)[A.length + 1]? = some x := by simp
theorem set1 {α : Type} (A : List α) (y x z : α) (m : List α) : (A ++ y :: x :: m).set (A.length + 1) z = A ++ y :: z :: m := by simp
theorem set0 {α : Type} (A : List α) (y x z : α) (m : List α) : (A ++ y :: x :: m).set A.length z = A ++ z :: x :: m := by simp
theorem qsD {k : Nat} (h : k < 9223372036854775807) : iW (iSub ((k + 1 : Nat) : Int) 1) = (k : Int) := by
  rw [qju (by unfold iSub; omega) (by unfold iSub; omega)]; unfold iSub; omega
theorem qCo (n : Nat) : ∀ k : Nat, k ≤ 12 → ∃ r, qZ n ((IntKind.wrap .u64 (k : Int)), ()) = some r := by
  intro k hk
  match k, hk with
  | 0, _ => exact ⟨_, (by kernel_rfl : qZ n ((IntKind.wrap .u64 ((0 : Nat) : Int)), ()) = some (0, ()))⟩
  | 1, _ => exact ⟨_, (by kernel_rfl : qZ n ((IntKind.wrap .u64 ((1 : Nat) : Int)), ()) = some (1, ()))⟩
  | 2, _ => exact ⟨_, (by kernel_rfl : qZ n ((IntKind.wrap .u64 ((2 : Nat) : Int)), ()) = some (2, ()))⟩
  | 3, _ => exact ⟨_, (by kernel_rfl : qZ n ((IntKind.wrap .u64 ((3 : Nat) : Int)), ()) = some (2, ()))⟩
  | 4, _ => exact ⟨_, (by kernel_rfl : qZ n ((IntKind.wrap .u64 ((4 : Nat) : Int)), ()) = some (3, ()))⟩
  | 5, _ => exact ⟨_, (by kernel_rfl : qZ n ((IntKind.wrap .u64 ((5 : Nat) : Int)), ()) = some (3, ()))⟩
  | 6, _ => exact ⟨_, (by kernel_rfl : qZ n ((IntKind.wrap .u64 ((6 : Nat) : Int)), ()) = some (3, ()))⟩
  | 7, _ => exact ⟨_, (by kernel_rfl : qZ n ((IntKind.wrap .u64 ((7 : Nat) : Int)), ()) = some (3, ()))⟩
  | 8, _ => exact ⟨_, (by kernel_rfl : qZ n ((IntKind.wrap .u64 ((8 : Nat) : Int)), ()) = some (4, ()))⟩
  | 9, _ => exact ⟨_, (by kernel_rfl : qZ n ((IntKind.wrap .u64 ((9 : Nat) : Int)), ()) = some (4, ()))⟩
  | 10, _ => exact ⟨_, (by kernel_rfl : qZ n ((IntKind.wrap .u64 ((10 : Nat) : Int)), ()) = some (4, ()))⟩
  | 11, _ => exact ⟨_, (by kernel_rfl : qZ n ((IntKind.wrap .u64 ((11 : Nat) : Int)), ()) = some (4, ()))⟩
  | 12, _ => exact ⟨_, (by kernel_rfl : qZ n ((IntKind.wrap .u64 ((12 : Nat) : Int)), ()) = some (4, ()))⟩
end Go.Proofs.YtcjgodgpaokbnaaGreat

/- Beds, plain: the sorts (printed by gen_dp5.py). -/
namespace Go.Proofs.YtcjgodgpaokbnaaGreat
set_option linter.constructorNameAsVariable false
set_option linter.unusedSimpArgs false
set_option linter.unusedVariables false
set_option linter.unusedSectionVars false
open Go Go.Proofs Go.RowKit
set_option maxHeartbeats 1000000
theorem qvR {k : Nat} : iGt ((k + 1 : Nat) : Int) 0 = true := by unfold iGt; exact decide_eq_true (by omega)
theorem qiC {k : Nat} : Int.toNat (k : Int) = k := by simp
theorem w12 {k : Nat} (h : k ≤ 12) : iLe (iW (iSub (k : Int) 0)) 12 = true := by
  rw [qju (by unfold iSub; omega) (by unfold iSub; omega)]; unfold iLe iSub; exact decide_eq_true (by omega)

theorem qMd (n N i : Nat) (x : Msg) (hx : x.2.2.2.2.length ≤ 1000) (hN : N ≤ 1000) (hn : 2000 ≤ n) (r m : List Msg) (hr : r.length ≤ N) : qf n (qR n) ((0 : Int), ((N : Int), (((), ()), ((i : Int), ((r.length : Int), ((r.reverse ++ x :: m), ())))))) = some ((0 : Int), ((N : Int), (((), ()), ((i : Int), (((insL (fun x y => decide (cmpM x y < 0)) x r).reverse ++ m), ()))))) := by
  exact qBe (step := qR n) (fun x y => decide (cmpM x y < 0)) (fun j d => ((0 : Int), ((N : Int), (((), ()), ((i : Int), ((j : Int), (d, ()))))))) (fun d => some ((0 : Int), ((N : Int), (((), ()), ((i : Int), (d, ())))))) x N (fun rec A y m hA => by
    rw [qcU]
    have hj : A.length < 9223372036854775807 := by omega
    simp only [qvR, cond_true, qhR, app0, app1, Option.bind_some, qsD hj, qiC, qHh n _ _ hx hn, set1, set0]) (fun rec d => by
    rw [qcU]
    rfl) r m n hr (by omega)
theorem qLD (n : Nat) (l : List Msg) (hs : ∀ x, x ∈ l → x.2.2.2.2.length ≤ 1000) (hl : l.length ≤ 1000) (hn : 2000 ≤ n) : qbT n ((0 : Int), ((l.length : Int), (((), ()), (l, ())))) = some (qkg (fun x y => decide (cmpM x y < 0)) l, ()) := by
  rw [qgT]
  cases l with
  | nil =>
    obtain ⟨n', rfl⟩ : ∃ m, n = m + 1 := ⟨n - 1, by omega⟩
    rw [qn, qbt]
    rfl
  | cons a l =>
    obtain ⟨N, hN⟩ : ∃ N, N = (a :: l).length := ⟨_, rfl⟩
    have hl' : l.length + 1 = N := by rw [hN]; rfl
    have h1 : ∀ rec (r : List Msg) x m, (x ∈ a :: l) → r.length + 1 + m.length = N → qt n rec ((0 : Int), ((N : Int), (((), ()), ((r.length : Int), ((r.reverse ++ x :: m), ()))))) = rec ((0 : Int), ((N : Int), (((), ()), (((r.length + 1 : Nat) : Int), (((insL (fun x y => decide (cmpM x y < 0)) x r).reverse ++ m), ()))))) := fun rec r x m hx hm => by
      rw [qbt]
      simp only [q8 (show r.length < N by omega), cond_true, qMd n N r.length x (hs x hx) (by omega) hn r m (by omega), Option.bind_some, qB (show r.length < 9223372036854775807 by omega)]
    have h0 : ∀ rec (d : List Msg), qt n rec ((0 : Int), ((N : Int), (((), ()), ((N : Int), (d, ()))))) = some (d, ()) := fun rec d => by
      rw [qbt]
      simp only [qbh, cond_false]
    have go : ∀ (l2 r : List Msg) (n' : Nat), (∀ x, x ∈ l2 → x ∈ a :: l) → r.length + l2.length = N → l2.length < n' → qf n' (qt n) ((0 : Int), ((N : Int), (((), ()), ((r.length : Int), ((r.reverse ++ l2), ()))))) = some ((qij (fun x y => decide (cmpM x y < 0)) r l2).reverse, ()) := by
      intro l2
      induction l2 with
      | nil =>
        intro r n' _ hr hn'
        obtain ⟨n', rfl⟩ : ∃ m, n' = m + 1 := ⟨n' - 1, by omega⟩
        have hr' : r.length = N := by simpa using hr
        rw [qn, List.append_nil, hr', h0]
        rfl
      | cons x l2 ih =>
        intro r n' hm hr hn'
        obtain ⟨n', rfl⟩ : ∃ m, n' = m + 1 := ⟨n' - 1, by omega⟩
        simp only [List.length_cons] at hr hn'
        rw [qn, h1 _ r x l2 (hm x (by simp)) (by omega), qij]
        have := ih (insL (fun x y => decide (cmpM x y < 0)) x r) n' (fun z hz => hm z (by simp [hz])) (by rw [qp8]; omega) (by omega)
        rw [qp8] at this
        exact this
    have h3 := go l [a] n (fun z hz => by simp [hz]) (by simp; omega) (by omega)
    rw [← hN]
    have e1 : iW (iAdd (0 : Int) 1) = ((1 : Nat) : Int) := qB (k := 0) (by omega)
    simp only [e1]
    have e2 : (qij (fun x y => decide (cmpM x y < 0)) [a] l).reverse = qkg (fun x y => decide (cmpM x y < 0)) (a :: l) := rfl
    rw [e2] at h3
    show Option.bind (qf n (qt n) ((0 : Int), ((N : Int), (((), ()), (((([a] : List Msg).length : Nat) : Int), ((([a] : List Msg).reverse ++ l), ())))))) _ = _
    rw [h3]
    rfl
theorem qLc (n : Nat) (l : List Msg) (hs : ∀ x, x ∈ l → x.2.2.2.2.length ≤ 1000) (hl : l.length ≤ 12) (hn : 2000 ≤ n) : qdw n (((), ()), (l, ())) = some (qkg (fun x y => decide (cmpM x y < 0)) l, ()) := by
  rw [qkd, qox]
  obtain ⟨rr, hrr⟩ := qCo n l.length hl
  simp only [hrr, Option.bind_some]
  rw [qig]
  obtain ⟨n', rfl⟩ : ∃ m, n = m + 1 := ⟨n - 1, by omega⟩
  rw [qn, qhz]
  simp only [w12 hl, cond_true, qLD (n' + 1) l hs (by omega) hn, Option.bind_some]

theorem qMe (n N i : Nat) (x : Msg) (hN : N ≤ 1000) (hn : 2000 ≤ n) (r m : List Msg) (hr : r.length ≤ N) : qf n (qQ n) ((0 : Int), ((N : Int), (((), ()), ((i : Int), ((r.length : Int), ((r.reverse ++ x :: m), ())))))) = some ((0 : Int), ((N : Int), (((), ()), ((i : Int), (((insL (fun x y => decide (cmpQ x y < 0)) x r).reverse ++ m), ()))))) := by
  exact qBe (step := qQ n) (fun x y => decide (cmpQ x y < 0)) (fun j d => ((0 : Int), ((N : Int), (((), ()), ((i : Int), ((j : Int), (d, ()))))))) (fun d => some ((0 : Int), ((N : Int), (((), ()), ((i : Int), (d, ())))))) x N (fun rec A y m hA => by
    rw [qcT]
    have hj : A.length < 9223372036854775807 := by omega
    simp only [qvR, cond_true, qhR, app0, app1, Option.bind_some, qsD hj, qiC, qLb n _ _ hn, set1, set0]) (fun rec d => by
    rw [qcT]
    rfl) r m n hr (by omega)
theorem qLE (n : Nat) (l : List Msg) (hl : l.length ≤ 1000) (hn : 2000 ≤ n) : qbS n ((0 : Int), ((l.length : Int), (((), ()), (l, ())))) = some (qkg (fun x y => decide (cmpQ x y < 0)) l, ()) := by
  rw [qgS]
  cases l with
  | nil =>
    obtain ⟨n', rfl⟩ : ∃ m, n = m + 1 := ⟨n - 1, by omega⟩
    rw [qn, qbs]
    rfl
  | cons a l =>
    obtain ⟨N, hN⟩ : ∃ N, N = (a :: l).length := ⟨_, rfl⟩
    have hl' : l.length + 1 = N := by rw [hN]; rfl
    have h1 : ∀ rec (r : List Msg) x m, r.length + 1 + m.length = N → qr n rec ((0 : Int), ((N : Int), (((), ()), ((r.length : Int), ((r.reverse ++ x :: m), ()))))) = rec ((0 : Int), ((N : Int), (((), ()), (((r.length + 1 : Nat) : Int), (((insL (fun x y => decide (cmpQ x y < 0)) x r).reverse ++ m), ()))))) := fun rec r x m hm => by
      rw [qbs]
      simp only [q8 (show r.length < N by omega), cond_true, qMe n N r.length x (by omega) hn r m (by omega), Option.bind_some, qB (show r.length < 9223372036854775807 by omega)]
    have h0 : ∀ rec (d : List Msg), qr n rec ((0 : Int), ((N : Int), (((), ()), ((N : Int), (d, ()))))) = some (d, ()) := fun rec d => by
      rw [qbs]
      simp only [qbh, cond_false]
    have go : ∀ (l2 r : List Msg) (n' : Nat), r.length + l2.length = N → l2.length < n' → qf n' (qr n) ((0 : Int), ((N : Int), (((), ()), ((r.length : Int), ((r.reverse ++ l2), ()))))) = some ((qij (fun x y => decide (cmpQ x y < 0)) r l2).reverse, ()) := by
      intro l2
      induction l2 with
      | nil =>
        intro r n' hr hn'
        obtain ⟨n', rfl⟩ : ∃ m, n' = m + 1 := ⟨n' - 1, by omega⟩
        have hr' : r.length = N := by simpa using hr
        rw [qn, List.append_nil, hr', h0]
        rfl
      | cons x l2 ih =>
        intro r n' hr hn'
        obtain ⟨n', rfl⟩ : ∃ m, n' = m + 1 := ⟨n' - 1, by omega⟩
        simp only [List.length_cons] at hr hn'
        rw [qn, h1 _ r x l2 (by omega), qij]
        have := ih (insL (fun x y => decide (cmpQ x y < 0)) x r) n' (by rw [qp8]; omega) (by omega)
        rw [qp8] at this
        exact this
    have h3 := go l [a] n (by simp; omega) (by omega)
    rw [← hN]
    have e1 : iW (iAdd (0 : Int) 1) = ((1 : Nat) : Int) := qB (k := 0) (by omega)
    simp only [e1]
    have e2 : (qij (fun x y => decide (cmpQ x y < 0)) [a] l).reverse = qkg (fun x y => decide (cmpQ x y < 0)) (a :: l) := rfl
    rw [e2] at h3
    show Option.bind (qf n (qr n) ((0 : Int), ((N : Int), (((), ()), (((([a] : List Msg).length : Nat) : Int), ((([a] : List Msg).reverse ++ l), ())))))) _ = _
    rw [h3]
    rfl
theorem qLd (n : Nat) (l : List Msg) (hl : l.length ≤ 12) (hn : 2000 ≤ n) : qb3 n (((), ()), (l, ())) = some (qkg (fun x y => decide (cmpQ x y < 0)) l, ()) := by
  rw [qke, qox]
  obtain ⟨rr, hrr⟩ := qCo n l.length hl
  simp only [hrr, Option.bind_some]
  rw [qih]
  obtain ⟨n', rfl⟩ : ∃ m, n = m + 1 := ⟨n - 1, by omega⟩
  rw [qn, qhA]
  simp only [w12 hl, cond_true, qLE (n' + 1) l (by omega) hn, Option.bind_some]

theorem qMf (n N i : Nat) (x : Int) (hN : N ≤ 1000) (hn : 2000 ≤ n) (r m : List Int) (hr : r.length ≤ N) : qf n (qcQ n) ((0 : Int), ((N : Int), ((i : Int), ((r.length : Int), ((r.reverse ++ x :: m), ()))))) = some ((0 : Int), ((N : Int), ((i : Int), (((insL (fun x y => decide (x < y)) x r).reverse ++ m), ())))) := by
  exact qBe (step := qcQ n) (fun x y => decide (x < y)) (fun j d => ((0 : Int), ((N : Int), ((i : Int), ((j : Int), (d, ())))))) (fun d => some ((0 : Int), ((N : Int), ((i : Int), (d, ()))))) x N (fun rec A y m hA => by
    rw [qgx]
    have hj : A.length < 9223372036854775807 := by omega
    simp only [qvR, cond_true, qhR, app0, app1, Option.bind_some, qsD hj, qiC, qK7, set1, set0]) (fun rec d => by
    rw [qgx]
    rfl) r m n hr (by omega)
theorem qLF (n : Nat) (l : List Int) (hl : l.length ≤ 1000) (hn : 2000 ≤ n) : qe8 n ((0 : Int), ((l.length : Int), (l, ()))) = some (qkg (fun x y => decide (x < y)) l, ()) := by
  rw [qnT]
  cases l with
  | nil =>
    obtain ⟨n', rfl⟩ : ∃ m, n = m + 1 := ⟨n - 1, by omega⟩
    rw [qn, qd1]
    rfl
  | cons a l =>
    obtain ⟨N, hN⟩ : ∃ N, N = (a :: l).length := ⟨_, rfl⟩
    have hl' : l.length + 1 = N := by rw [hN]; rfl
    have h1 : ∀ rec (r : List Int) x m, r.length + 1 + m.length = N → qbg n rec ((0 : Int), ((N : Int), ((r.length : Int), ((r.reverse ++ x :: m), ())))) = rec ((0 : Int), ((N : Int), (((r.length + 1 : Nat) : Int), (((insL (fun x y => decide (x < y)) x r).reverse ++ m), ())))) := fun rec r x m hm => by
      rw [qd1]
      simp only [q8 (show r.length < N by omega), cond_true, qMf n N r.length x (by omega) hn r m (by omega), Option.bind_some, qB (show r.length < 9223372036854775807 by omega)]
    have h0 : ∀ rec (d : List Int), qbg n rec ((0 : Int), ((N : Int), ((N : Int), (d, ())))) = some (d, ()) := fun rec d => by
      rw [qd1]
      simp only [qbh, cond_false]
    have go : ∀ (l2 r : List Int) (n' : Nat), r.length + l2.length = N → l2.length < n' → qf n' (qbg n) ((0 : Int), ((N : Int), ((r.length : Int), ((r.reverse ++ l2), ())))) = some ((qij (fun x y => decide (x < y)) r l2).reverse, ()) := by
      intro l2
      induction l2 with
      | nil =>
        intro r n' hr hn'
        obtain ⟨n', rfl⟩ : ∃ m, n' = m + 1 := ⟨n' - 1, by omega⟩
        have hr' : r.length = N := by simpa using hr
        rw [qn, List.append_nil, hr', h0]
        rfl
      | cons x l2 ih =>
        intro r n' hr hn'
        obtain ⟨n', rfl⟩ : ∃ m, n' = m + 1 := ⟨n' - 1, by omega⟩
        simp only [List.length_cons] at hr hn'
        rw [qn, h1 _ r x l2 (by omega), qij]
        have := ih (insL (fun x y => decide (x < y)) x r) n' (by rw [qp8]; omega) (by omega)
        rw [qp8] at this
        exact this
    have h3 := go l [a] n (by simp; omega) (by omega)
    rw [← hN]
    have e1 : iW (iAdd (0 : Int) 1) = ((1 : Nat) : Int) := qB (k := 0) (by omega)
    simp only [e1]
    have e2 : (qij (fun x y => decide (x < y)) [a] l).reverse = qkg (fun x y => decide (x < y)) (a :: l) := rfl
    rw [e2] at h3
    show Option.bind (qf n (qbg n) ((0 : Int), ((N : Int), (((([a] : List Int).length : Nat) : Int), ((([a] : List Int).reverse ++ l), ()))))) _ = _
    rw [h3]
    rfl
theorem qLe (n : Nat) (l : List Int) (hl : l.length ≤ 12) (hn : 2000 ≤ n) : qot n (l, ()) = some (qkg (fun x y => decide (x < y)) l, ()) := by
  rw [qyc, qox]
  obtain ⟨rr, hrr⟩ := qCo n l.length hl
  simp only [hrr, Option.bind_some]
  rw [qqO]
  obtain ⟨n', rfl⟩ : ∃ m, n = m + 1 := ⟨n - 1, by omega⟩
  rw [qn, qpO]
  simp only [w12 hl, cond_true, qLF (n' + 1) l (by omega) hn, Option.bind_some]
end Go.Proofs.YtcjgodgpaokbnaaGreat
