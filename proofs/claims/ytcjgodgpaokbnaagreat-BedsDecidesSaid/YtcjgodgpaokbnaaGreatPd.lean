/- Texts Dp17, Dp18, Dy5 in one. -/
import Derived.Test.YtcjgodgpaokbnaaGreatPc
import Derived.Test.YtcjgodgpaokbnaaGreatDq4
/- Beds, plain: Check of whatever there is. -/
namespace Go.Proofs.YtcjgodgpaokbnaaGreat
set_option linter.constructorNameAsVariable false
set_option linter.unusedSimpArgs false
set_option linter.unusedVariables false
set_option linter.unusedSectionVars false
open Go Go.Proofs Go.RowKit
set_option maxHeartbeats 1000000
def qAX (x y : Msg) : Bool := decide (y.2.1 = x.2.1) && decide (y.1 = x.1)
def adjK : List Msg → Bool
  | x :: y :: l => qAX x y || adjK (y :: l)
  | _ => false
theorem qD3 : ∀ (q : List Msg), adjK q = true ↔ ∃ i, ∃ h : i + 1 < q.length, qAX q[i] q[i + 1] = true
  | [] => by simp [adjK]
  | [x] => by simp [adjK]
  | x :: y :: l => by
    unfold adjK
    rw [Bool.or_eq_true, qD3 (y :: l)]
    constructor
    · rintro (h | ⟨i, h1, h2⟩)
      · exact ⟨0, by simp, h⟩
      · exact ⟨i + 1, by simpa using h1, by simpa using h2⟩
    · rintro ⟨i, h1, h2⟩
      cases i with
      | zero => exact .inl h2
      | succ i => exact .inr ⟨i, by simpa using h1, by simpa using h2⟩
theorem qI4 (n : Nat) (q : List Msg) (hl : q.length ≤ 1000) : ∀ (B A : List Msg) (p : Msg) (n' : Nat), q = A ++ p :: B → B.length < n' →
    qf n' (qoJ n) (q, (q, ((q.length : Int), (((A.length + 1 : Nat) : Int), ())))) = some (cond (adjK (p :: B)) (.inr (true, ())) (.inl ())) := by
  intro B
  induction B with
  | nil =>
    intro A p n' hq hn
    obtain ⟨n', rfl⟩ : ∃ m, n' = m + 1 := ⟨n' - 1, by omega⟩
    have e : A.length + 1 = q.length := by rw [hq]; simp
    rw [qn, qgu]
    simp only [e, qbh, cond_false]
    rfl
  | cons y B ih =>
    intro A p n' hq hn
    simp only [List.length_cons] at hn
    obtain ⟨n', rfl⟩ : ∃ m, n' = m + 1 := ⟨n' - 1, by omega⟩
    have e : A.length + 1 < q.length := by rw [hq]; simp
    have e1 : q[A.length + 1]? = some y := by rw [hq]; exact app1 _ _ _ _
    have e0 : q[A.length]? = some p := by rw [hq]; exact app0 _ _ _ _
    have ih' := ih (A ++ [p]) y n' (by rw [hq]; simp) (by omega)
    rw [List.length_append, List.length_singleton] at ih'
    rw [qn, qgu]
    simp only [q8 e, cond_true, qhR, e1, qvR, qsD (show A.length < 9223372036854775807 by omega), e0, Option.bind_some, qB (show A.length + 1 < 9223372036854775807 by omega)]
    unfold adjK qAX
    by_cases h1 : y.2.1 = p.2.1
    · rw [qdG h1]
      by_cases h2 : y.1 = p.1
      · rw [qdG h2]; simp [h1, h2]
      · rw [qfz h2]; simp only [cond_true, cond_false, h2, decide_false, Bool.and_false, Bool.false_or]; exact ih'
    · rw [qfz h1]; simp only [cond_false, h1, decide_false, Bool.false_and, Bool.false_or]; exact ih'
theorem qI5 (n : Nat) (q : List Msg) (hl : q.length ≤ 1000) (hn : 2000 ≤ n) : qrw n (q, ()) = some (adjK q, ()) := by
  rw [qwR]
  obtain ⟨n, rfl⟩ : ∃ m, n = m + 1 := ⟨n - 1, by omega⟩
  cases q with
  | nil =>
    rw [qn, qgu]
    rfl
  | cons p B =>
    have h := qI4 (n + 1) (p :: B) hl B [] p n rfl (by simp at hl; omega)
    simp only [List.length_nil, Nat.zero_add] at h
    have e : (0 : Int) < ((p :: B).length : Int) := by rw [List.length_cons]; omega
    rw [qn, qgu]
    simp only [show iLt 0 ((p :: B).length : Int) = true from decide_eq_true e, cond_true, qCm, Option.bind_some, show iGt 0 0 = false from rfl, cond_false]
    rw [show iW (iAdd 0 1) = ((1 : Nat) : Int) from rfl, h]
    cases adjK (p :: B) <;> rfl
theorem qHZ {l : List Msg} (hk : ∀ m, m ∈ l → m.1 = 1 ∨ m.1 = 2) : adjK (qb9 l) = qjg l := by
  have hs : (qb9 l).Pairwise (fun a b => key1 a ≤ key1 b) := by
    have h1 := qrC (fun x y => decide (cmpM x y < 0)) key1 l fun x y hx hy => by
      have := qGh (hk x hx) (hk y hy)
      simpa using this
    exact h1.sublist (qAV _)
  have hadj := qvS (qkg (fun x y => decide (cmpM x y < 0)) l)
  have hkd : ∀ m, m ∈ qb9 l → m.1 = 1 ∨ m.1 = 2 := fun m hm => hk m (qcE.1 hm)
  cases hc : qjg l with
  | false =>
    rw [← Bool.not_eq_true]
    intro h
    obtain ⟨i, h1, h2⟩ := (qD3 _).1 h
    unfold qAX at h2
    simp only [Bool.and_eq_true, decide_eq_true_eq] at h2
    exact qDU _ hadj i h1 (qrz hc _ _ (qcE.1 (List.getElem_mem _)) (qcE.1 (List.getElem_mem _)) h2.1 h2.2)
  | true =>
    have hne : ¬ ∀ x y, x ∈ l → y ∈ l → x.2.1 = y.2.1 → x.1 = y.1 → x = y := fun h => by rw [qEH h] at hc; cases hc
    have : ∃ x y, x ∈ l ∧ y ∈ l ∧ x.2.1 = y.2.1 ∧ x.1 = y.1 ∧ x ≠ y := by
      refine Classical.byContradiction fun h => hne fun x y hx hy h1 h2 => Classical.byContradiction fun h3 => h ⟨x, y, hx, hy, h1, h2, h3⟩
    obtain ⟨x, y, hx, hy, h1, h2, h3⟩ := this
    have key : ∀ i j (hi : i < (qb9 l).length) (hj : j < (qb9 l).length), i < j → key1 (qb9 l)[i] = key1 (qb9 l)[j] → adjK (qb9 l) = true := fun i j hi hj hij e => by
      rw [List.pairwise_iff_getElem] at hs
      have e1 := hs i (i + 1) hi (by omega) (by omega)
      have e2 : key1 (qb9 l)[i + 1] ≤ key1 (qb9 l)[j] := by
        rcases Nat.lt_or_ge (i + 1) j with h | h
        · exact hs (i + 1) j (by omega) hj h
        · have : j = i + 1 := by omega
          subst this; exact Int.le_refl _
      refine (qD3 _).2 ⟨i, by omega, ?_⟩
      have k1 := hkd (qb9 l)[i] (List.getElem_mem _)
      have k2 := hkd (qb9 l)[i + 1] (List.getElem_mem _)
      unfold key1 at e e1 e2
      unfold qAX
      simp only [Bool.and_eq_true, decide_eq_true_eq]
      omega
    obtain ⟨i, hi, ei⟩ := List.mem_iff_getElem.1 (qcE.2 hx)
    obtain ⟨j, hj, ej⟩ := List.mem_iff_getElem.1 (qcE.2 hy)
    have ek : key1 (qb9 l)[i] = key1 (qb9 l)[j] := by rw [ei, ej]; unfold key1; omega
    rcases Nat.lt_trichotomy i j with h | h | h
    · exact key i j hi hj h ek
    · subst h; exact absurd (ei.symm.trans ej) h3
    · exact key j i hj hi h ek.symm
structure Near (c : Chn) (l : List Msg) : Prop where
  st : ∀ m, m ∈ l → m.2.2.2.2.length ≤ 20
  hu : c.1.length ≤ 20
  ln : l.length ≤ 9 ∨ (40 < l.length ∧ l.length ≤ 60)
theorem qI6 {c : Chn} {l : List Msg} (h : farB c l = false) : Near c l := by
  obtain ⟨h1, h2⟩ := qDi h
  refine ⟨h1, h2, ?_⟩
  unfold farB at h
  simp only [Bool.or_eq_false_iff, Bool.and_eq_false_iff, decide_eq_false_iff_not] at h
  omega
theorem qEL (n : Nat) (c : Chn) (l : List Msg) (V : Near c l) (hn : 2000 ≤ n) : qov n (c, (l, ())) = some (chkN c l, ()) := by
  have hu := V.hu
  have hs : ∀ z, z ∈ l → z.2.2.2.2.length ≤ 1000 := fun z hz => by have := V.st z hz; omega
  rw [qwS, qKK n c (by omega) hn]
  unfold chkN
  cases hc : qcS c with
  | false => rfl
  | true =>
    obtain ⟨h1, h2, h3, h4⟩ := qtr hc
    simp only [Option.bind_some, Bool.not_true, cond_false, cond_true]
    rw [qoy]
    by_cases hl : l.length ≤ 40
    · have hl9 : l.length ≤ 9 := by rcases V.ln with h | h <;> omega
      obtain ⟨u, hu⟩ := qyf n c l (by omega) (by omega) (by omega) (by omega) hs hn
      have c1 : iGt (l.length : Int) 40 = false := decide_eq_false (by omega)
      simp only [c1, cond_false, hu, Option.bind_some, hl, decide_true, Bool.and_true]
      rw [show (l.any fun m => !mesB c m) = !l.all (mesB c) by simp [List.all_eq_not_any_not]]
      cases hm : l.all (mesB c) with
      | false => rfl
      | true =>
        have hk : ∀ m, m ∈ l → m.1 = 1 ∨ m.1 = 2 := fun m h => by rw [List.all_eq_true] at hm; exact (qDZ (hm m h)).1
        simp only [Bool.not_true, cond_false, qxm n l (by omega) hs hn, Option.bind_some, qI5 n (qb9 l) (by have := qtq l; omega) hn, qHZ hk, cond_true]
        cases qjg l <;> rfl
    · have c1 : iGt (l.length : Int) 40 = true := decide_eq_true (by omega)
      simp only [c1, cond_true, hl, decide_false, Bool.and_false, cond_false]
      rfl
theorem qrG (n : Nat) (c : Chn) (l : List Msg) (V : Near c l) (hn : 2000 ≤ n) : qdT n (c, (l, ())) = some (chkN c l, ()) :=
  qF5 n c l (by have := V.hu; omega) (by rcases V.ln with h | h <;> omega) (fun m hm => by have := V.st m hm; omega) (by omega)
theorem Near.vld {c : Chn} {l : List Msg} (V : Near c l) (h : chkN c l = 0) : Vld c l ∧ l.length ≤ 9 := by
  obtain ⟨b1, b2, b3, b4⟩ := qHg h
  exact ⟨⟨b1, b2, b3, b4, V.st, V.hu⟩, by rcases V.ln with h | h <;> omega⟩
theorem qCr (n : Nat) (c : Chn) (l : List Msg) (ps : List Spot) (V : Near c l) (h : chkN c l ≠ 0) (hn : 2000 ≤ n) : qlN n (c, (l, (ps, ()))) = some (.inr (chkN c l, ())) := by
  rw [qwU, qEL n c l V hn]
  simp only [Option.bind_some, qiB h, cond_true]
theorem qGj (n : Nat) (c : Chn) (l : List Msg) (V : Near c l) (h : chkN c l ≠ 0) (hn : 2000 ≤ n) : qhQ n (c, (l, ())) = some ([], (chkN c l, ())) := by
  rw [qtn]
  simp only [qCr n c l [] V h hn, Option.bind_some, Sum.elim_inr, qiB h, cond_true]
theorem qGL (n : Nat) (c : Chn) (l : List Msg) (V : Near c l) (h : chkN c l ≠ 0) (hn : 2000 ≤ n) : qiN n (c, (l, ())) = some ([], (chkN c l, ())) := by
  rw [qt9]
  simp only [qCr n c l [] V h hn, Option.bind_some, Sum.elim_inr, qiB h, cond_true]
theorem qKo (n : Nat) (c : Chn) (l : List Msg) (hut night : Int) (V : Near c l) (h : chkN c l ≠ 0) (hn : 2000 ≤ n) : qm5 n (c, (l, (hut, (night, ())))) = some (0, (chkN c l, ())) := by
  rw [qsC]
  simp only [qCr n c l _ V h hn, Option.bind_some, Sum.elim_inr, qiB h, cond_true]
theorem qKp (n : Nat) (c : Chn) (l : List Msg) (hut night : Int) (V : Vld c l) (hl : l.length ≤ 12) (h : (wi hut 0 (c.1.length - 1) && wi night 0 (c.2 - 1)) = false) (hn : 2000 ≤ n) : qm5 n (c, (l, (hut, (night, ())))) = some (0, (1, ())) := by
  have hb : ([(hut, night)] : List Spot).any (badS c) = true := by simp [badS, h]
  rw [qsC]
  simp only [qBf n c l V [(hut, night)] hl (by simp) hn, hb, cond_true, Option.bind_some, Sum.elim_inr]
  rfl
end Go.Proofs.YtcjgodgpaokbnaaGreat

/- Beds, plain: the reference decides. -/
namespace Go.Proofs.YtcjgodgpaokbnaaGreat
set_option linter.constructorNameAsVariable false
set_option linter.unusedSimpArgs false
set_option linter.unusedVariables false
set_option linter.unusedSectionVars false
open Go Go.Proofs Go.RowKit
set_option maxHeartbeats 1000000
def qsN (c : Chn) (taken : List Msg) (m : Msg) (s : Spot) : Bool := decide (m.2.2.2.1 - (qpP c s.1 - qdH taken s.1 s.2) > 0)
def qBg (c : Chn) (taken : List Msg) (m : Msg) (s : Spot) : Int × (Int × (Int × Unit)) := (s.1, (s.2, (m.2.2.2.1 - (qpP c s.1 - qdH taken s.1 s.2), ())))
theorem qKq (n : Nat) (c : Chn) (hc : qcS c = true) (taken : List Msg) (ht : ∀ x, x ∈ taken → quy x) (htl : taken.length ≤ 500) (m : Msg) (hp : 0 ≤ m.2.2.2.1 ∧ m.2.2.2.1 ≤ 1000) (i : Nat) (s : Stay) (hh : 0 ≤ s.1 ∧ s.1 ≤ (c.1.length : Int) - 1) (hhi : s.2.2 ≤ 1000) (hn : 2000 ≤ n) : ∀ (k : Nat) (t : Int) (n' : Nat), -1000 ≤ t → t + k = s.2.2 + 1 → k < n' →
    qf n' (qkR n) (taken, ((i : Int), (t, (c, (m, (s, ())))))) = match (qgt s.1 t k).find? (qsN c taken m) with
      | some z => some (.inr (qBg c taken m z))
      | none => some (.inl (taken, ((i : Int), (c, (m, ()))))) := by
  obtain ⟨y, e1, e2, e3⟩ := qts hc (s := (s.1, 0)) hh
  unfold hutB at e2
  simp only [Bool.and_eq_true, qe0] at e2
  intro k
  induction k with
  | zero =>
    intro t n' h1 h2 h3
    obtain ⟨n', rfl⟩ : ∃ m, n' = m + 1 := ⟨n' - 1, by omega⟩
    rw [qn, qnR]
    rw [show iLe t s.2.2 = false from decide_eq_false (by omega)]
    rfl
  | succ k ih =>
    intro t n' h1 h2 h3
    obtain ⟨n', rfl⟩ : ∃ m, n' = m + 1 := ⟨n' - 1, by omega⟩
    have ih' := ih (t + 1) n' (by omega) (by omega) (by omega)
    have hnd := qGi ht s.1 t
    have hnd2 : qdH taken s.1 t ≤ 250000000 := by
      have : (500000 : Int) * (taken.length : Int) ≤ 500000 * 500 := by omega
      omega
    have eb : qpP c s.1 = y.1 := e3
    rw [qn, qnR]
    rw [show iLe t s.2.2 = true from decide_eq_true (by omega)]
    simp only [cond_true, show lat c.1 s.1 = some y from e1, Option.bind_some, qEK n taken s.1 t ht htl hn]
    rw [show iW (iSub y.1 (qdH taken s.1 t)) = y.1 - qdH taken s.1 t from qju (by unfold iSub; omega) (by unfold iSub; omega)]
    unfold qgt
    rw [List.find?_cons]
    have hP : qsN c taken m (s.1, t) = decide (m.2.2.2.1 - (y.1 - qdH taken s.1 t) > 0) := by unfold qsN; rw [show qpP c (s.1, t).1 = y.1 from eb]
    by_cases h : y.1 - qdH taken s.1 t < m.2.2.2.1
    · rw [show iLt (y.1 - qdH taken s.1 t) m.2.2.2.1 = true from decide_eq_true h, hP, decide_eq_true (by omega)]
      simp only [cond_true]
      rw [show iW (iSub m.2.2.2.1 (y.1 - qdH taken s.1 t)) = m.2.2.2.1 - (y.1 - qdH taken s.1 t) from qju (by unfold iSub; omega) (by unfold iSub; omega)]
      unfold qBg
      rw [show qpP c (s.1, t).1 = y.1 from eb]
    · rw [show iLt (y.1 - qdH taken s.1 t) m.2.2.2.1 = false from decide_eq_false h, hP, decide_eq_false (by omega)]
      simp only [cond_false]
      rw [show iW (iAdd t 1) = t + 1 from qju (by unfold iAdd; omega) (by unfold iAdd; omega)]
      exact ih'
theorem qKr (n : Nat) (c : Chn) (hc : qcS c = true) (taken : List Msg) (ht : ∀ x, x ∈ taken → quy x) (htl : taken.length ≤ 500) (m : Msg) (hp : 0 ≤ m.2.2.2.1 ∧ m.2.2.2.1 ≤ 1000) (hl : m.2.2.2.2.length ≤ 1000) (hn : 2000 ≤ n) : ∀ (B A : List Stay) (n' : Nat), m.2.2.2.2 = A ++ B → (∀ s, s ∈ B → (0 ≤ s.1 ∧ s.1 ≤ (c.1.length : Int) - 1) ∧ -1 ≤ s.2.1 ∧ s.2.2 ≤ 1000 ∧ s.2.1 ≤ s.2.2 + 1) → B.length < n' →
    qf n' (qkS n) (taken, ((A.length : Int), (c, (m, ())))) = match (qP B).find? (qsN c taken m) with
      | some z => some (.inr (qBg c taken m z))
      | none => some (.inl ()) := by
  intro B
  induction B with
  | nil =>
    intro A n' hq hs hn'
    obtain ⟨n', rfl⟩ : ∃ m, n' = m + 1 := ⟨n' - 1, by omega⟩
    rw [List.append_nil] at hq
    rw [qn, qnS]
    simp only [hq, qbh, cond_false]
    rfl
  | cons s B ih =>
    intro A n' hq hs hn'
    simp only [List.length_cons] at hn'
    obtain ⟨n', rfl⟩ : ∃ m, n' = m + 1 := ⟨n' - 1, by omega⟩
    have ih' := ih (A ++ [s]) n' (by rw [hq]; simp) (fun z hz => hs z (List.mem_cons_of_mem _ hz)) (by omega)
    rw [List.length_append, List.length_singleton] at ih'
    have hk : A.length < m.2.2.2.2.length := by rw [hq]; simp
    have hx : m.2.2.2.2[A.length]? = some s := by rw [hq]; simp
    obtain ⟨g1, g2, g3, g4⟩ := hs s List.mem_cons_self
    have h1 := qKq n c hc taken ht htl m hp A.length s g1 g3 hn (s.2.2 + 1 - s.2.1).toNat s.2.1 n (by omega) (by omega) (by omega)
    rw [qn, qnS]
    simp only [q8 hk, cond_true, qhR, hx, Option.bind_some, h1]
    unfold qP
    rw [List.find?_append]
    unfold qpF
    cases hf : (qgt s.1 s.2.1 (s.2.2 + 1 - s.2.1).toNat).find? (qsN c taken m) with
    | some z => rfl
    | none =>
      simp only [Option.bind_some, Sum.elim_inl, qB (show A.length < 9223372036854775807 by omega), ih', Option.none_or]
theorem qGk {nh nn : Int} : ∀ {ss : List Stay} {last : Int}, qjf nh nn last ss = true → -1 ≤ last → ∀ s, s ∈ ss → (0 ≤ s.1 ∧ s.1 ≤ nh - 1) ∧ 0 ≤ s.2.1 ∧ s.2.2 < nn ∧ s.2.1 ≤ s.2.2
  | [], _, _, _, s, hs => by cases hs
  | z :: ss, last, h, hl, s, hs => by
    unfold qjf at h
    simp only [Bool.and_eq_true, qe0, decide_eq_true_eq] at h
    rcases List.mem_cons.1 hs with rfl | hs
    · omega
    · exact qGk h.2 (by omega) s hs
structure RefOk (c : Chn) (m : Msg) : Prop where
  ok : MsgOk c m
  st : qjf c.1.length c.2 (-1) m.2.2.2.2 = true
  ln : m.2.2.2.2.length ≤ 20
theorem qAY {c : Chn} {l : List Msg} (V : Vld c l) {m : Msg} (h : m ∈ qfv l) : RefOk c m := ⟨qvT V m h, qI2 (V.ms m (qrA.1 h).1) (qBR.1 h).2.1, V.st m (qrA.1 h).1⟩
theorem qKs (n : Nat) (c : Chn) (hc : qcS c = true) (taken : List Msg) (ht : ∀ x, x ∈ taken → quy x) (htl : taken.length ≤ 500) (m : Msg) (hm : RefOk c m) (hn : 2000 ≤ n) : qmM n (c, (taken, (m, ()))) = some (match (qP m.2.2.2.2).find? (qsN c taken m) with
      | some z => qBg c taken m z
      | none => (0, (-1, (0, ())))) := by
  obtain ⟨c1, c2, c3, c4⟩ := qtr hc
  have hl := hm.ln
  have p1 := hm.ok.p1
  have p2 := hm.ok.p2
  have h := qKr n c hc taken ht htl m (by omega) (by omega) hn m.2.2.2.2 [] n rfl (fun s hs => by have := qGk hm.st (by omega) s hs; exact ⟨this.1, by omega, by omega, by omega⟩) (by omega)
  rw [qwh]
  show Option.bind (qf n _ (taken, ((([] : List Stay).length : Int), (c, (m, ()))))) _ = _
  rw [h]
  cases (qP m.2.2.2.2).find? (qsN c taken m) <;> rfl
theorem qH0 {c : Chn} {d : DecS} {m : Msg} (hU : qrE d) : qsN c d.1 m = fun s => decide (m.2.2.2.1 - lft c d.2.2 s > 0) := by
  funext s
  obtain ⟨x, t⟩ := s
  unfold qsN lft
  rw [hU x t]
theorem qLX {c : Chn} {d : DecS} {m : Msg} (hU : qrE d) : (match (qP m.2.2.2.2).find? (qsN c d.1 m) with
      | some z => qBg c d.1 m z
      | none => (0, (-1, (0, ())))) = if qm1 c d.2.2 m then ((qpQ c d.2.2 m).1.1, ((qpQ c d.2.2 m).1.2, ((qpQ c d.2.2 m).2, ()))) else (0, (-1, (0, ()))) := by
  rw [qH0 hU]
  unfold qpQ
  have hb : qm1 c d.2.2 m = ((qP m.2.2.2.2).find? fun s => decide (m.2.2.2.1 - lft c d.2.2 s > 0)).isSome := by
    unfold qm1
    rw [Bool.eq_iff_iff, List.any_eq_true, List.find?_isSome]
  rw [hb]
  cases (qP m.2.2.2.2).find? fun s => decide (m.2.2.2.1 - lft c d.2.2 s > 0) with
  | none => rfl
  | some z =>
    obtain ⟨x, t⟩ := z
    simp only [Option.isSome_some, if_true]
    unfold qBg lft
    rw [hU x t]
theorem qBV (c : Chn) (q : List Msg) : ∀ x, x ∈ (dcL c q).1 → x ∈ q := fun x hx => by
  obtain ⟨a, w, h1, _, h3, _⟩ := qHp c q ([], ([], []))
  unfold dcL at hx
  rw [h1] at hx
  exact h3 x (by simpa using hx)
theorem qzp (n : Nat) (c : Chn) (hc : qcS c = true) (q : List Msg) (hq : ∀ m, m ∈ q → RefOk c m) (hl : q.length ≤ 400) (hn : 2000 ≤ n) : qfw n (c, (q, ())) = some ((dcL c q).1, ((dcL c q).2.1, ())) := by
  rw [quA]
  have h := qkf (step := qji n) q (fun k (d : DecS) => (q, ((k : Int), (c, (d.1, (d.2.1, ())))))) (dcF c) ([], ([], [])) (fun d => (d.1, (d.2.1, ()))) (fun rec k d hk hd => by
    have hok : ∀ x, x ∈ q.take k → MsgOk c x := fun x hx => (hq x (List.mem_of_mem_take hx)).ok
    have hU : qrE d := by rw [hd]; exact qDn hok
    have hlen := qDX c (q.take k) ([], ([], []))
    rw [← hd] at hlen
    simp only [List.length_nil, List.length_take] at hlen
    have hsub : ∀ x, x ∈ d.1 → quy x := fun x hx => by
      rw [hd] at hx
      have h1 := hq x (List.mem_of_mem_take (qBV c (q.take k) x hx))
      exact h1.ok.small (by have := h1.ln; omega)
    have hm := hq q[k] (List.getElem_mem hk)
    rw [ql7]
    simp only [q8 hk, cond_true, qcj q hk, Option.bind_some, qB (show k < 9223372036854775807 by omega), qKs n c hc d.1 hsub (by omega) q[k] hm hn, qLX hU]
    unfold dcF
    cases hs : qm1 c d.2.2 q[k] with
    | true =>
      obtain ⟨v1, _, _⟩ := qI3 hs
      obtain ⟨i1, _, _⟩ := qAU _ _ _ _ hm.st
      have := i1 _ v1
      simp only [if_true]
      rw [show iLt (qpQ c d.2.2 q[k]).1.2 0 = false from decide_eq_false (by omega)]
      simp only [cond_false]
      rw [qcC (by rw [Nat.ble_eq]; unfold nAdd; omega)]
      rfl
    | false =>
      simp only [Bool.false_eq_true, if_false]
      rw [show iLt (-1) 0 = true from rfl]
      simp only [cond_true]
      rw [qcC (by rw [Nat.ble_eq]; unfold nAdd; omega)]
      rfl) (fun rec d => by
    rw [ql7]
    simp only [qbh, cond_false]) (n := n) (by omega)
  show Option.bind (qf n _ (q, (((0 : Nat) : Int), (c, ([], ([], ())))))) _ = _
  rw [h]
  rfl
theorem qEM (n : Nat) (l : List Msg) (hl : l.length ≤ 1000) (hn : 2000 ≤ n) : qki n (l, ()) = some (l.map (·.2.1), ()) := by
  rw [qyg]
  have h := qkf (step := qmN n) l (fun k b => (l, ((k : Int), (b, ())))) (fun b m => b ++ [m.2.1]) ([] : List Int) (fun b => (b, ())) (fun rec k b hk hb => by
    have hbl : b.length = k := by
      rw [hb, qrD (fun m : Msg => m.2.1)]
      simp; omega
    rw [qo7]
    simp only [q8 hk, cond_true, qcj l hk, Option.bind_some, qB (show k < 9223372036854775807 by omega)]
    rw [qcC (by rw [Nat.ble_eq]; unfold nAdd; omega)]
    rfl) (fun rec b => by
    rw [qo7]
    simp only [qbh, cond_false]) (n := n) (by omega)
  show Option.bind (qf n _ (l, (((0 : Nat) : Int), ([], ())))) _ = _
  rw [h, qrD (fun m : Msg => m.2.1)]
  rfl
def insI (x : Int) (out : List Int) : List Int := out.takeWhile (fun y => decide (y < x)) ++ x :: out.dropWhile (fun y => decide (y < x))
theorem qEN (x : Int) (out : List Int) : (insI x out).Perm (x :: out) := by
  unfold insI
  refine List.perm_middle.trans (List.Perm.cons x ?_)
  rw [List.takeWhile_append_dropWhile]
theorem qBW {x : Int} : ∀ {out : List Int}, out.Pairwise (· ≤ ·) → (insI x out).Pairwise (· ≤ ·)
  | [], _ => by unfold insI; simp
  | y :: out, h => by
    rw [List.pairwise_cons] at h
    unfold insI
    rw [List.takeWhile_cons, List.dropWhile_cons]
    by_cases hy : y < x
    · simp only [hy, decide_true, if_true, List.cons_append]
      rw [List.pairwise_cons]
      have ih := qBW (x := x) h.2
      refine ⟨fun z hz => ?_, ih⟩
      rcases List.mem_cons.1 ((qEN x out).mem_iff.1 hz) with rfl | hz
      · omega
      · exact h.1 z hz
    · simp only [hy, decide_false, Bool.false_eq_true, if_false, List.nil_append]
      rw [List.pairwise_cons, List.pairwise_cons]
      exact ⟨fun z hz => by rcases List.mem_cons.1 hz with rfl | hz; omega; have := h.1 z hz; omega, h⟩
theorem qyh : ∀ {l m : List Int}, l.Pairwise (· ≤ ·) → m.Pairwise (· ≤ ·) → l.Perm m → l = m
  | [], m, _, _, h => (List.nil_perm.1 h).symm
  | x :: l, [], _, _, h => by have := h.length_eq; simp at this
  | x :: l, y :: m, hl, hm, h => by
    rw [List.pairwise_cons] at hl hm
    have hx : x ∈ y :: m := h.mem_iff.1 List.mem_cons_self
    have hy : y ∈ x :: l := h.mem_iff.2 List.mem_cons_self
    have e : x = y := by
      rcases List.mem_cons.1 hx with e | hx
      · exact e
      · rcases List.mem_cons.1 hy with e | hy
        · exact e.symm
        · have := hl.1 y hy
          have := hm.1 x hx
          omega
    subst e
    rw [qyh hl.2 hm.2 h.cons_inv]
def ascL (l : List Int) : List Int := l.foldl (fun b x => insI x b) []
theorem qtT : ∀ (l b : List Int), (l.foldl (fun b x => insI x b) b).Perm (b ++ l)
  | [], b => by simp
  | x :: l, b => by
    rw [List.foldl_cons]
    refine (qtT l _).trans (((qEN x b).append_right l).trans ?_)
    exact List.perm_middle.symm
theorem qwY : ∀ (l b : List Int), b.Pairwise (· ≤ ·) → (l.foldl (fun b x => insI x b) b).Pairwise (· ≤ ·)
  | [], _, h => h
  | x :: l, b, h => qwY l _ (qBW h)
theorem qLq (l : List Int) : ascL l = qkg (fun x y => decide (x < y)) l := by
  refine qyh (qwY l [] List.Pairwise.nil) ?_ ?_
  · exact qrC (fun x y => decide (x < y)) (fun x => x) l fun x y _ _ => by simp; omega
  · have h : (ascL l).Perm ([] ++ l) := qtT l []
    exact h.trans (qgs _ l).symm
theorem qLY (n : Nat) (l : List Int) (i : Nat) (x : Int) (hi : l[i]? = some x) : ∀ (B A : List Int) (n' : Nat), A.length + B.length ≤ 1000 → B.length < n' →
    qf n' (qh8 n) (l, ((i : Int), ((A.length : Int), (A ++ B, ())))) = some (l, ((i : Int), (((A ++ B.takeWhile (fun y => decide (y < x))).length : Int), (A ++ B, ())))) := by
  intro B
  induction B with
  | nil =>
    intro A n' hl hn
    obtain ⟨n', rfl⟩ : ∃ m, n' = m + 1 := ⟨n' - 1, by omega⟩
    rw [qn, qk2]
    simp only [List.append_nil, qbh, cond_false, List.takeWhile_nil]
  | cons y B ih =>
    intro A n' hl hn
    simp only [List.length_cons] at hl hn
    obtain ⟨n', rfl⟩ : ∃ m, n' = m + 1 := ⟨n' - 1, by omega⟩
    rw [qn, qk2]
    have hk : A.length < (A ++ y :: B).length := by simp
    have hx : (A ++ y :: B)[A.length]? = some y := by simp
    have ih' := ih (A ++ [y]) n' (by simp; omega) (by omega)
    simp only [List.length_append, List.length_cons, List.length_nil, Nat.zero_add, List.append_assoc, List.cons_append, List.nil_append] at ih'
    simp only [q8 hk, cond_true, qhR, qiC, hx, hi, Option.bind_some, qB (show A.length < 9223372036854775807 by omega)]
    rw [List.takeWhile_cons]
    by_cases h1 : y < x
    · rw [show iLt y x = true from decide_eq_true h1]
      simp only [h1, decide_true, cond_true, if_true, List.length_append, List.length_cons]
      rw [ih']
    · rw [show iLt y x = false from decide_eq_false h1]
      simp [h1]
theorem qGl (n : Nat) (l : List Int) (hl : l.length ≤ 900) (hn : 2000 ≤ n) : qjj n (l, ()) = some (ascL l, ()) := by
  rw [qtu]
  have h := qkf (step := qh9 n) l (fun k b => (l, ((k : Int), (b, ())))) (fun b x => insI x b) [] (fun b => (b, ())) (fun rec k b hk hb => by
    have hbl : b.length ≤ k := by
      rw [hb, (qtT _ _).length_eq]
      simp; omega
    have h := qLY n l k l[k] (List.getElem?_eq_getElem hk) b [] n (by simp; omega) (by omega)
    simp only [List.nil_append, List.length_nil] at h
    rw [show ((0 : Nat) : Int) = 0 from rfl] at h
    rw [qk3]
    simp only [q8 hk, cond_true, h, Option.bind_some, qcj l hk]
    obtain ⟨A, B, hA, hB, hAB⟩ : ∃ A B, b.takeWhile (fun y => decide (y < l[k])) = A ∧ b.dropWhile (fun y => decide (y < l[k])) = B ∧ b = A ++ B := ⟨_, _, rfl, rfl, (List.takeWhile_append_dropWhile).symm⟩
    unfold insI
    rw [hA, hB]
    have hlen : A.length ≤ b.length := by rw [hAB]; simp
    have htk : List.take A.length b = A := by rw [hAB]; simp
    have hdr : List.drop A.length b = B := by rw [hAB]; simp
    have hBl : b.length - A.length = B.length := by rw [hAB]; simp
    rw [qqK hlen]
    simp only [Option.bind_some, htk, hdr, hBl, List.take_length]
    rw [qcC (by rw [Nat.ble_eq]; omega), qcC (by rw [Nat.ble_eq]; unfold nAdd; omega), qcC (by rw [Nat.ble_eq]; omega), qcC (by rw [Nat.ble_eq]; unfold nAdd; simp [List.append_eq]; omega)]
    simp only [Option.bind_some, qB (show k < 9223372036854775807 by omega)]
    rfl) (fun rec b => by
    rw [qk3]
    simp only [qbh, cond_false]) (n := n) (by omega)
  show Option.bind (qf n _ (l, (((0 : Nat) : Int), ([], ())))) _ = _
  rw [h]
  rfl
theorem qD4 (n : Nat) (c : Chn) (l : List Msg) (V : Near c l) (hn : 2000 ≤ n) : qjT n (c, (l, ())) = some (if chkN c l = 0 then accL c l else [], (chkN c l, ())) := by
  rw [qtS]
  simp only [qrG n c l V hn, Option.bind_some]
  by_cases h : chkN c l = 0
  · obtain ⟨W, h9⟩ := V.vld h
    have hql := qrB l
    have hol := qp9 c l
    rw [qfA h, if_pos h]
    simp only [cond_false, qxo n l W.msgs (by omega) hn, Option.bind_some, qzp n c W.ch (qfv l) (fun m hm => qAY W hm) (by omega) hn]
    rw [qEM n _ (by show (offL c l).1.length ≤ _; omega) hn]
    simp only [Option.bind_some]
    rw [qGl n _ (by rw [List.length_map]; show (offL c l).1.length ≤ _; omega) hn]
    simp only [Option.bind_some]
    rw [qLq, h]
    rfl
  · rw [qiB h, if_neg h]; rfl
theorem qEV (n : Nat) (c : Chn) (l : List Msg) (V : Near c l) (hn : 2000 ≤ n) : qkT n (c, (l, ())) = some (if chkN c l = 0 then qzl c l else [], (chkN c l, ())) := by
  rw [quB]
  simp only [qrG n c l V hn, Option.bind_some]
  by_cases h : chkN c l = 0
  · obtain ⟨W, h9⟩ := V.vld h
    have hql := qrB l
    have hol := qp9 c l
    rw [qfA h, if_pos h]
    simp only [cond_false, qxo n l W.msgs (by omega) hn, Option.bind_some, qzp n c W.ch (qfv l) (fun m hm => qAY W hm) (by omega) hn]
    rw [qEM n _ (by show (offL c l).2.1.length ≤ _; omega) hn, h]
    rfl
  · rw [qiB h, if_neg h]; rfl
def qlS (c : Chn) (l : List Msg) (hut night : Int) : Int := if chkN c l = 0 then cond (wi hut 0 (c.1.length - 1) && wi night 0 (c.2 - 1)) 0 1 else chkN c l
theorem qGM (n : Nat) (c : Chn) (l : List Msg) (hut night : Int) (V : Near c l) (hn : 2000 ≤ n) : qf8 n (c, (l, (hut, (night, ())))) = some (qlS c l hut night, ()) := by
  unfold qlS
  by_cases h : chkN c l = 0
  · obtain ⟨W, h9⟩ := V.vld h
    rw [if_pos h]
    refine qES n c l hut night ?_ (by omega)
    unfold qAS
    have hf : farB c l = false := by
      unfold farB
      have h1 : (l.any fun m => decide (20 < m.2.2.2.2.length)) = false := List.any_eq_false.2 fun m hm => by have := V.st m hm; simp; omega
      have h2 := V.hu
      rw [h1]
      simp
      omega
    simp [hf, h9, h]
  · rw [if_neg h, qlQ]
    simp only [qrG n c l V hn, Option.bind_some, qiB h, cond_true]
def qE4 (c : Chn) (l : List Msg) (hut night : Int) : Int × (Int × Unit) := if qlS c l hut night = 0 then (lft c (offL c l).2.2 (hut, night), (0, ())) else (0, (qlS c l hut night, ()))
theorem qGN {c : Chn} {l : List Msg} {hut night : Int} (h : qlS c l hut night = 0) : chkN c l = 0 ∧ wi hut 0 (c.1.length - 1) = true ∧ wi night 0 (c.2 - 1) = true := by
  unfold qlS at h
  split at h
  · rename_i h0
    cases h1 : wi hut 0 ((c.1.length : Int) - 1) with
    | false => rw [h1] at h; simp at h
    | true => cases h2 : wi night 0 (c.2 - 1) with
      | false => rw [h1, h2] at h; simp at h
      | true => exact ⟨h0, rfl, rfl⟩
  · rename_i h0; exact absurd h h0
theorem qH1 (n : Nat) (c : Chn) (l : List Msg) (hut night : Int) (V : Near c l) (hn : 2000 ≤ n) : qnk n (c, (l, (hut, (night, ())))) = some (qE4 c l hut night) := by
  rw [qxp]
  simp only [qGM n c l hut night V hn, Option.bind_some]
  unfold qE4
  by_cases h : qlS c l hut night = 0
  · obtain ⟨h0, h1, h2⟩ := qGN h
    obtain ⟨W, h9⟩ := V.vld h0
    have hql := qrB l
    have hol := qp9 c l
    have hok : okS c (hut, night) := by have := qe0.1 h1; exact ⟨this.1, this.2⟩
    obtain ⟨y, e1, e2, e3⟩ := qts W.ch hok
    have hU : qrE (dcL c (qfv l)) := qDn (qvT W)
    have hin := qLU W hok
    have hlf : lft c (offL c l).2.2 (hut, night) = y.1 - qdH (dcL c (qfv l)).1 hut night := by
      unfold lft
      rw [← hU hut night, e3]
      rfl
    rw [qfA h, if_pos h]
    simp only [cond_false, qxo n l W.msgs (by omega) hn, Option.bind_some, qzp n c W.ch (qfv l) (fun m hm => qAY W hm) (by omega) hn, show lat c.1 hut = some y from e1]
    rw [qEK n _ hut night (fun x hx => qGK W x (qBV c _ x hx)) (by show (offL c l).1.length ≤ _; omega) hn]
    simp only [Option.bind_some]
    rw [show iW (iSub y.1 (qdH (dcL c (qfv l)).1 hut night)) = y.1 - qdH (dcL c (qfv l)).1 hut night from qju (by unfold iSub; omega) (by unfold iSub; omega), hlf]
  · rw [qiB h, if_neg h]; rfl
end Go.Proofs.YtcjgodgpaokbnaaGreat

/- Beds, plain: what is decided is what the reference says. -/
namespace Go.Proofs.YtcjgodgpaokbnaaGreat
set_option linter.constructorNameAsVariable false
set_option linter.unusedSimpArgs false
set_option linter.unusedVariables false
set_option linter.unusedSectionVars false
open Go Go.Proofs Go.RowKit
set_option maxHeartbeats 1000000
theorem qGm (n : Nat) (c : Chn) (l : List Msg) (V : Near c l) (hn : 2000 ≤ n) : qhQ n (c, (l, ())) = some (if chkN c l = 0 then accL c l else [], (chkN c l, ())) := by
  by_cases h : chkN c l = 0
  · obtain ⟨W, h9⟩ := V.vld h
    rw [qBP n c l W (by omega) hn, if_pos h, h]
  · rw [qGj n c l V h hn, if_neg h]
theorem qGO (n : Nat) (c : Chn) (l : List Msg) (V : Near c l) (hn : 2000 ≤ n) : qiN n (c, (l, ())) = some (if chkN c l = 0 then qzl c l else [], (chkN c l, ())) := by
  by_cases h : chkN c l = 0
  · obtain ⟨W, h9⟩ := V.vld h
    rw [qDk n c l W (by omega) hn, if_pos h, h]
  · rw [qGL n c l V h hn, if_neg h]
theorem qKt (n : Nat) (c : Chn) (l : List Msg) (hut night : Int) (V : Near c l) (hn : 2000 ≤ n) : qm5 n (c, (l, (hut, (night, ())))) = some (qE4 c l hut night) := by
  unfold qE4
  by_cases h : chkN c l = 0
  · obtain ⟨W, h9⟩ := V.vld h
    cases hw : (wi hut 0 ((c.1.length : Int) - 1) && wi night 0 (c.2 - 1)) with
    | true =>
      have h1 := (Bool.and_eq_true _ _ ▸ hw : _ ∧ _)
      have e : qlS c l hut night = 0 := by unfold qlS; rw [if_pos h, hw]; rfl
      rw [if_pos e, qKg n c l W hut night h1.1 h1.2 (by omega) hn]
    | false =>
      have e : qlS c l hut night = 1 := by unfold qlS; rw [if_pos h, hw]; rfl
      rw [e, qKp n c l hut night W (by omega) hw hn]
      rfl
  · have e : qlS c l hut night = chkN c l := by unfold qlS; rw [if_neg h]
    rw [e, if_neg h, qKo n c l hut night V h hn]
theorem qKu (n : Nat) (l : List Msg) (hl : l.length ≤ 1000) (hs : ∀ m, m ∈ l → m.2.2.2.2.length ≤ 100) (hn : 2000 ≤ n) : qhx n (l, (l, ())) = some (true, ()) := by
  rw [qrF]
  have h1 := qtp (step := qgH n) l (fun k => (l, (l, ((k : Int), ())))) (fun _ => true) (.inl ()) (.inr (false, ())) (fun rec k hk => by
    rw [qjk]
    simp only [q8 hk, cond_true, qcj l hk, Option.bind_some, qF4 n l[k] l[k] (hs _ (List.getElem_mem hk)) (by omega), qB (show k < 9223372036854775807 by omega), decide_true]
    rfl) (fun rec => by
    rw [qjk]
    simp only [qbh, cond_false]) (n := n) (by omega)
  rw [qfA rfl]
  simp only [cond_false]
  show Option.bind (qf n _ (l, (l, (((0 : Nat) : Int), ())))) _ = _
  rw [h1, show (l.all fun _ => true) = true by rw [List.all_eq_true]; intro x hx; rfl]
  rfl
theorem qGn (n : Nat) (c : Chn) (hl : c.1.length ≤ 1000) : qjh n (c, ()) = some (c, ()) := by
  rw [qtt, qcC (by rw [Nat.ble_eq]; unfold nAdd; show 0 + c.1.length ≤ _; omega)]
  rfl
theorem qH2 (n : Nat) (c : Chn) (l : List Msg) (x : Int × (Int × (Int × Int))) (hl : l.length ≤ 9223372036854775807) (hn : l.length + 9000 ≤ n) : qfB n (c, (l, (x, ()))) = some (true, ()) := by
  have hw := qKh n (by omega)
  rw [qrM]
  simp only [qLB n c l hl (by omega), Option.bind_some, hw]
  cases hf : farB c l with
  | true => rfl
  | false =>
    have V := qI6 hf
    have hu := V.hu
    have hl60 : l.length ≤ 60 := by rcases V.ln with h | h <;> omega
    have hs : ∀ m, m ∈ l → m.2.2.2.2.length ≤ 100 := fun m hm => by have := V.st m hm; omega
    have hal := qKj c l
    have hwl := qI0 c l
    obtain ⟨hut, night, pe, id⟩ := x
    simp only [cond_false, qGn n c (by omega), qKn n l (by omega) (fun m hm => by have := V.st m hm; omega) (by omega), Option.bind_some, qEL n c l V (by omega), qrG n c l V (by omega), qfA rfl,
      qGm n c l V (by omega), qD4 n c l V (by omega), qGO n c l V (by omega), qEV n c l V (by omega), qKt n c l hut night V (by omega), qH1 n c l hut night V (by omega)]
    rw [qsM n (if chkN c l = 0 then accL c l else []) _ (by split; omega; exact Nat.zero_le _) (by omega)]
    simp only [Option.bind_some, decide_true, Bool.not_true, cond_false]
    rw [qsM n (if chkN c l = 0 then qzl c l else []) _ (by split; omega; exact Nat.zero_le _) (by omega)]
    simp only [Option.bind_some, decide_true, Bool.not_true, cond_false, qdG rfl, cond_true, qKu n l (by omega) hs (by omega), hw]
end Go.Proofs.YtcjgodgpaokbnaaGreat
