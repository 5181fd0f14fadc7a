/- Texts RopP, RopQ, Rpl1 in one. -/
import Derived.Test.YtchinfamepolkaaKa
/- Ropes, plain: what is computed. Nothing here speaks of the program. -/
namespace Go.Proofs.Ytchinfamepolkaa
set_option linter.unusedSimpArgs false
set_option linter.unusedVariables false
set_option linter.unusedSectionVars false
open Go Go.Proofs Go.RowKit
structure Wear where
  factor : Int
  damage : Int
structure Model where
  shelf : Int
  use : Int
  bears : Int
  wears : List Wear
structure Fall where
  day : Int
  hlo : Int
  hhi : Int
  olo : Int
  ohi : Int
structure Rope where
  made : Int
  first : Int
  length : Int
  falls : List Fall
def wearC (x : Wear) : List Value := [.int .i64 x.factor, .int .i64 x.damage]
def fallC (x : Fall) : List Value := [.int .i64 x.day, .int .i64 x.hlo, .int .i64 x.hhi, .int .i64 x.olo, .int .i64 x.ohi]
def intC (x : Int) : List Value := [.int .i64 x]
theorem wearC_len (x : Wear) : (wearC x).length = 2 := rfl
theorem fallC_len (x : Fall) : (fallC x).length = 5 := rfl
theorem intC_len (x : Int) : (intC x).length = 1 := rfl
abbrev fallV (x : Fall) : Value := .agg #[.int .i64 x.day, .int .i64 x.hlo, .int .i64 x.hhi, .int .i64 x.olo, .int .i64 x.ohi]
abbrev modelV (A : Option Addr) (c : Nat) (M : Model) : Value := .agg #[.int .i64 M.shelf, .int .i64 M.use, .int .i64 M.bears, .slice A M.wears.length c]
abbrev ropeV (A : Option Addr) (c : Nat) (R : Rope) : Value := .agg #[.int .i64 R.made, .int .i64 R.first, .int .i64 R.length, .slice A R.falls.length c]

def withinB (n lo hi : Int) : Bool := decide (lo ≤ n) && decide (n ≤ hi)
theorem withinB_true {n lo hi : Int} (h : withinB n lo hi = true) : lo ≤ n ∧ n ≤ hi := by unfold withinB at h; simpa using h
def orderedB (a b lo hi : Int) : Bool := decide (lo ≤ a) && decide (a ≤ b) && decide (b ≤ hi)
theorem orderedB_true {a b lo hi : Int} (h : orderedB a b lo hi = true) : lo ≤ a ∧ a ≤ b ∧ b ≤ hi := by unfold orderedB at h; simp at h; omega
theorem w64 (n : Int) (h1 : -9223372036854775808 ≤ n) (h2 : n ≤ 9223372036854775807) : wrap64 n = n := by unfold wrap64; omega

def prevF (l : List Wear) (k : Nat) : Int := if k = 0 then 0 else ((l[k - 1]?).map Wear.factor).getD 0
def prevD (l : List Wear) (k : Nat) : Int := if k = 0 then 0 else ((l[k - 1]?).map Wear.damage).getD 0
def wearOk (l : List Wear) (k : Nat) : Bool := match l[k]? with
  | none => false
  | some x => withinB x.factor (prevF l k + 1) 200 && withinB x.damage (prevD l k) 100
def wearsTo (l : List Wear) (k : Nat) : Bool := (List.range k).all (wearOk l)
def isModelB (M : Model) : Bool := wearsTo M.wears M.wears.length && withinB M.shelf 1 10000 && withinB M.use 1 10000 && withinB M.bears 0 100 && decide (M.wears.length ≤ 6)
theorem wearsTo_succ (l : List Wear) (k : Nat) : wearsTo l (k + 1) = (wearsTo l k && wearOk l k) := by unfold wearsTo; rw [List.range_succ, List.all_append]; simp
theorem wearsTo_mono {l : List Wear} {k n : Nat} (h : k ≤ n) (h2 : wearsTo l n = true) : wearsTo l k = true := by
  unfold wearsTo at *
  rw [List.all_eq_true] at *
  intro i hi
  exact h2 i (by simp at hi ⊢; omega)
theorem prevF_succ (l : List Wear) (k : Nat) (h : k < l.length) : prevF l (k + 1) = l[k].factor := by unfold prevF; simp [h]
theorem prevD_succ (l : List Wear) (k : Nat) (h : k < l.length) : prevD l (k + 1) = l[k].damage := by unfold prevD; simp [h]
theorem wearOk_is (l : List Wear) (k : Nat) (h : k < l.length) : wearOk l k = (withinB l[k].factor (prevF l k + 1) 200 && withinB l[k].damage (prevD l k) 100) := by unfold wearOk; rw [List.getElem?_eq_getElem h]
theorem prev_bd {l : List Wear} {k : Nat} (hk : k ≤ l.length) (h : wearsTo l k = true) : 0 ≤ prevF l k ∧ prevF l k ≤ 200 ∧ 0 ≤ prevD l k ∧ prevD l k ≤ 100 := by
  induction k with
  | zero => unfold prevF prevD; simp
  | succ k ih =>
    rw [wearsTo_succ, Bool.and_eq_true] at h
    obtain ⟨h1, h2⟩ := h
    have hi := ih (by omega) h1
    rw [wearOk_is l k (by omega), Bool.and_eq_true] at h2
    have a := withinB_true h2.1
    have b := withinB_true h2.2
    rw [prevF_succ l k (by omega), prevD_succ l k (by omega)]
    omega
def prevDay (R : Rope) (k : Nat) : Int := if k = 0 then R.first else ((R.falls[k - 1]?).map Fall.day).getD 0
def fallOk (R : Rope) (k : Nat) : Bool := match R.falls[k]? with
  | none => false
  | some f => withinB f.day (prevDay R k) 99999 && orderedB f.hlo f.hhi 1 1000 && orderedB f.olo f.ohi 1 1000
def fallsTo (R : Rope) (k : Nat) : Bool := (List.range k).all (fallOk R)
theorem fallsTo_succ (R : Rope) (k : Nat) : fallsTo R (k + 1) = (fallsTo R k && fallOk R k) := by unfold fallsTo; rw [List.range_succ, List.all_append]; simp
theorem fallsTo_mono {R : Rope} {k n : Nat} (h : k ≤ n) (h2 : fallsTo R n = true) : fallsTo R k = true := by
  unfold fallsTo at *
  rw [List.all_eq_true] at *
  intro i hi
  exact h2 i (by simp at hi ⊢; omega)
theorem fallOk_is (R : Rope) (k : Nat) (h : k < R.falls.length) : fallOk R k = (withinB R.falls[k].day (prevDay R k) 99999 && orderedB R.falls[k].hlo R.falls[k].hhi 1 1000 && orderedB R.falls[k].olo R.falls[k].ohi 1 1000) := by unfold fallOk; rw [List.getElem?_eq_getElem h]
theorem prevDay_succ (R : Rope) (k : Nat) (h : k < R.falls.length) : prevDay R (k + 1) = R.falls[k].day := by unfold prevDay; simp [h]
theorem prevDay_bd {R : Rope} {k : Nat} (hk : k ≤ R.falls.length) (h : fallsTo R k = true) (hf : R.first ≤ 99999) : R.first ≤ prevDay R k ∧ prevDay R k ≤ 99999 := by
  induction k with
  | zero => unfold prevDay; simp; exact hf
  | succ k ih =>
    rw [fallsTo_succ, Bool.and_eq_true] at h
    obtain ⟨h1, h2⟩ := h
    have hi := ih (by omega) h1
    rw [fallOk_is R k (by omega), Bool.and_eq_true, Bool.and_eq_true] at h2
    have a := withinB_true h2.1.1
    rw [prevDay_succ R k (by omega)]
    omega
def ropeHead (R : Rope) : Bool := withinB R.made 0 99999 && (R.first == -1 || withinB R.first R.made 99999) && withinB R.length 1 100 && decide (R.falls.length ≤ 10) && !(R.first == -1 && decide (0 < R.falls.length))
def isRopeB (R : Rope) : Bool := ropeHead R && fallsTo R R.falls.length

def facV (h o : Int) : Int := min 200 ((100 * h + o - 1) / o)
def harmTo (l : List Wear) (f : Int) (k : Nat) : Int := (l.take k).foldl (fun d x => if x.factor ≤ f then x.damage else d) 0
def harmV (l : List Wear) (f : Int) : Int := harmTo l f l.length
theorem harmTo_succ (l : List Wear) (f : Int) (k : Nat) (h : k < l.length) : harmTo l f (k + 1) = if l[k].factor ≤ f then l[k].damage else harmTo l f k := by
  unfold harmTo; rw [List.take_succ_eq_append_getElem h, List.foldl_append]; rfl
theorem harmTo_bd {l : List Wear} (h : ∀ x ∈ l, 0 ≤ x.damage ∧ x.damage ≤ 100) (f : Int) (k : Nat) : 0 ≤ harmTo l f k ∧ harmTo l f k ≤ 100 := by
  unfold harmTo
  have key : ∀ (m : List Wear) (d : Int), (∀ x ∈ m, 0 ≤ x.damage ∧ x.damage ≤ 100) → 0 ≤ d ∧ d ≤ 100 → 0 ≤ m.foldl (fun d x => if x.factor ≤ f then x.damage else d) d ∧ m.foldl (fun d x => if x.factor ≤ f then x.damage else d) d ≤ 100 := by
    intro m
    induction m with
    | nil => intro d _ hd; exact hd
    | cons a m ih =>
      intro d hm hd
      rw [List.foldl_cons]
      refine ih _ (fun x hx => hm x (List.mem_cons_of_mem _ hx)) ?_
      split
      · exact hm a List.mem_cons_self
      · exact hd
  exact key _ 0 (fun x hx => h x (List.mem_of_mem_take hx)) (by omega)
theorem wears_bd {l : List Wear} (h : wearsTo l l.length = true) : ∀ x ∈ l, 0 ≤ x.damage ∧ x.damage ≤ 100 := by
  intro x hx
  obtain ⟨k, hk, rfl⟩ := List.getElem_of_mem hx
  have h1 := wearsTo_mono (k := k) (by omega) h
  have h2 : wearOk l k = true := by
    have := wearsTo_mono (k := k + 1) (by omega) h
    rw [wearsTo_succ, Bool.and_eq_true] at this
    exact this.2
  have := prev_bd (by omega) h1
  rw [wearOk_is l k hk, Bool.and_eq_true] at h2
  have b := withinB_true h2.2
  omega
def dmgLo (l : List Wear) (f : Fall) (day : Int) : Int := if f.day ≤ day then harmV l (facV f.hlo f.ohi) else 0
def dmgHi (l : List Wear) (f : Fall) (day : Int) : Int := if f.day ≤ day then harmV l (facV f.hhi f.olo) else 0
def sumLo (l : List Wear) (fs : List Fall) (day : Int) (k : Nat) : Int := ((fs.take k).map fun f => dmgLo l f day).sum
def sumHi (l : List Wear) (fs : List Fall) (day : Int) (k : Nat) : Int := ((fs.take k).map fun f => dmgHi l f day).sum
theorem sumLo_succ (l : List Wear) (fs : List Fall) (day : Int) (k : Nat) (h : k < fs.length) : sumLo l fs day (k + 1) = sumLo l fs day k + dmgLo l fs[k] day := by
  unfold sumLo; rw [List.take_succ_eq_append_getElem h, List.map_append, List.sum_append]; simp
theorem sumHi_succ (l : List Wear) (fs : List Fall) (day : Int) (k : Nat) (h : k < fs.length) : sumHi l fs day (k + 1) = sumHi l fs day k + dmgHi l fs[k] day := by
  unfold sumHi; rw [List.take_succ_eq_append_getElem h, List.map_append, List.sum_append]; simp
theorem sum_bd (g : Fall → Int) (hg : ∀ f, 0 ≤ g f ∧ g f ≤ 100) (fs : List Fall) (k : Nat) : 0 ≤ ((fs.take k).map g).sum ∧ ((fs.take k).map g).sum ≤ 100 * k := by
  induction k with
  | zero => simp
  | succ k ih =>
    by_cases h : k < fs.length
    · rw [List.take_succ_eq_append_getElem h, List.map_append, List.sum_append]
      have := hg fs[k]
      simp only [List.map_cons, List.map_nil, List.sum_cons, List.sum_nil]
      omega
    · rw [List.take_of_length_le (by omega)] at *
      omega
theorem sumLo_bd {l : List Wear} (hl : ∀ x ∈ l, 0 ≤ x.damage ∧ x.damage ≤ 100) (fs : List Fall) (day : Int) (k : Nat) : 0 ≤ sumLo l fs day k ∧ sumLo l fs day k ≤ 100 * k :=
  sum_bd _ (fun f => by
    unfold dmgLo
    split
    · exact harmTo_bd hl _ _
    · omega) fs k
theorem sumHi_bd {l : List Wear} (hl : ∀ x ∈ l, 0 ≤ x.damage ∧ x.damage ≤ 100) (fs : List Fall) (day : Int) (k : Nat) : 0 ≤ sumHi l fs day k ∧ sumHi l fs day k ≤ 100 * k :=
  sum_bd _ (fun f => by
    unfold dmgHi
    split
    · exact harmTo_bd hl _ _
    · omega) fs k
def damLo (M : Model) (R : Rope) (day : Int) : Int := sumLo M.wears R.falls day R.falls.length
def damHi (M : Model) (R : Rope) (day : Int) : Int := sumHi M.wears R.falls day R.falls.length

def endsV (M : Model) (R : Rope) (first : Int) : Int := if 0 ≤ first then min (min 99999 (R.made + M.shelf)) (first + M.use) else min 99999 (R.made + M.shelf)
def fitV (M : Model) (R : Rope) (day dmg : Int) : Bool := decide (day ≤ endsV M R (if day < R.first then -1 else R.first)) && decide (dmg ≤ M.bears)
def isFitV (M : Model) (R : Rope) (day dmg : Int) : Bool := decide (day ≤ R.made + M.shelf) && (R.first == -1 || decide (day < R.first) || decide (day ≤ R.first + M.use)) && decide (dmg ≤ M.bears)
theorem fit_isFit {M : Model} {R : Rope} {day dmg : Int} (h1 : day ≤ 99999) (h2 : -1 ≤ R.first) : fitV M R day dmg = isFitV M R day dmg := by
  rw [Bool.eq_iff_iff]
  unfold fitV isFitV endsV
  simp only [Bool.and_eq_true, Bool.or_eq_true, decide_eq_true_eq, beq_iff_eq]
  by_cases h : day < R.first
  · rw [if_pos h]; simp; omega
  · rw [if_neg h]
    split <;> omega
theorem rope_first {R : Rope} (h : isRopeB R = true) : -1 ≤ R.first ∧ R.first ≤ 99999 ∧ 0 ≤ R.made ∧ R.made ≤ 99999 ∧ R.falls.length ≤ 10 ∧ fallsTo R R.falls.length = true := by
  unfold isRopeB ropeHead at h
  simp only [Bool.and_eq_true, Bool.or_eq_true, decide_eq_true_eq, beq_iff_eq, Bool.not_eq_true'] at h
  obtain ⟨⟨⟨⟨⟨h1, h2⟩, h3⟩, h4⟩, h5⟩, h6⟩ := h
  have a := withinB_true h1
  refine ⟨?_, ?_, a.1, a.2, h4, h6⟩
  · rcases h2 with h2 | h2
    · omega
    · have := withinB_true h2; omega
  · rcases h2 with h2 | h2
    · omega
    · have := withinB_true h2; omega
theorem model_bd {M : Model} (h : isModelB M = true) : wearsTo M.wears M.wears.length = true ∧ (1 ≤ M.shelf ∧ M.shelf ≤ 10000) ∧ (1 ≤ M.use ∧ M.use ≤ 10000) ∧ (0 ≤ M.bears ∧ M.bears ≤ 100) ∧ M.wears.length ≤ 6 := by
  unfold isModelB at h
  simp only [Bool.and_eq_true, decide_eq_true_eq] at h
  exact ⟨h.1.1.1.1, withinB_true h.1.1.1.2, withinB_true h.1.1.2, withinB_true h.1.2, h.2⟩
def dayE (M : Model) (R : Rope) (day : Int) : Int := if !isModelB M then 90 else if !isRopeB R then 91 else if !withinB day R.made 99999 then 1 else 0
def ropeE (M : Model) (R : Rope) : Int := if !isModelB M then 90 else if !isRopeB R then 91 else 0
end Go.Proofs.Ytchinfamepolkaa

/- Ropes, plain: posts, sets of positions, the fewest of them. Nothing here speaks of the program. -/
namespace Go.Proofs.Ytchinfamepolkaa
set_option linter.unusedSimpArgs false
set_option linter.unusedVariables false
set_option linter.unusedSectionVars false
open Go Go.Proofs Go.RowKit
structure Post where
  at_ : Int
  lo : Int
  hi : Int
instance : Inhabited Post := ⟨⟨0, 0, 0⟩⟩
def postC (x : Post) : List Value := [.int .i64 x.at_, .int .i64 x.lo, .int .i64 x.hi]
theorem postC_len (x : Post) : (postC x).length = 3 := rfl
abbrev postV (x : Post) : Value := .agg #[.int .i64 x.at_, .int .i64 x.lo, .int .i64 x.hi]
def prevAt (l : List Post) (k : Nat) : Int := if k = 0 then -1 else ((l[k - 1]?).map Post.at_).getD 0
def postOk (l : List Post) (k : Nat) : Bool := match l[k]? with
  | none => false
  | some p => withinB p.at_ (prevAt l k + 1) 100000 && orderedB p.lo p.hi 0 100
def postsTo (l : List Post) (k : Nat) : Bool := (List.range k).all (postOk l)
theorem postsTo_succ (l : List Post) (k : Nat) : postsTo l (k + 1) = (postsTo l k && postOk l k) := by unfold postsTo; rw [List.range_succ, List.all_append]; simp
theorem postOk_is (l : List Post) (k : Nat) (h : k < l.length) : postOk l k = (withinB l[k].at_ (prevAt l k + 1) 100000 && orderedB l[k].lo l[k].hi 0 100) := by unfold postOk; rw [List.getElem?_eq_getElem h]
theorem prevAt_succ (l : List Post) (k : Nat) (h : k < l.length) : prevAt l (k + 1) = l[k].at_ := by unfold prevAt; simp [h]
theorem postsTo_mono {l : List Post} {k n : Nat} (h : k ≤ n) (h2 : postsTo l n = true) : postsTo l k = true := by
  unfold postsTo at *
  rw [List.all_eq_true] at *
  intro i hi
  exact h2 i (by simp at hi ⊢; omega)
theorem prevAt_bd {l : List Post} {k : Nat} (hk : k ≤ l.length) (h : postsTo l k = true) : -1 ≤ prevAt l k ∧ prevAt l k ≤ 100000 := by
  induction k with
  | zero => unfold prevAt; simp
  | succ k ih =>
    rw [postsTo_succ, Bool.and_eq_true] at h
    obtain ⟨h1, h2⟩ := h
    have hi := ih (by omega) h1
    rw [postOk_is l k (by omega), Bool.and_eq_true] at h2
    have a := withinB_true h2.1
    rw [prevAt_succ l k (by omega)]
    omega
def arePosts (l : List Post) : Bool := decide (l.length ≤ 8) && postsTo l l.length
def tiltB (a b : Post) (limit years : Int) : Bool := decide (limit * (a.at_ - b.at_) < max (a.hi - b.lo) (b.hi - a.lo) * years * 1000)
def rowB (l : List Post) (limit years : Int) (i j : Nat) : Bool := !(List.range j).any fun t => match l[i]?, l[t]? with
  | some a, some b => tiltB a b limit years
  | _, _ => false
def levelTo (l : List Post) (limit years : Int) (i : Nat) : Bool := (List.range i).all fun k => rowB l limit years k k
def levelB (l : List Post) (limit years : Int) : Bool := levelTo l limit years l.length
theorem levelTo_succ (l : List Post) (limit years : Int) (i : Nat) : levelTo l limit years (i + 1) = (levelTo l limit years i && rowB l limit years i i) := by unfold levelTo; rw [List.range_succ, List.all_append]; simp
theorem rowB_succ (l : List Post) (limit years : Int) (i j : Nat) (hi : i < l.length) (hj : j < l.length) : rowB l limit years i (j + 1) = (rowB l limit years i j && !tiltB l[i] l[j] limit years) := by
  unfold rowB
  rw [List.range_succ, List.any_append]
  simp [hi, hj]
theorem levelTo_mono {l : List Post} {limit years : Int} {k n : Nat} (h : k ≤ n) (h2 : levelTo l limit years n = true) : levelTo l limit years k = true := by
  unfold levelTo at *
  rw [List.all_eq_true] at *
  intro i hi
  exact h2 i (by simp at hi ⊢; omega)

def posTo (n s : Nat) : List Nat := (List.range n).filter fun i => s.testBit i
theorem posTo_succ (n s : Nat) : posTo (n + 1) s = posTo n s ++ (if s.testBit n = true then [n] else []) := by
  unfold posTo
  rw [List.range_succ, List.filter_append]
  cases h : s.testBit n <;> simp [h]
theorem posTo_len (n s : Nat) : (posTo n s).length ≤ n := by unfold posTo; have := List.length_filter_le (fun i => s.testBit i) (List.range n); simpa using this
theorem posTo_lt {n s i : Nat} (h : i ∈ posTo n s) : i < n ∧ s.testBit i = true := by unfold posTo at h; simpa using h
def cmpN (a b : Nat) : Int := if a < b then -1 else if b < a then 1 else 0
def cmpL : List Nat → List Nat → Int
  | [], [] => 0
  | [], _ :: _ => -1
  | _ :: _, [] => 1
  | a :: l, b :: m => if cmpN a b = 0 then cmpL l m else cmpN a b
def fewTo (n : Nat) (is : Nat → Bool) : Nat → Option (List Nat)
  | 0 => none
  | k + 1 => match fewTo n is k with
    | none => if is k then some (posTo n k) else none
    | some b => if b.length < (posTo n k).length ∨ ((posTo n k).length = b.length ∧ 0 ≤ cmpL (posTo n k) b) then some b else if is k then some (posTo n k) else some b
def fewV (n : Nat) (is : Nat → Bool) : Option (List Nat) := fewTo n is (2 ^ n)
theorem fewTo_len {n : Nat} {is : Nat → Bool} {k : Nat} {b : List Nat} (h : fewTo n is k = some b) : ∃ s, s < k ∧ is s = true ∧ b = posTo n s := by
  induction k generalizing b with
  | zero => cases h
  | succ k ih =>
    rw [fewTo] at h
    split at h
    · split at h
      · injection h with h; exact ⟨k, by omega, by assumption, h.symm⟩
      · cases h
    · next b' hb' =>
      split at h
      · injection h with h; subst h
        obtain ⟨s, h1, h2, h3⟩ := ih hb'
        exact ⟨s, by omega, h2, h3⟩
      · split at h
        · injection h with h; exact ⟨k, by omega, by assumption, h.symm⟩
        · injection h with h; subst h
          obtain ⟨s, h1, h2, h3⟩ := ih hb'
          exact ⟨s, by omega, h2, h3⟩
end Go.Proofs.Ytchinfamepolkaa

/- Ropes, plain: damage and truth, fitness over the days. Nothing here speaks of the program. -/
namespace Go.Proofs.Ytchinfamepolkaa
set_option linter.unusedSimpArgs false
set_option linter.unusedVariables false
set_option linter.unusedSectionVars false
open Go Go.Proofs Go.RowKit
theorem facV_mono {h h' o o' : Int} (hh : h ≤ h') (ho : o' ≤ o) (h1 : 1 ≤ h) (o1 : 1 ≤ o') : facV h o ≤ facV h' o' := by
  have key : (100 * h + o - 1) / o ≤ (100 * h' + o' - 1) / o' := by
    have q0 : 0 ≤ (100 * h' + o' - 1) / o' := Int.ediv_nonneg (by omega) (by omega)
    have a1 : (100 * h + o - 1) / o * o ≤ 100 * h + o - 1 := Int.ediv_mul_le _ (by omega)
    have a2 : 100 * h' + o' - 1 < ((100 * h' + o' - 1) / o' + 1) * o' := Int.lt_ediv_add_one_mul_self _ (by omega)
    generalize (100 * h + o - 1) / o = q at *
    generalize (100 * h' + o' - 1) / o' = q' at *
    rcases Int.lt_or_le q' q with hlt | hle
    · exfalso
      have b1 : q' * o' ≤ q' * o := Int.mul_le_mul_of_nonneg_left ho q0
      have b2 : q' * o ≤ (q - 1) * o := Int.mul_le_mul_of_nonneg_right (by omega) (by omega)
      rw [Int.sub_mul] at b2
      rw [Int.add_mul] at a2
      omega
    · exact hle
  unfold facV
  omega
theorem wear_step {l : List Wear} (h : wearsTo l l.length = true) {k : Nat} (hk : k < l.length) : prevD l k ≤ l[k].damage := by
  have h2 := wearsTo_mono (k := k + 1) (by omega) h
  rw [wearsTo_succ, Bool.and_eq_true] at h2
  rw [wearOk_is l k hk, Bool.and_eq_true] at h2
  exact (withinB_true h2.2.2).1
theorem harm_prev {l : List Wear} (h : wearsTo l l.length = true) (f : Int) : ∀ k, k ≤ l.length → harmTo l f k ≤ prevD l k := by
  intro k
  induction k with
  | zero => intro _; unfold harmTo prevD; simp
  | succ k ih =>
    intro hk
    have := wear_step h (k := k) (by omega)
    rw [harmTo_succ l f k (by omega), prevD_succ l k (by omega)]
    have := ih (by omega)
    split <;> omega
theorem harmTo_mono {l : List Wear} (h : wearsTo l l.length = true) {f f' : Int} (hf : f ≤ f') : ∀ k, k ≤ l.length → harmTo l f k ≤ harmTo l f' k := by
  intro k
  induction k with
  | zero => intro _; exact Int.le_refl _
  | succ k ih =>
    intro hk
    have h1 := wear_step h (k := k) (by omega)
    have h2 := harm_prev h f k (by omega)
    have h3 := ih (by omega)
    rw [harmTo_succ l f k (by omega), harmTo_succ l f' k (by omega)]
    split <;> split <;> omega
theorem harmV_mono {l : List Wear} (h : wearsTo l l.length = true) {f f' : Int} (hf : f ≤ f') : harmV l f ≤ harmV l f' := harmTo_mono h hf _ (Nat.le_refl _)
def trueTo (l : List Wear) (fs : List Fall) (hs os : List Int) (day : Int) : Nat → Int
  | 0 => 0
  | k + 1 => trueTo l fs hs os day k + match fs[k]?, hs[k]?, os[k]? with
    | some f, some h, some o => if f.day ≤ day then harmV l (facV h o) else 0
    | _, _, _ => 0
def trueOk (fs : List Fall) (hs os : List Int) (k : Nat) : Bool := (List.range k).all fun i => match fs[i]?, hs[i]?, os[i]? with
  | some f, some h, some o => withinB h f.hlo f.hhi && withinB o f.olo f.ohi
  | _, _, _ => false
theorem trueOk_succ (fs : List Fall) (hs os : List Int) (k : Nat) (h1 : k < fs.length) (h2 : k < hs.length) (h3 : k < os.length) : trueOk fs hs os (k + 1) = (trueOk fs hs os k && (withinB hs[k] fs[k].hlo fs[k].hhi && withinB os[k] fs[k].olo fs[k].ohi)) := by
  unfold trueOk; rw [List.range_succ, List.all_append]; simp [h1, h2, h3]
theorem trueTo_succ (l : List Wear) (fs : List Fall) (hs os : List Int) (day : Int) (k : Nat) (h1 : k < fs.length) (h2 : k < hs.length) (h3 : k < os.length) : trueTo l fs hs os day (k + 1) = trueTo l fs hs os day k + if fs[k].day ≤ day then harmV l (facV hs[k] os[k]) else 0 := by
  rw [trueTo]; simp [h1, h2, h3]
theorem falls_at {R : Rope} (h : fallsTo R R.falls.length = true) {k : Nat} (hk : k < R.falls.length) : (1 ≤ R.falls[k].hlo ∧ R.falls[k].hlo ≤ R.falls[k].hhi ∧ R.falls[k].hhi ≤ 1000) ∧ (1 ≤ R.falls[k].olo ∧ R.falls[k].olo ≤ R.falls[k].ohi ∧ R.falls[k].ohi ≤ 1000) ∧ R.falls[k].day ≤ 99999 ∧ prevDay R k ≤ R.falls[k].day := by
  have h2 := fallsTo_mono (k := k + 1) (by omega) h
  rw [fallsTo_succ, Bool.and_eq_true, fallOk_is R k hk, Bool.and_eq_true, Bool.and_eq_true] at h2
  have a := withinB_true h2.2.1.1
  have b := orderedB_true h2.2.1.2
  have c := orderedB_true h2.2.2
  omega
theorem true_between {M : Model} {R : Rope} (hm : wearsTo M.wears M.wears.length = true) (hr : fallsTo R R.falls.length = true) (hs os : List Int) (day : Int) (h1 : hs.length = R.falls.length) (h2 : os.length = R.falls.length) :
    ∀ k, k ≤ R.falls.length → trueOk R.falls hs os k = true → sumLo M.wears R.falls day k ≤ trueTo M.wears R.falls hs os day k ∧ trueTo M.wears R.falls hs os day k ≤ sumHi M.wears R.falls day k := by
  intro k
  induction k with
  | zero => intro _ _; unfold sumLo sumHi trueTo; simp
  | succ k ih =>
    intro hk hok
    rw [trueOk_succ _ _ _ k (by omega) (by omega) (by omega), Bool.and_eq_true, Bool.and_eq_true] at hok
    have hi := ih (by omega) hok.1
    have a := withinB_true hok.2.1
    have b := withinB_true hok.2.2
    have c := falls_at hr (k := k) (by omega)
    rw [sumLo_succ _ _ _ k (by omega), sumHi_succ _ _ _ k (by omega), trueTo_succ _ _ _ _ _ k (by omega) (by omega) (by omega)]
    unfold dmgLo dmgHi
    have d1 := harmV_mono hm (facV_mono (h := R.falls[k].hlo) (h' := hs[k]) (o := R.falls[k].ohi) (o' := os[k]) a.1 b.2 (by omega) (by omega))
    have d2 := harmV_mono hm (facV_mono (h := hs[k]) (h' := R.falls[k].hhi) (o := os[k]) (o' := R.falls[k].olo) a.2 b.1 (by omega) (by omega))
    split <;> omega
theorem trueTo_bd {l : List Wear} (hl : ∀ x ∈ l, 0 ≤ x.damage ∧ x.damage ≤ 100) (fs : List Fall) (hs os : List Int) (day : Int) : ∀ k, 0 ≤ trueTo l fs hs os day k ∧ trueTo l fs hs os day k ≤ 100 * k := by
  intro k
  induction k with
  | zero => simp [trueTo]
  | succ k ih =>
    rw [trueTo]
    split
    · next f h o _ _ _ =>
      have : 0 ≤ harmV l (facV h o) ∧ harmV l (facV h o) ≤ 100 := harmTo_bd hl _ _
      split <;> omega
    · omega
theorem isFit_mono {M : Model} {R : Rope} {day a b : Int} (h : a ≤ b) (hb : isFitV M R day b = true) : isFitV M R day a = true := by
  unfold isFitV at *
  simp only [Bool.and_eq_true, decide_eq_true_eq] at *
  exact ⟨hb.1, by omega⟩
def baseTo (R : Rope) (k : Nat) : Int := (R.falls.take k).foldl (fun b f => max b f.day) (max R.made R.first)
def baseV (R : Rope) : Int := baseTo R R.falls.length
theorem baseTo_succ (R : Rope) (k : Nat) (h : k < R.falls.length) : baseTo R (k + 1) = max (baseTo R k) R.falls[k].day := by
  unfold baseTo; rw [List.take_succ_eq_append_getElem h, List.foldl_append]; rfl
theorem baseTo_ge (R : Rope) : ∀ k, k ≤ R.falls.length → R.made ≤ baseTo R k ∧ R.first ≤ baseTo R k ∧ ∀ i (h : i < R.falls.length), i < k → R.falls[i].day ≤ baseTo R k := by
  intro k
  induction k with
  | zero => intro _; unfold baseTo; simp; omega
  | succ k ih =>
    intro hk
    obtain ⟨h1, h2, h3⟩ := ih (by omega)
    rw [baseTo_succ R k (by omega)]
    refine ⟨by omega, by omega, fun i hi hik => ?_⟩
    by_cases hik' : i < k
    · have := h3 i hi hik'; omega
    · obtain rfl : i = k := by omega
      omega
theorem baseTo_le {R : Rope} (hr : fallsTo R R.falls.length = true) (h1 : R.made ≤ 99999) (h2 : R.first ≤ 99999) : ∀ k, k ≤ R.falls.length → baseTo R k ≤ 99999 := by
  intro k
  induction k with
  | zero => intro _; unfold baseTo; simp; omega
  | succ k ih =>
    intro hk
    have := ih (by omega)
    have c := falls_at hr (k := k) (by omega)
    rw [baseTo_succ R k (by omega)]
    omega
def untilV (M : Model) (R : Rope) : Int := if fitV M R (baseV R) (damHi M R (baseV R)) = true then endsV M R R.first else -1
theorem sumHi_day {l : List Wear} {fs : List Fall} {d d' : Int} (h : ∀ i (hi : i < fs.length), fs[i].day ≤ d) (h' : d ≤ d') : ∀ k, k ≤ fs.length → sumHi l fs d' k = sumHi l fs d k := by
  intro k
  induction k with
  | zero => intro _; rfl
  | succ k ih =>
    intro hk
    rw [sumHi_succ _ _ _ k (by omega), sumHi_succ _ _ _ k (by omega), ih (by omega)]
    unfold dmgHi
    have := h k (by omega)
    rw [if_pos (by omega), if_pos this]
theorem damHi_day (M : Model) (R : Rope) {day : Int} (h : baseV R ≤ day) : damHi M R day = damHi M R (baseV R) :=
  sumHi_day (fun i hi => (baseTo_ge R R.falls.length (Nat.le_refl _)).2.2 i hi hi) h _ (Nat.le_refl _)
theorem fit_late (M : Model) (R : Rope) {day : Int} (h : baseV R ≤ day) : fitV M R day (damHi M R day) = (decide (day ≤ endsV M R R.first) && decide (damHi M R (baseV R) ≤ M.bears)) := by
  have := (baseTo_ge R R.falls.length (Nat.le_refl _)).2.1
  unfold fitV
  rw [damHi_day M R h, if_neg (by unfold baseV at h; omega)]
theorem until_fit (M : Model) (R : Rope) {day : Int} (h : baseV R ≤ day) : fitV M R day (damHi M R day) = decide (untilV M R ≠ -1 ∧ day ≤ untilV M R) ∨ endsV M R R.first = -1 := by
  by_cases he : endsV M R R.first = -1
  · exact .inr he
  · left
    rw [fit_late M R h]
    have hb := fit_late M R (day := baseV R) (Int.le_refl _)
    unfold untilV
    rw [hb, Bool.eq_iff_iff]
    simp only [Bool.and_eq_true, decide_eq_true_eq]
    split <;> omega
theorem ends_bd {M : Model} {R : Rope} (h1 : 0 ≤ R.made) (h2 : 1 ≤ M.shelf) (h3 : 1 ≤ M.use) : 0 ≤ endsV M R R.first ∧ endsV M R R.first ≤ 99999 := by
  unfold endsV; split <;> omega
theorem until_bd {M : Model} {R : Rope} (h1 : 0 ≤ R.made) (h2 : 1 ≤ M.shelf) (h3 : 1 ≤ M.use) : untilV M R = -1 ∨ (baseV R ≤ untilV M R ∧ untilV M R ≤ 99999) := by
  have he := ends_bd (M := M) (R := R) h1 h2 h3
  have hb := fit_late M R (day := baseV R) (Int.le_refl _)
  unfold untilV
  rw [hb]
  split
  · next h => simp only [Bool.and_eq_true, decide_eq_true_eq] at h; right; omega
  · exact .inl rfl
theorem until_sure {M : Model} {R : Rope} (h1 : 0 ≤ R.made) (h2 : 1 ≤ M.shelf) (h3 : 1 ≤ M.use) {day : Int} (h : baseV R ≤ day) (h0 : 0 ≤ day) : fitV M R day (damHi M R day) = decide (day ≤ untilV M R) := by
  have he := ends_bd (M := M) (R := R) h1 h2 h3
  rcases until_fit M R h with h' | h'
  · rw [h', decide_eq_decide]; omega
  · omega
theorem until_run {M : Model} {R : Rope} (h1 : 0 ≤ R.made) (h2 : 1 ≤ M.shelf) (h3 : 1 ≤ M.use) (hb : baseV R ≤ 99999) (i : Nat) (hall : ∀ j, j < i → fitV M R (baseV R + (j : Nat)) (damHi M R (baseV R + (j : Nat))) = true) (hend : 99999 < baseV R + i ∨ fitV M R (baseV R + i) (damHi M R (baseV R + i)) = false) : (if i = 0 then -1 else baseV R + i - 1) = untilV M R := by
  have hb0 : 0 ≤ baseV R := by have := (baseTo_ge R R.falls.length (Nat.le_refl _)).1; unfold baseV; omega
  have hu := until_bd (M := M) (R := R) h1 h2 h3
  by_cases hi : i = 0
  · subst hi
    rw [if_pos rfl]
    rcases hend with h | h
    · simp at h; omega
    · rw [until_sure h1 h2 h3 (by omega) (by omega)] at h
      simp only [decide_eq_false_iff_not] at h
      omega
  · rw [if_neg hi]
    have hl := hall (i - 1) (by omega)
    rw [until_sure h1 h2 h3 (by omega) (by omega)] at hl
    simp only [decide_eq_true_eq] at hl
    rcases hend with h | h
    · omega
    · rw [until_sure h1 h2 h3 (by omega) (by omega)] at h
      simp only [decide_eq_false_iff_not] at h
      omega
def addFall (R : Rope) (f : Fall) : Rope := { R with falls := R.falls ++ [f] }
theorem dmgHi_nonneg {l : List Wear} (hl : ∀ x ∈ l, 0 ≤ x.damage ∧ x.damage ≤ 100) (f : Fall) (day : Int) : 0 ≤ dmgHi l f day := by
  unfold dmgHi
  split
  · exact (harmTo_bd hl _ _).1
  · omega
theorem damHi_add {M : Model} (hl : ∀ x ∈ M.wears, 0 ≤ x.damage ∧ x.damage ≤ 100) (R : Rope) (f : Fall) (day : Int) : damHi M R day ≤ damHi M (addFall R f) day := by
  have := dmgHi_nonneg hl f day
  unfold damHi addFall sumHi
  rw [List.take_length, List.take_length, List.map_append, List.sum_append]
  simp only [List.map_cons, List.map_nil, List.sum_cons, List.sum_nil]
  omega
theorem base_add (R : Rope) (f : Fall) : baseV R ≤ baseV (addFall R f) := by
  unfold baseV baseTo addFall
  rw [List.take_length, List.take_length, List.foldl_append]
  simp only [List.foldl_cons, List.foldl_nil]
  omega
theorem worse_sure {M : Model} (hl : ∀ x ∈ M.wears, 0 ≤ x.damage ∧ x.damage ≤ 100) (R : Rope) (f : Fall) (day : Int) (h : fitV M (addFall R f) day (damHi M (addFall R f) day) = true) : fitV M R day (damHi M R day) = true := by
  have := damHi_add hl R f day
  unfold fitV at *
  simp only [Bool.and_eq_true, decide_eq_true_eq] at *
  exact ⟨h.1, by omega⟩
theorem sooner_until {M : Model} {R : Rope} (hl : ∀ x ∈ M.wears, 0 ≤ x.damage ∧ x.damage ≤ 100) (f : Fall) (h1 : 0 ≤ R.made) (h2 : 1 ≤ M.shelf) (h3 : 1 ≤ M.use) : untilV M (addFall R f) ≤ max (untilV M R) (-1) := by
  have hb := fit_late M R (day := baseV R) (Int.le_refl _)
  have hb' := fit_late M (addFall R f) (day := baseV (addFall R f)) (Int.le_refl _)
  have ha := base_add R f
  have hd := damHi_day M R ha
  have hd' := damHi_add hl R f (baseV (addFall R f))
  have he : endsV M (addFall R f) (addFall R f).first = endsV M R R.first := rfl
  rw [he] at hb'
  by_cases h : untilV M (addFall R f) = -1
  · omega
  · have hf : fitV M (addFall R f) (baseV (addFall R f)) (damHi M (addFall R f) (baseV (addFall R f))) = true := by
      unfold untilV at h
      split at h
      · assumption
      · exact absurd rfl h
    have hu : untilV M (addFall R f) = endsV M R R.first := by unfold untilV; rw [if_pos hf]; exact he
    rw [hb'] at hf
    simp only [Bool.and_eq_true, decide_eq_true_eq] at hf
    have hu' : untilV M R = endsV M R R.first := by
      unfold untilV
      rw [hb, if_pos (by simp only [Bool.and_eq_true, decide_eq_true_eq]; omega)]
    omega
end Go.Proofs.Ytchinfamepolkaa
