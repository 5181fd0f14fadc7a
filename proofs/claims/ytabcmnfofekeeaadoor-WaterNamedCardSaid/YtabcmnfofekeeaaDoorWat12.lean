import Derived.Test.YtabcmnfofekeeaaDoorWat11
namespace Go.Proofs.YtabcmnfofekeeaaDoor
open Go Go.Proofs Go.RowKit Go.Shelf
set_option maxHeartbeats 800000
set_option maxRecDepth 20000

theorem int_info : (Tryd.prog.info? 3).map (fun i => (i.zero, i.size, i.bytes)) = some (some (.int .i64 0), 1, 8) := by kernel_rfl
def natC (x : Nat) : List Value := [.int .u64 (x : Int)]
def natI (x : Nat) : List Value := [.int .i64 (x : Int)]
theorem natC_len (x : Nat) : (natC x).length = 1 := rfl
theorem natI_len (x : Nat) : (natI x).length = 1 := rfl
theorem u64s_flat (l : List Nat) : l.flatMap natC = u64s l := by
  induction l with
  | nil => rfl
  | cons a l ih => simp [List.flatMap_cons, natC, u64s, ih]
def i64s (l : List Nat) : List Value := l.map fun (x : Nat) => .int .i64 (x : Int)
theorem i64s_flat (l : List Nat) : l.flatMap natI = i64s l := by
  induction l with
  | nil => rfl
  | cons a l ih => simp [List.flatMap_cons, natI, i64s, ih]
theorem sl_nats {w : World} {B : Nat} {A : Option Addr} {l : List Nat} (h : Sl w B 1 A l.length (u64s l)) : SlOf natC 1 w B A l := by unfold SlOf; rw [u64s_flat]; exact h
theorem sl_ints {w : World} {B : Nat} {A : Option Addr} {l : List Nat} (h : Sl w B 1 A l.length (i64s l)) : SlOf natI 1 w B A l := by unfold SlOf; rw [i64s_flat]; exact h

theorem truthsW_mem {W : Water} (hv : validB W = true) {t : Nat} (h : t ∈ truthsW W) : t < 256 := by
  have h1 := truthsTo_mem h
  have h2 := pow_le8 (valid_len hv).2
  omega
theorem truthsW_len {W : Water} (hv : validB W = true) : (truthsW W).length ≤ 256 := by
  have h1 : (truthsW W).length ≤ 2 ^ W.springs.length := by
    unfold truthsW truthsTo; have := List.length_filter_le (possN W.most W.misses W.alarms W.samples) (List.range (2 ^ W.springs.length)); simpa using this
  have h2 := pow_le8 (valid_len hv).2
  omega

/-! ### fouls -/
def someTo (l : List Nat) : Nat := l.foldl (· ||| ·) 0
def allTo (l : List Nat) : Nat := l.foldl (· &&& ·) (2 ^ 64 - 1)
theorem someTo_succ (l : List Nat) (k : Nat) (h : k < l.length) : someTo (l.take (k + 1)) = someTo (l.take k) ||| l[k] := by
  rw [List.take_succ_eq_append_getElem h]; unfold someTo; rw [List.foldl_append]; rfl
theorem allTo_succ (l : List Nat) (k : Nat) (h : k < l.length) : allTo (l.take (k + 1)) = allTo (l.take k) &&& l[k] := by
  rw [List.take_succ_eq_append_getElem h]; unfold allTo; rw [List.foldl_append]; rfl
theorem someTo_lt (l : List Nat) (h : ∀ t ∈ l, t < 256) : someTo l < 256 := by
  unfold someTo
  suffices H : ∀ (l : List Nat) (a : Nat), a < 256 → (∀ t ∈ l, t < 256) → l.foldl (· ||| ·) a < 256 from H l 0 (by omega) h
  intro l
  induction l with
  | nil => intro a ha _; exact ha
  | cons b l ih => intro a ha hl; exact ih _ (Nat.or_lt_two_pow (n := 8) ha (hl b (by simp))) (fun t ht => hl t (by simp [ht]))
theorem allTo_lt (l : List Nat) : allTo l < 2 ^ 64 := by
  unfold allTo
  suffices H : ∀ (l : List Nat) (a : Nat), a < 2 ^ 64 → l.foldl (· &&& ·) a < 2 ^ 64 from H l _ (by omega)
  intro l
  induction l with
  | nil => intro a ha; exact ha
  | cons b l ih => intro a ha; exact ih _ (Nat.lt_of_le_of_lt Nat.and_le_left ha)
theorem orN (a b : Nat) (ha : a < 256) (hb : b < 256) : bits .or .u64 (a : Int) (b : Int) = ((a ||| b : Nat) : Int) := u64_or_nat a b (by omega) (by omega)
theorem andN (a b : Nat) (ha : a < 2 ^ 64) (hb : b < 256) : bits .and .u64 (a : Int) (b : Int) = ((a &&& b : Nat) : Int) := u64_and_nat a b (by omega) (by omega)

theorem fouls_any (A : Option Addr) (c : Nat) (l : List Nat) (w : World) (hl : l.length ≤ 1024) (hm : ∀ t ∈ l, t < 256) (hs : SlOf natC 1 w w.heap.size A l) :
    Calls Tryd.prog 43 #[.slice A l.length c] w fun e w' => e = .returned (.tuple #[.int .u64 (someTo l), .int .u64 (allTo l)]) ∧ w = w' := by
  have HM := Lib.hid hm
  clear hm
  go_enter Tryd.func43, Tryd.ntmps43
  go_wp2_with fail
  go_loopg [2, 3, 10] l.length (fun gk s a i wr => ∃ k : Nat, k + gk = l.length ∧ i = .int .i64 k ∧ s = .int .u64 (someTo (l.take k)) ∧ a = .int .u64 (allTo (l.take k)) ∧ w = wr)
  case atStart => exact ⟨0, by omega, rfl, rfl, rfl, rfl⟩
  case round =>
    obtain ⟨k, hk, rfl, rfl, rfl, rfl⟩ := hrel
    have HK : k ≤ l.length := by omega
    have HKG := Lib.hid hk
    clear hk
    by_cases hlt : k < l.length
    · obtain ⟨b, off, rfl, hbl, hc⟩ := hs.at_ natC_len hlt
      have c0 := hc 0 _ (by omega) rfl
      clear hc
      simp only [Nat.add_zero, Nat.mul_one] at c0
      have hx := HM.out l[k] (List.getElem_mem hlt)
      have hsm := someTo_lt (l.take k) (fun t ht => HM.out t (List.mem_of_mem_take ht))
      have E1 := Lib.hid (orN _ _ hsm hx)
      have E2 := Lib.hid (andN _ _ (allTo_lt (l.take k)) hx)
      have S1 := Lib.hid (someTo_succ l k hlt)
      have S2 := Lib.hid (allTo_succ l k hlt)
      go_wp2_with fail
      go_roundg (gk - 1)
      case measure => have := HKG.out; omega
      case rel => exact ⟨k + 1, by have := HKG.out; omega, by go_num, val_int (by rw [S1.out, ← E1.out]), val_int (by rw [S2.out, ← E2.out]), rfl⟩
    · obtain rfl : k = l.length := by omega
      rw [List.take_length] at *
      go_wp2_with fail
      go_ret2
      exact ⟨rfl, rfl⟩

/-! ### clean -/
def cleanN (l : List Nat) (m : Nat) : Nat := l.countP fun t => t &&& m == 0
theorem cleanN_le (l : List Nat) (m : Nat) : cleanN l m ≤ l.length := List.countP_le_length
theorem cleanN_succ (l : List Nat) (m k : Nat) (h : k < l.length) : cleanN (l.take (k + 1)) m = cleanN (l.take k) m + (if (l[k] &&& m == 0) = true then 1 else 0) := by
  rw [List.take_succ_eq_append_getElem h]; unfold cleanN; rw [List.countP_append, List.countP_cons, List.countP_nil, Nat.zero_add]
theorem clean_any (A : Option Addr) (c : Nat) (l : List Nat) (m : Nat) (w : World) (hl : l.length ≤ 1024) (hm : ∀ t ∈ l, t < 256) (hmx : m < 256) (hs : SlOf natC 1 w w.heap.size A l) :
    Calls Tryd.prog 52 #[.slice A l.length c, .int .u64 m] w fun e w' => e = .returned (.int .i64 (cleanN l m)) ∧ w = w' := by
  have HM := Lib.hid hm
  clear hm
  go_enter Tryd.func52, Tryd.ntmps52
  go_wp2_with fail
  go_loopg [4, 9] l.length (fun gk s i wr => ∃ k : Nat, k + gk = l.length ∧ i = .int .i64 k ∧ s = .int .i64 (cleanN (l.take k) m) ∧ w = wr)
  case atStart => exact ⟨0, by omega, rfl, rfl, rfl⟩
  case round =>
    obtain ⟨k, hk, rfl, rfl, rfl⟩ := hrel
    have HK : k ≤ l.length := by omega
    have HKG := Lib.hid hk
    have hle := cleanN_le (l.take k) m
    have htl : (l.take k).length ≤ k := List.length_take_le _ _
    clear hk
    by_cases hlt : k < l.length
    · obtain ⟨b, off, rfl, hbl, hc⟩ := hs.at_ natC_len hlt
      have c0 := hc 0 _ (by omega) rfl
      clear hc
      simp only [Nat.add_zero, Nat.mul_one] at c0
      have hx := HM.out l[k] (List.getElem_mem hlt)
      have S1 := Lib.hid (cleanN_succ l m k hlt)
      cases hp : (l[k] &&& m != 0)
      all_goals
        have hp2 : (l[k] &&& m == 0) = !(l[k] &&& m != 0) := by simp [bne]
        rw [hp] at hp2
        have HP := Lib.hid hp
        have HP2 := Lib.hid hp2
        clear hp hp2
        go_wp2_with (go_at_call 47; refine (meets_any _ _ _ (by omega) (by omega)).mono ?_; rintro e w1 ⟨rfl, rfl⟩; rw [HP.out])
        go_roundg (gk - 1)
        case measure => have := HKG.out; omega
        case rel => exact ⟨k + 1, by have := HKG.out; omega, by go_num, val_int (by rw [S1.out, HP2.out]; simp), rfl⟩
    · obtain rfl : k = l.length := by omega
      rw [List.take_length] at *
      go_wp2_with fail
      go_ret
      exact ⟨rfl, rfl⟩
end Go.Proofs.YtabcmnfofekeeaaDoor
