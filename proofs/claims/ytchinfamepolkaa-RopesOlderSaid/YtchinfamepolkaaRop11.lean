/- Ropes: Prop and Level. -/
import Derived.Test.YtchinfamepolkaaRop10
import Derived.Deep.RegionHeld3
namespace Go.Proofs.Ytchinfamepolkaa
set_option linter.unusedSimpArgs false
set_option linter.unusedVariables false
set_option linter.unusedSectionVars false
open Go Go.Proofs Go.RowKit Go.Shelf
set_option maxHeartbeats 1000000
set_option maxRecDepth 20000

theorem posts_bd {l : List Post} (h : arePosts l = true) : PostBd l := by
  unfold arePosts at h
  rw [Bool.and_eq_true] at h
  have hk : ∀ k, k ≤ l.length → postsTo l k = true := fun k hk => by
    have h2 := h.2
    unfold postsTo at h2 ⊢
    rw [List.all_eq_true] at h2 ⊢
    exact fun x hx => h2 x (by simp at hx ⊢; omega)
  intro p hp
  obtain ⟨k, hlt, rfl⟩ := List.getElem_of_mem hp
  have h1 := hk (k + 1) (by omega)
  rw [postsTo_succ, Bool.and_eq_true] at h1
  have hb := prevAt_bd (by omega) h1.1
  have h2 := h1.2
  unfold postOk at h2
  rw [List.getElem?_eq_getElem hlt] at h2
  simp only [withinB, orderedB, Bool.and_eq_true, decide_eq_true_eq] at h2
  omega
theorem i64_xor1 (s : Nat) (h : s < 256) (e : Int) : bits .xor .i64 (if IntKind.i64.signed = true then -1 else e) (s : Int) = -(s : Int) - 1 := by
  show IntKind.i64.wrap ((BitVec.ofInt 64 (-1) ^^^ BitVec.ofInt 64 (s : Int)).toNat : Int) = _
  rw [show BitVec.ofInt 64 (-1) = BitVec.allOnes 64 by decide, BitVec.allOnes_xor, BitVec.toNat_not, BitVec.toNat_ofInt, IntKind.wrap_i64]
  omega
def propB (l : List Post) (limit years : Int) (s : Nat) : Bool := levelB (selTo l (bitB (-(s : Int) - 1)) l.length) limit years
def propE (l : List Post) (limit years : Int) : Int := postsE l (withinB limit 0 1000 && withinB years 0 100)
def propL (l : List Post) (limit years : Int) : List Nat := if propE l limit years = 0 then (fewV l.length (propB l limit years)).getD [] else []
theorem postsE_ok {l : List Post} {told : Bool} (h : postsE l told = 0) : arePosts l = true ∧ told = true := by
  unfold postsE at h
  cases ha : arePosts l <;> simp [ha] at h
  cases told <;> simp at h
  exact ⟨rfl, rfl⟩
def runUp (P : Nat → Bool) : Nat → Nat → Nat
  | 0, y => y
  | n + 1, y => if P y then runUp P n (y + 1) else y
def levelE (l : List Post) (limit : Int) : Int := postsE l (withinB limit 0 1000)
def levelY (l : List Post) (limit : Int) : Nat := if levelE l limit = 0 then runUp (fun y => levelB l limit ((y : Int) + 1)) 100 0 else 0
theorem level_any2 (A : Option Addr) (c : Nat) (l : List Post) (limit : Int) (w : World) (hl : l.length ≤ 1000000) (hc : l.length ≤ c) (hs : SlOf postC 3 w w.heap.size A l) :
    Calls Try.prog 17 #[.slice A l.length c, .int .i64 limit] w fun e w' => e = .returned (.tuple #[.int .i64 (levelY l limit), .int .i64 (levelE l limit)]) ∧ Ext w w' := by
  have HS := Lib.hid hs
  clear hs
  by_cases he : levelE l limit = 0
  · have HN := Lib.hid he
    have hok := postsE_ok he
    have HBD := Lib.hid (posts_bd hok.1)
    have hn8 : l.length ≤ 8 := by have h := hok.1; unfold arePosts at h; rw [Bool.and_eq_true] at h; simpa using h.1
    have hlim : 0 ≤ limit ∧ limit ≤ 1000 := by have h := hok.2; simpa [withinB] using h
    have HL := Lib.hid (show levelY l limit = runUp (fun y => levelB l limit ((y : Int) + 1)) 100 0 by unfold levelY; rw [if_pos he])
    clear he hok
    go_enter Try.func17, Try.ntmps17
    go_wp2_with (first | (go_at_call 51; refine (within_any _ _ _ _).mono ?_; rintro e w1 ⟨rfl, rfl⟩) | (go_at_call 50; refine (checkPosts_any A c l _ _ hl HS.out).mono ?_; rintro e w2 ⟨rfl, hb2⟩; rw [show postsE l (withinB limit 0 1000) = 0 from HN.out]))
    have HB2 := Lib.hid hb2
    clear hb2
    go_loopg [7] 100 (fun gk i wr => ∃ y : Nat, y + gk = 100 ∧ i = .int .i64 y ∧ runUp (fun y => levelB l limit ((y : Int) + 1)) gk y = levelY l limit ∧ Ext w2 wr)
    case atStart => exact ⟨0, by omega, rfl, HL.out.symm, Ext.refl _⟩
    case round =>
      obtain ⟨y, hk, rfl, hrun, hb⟩ := hrel
      have HK : y ≤ 100 := by omega
      have HKG := Lib.hid hk
      have HB := Lib.hid hb
      have HR := Lib.hid hrun
      clear hk hb hrun
      have k0 : (0 : Int) ≤ (y : Int) := by omega
      have k1 := w64 ((y : Int) + 1) (by omega) (by omega)
      by_cases hlt : y < 100
      · have d1 : (y : Int) < 100 := by omega
        obtain ⟨g', hg'⟩ : ∃ g', gk = g' + 1 := ⟨gk - 1, by have := HKG.out; omega⟩
        have HG' := Lib.hid hg'
        clear hg'
        cases hv : levelB l limit ((y : Int) + 1)
        · have HV := Lib.hid hv
          have HRR := Lib.hid (show levelY l limit = y by rw [← HR.out, HG'.out, runUp]; simp [hv])
          clear hv
          go_wp2_with (go_at_call 52; refine (level_any A c l limit _ _ hn8 hc HBD.out hlim (by omega) (HS.out.ext (HB2.out.trans HB.out))).mono ?_; rintro e w3 ⟨rfl, hb3⟩; rw [HV.out])
          go_ret2
          rw [HRR.out, HN.out]
          exact ⟨rfl, (HB2.out.trans HB.out).trans hb3⟩
        · have HV := Lib.hid hv
          have HRR := Lib.hid (show runUp (fun y => levelB l limit ((y : Int) + 1)) g' (y + 1) = levelY l limit by rw [← HR.out, HG'.out, runUp]; simp [hv])
          clear hv
          go_wp2_with (go_at_call 52; refine (level_any A c l limit _ _ hn8 hc HBD.out hlim (by omega) (HS.out.ext (HB2.out.trans HB.out))).mono ?_; rintro e w3 ⟨rfl, hb3⟩; rw [HV.out])
          go_roundg (gk - 1)
          case measure => have := HKG.out; omega
          case rel => exact ⟨y + 1, by have := HKG.out; omega, by go_num, by rw [show gk - 1 = g' by have := HG'.out; omega]; exact HRR.out, HB.out.trans hb3⟩
      · have d1 : ¬ (y : Int) < 100 := by omega
        have HRR := Lib.hid (show levelY l limit = y by have h1 := HR.out; rw [show gk = 0 by have := HKG.out; omega, runUp] at h1; exact h1.symm)
        go_wp2_with fail
        go_ret2
        rw [HRR.out, HN.out]
        exact ⟨rfl, HB2.out.trans HB.out⟩
  · have HN := Lib.hid he
    have HL := Lib.hid (show levelY l limit = 0 by unfold levelY; rw [if_neg he])
    have n1 : ¬ postsE l (withinB limit 0 1000) = 0 := he
    have n2 : (postsE l (withinB limit 0 1000) == 0) = false := beq_eq_false_iff_ne.2 n1
    clear he
    go_enter Try.func17, Try.ntmps17
    go_wp2_with (first | (go_at_call 51; refine (within_any _ _ _ _).mono ?_; rintro e w1 ⟨rfl, rfl⟩) | (go_at_call 50; refine (checkPosts_any A c l _ _ hl HS.out).mono ?_; rintro e w2 ⟨rfl, hb2⟩))
    go_ret2
    rw [HL.out]
    exact ⟨rfl, hb2⟩
end Go.Proofs.Ytchinfamepolkaa
