import Derived.Test.YtabcmnfofekeeaaDoorWat8
namespace Go.Proofs.YtabcmnfofekeeaaDoor
open Go Go.Proofs Go.RowKit Go.Shelf
set_option maxHeartbeats 400000
set_option maxRecDepth 20000
attribute [local go_sem] Oper.semAt_some

theorem set_info : (Tryd.prog.info? 73).map (fun i => (i.zero, i.size, i.bytes)) = some (some (.int .u64 0), 1, 8) := by kernel_rfl
def u64s (l : List Nat) : List Value := l.map fun (x : Nat) => .int .u64 (x : Int)
theorem u64s_len (l : List Nat) : (u64s l).length = l.length := by simp [u64s]
/-- A slice of the call's own, read. -/
theorem own_sl {w : World} {base e sz n c : Nat} {A : Option Addr} {xs : List Value} (h : w.ownsRow base e sz (.slice A n c) n xs) : Sl w w.heap.size sz A n xs := by
  refine ⟨h.1, fun hn => ?_⟩
  obtain ⟨g, cap, hv, _, hlt⟩ := h.form hn
  have hA : A = some ⟨g, 0, none⟩ := by injection hv
  subst hA
  refine ⟨g, 0, rfl, hlt, fun j u hu => ?_⟩
  have := h.cells (g := g) rfl j u hu
  rcases Nat.eq_zero_or_pos j with rfl | hj
  · simpa [Addr.add] using this
  · rw [Addr.add, if_neg (by omega)] at this
    simpa using this

set_option maxHeartbeats 1000000 in
theorem appendSeq_any {L : List Nat} (gf : Nat) (lb : Array Value) (w : World) {Sp : List (Mem L) → Prop} {N : Nat} (hN : N ≤ 1024) (eg : ∀ (args : Array Value) (w : World), (callFunc gf args).run Tryd.prog w = .ok (.enter gf args) w)
    (hseq : SeqStopsK Fence.wide 2 Tryd.prog gf lb (fun x : Mem L => #[.int .u64 x.1]) (Below w.heap.size) (fun xs => vals xs = L) Sp N w) :
    Calls Tryd.prog 82 #[.slice none 0 0, .func (.func gf) #[] lb] w fun e w' => ∃ A c, e = .returned (.slice A L.length c) ∧ Sl w' w'.heap.size 1 A L.length (u64s L) ∧ (A = none ↔ L = []) ∧ From w.heap.size A ∧ Ext w w' := by
  obtain ⟨i0, hi, hz0, hz1, hz2⟩ := info_parts set_info
  refine (callsIn_wide (n := 3)).1 ?_
  refine callsIn_of_wp_marks Tryd.func82 rfl trivial ?_ rfl
  simp only [Tryd.ntmps82, List.size_toArray, List.length_cons, List.length_nil, Nat.reduceAdd, Nat.reduceSub, Array.replicate_succ, Array.replicate_zero, List.push_toArray, List.append_toArray, List.nil_append, List.cons_append]
  gi_wp2_with fail
  have bO := Boxed.new w 70 (.slice none 0 0)
  have hB0 : Below w.heap.size w (w.alloc (.cells #[.slice none 0 0] 70)) := (Below.refl _ w).alloc (Nat.le_refl _) _
  refine wpIn_rangeFunc_ownG rfl (by omega) (gf := gf) (lb := lb) rfl trivial eg
    hseq belowK_t (belowK_b (by simp)) hB0 (fun _ => rfl)
    (fun pre W => (∃ v, Boxed W w.heap.size 70 v ∧ W.ownsRow w.heap.size 73 1 v (vals pre).length (u64s (vals pre)) ∧ (v = .slice none 0 0 ↔ vals pre = [])) ∧ Below w.heap.size w W)
    (fun _ _ _ => False)
    (OwnFrom.and (Own.from (holdsRow_own w.heap.size w.heap.size 70 73 1 (fun pre => (vals pre).length) (fun pre => u64s (vals pre)) (fun pre v => v = .slice none 0 0 ↔ vals pre = [])) _) (ownFrom_below (Nat.le_refl _) (by simp)))
    (fun _ _ _ _ _ hs _ _ => hs)
    ⟨⟨_, bO, World.ownsRow_nil _ _ _ _, by simp [vals]⟩, hB0⟩
    (fun x => { tmps := #[.slice none 0 0, .func (.func gf) #[] lb, .pointer (some ⟨w.heap.size, 0, none⟩), undef, .slice none 0 0, .int .u64 x.1, .func (.func gf) #[] lb, .int .u64 x.1, undef, undef, undef, undef, undef], defers := [] }) ?assign ?body ?done ?stop
  case assign =>
    intro l x W K hK
    gi_wp2
    exact hK
  case body =>
    rintro l pre x W ⟨⟨v, hv, hrow, hnil⟩, hB⟩ hlt
    have hc := hv.cell
    have hpl : (vals pre).length = pre.length := by simp [vals]
    have HPL := Lib.hid hpl
    have hpl2 : (vals pre).length ≤ 1024 := by omega
    clear hpl
    gi_wp2_with (gi_at_builtin; refine wpListIn_append_own _ rfl _ _ 70 rfl w.heap.size 73 i0 (.int .u64 0) 1 8 Tryd.underlying70 hi hz0 hz1 hz2 rfl (by decide) _ _ _ rfl (hrow.alloc _) ⟨W.heap.size, 0, none⟩ 1 1 [.int .u64 x.1] rfl rfl (cell_one_new _ _ _) (by simp [Value.oneCell']) (by unfold maxLen; omega) (by omega) (by have := hB.size; simp; omega) ?_; intro v' w1 hown' hgrow _; obtain ⟨g', cap', rfl⟩ := ownsRow_succ hown'; obtain ⟨hv1, hv2, hr2, hk2, hb2⟩ := hv.appended (by decide) hrow hB.size (Nat.le_refl _) hown' hgrow; have hc1 := hv1.cell; have hf1 := hv1.frozen)
    exact ⟨hk2.from _, hb2, ⟨_, hv2, by rw [vals_snoc]; simpa [u64s] using hr2, by rw [vals_snoc]; simp⟩, hB.trans hb2⟩
  case done =>
    rintro D ys W hD hS ⟨⟨v, hv, hrow, hnil⟩, hB⟩ hK
    have hc := hv.cell
    gi_wp2
    refine ⟨by simp, .inl ⟨_, _, rfl, run_takeDeferred hK, ?_⟩⟩
    refine ⟨_, results_tmp rfl _ _ _, ?_⟩
    have hrow2 := ownsRow_putObj hrow (.deferred none) hK rfl
    rw [hS] at hrow2 hnil
    have hv' : ∃ A c, v = .slice A L.length c ∧ (A = none ↔ L = []) ∧ From w.heap.size A := by
      rcases hrow2.2 with ⟨h1, h2⟩ | ⟨g, cap, cur, h1, hbase, _⟩
      · have hL : L = [] := hnil.1 h1
        subst hL
        exact ⟨none, 0, h1, by simp, fun a e => by cases e⟩
      · refine ⟨_, cap, h1, ?_, fun a e => by cases e; exact hbase⟩
        have h3 : ¬ L = [] := fun h => by have := hnil.2 h; rw [h1] at this; simp at this
        simp [h3]
    obtain ⟨A, c, rfl, hA, hfr⟩ := hv'
    exact ⟨A, c, rfl, own_sl hrow2, hA, hfr, hB.trans (belowK_b (w := w) (Nat.le_refl _) W D _ _ (by simp at hD; omega) hK rfl rfl)⟩
  case stop =>
    rintro D c pre W _ _ h _
    exact h.elim

theorem collect_any {L : List Nat} (gf : Nat) (lb : Array Value) (w : World) {Sp : List (Mem L) → Prop} {N : Nat} (hN : N ≤ 1024) (eg : ∀ (args : Array Value) (w : World), (callFunc gf args).run Tryd.prog w = .ok (.enter gf args) w)
    (hseq : SeqStopsK Fence.wide 2 Tryd.prog gf lb (fun x : Mem L => #[.int .u64 x.1]) (Below w.heap.size) (fun xs => vals xs = L) Sp N w) :
    Calls Tryd.prog 71 #[.func (.func gf) #[] lb] w fun e w' => ∃ A c, e = .returned (.slice A L.length c) ∧ Sl w' w'.heap.size 1 A L.length (u64s L) ∧ (A = none ↔ L = []) ∧ From w.heap.size A ∧ Ext w w' := by
  have HS := Lib.hid hseq
  clear hseq
  go_enter Tryd.func71, Tryd.ntmps71
  go_wp2_with fail
  refine (appendSeq_any gf lb w hN eg HS.out).mono ?_
  rintro e w1 ⟨A, c, rfl, h1, h2, hfr, h3⟩
  have H1 := Lib.hid h1
  have H2 := Lib.hid h2
  clear h1 h2
  go_wp2_with fail
  go_ret
  exact ⟨A, c, rfl, H1.out, H2.out, hfr, h3⟩

theorem ftruths_any (As Am A : Option Addr) (n cs m cm k c : Nat) (most misses alarms : Int) (w : World) :
    Calls Tryd.prog 72 #[wv As Am n cs m cm most misses alarms, .slice A k c] w fun e w' => e = .returned (.func (.func 83) #[] #[.pointer (some ⟨w.heap.size, 0, none⟩), .pointer (some ⟨w.heap.size + 1, 0, none⟩)]) ∧
      w' = (w.alloc (.cells #[.slice As n cs, .int .i64 most, .int .i64 misses, .int .i64 alarms, .slice Am m cm] 69)).alloc (.cells #[.slice A k c] 23) := by
  go_enter Tryd.func72, Tryd.ntmps72
  go_wp2
  go_ret
  exact ⟨rfl, rfl⟩

/-- 'slices.Collect(f.truths(samples))'. -/
theorem collectTruths_any (As Am A : Option Addr) (n cs m cm c : Nat) (most misses alarms : Int) (l : List Sample) (w : World) (hn : n ≤ 8) (hl : l.length ≤ 1073741824)
    (hs : SlOf samC 2 w w.heap.size A l) (hmx : MixNat l) (L : List Nat) (hL : truthsTo (2 ^ n) most misses alarms l = L) (w2 : World) (p : Nat) (hp : p = w.heap.size)
    (hw2 : w2 = (w.alloc (.cells #[.slice As n cs, .int .i64 most, .int .i64 misses, .int .i64 alarms, .slice Am m cm] 69)).alloc (.cells #[.slice A l.length c] 23)) :
    Calls Tryd.prog 71 #[.func (.func 83) #[] #[.pointer (some ⟨p, 0, none⟩), .pointer (some ⟨p + 1, 0, none⟩)]] w2 fun e w' => ∃ A c, e = .returned (.slice A L.length c) ∧ Sl w' w'.heap.size 1 A L.length (u64s L) ∧ (A = none ↔ L = []) ∧ From w.heap.size A ∧ Ext w w' := by
  subst hL
  subst hp
  have he : Ext w w2 := by rw [hw2]; exact ((Ext.refl w).alloc _).alloc _
  have hN : (truthsTo (2 ^ n) most misses alarms l).length ≤ 1024 := by
    have h1 : (truthsTo (2 ^ n) most misses alarms l).length ≤ 2 ^ n := by
      unfold truthsTo; have := List.length_filter_le (possN most misses alarms l) (List.range (2 ^ n)); simpa using this
    have h2 : (2 : Nat) ^ n ≤ 2 ^ 8 := Nat.pow_le_pow_right (by omega) hn
    omega
  refine (collect_any _ _ w2 hN (enters_of Tryd.func83 (by kernel_rfl) rfl)
    (truths1_stops 2 (by omega) w.heap.size (w.heap.size + 1) As Am A n cs m cm c most misses alarms l w2 hn hl ?_ ?_ ?_ ((hs.below he (Nat.le_refl _)).more he.size) hmx)).mono ?_
  · rw [hw2]
    refine ⟨by simp; omega, ?_, ?_, ?_, ?_, ?_⟩ <;> go_simp
  · rw [hw2]; simp
  · rw [hw2]; go_simp
  · rintro e w' ⟨A, c, rfl, h1, h2, hfr, h3⟩
    exact ⟨A, c, rfl, h1, h2, hfr.more he.size, he.trans h3⟩
theorem neq_func_nil (g : Nat) (caps : Array Value) (w : World) : (binOp .neq 78 (.func (.func g) #[] caps) .nilFunc).run Tryd.prog w = .ok (.bool true) w := by kernel_rfl
theorem neq_nil_nil (w : World) : (binOp .neq 78 .nilFunc .nilFunc).run Tryd.prog w = .ok (.bool false) w := by kernel_rfl
end Go.Proofs.YtabcmnfofekeeaaDoor
