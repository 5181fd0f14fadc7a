/- Ropes: an outing as it reads; Check, prepare and leads. -/
import Derived.Test.YtchinfamepolkaaRps8
namespace Go.Proofs.Ytchinfamepolkaa
set_option linter.unusedSimpArgs false
set_option linter.unusedVariables false
set_option linter.unusedSectionVars false
open Go Go.Proofs Go.RowKit
set_option maxHeartbeats 4000000
set_option maxRecDepth 20000

def rp (l : List RopeX) : List Rope := l.map fun r => r.rope
theorem same_len {l l' : List RopeX} (h : rp l' = rp l) : l'.length = l.length := by have := congrArg List.length h; simpa [rp] using this
theorem same_all {l l' : List RopeX} (h : rp l' = rp l) (p : Rope → Bool) : l'.all (fun r => p r.rope) = l.all (fun r => p r.rope) := by
  have : ∀ k : List RopeX, k.all (fun r => p r.rope) = (rp k).all p := fun k => by unfold rp; rw [List.all_map]; rfl
  rw [this, this, h]
theorem same_any {l l' : List RopeX} (h : rp l' = rp l) (p : Rope → Bool) (k : Nat) : (l'[k]?).any (fun r => p r.rope) = (l[k]?).any (fun r => p r.rope) := by
  have : ∀ m : List RopeX, (m[k]?).any (fun r => p r.rope) = ((rp m)[k]?).any p := fun m => by unfold rp; rw [List.getElem?_map]; cases m[k]? <;> rfl
  rw [this, this, h]
theorem same_lenN {O : Outing} {l' : List RopeX} (h : rp l' = rp O.ropes) (k : Nat) : lenN { O with ropes := l' } k = lenN O k := by
  have : ∀ m : List RopeX, (m[k]?).map (fun r => r.rope.length) = ((rp m)[k]?).map Rope.length := fun m => by unfold rp; rw [List.getElem?_map]; cases m[k]? <;> rfl
  unfold lenN
  simp only
  rw [this, this, h]
theorem same_checkE {O : Outing} {l' : List RopeX} (h : rp l' = rp O.ropes) : checkE { O with ropes := l' } = checkE O := by
  unfold checkE outB
  simp only [same_all h isRopeB, same_all h (fun r => decide (r.made ≤ O.day)), same_len h]
theorem same_fitIdx {O : Outing} {l' : List RopeX} (h : rp l' = rp O.ropes) (n : Nat) : fitIdx { O with ropes := l' } n = fitIdx O n := by
  unfold fitIdx
  simp only [same_any h (fun r => fitV O.model r O.day (damHi O.model r O.day))]
theorem same_fitA {O : Outing} {l' : List RopeX} (h : rp l' = rp O.ropes) : fitA { O with ropes := l' } = fitA O := by
  unfold fitA
  simp only [same_lenN h, same_fitIdx h, same_len h]
theorem ropes_news {w : World} {S : Nat → Prop} : ∀ (l : List RopeX) (news : List Value), news.length = (l.map fun r => ropeR r.rope).flatten.length → (∀ i d, (l.map fun r => ropeR r.rope).flatten[i]? = some d → Enc w S (news.getD i undef) d) →
    ∃ l' : List RopeX, rp l' = rp l ∧ news = l'.flatMap ropeC ∧ ∀ r ∈ l', SlOf fallC 5 w w.heap.size r.A r.rope.falls
  | [], news, hn, _ => ⟨[], rfl, List.eq_nil_of_length_eq_zero (by simpa using hn), fun r h => by cases h⟩
  | r :: l, [], hn, _ => by simp [ropeR] at hn
  | r :: l, [_], hn, _ => by simp [ropeR] at hn
  | r :: l, [_, _], hn, _ => by simp [ropeR] at hn
  | r :: l, [_, _, _], hn, _ => by simp [ropeR] at hn
  | r :: l, a :: b :: c :: d :: news, hn, h => by
    have h0 := (h 0 _ rfl).val_eq
    have h1 := (h 1 _ rfl).val_eq
    have h2 := (h 2 _ rfl).val_eq
    have h3 := h 3 _ rfl
    simp only [List.getD_cons_zero, List.getD_cons_succ] at h0 h1 h2 h3
    obtain ⟨A, cc, h4, _, h5⟩ := enc_slof h3
    obtain ⟨l', e1, e2, e3⟩ := ropes_news l news (by simp [ropeR] at hn ⊢; omega) fun i d hd => by
      have := h (i + 4) d (by rw [List.map_cons, List.flatten_cons]; exact hd)
      simpa using this
    subst h0 h1 h2 h4
    refine ⟨⟨r.rope, A, cc⟩ :: l', by unfold rp at e1 ⊢; simp [e1], ?_, fun x hx => ?_⟩
    · rw [List.flatMap_cons, ← e2]; rfl
    · rcases List.mem_cons.1 hx with rfl | hx
      · exact h5
      · exact e3 x hx
theorem enc_out {w : World} {S : Nat → Prop} {v : Value} {O : Outing} (h : Enc w S v (.agg (outA O))) : ∃ (a : OutA) (l' : List RopeX), rp l' = rp O.ropes ∧ v = outV a { O with ropes := l' } ∧ OutIn w a { O with ropes := l' } := by
  obtain ⟨xs, rfl, hn, hx⟩ := enc_agg h
  match xs, hn with
  | [x0, x1, x2, x3, x4, x5, x6, x7, x8, x9], _ =>
    have h0 := (hx 0 _ rfl).val_eq
    have h1 := (hx 1 _ rfl).val_eq
    have h2 := (hx 2 _ rfl).val_eq
    have h3 := hx 3 _ rfl
    have h4 := hx 4 _ rfl
    have h5 := (hx 5 _ rfl).val_eq
    have h6 := (hx 6 _ rfl).val_eq
    have h7 := (hx 7 _ rfl).val_eq
    have h8 := hx 8 _ rfl
    have h9 := hx 9 _ rfl
    simp only [List.getD_cons_zero, List.getD_cons_succ] at h0 h1 h2 h3 h4 h5 h6 h7 h8 h9
    obtain ⟨Ag, cg, e3, _, g3⟩ := enc_slof h3
    obtain ⟨Ac, cc, e4, _, g4⟩ := enc_slof h4
    obtain ⟨Am, cm, e8, _, g8⟩ := enc_slof h8
    obtain ⟨Ar, cr, news, e9, g9, n9, m9⟩ := enc_news h9
    obtain ⟨l', k1, k2, k3⟩ := ropes_news O.ropes news n9 m9
    rw [List.length_map, ← same_len k1] at e9 g9
    subst h0 h1 h2 e3 e4 h5 h6 h7 e8 e9
    exact ⟨⟨Ag, Ac, Am, Ar, cg, cc, cm, cr⟩, l', k1, rfl, g3, g4, g8, by unfold SlOf; rw [← k2]; exact g9, k3⟩
theorem same_OutLen {O : Outing} {l' : List RopeX} (h : rp l' = rp O.ropes) (hl : OutLen O) : OutLen { O with ropes := l' } := by
  refine ⟨hl.g, hl.c, hl.m, by show l'.length ≤ _; rw [same_len h]; exact hl.r, fun r hr => ?_⟩
  have h1 : r.rope ∈ rp O.ropes := by rw [← h]; exact List.mem_map.2 ⟨r, hr, rfl⟩
  obtain ⟨r', h2, h3⟩ := List.mem_map.1 h1
  rw [← h3]; exact hl.f r' h2
theorem check_a (O : Outing) (hl : OutLen O) : PC Try.prog 27 [.agg (outA O)] (.int (checkE O)) := by
  refine ⟨enters_of Try.func27 (by kernel_rfl) rfl, fun w S vs hn h => ?_⟩
  obtain ⟨xs, rfl, hn, hx⟩ := args_list hn h
  match xs, hn with
  | [x], _ =>
    obtain ⟨a, l', k1, k2, k3⟩ := enc_out (hx 0 _ rfl)
    simp only [List.getD_cons_zero] at k2
    subst k2
    refine (check_any a _ w (same_OutLen k1 hl) k3).mono ?_
    rintro e w' ⟨rfl, hw⟩
    exact ⟨hw, _, rfl, by rw [same_checkE k1]; exact .val _⟩
theorem prepareE_a (O : Outing) (hl : OutLen O) (he : ¬ checkE O = 0) : PC Try.prog 70 [.agg (outA O)] (.tup [.val (.pointer none), .int (checkE O)]) := by
  refine ⟨enters_of Try.func70 (by kernel_rfl) rfl, fun w S vs hn h => ?_⟩
  obtain ⟨xs, rfl, hn, hx⟩ := args_list hn h
  match xs, hn with
  | [x], _ =>
    obtain ⟨a, l', k1, k2, k3⟩ := enc_out (hx 0 _ rfl)
    simp only [List.getD_cons_zero] at k2
    subst k2
    refine (prepare_err a _ w (same_OutLen k1 hl) k3 (by rw [same_checkE k1]; exact he)).mono ?_
    rintro e w' ⟨rfl, hw⟩
    refine ⟨hw, _, rfl, ?_⟩
    rw [same_checkE k1]
    exact .tup _ _ rfl fun i d hi => by
      match i, hi with
      | 0, hi => injection hi with hi; subst hi; exact .val _
      | 1, hi => injection hi with hi; subst hi; exact .val _
      | n + 2, hi => simp at hi
theorem enc_nats {w : World} {S : Nat → Prop} {A : Option Addr} {c : Nat} {l : List Nat} (hs : SlOf natI 1 w w.heap.size A l) (hA : A = none ∨ ∃ g, A = some ⟨g, 0, none⟩ ∧ S g) (hc : l.length ≤ c) (hm : c ≤ maxLen) : Enc w S (.slice A l.length c) (slA natI 1 l) := by
  rcases Nat.eq_zero_or_pos l.length with h0 | h0
  · obtain rfl : l = [] := List.eq_nil_of_length_eq_zero h0
    exact .slnil A c 1 hm
  · obtain ⟨b, off, e, hb, hcell⟩ := hs.2 h0
    have hS : S b := by
      rcases hA with hA | ⟨g, hA, hg⟩
      · rw [e] at hA; cases hA
      · rw [e] at hA; injection hA with hA; injection hA with h1 h2; rw [h1]; exact hg
    subst e
    have hlen : (l.flatMap natI).length = l.length := by have := hs.1; omega
    have hfl : (l.map fun x => (natI x).map AV.val).flatten = (l.flatMap natI).map AV.val := by rw [List.flatMap_def, List.map_flatten, List.map_map]; rfl
    refine .sl b off l.length c 1 _ (fun j => (l.flatMap natI).getD j undef) (by simp) hc hm hS hb (flat_len natI (fun _ => rfl) l) (fun j hj => ?_) fun i j row d hi hj => ?_
    · exact hcell j _ (by rw [List.getD_eq_getElem?_getD, List.getElem?_eq_getElem (by omega)]; rfl)
    · have hd := flatten_at (flat_len natI (fun _ => rfl) l) i j row d hi hj
      rw [hfl, List.getElem?_map] at hd
      rw [List.getD_eq_getElem?_getD]
      cases hx : (l.flatMap natI)[i * 1 + j]? with
      | none => rw [hx] at hd; cases hd
      | some x => rw [hx] at hd; injection hd with hd; subst hd; exact .val _
theorem prepare_a (O : Outing) (hl : OutLen O) (he : checkE O = 0) : PC Try.prog 70 [.agg (outA O)] (.tup [.rp (outingA O), .int 0]) := by
  refine ⟨enters_of Try.func70 (by kernel_rfl) rfl, fun w S vs hn h => ?_⟩
  obtain ⟨xs, rfl, hn, hx⟩ := args_list hn h
  match xs, hn with
  | [x], _ =>
    have hx0 := hx 0 _ rfl
    obtain ⟨a, l', k1, k2, k3⟩ := enc_out hx0
    simp only [List.getD_cons_zero] at k2 hx0
    subst k2
    refine (prepare_any a _ w (same_OutLen k1 hl) k3 (by rw [same_checkE k1]; exact he)).mono ?_
    rintro e w' ⟨g, A, c, rfl, h1, h2, h3, hw, hg, hA, hcm⟩
    rw [same_fitA k1] at h1 h2 h3
    refine ⟨hw, _, rfl, .tup _ _ rfl fun i d hi => ?_⟩
    match i, hi with
    | 0, hi =>
      injection hi with hi; subst hi
      obtain ⟨hlt, hcell⟩ := h1
      have hlen : (outingA O).length = 11 := rfl
      refine .rp g 0 (outingA O) (fun j => (outC a { O with ropes := l' } ++ [Value.slice A (fitA O).size c]).getD j undef) (fun hlt' => absurd hlt' (Nat.not_lt.2 hg)) hlt (fun j hj => ?_) fun j d hd => ?_
      · rw [hlen] at hj
        rw [Nat.zero_add]
        refine hcell j _ ?_
        rw [List.getD_eq_getElem?_getD, List.getElem?_eq_getElem (by simp; omega)]
        rfl
      · rcases Nat.lt_or_ge j 10 with hj | hj
        · have h5 : (outA O)[j]? = some d := by unfold outingA at hd; rwa [List.getElem?_append_left (by exact hj)] at hd
          cases hx0 with
          | agg vs _ e f =>
            have h6 := ((f j d h5).ext hw).mono (S' := fun b => b < w.heap.size → S b) fun b _ hb _ => hb
            rw [List.getD_eq_getElem?_getD, List.getElem?_append_left (by exact hj), ← List.getD_eq_getElem?_getD]
            rwa [Array.getD_eq_getD_getElem?, List.getElem?_toArray, ← List.getD_eq_getElem?_getD] at h6
        · have hj' : j = 10 := by
            have := (List.getElem?_eq_some_iff.1 hd).1
            rw [hlen] at this; omega
          subst hj'
          injection hd with hd; subst hd
          have := enc_nats (S := fun b => b < w.heap.size → S b) (c := c) h3 (hA.imp id fun ⟨g', h6, h7⟩ => ⟨g', h6, fun h8 => absurd h8 (Nat.not_lt.2 h7)⟩) (by simpa using h2) hcm
          simpa using this
    | 1, hi => injection hi with hi; subst hi; exact .val _
    | n + 2, hi => simp at hi
theorem leads_a (O : Outing) (k : Nat) (hk : k < O.guides.length) (hl : O.guides.length ≤ 1000000) : PC Try.prog 103 [.rp (outingA O), .int k] (.bool (leadsB O k)) := by
  have hrow : (O.guides.map fun x => (guideC x).map AV.val)[k]? = some [.int O.guides[k].grade, .int O.guides[k].until_, .int O.guides[k].points] := slA_at guideC O.guides k hk
  rw [leadsB_is O k hk]
  unfold outingA outA slA
  generalize O.guides.map (fun x => (guideC x).map AV.val) = gg at *
  generalize AV.sl 1 (O.clients.map fun x => (intC x).map AV.val) = d4
  generalize AV.sl 2 (O.model.wears.map fun x => (wearC x).map AV.val) = d8
  generalize AV.sl 4 (O.ropes.map fun r => ropeR r.rope) = d9
  generalize AV.sl 1 ((fitA O).toList.map fun x => (natI x).map AV.val) = d10
  simp only [List.cons_append, List.nil_append]
  (refine PC.of' Try.func103 (by kernel_rfl) rfl (by simp only [Try.ntmps103, List.length_cons, List.length_nil, Nat.reduceAdd, Nat.reduceSub, List.replicate_succ, List.replicate_zero, List.cons_append, List.nil_append]; rfl) fun w0 S hM => ?_; have hF : Wf Fence.wide := .inl rfl)
  (repeat' (first | ((first | with_reducible refine AL.id_ ?_ | with_reducible refine AE.id_ ?_); first | refine AL.build0 hF rfl rfl rfl (fun b => ⟨_, (by simp only [AV.put]; rfl), ?_⟩) | refine W.s rfl rfl (by first | exact AY.bx rfl (by simp only [evO, AV.get]; rfl) rfl | exact AY.mkFn rfl (by simp only [List.map_cons, List.map_nil, evO, AV.get]; rfl) | exact AY.mkFn1 rfl (by simp only [evO, AV.get]; rfl) (by simp only [List.map_cons, List.map_nil, evO, AV.get]; rfl) | exact hEQ rfl rfl rfl | exact Step2.sound (by first | (((first | (apply Step2.a; constructor) | (apply Step2.b; constructor)) <;> first | infer_instance | skip) <;> (first | infer_instance | (refine w64c ?_; omega) | (refine wu64c ?_; omega) | (refine bits64 ?_; omega) | (refine quo64c ?_; omega) | (refine rem64 ?_; omega) | ((repeat (first | exact .head _ | refine .tail _ ?_)); done) | assumption | (simp only [List.drop_succ_cons, List.drop_zero, List.length_map, Nat.zero_add, Nat.mul_one]; rfl) | rfl | omega | (simp; done))) | fail) rfl | exact AY.call rfl rfl _ rfl (by fail) | exact AY.slice1 rfl rfl rfl (by rfl) (by first | (simp; done) | fail) | exact AY.callF rfl _ _ rfl _ rfl (by fail) | exact AY.old1k 0 rfl rfl rfl (by first | assumption | rfl) | exact AY.old1k 1 rfl rfl rfl (by first | assumption | rfl) | exact AY.old1k 2 rfl rfl rfl (by first | assumption | rfl) | exact AY.oldNk 0 rfl rfl rfl (by first | omega | (simp; omega)) (by first | assumption | rfl) | exact AY.oldNk 1 rfl rfl rfl (by first | omega | (simp; omega)) (by first | assumption | rfl)) (by simp only [AV.put]; rfl) ?_ | (refine AL.nilK (hK _ _ ?_); clear hK K) | (refine AE.nil (hK _ ?_); clear hK K) | refine W.k rfl rfl (by simp only [AV.put]; rfl) ?_ | refine AL.unguardS rfl rfl ?_ | refine AL.al hF rfl rfl rfl (by first | (simp only [Value.cells, List.map_cons, List.map_nil]; rfl) | rfl) (fun b => ⟨_, (by simp only [AV.put]; rfl), ?_⟩) | refine AL.st1 hF rfl rfl rfl rfl (by simp only [evO, AV.get]; rfl) (by first | exact hget0 | exact hget1 | exact hget2 | exact hget3 | exact hget4 | exact hget5 | exact hget6 | exact hget7) (by rfl) rfl (by rfl) (by first | (simp; done) | (simp; omega)) (by simp only [List.set]; rfl) ?_ | refine AL.stW hF rfl rfl rfl rfl (by simp only [evO, AV.get]; rfl) (by first | exact hget0 | exact hget1 | exact hget2 | exact hget3 | exact hget4 | exact hget5 | exact hget6 | exact hget7) (by rfl) (by rfl) (by rfl) (by first | rfl | simp) (by simp only [List.set]; rfl) ?_) | (with_reducible refine Awp.id_ ?_; first | refine Awp.seq ?_ | refine Awp.regionK (by first | (simp only [AV.putO, AV.put]; rfl) | rfl) (fun K hK => ?_) | refine Awp.drawE (by first | (simp only [AV.putO, AV.put]; rfl) | rfl) mixed rfl (by kernel_rfl) (fun K hK => ?_) | refine Awp.block ?_ | refine Awp.skip ?_ | refine Awp.exit ?_ | refine Awp.ret ?_ | refine Awp.condT rfl ?_ | refine Awp.condF rfl ?_) | refine thenA_n ?_ | refine thenA_e ?_ | refine thenA_r ?_ | refine inBlockA_n ?_ | refine inBlockA_r ?_ | refine inBlockA_s ?_ | refine inBlockA_d rfl ?_ | ((first | ((first | with_reducible refine AL.id_ ?_ | with_reducible refine AE.id_ ?_); (fail_if_success refine W.on rfl ?_); refine W.p rfl rfl (by simp only [AV.put]; rfl) (by simp only [AV.put]; rfl) (fun hb => ?_) (fun hb => ?_)) | (with_reducible refine Awp.id_ ?_; refine Awp.cond _ rfl (fun hb => ?_) (fun hb => ?_))) <;> (try simp only [z1, z2, z3, z4, z5, z6, z7, z8, y5, y6, y7, y8, z9, x1, x2, x3, x4, x5, x6, x7, x8] at hb; try (exfalso; omega)))))
  all_goals (refine retOne rfl (by simp only [AV.get, AV.put]; rfl) ?_)
  all_goals refine Out.bool ?_
  all_goals (simp; omega)
end Go.Proofs.Ytchinfamepolkaa
