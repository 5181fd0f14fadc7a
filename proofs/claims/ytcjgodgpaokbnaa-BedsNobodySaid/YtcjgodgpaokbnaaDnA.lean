/- Printed: what functions of the program compute. -/
import Derived.Test.YtcjgodgpaokbnaaDnT
namespace Go.Proofs.Ytcjgodgpaokbnaa
set_option linter.constructorNameAsVariable false
set_option linter.unusedSimpArgs false
set_option linter.unusedVariables false
set_option linter.unusedSectionVars false
open Go Go.Proofs Go.RowKit
set_option maxRecDepth 20000
noncomputable def bivouacref02_within_cs (n : Nat) : CL Try.prog := ⟨[], [], 0⟩
noncomputable def bivouacref02_within_lo (n : Nat) : Nat → St → PT (DEx × St) := fun _ _ => .fail
theorem bivouacref02_within_q : loopsOf (codeOf Try.f35) 0 = [] := by kernel_rfl
theorem bivouacref02_within_b : Try.f35.body = some (codeOf Try.f35) := by kernel_rfl
abbrev bivouacref02_within_a : List Ar := [.d T3, .d T3, .d T3]
abbrev bivouacref02_within_r : List Ty := [T4]
noncomputable def bivouacref02_within_M (n : Nat) (x : arsDen bivouacref02_within_a) : Option (tysDen bivouacref02_within_r) := (dcode tab (bivouacref02_within_cs n) (bivouacref02_within_lo n) (codeOf Try.f35) 0 (startS bivouacref02_within_a 15 x)).run (leafF tab [.tmp 6] bivouacref02_within_r)
noncomputable def bivouacref02_within_C (n : Nat) : Ct Try.prog := ⟨35, bivouacref02_within_a, .ts bivouacref02_within_r, bivouacref02_within_M n, fun _ _ h => fn_ok (B := tab) (cs := bivouacref02_within_cs n) (lo := bivouacref02_within_lo n) (rs := [.tmp 6]) Try.func35 (by kernel_rfl) bivouacref02_within_b (by kernel_rfl) (by decide) (hl_of bivouacref02_within_q all_nil) h⟩
noncomputable def bivouacref02_IsChain_cs (n : Nat) : CL Try.prog := ⟨[bivouacref02_within_C n], [], 0⟩
noncomputable def bivouacref02_IsChain_lo0 (n : Nat) : Nat → St → PT (DEx × St) := fun _ _ => .fail
abbrev bivouacref02_IsChain_i0 : List It := [.v (.t 3) T3, .obj (.t 1) false 24 2, .v (.c 0 0) T24]
abbrev bivouacref02_IsChain_o0 : List (DEx × List It) := [(.exit 0, [.obj (.t 1) false 24 2, .v (.c 0 0) T24]), (.ret, [.v (.t 2) T4])]
noncomputable def bivouacref02_IsChain_s0 (n : Nat) (rec : itsDen bivouacref02_IsChain_i0 → Option (outDen bivouacref02_IsChain_o0)) (s : itsDen bivouacref02_IsChain_i0) : Option (outDen bivouacref02_IsChain_o0) := (dcode tab (bivouacref02_IsChain_cs n) (bivouacref02_IsChain_lo0 n) (subC [true, false, true, false, false] (codeOf Try.f46)) 1 (mkS bivouacref02_IsChain_i0 38 s)).run (Lp.leaf 38 bivouacref02_IsChain_i0 bivouacref02_IsChain_o0 rec)
noncomputable def bivouacref02_IsChain_L0 (n : Nat) : Lp := ⟨38, bivouacref02_IsChain_i0, bivouacref02_IsChain_o0, iterO n (bivouacref02_IsChain_s0 n)⟩
theorem bivouacref02_IsChain_q0 : loopsOf (subC [true, false, true, false, false] (codeOf Try.f46)) 1 = [] := by kernel_rfl
theorem bivouacref02_IsChain_L0_ok (n : Nat) (st : St) (r : DEx × St) (h : ((bivouacref02_IsChain_L0 n).go st).Is r) : DA Try.prog false (.loop (subC [true, false, true, false, false] (codeOf Try.f46))) st r := Lp.ok (L := bivouacref02_IsChain_L0 n) (B := tab) (cs := bivouacref02_IsChain_cs n) (lo := bivouacref02_IsChain_lo0 n) (id := 0) rfl (hl_of bivouacref02_IsChain_q0 all_nil) (fun _ _ => rfl) h
noncomputable def bivouacref02_IsChain_lo (n : Nat) : Nat → St → PT (DEx × St) := fun k st => match k with
  | 0 => (bivouacref02_IsChain_L0 n).go st
  | _ => .fail
theorem bivouacref02_IsChain_q : loopsOf (codeOf Try.f46) 0 = [(0, .loop (subC [true, false, true, false, false] (codeOf Try.f46)))] := by kernel_rfl
theorem bivouacref02_IsChain_b : Try.f46.body = some (codeOf Try.f46) := by kernel_rfl
abbrev bivouacref02_IsChain_a : List Ar := [.d T24]
abbrev bivouacref02_IsChain_r : List Ty := [T4]
noncomputable def bivouacref02_IsChain_M (n : Nat) (x : arsDen bivouacref02_IsChain_a) : Option (tysDen bivouacref02_IsChain_r) := (dcode tab (bivouacref02_IsChain_cs n) (bivouacref02_IsChain_lo n) (codeOf Try.f46) 0 (startS bivouacref02_IsChain_a 38 x)).run (leafF tab [.tmp 2] bivouacref02_IsChain_r)
noncomputable def bivouacref02_IsChain_C (n : Nat) : Ct Try.prog := ⟨46, bivouacref02_IsChain_a, .ts bivouacref02_IsChain_r, bivouacref02_IsChain_M n, fun _ _ h => fn_ok (B := tab) (cs := bivouacref02_IsChain_cs n) (lo := bivouacref02_IsChain_lo n) (rs := [.tmp 2]) Try.func46 (by kernel_rfl) bivouacref02_IsChain_b (by kernel_rfl) (by decide) (hl_of bivouacref02_IsChain_q (all_cons (fun st r h => bivouacref02_IsChain_L0_ok n st r h) all_nil)) h⟩
noncomputable def bivouacref02_isRequest_cs (n : Nat) : CL Try.prog := ⟨[bivouacref02_within_C n], [], 0⟩
noncomputable def bivouacref02_isRequest_lo0 (n : Nat) : Nat → St → PT (DEx × St) := fun _ _ => .fail
abbrev bivouacref02_isRequest_i0 : List It := [.v (.t 5) T3, .v (.t 6) T3, .obj (.t 2) false 24 2, .v (.c 0 0) T24, .obj (.t 3) false 30 5, .v (.c 1 0) T30]
abbrev bivouacref02_isRequest_o0 : List (DEx × List It) := [(.exit 0, []), (.ret, [.v (.t 4) T4])]
noncomputable def bivouacref02_isRequest_s0 (n : Nat) (rec : itsDen bivouacref02_isRequest_i0 → Option (outDen bivouacref02_isRequest_o0)) (s : itsDen bivouacref02_isRequest_i0) : Option (outDen bivouacref02_isRequest_o0) := (dcode tab (bivouacref02_isRequest_cs n) (bivouacref02_isRequest_lo0 n) (subC [true, true, true, false, true, false, false] (codeOf Try.f68)) 1 (mkS bivouacref02_isRequest_i0 77 s)).run (Lp.leaf 77 bivouacref02_isRequest_i0 bivouacref02_isRequest_o0 rec)
noncomputable def bivouacref02_isRequest_L0 (n : Nat) : Lp := ⟨77, bivouacref02_isRequest_i0, bivouacref02_isRequest_o0, iterO n (bivouacref02_isRequest_s0 n)⟩
theorem bivouacref02_isRequest_q0 : loopsOf (subC [true, true, true, false, true, false, false] (codeOf Try.f68)) 1 = [] := by kernel_rfl
theorem bivouacref02_isRequest_L0_ok (n : Nat) (st : St) (r : DEx × St) (h : ((bivouacref02_isRequest_L0 n).go st).Is r) : DA Try.prog false (.loop (subC [true, true, true, false, true, false, false] (codeOf Try.f68))) st r := Lp.ok (L := bivouacref02_isRequest_L0 n) (B := tab) (cs := bivouacref02_isRequest_cs n) (lo := bivouacref02_isRequest_lo0 n) (id := 0) rfl (hl_of bivouacref02_isRequest_q0 all_nil) (fun _ _ => rfl) h
noncomputable def bivouacref02_isRequest_lo (n : Nat) : Nat → St → PT (DEx × St) := fun k st => match k with
  | 0 => (bivouacref02_isRequest_L0 n).go st
  | _ => .fail
theorem bivouacref02_isRequest_q : loopsOf (codeOf Try.f68) 0 = [(0, .loop (subC [true, true, true, false, true, false, false] (codeOf Try.f68)))] := by kernel_rfl
theorem bivouacref02_isRequest_b : Try.f68.body = some (codeOf Try.f68) := by kernel_rfl
abbrev bivouacref02_isRequest_a : List Ar := [.d T24, .d T30]
abbrev bivouacref02_isRequest_r : List Ty := [T4]
noncomputable def bivouacref02_isRequest_M (n : Nat) (x : arsDen bivouacref02_isRequest_a) : Option (tysDen bivouacref02_isRequest_r) := (dcode tab (bivouacref02_isRequest_cs n) (bivouacref02_isRequest_lo n) (codeOf Try.f68) 0 (startS bivouacref02_isRequest_a 77 x)).run (leafF tab [.tmp 4] bivouacref02_isRequest_r)
noncomputable def bivouacref02_isRequest_C (n : Nat) : Ct Try.prog := ⟨68, bivouacref02_isRequest_a, .ts bivouacref02_isRequest_r, bivouacref02_isRequest_M n, fun _ _ h => fn_ok (B := tab) (cs := bivouacref02_isRequest_cs n) (lo := bivouacref02_isRequest_lo n) (rs := [.tmp 4]) Try.func68 (by kernel_rfl) bivouacref02_isRequest_b (by kernel_rfl) (by decide) (hl_of bivouacref02_isRequest_q (all_cons (fun st r h => bivouacref02_isRequest_L0_ok n st r h) all_nil)) h⟩
noncomputable def bivouacref02_AreMessages_cs (n : Nat) : CL Try.prog := ⟨[bivouacref02_within_C n, bivouacref02_isRequest_C n], [], 0⟩
noncomputable def bivouacref02_AreMessages_lo0 (n : Nat) : Nat → St → PT (DEx × St) := fun _ _ => .fail
abbrev bivouacref02_AreMessages_i0 : List It := [.v (.t 1) T25, .v (.t 5) T3, .obj (.t 2) false 24 2, .v (.c 0 0) T24]
abbrev bivouacref02_AreMessages_o0 : List (DEx × List It) := [(.exit 0, [.v (.t 1) T25]), (.ret, [.v (.t 4) T4])]
noncomputable def bivouacref02_AreMessages_s0 (n : Nat) (rec : itsDen bivouacref02_AreMessages_i0 → Option (outDen bivouacref02_AreMessages_o0)) (s : itsDen bivouacref02_AreMessages_i0) : Option (outDen bivouacref02_AreMessages_o0) := (dcode tab (bivouacref02_AreMessages_cs n) (bivouacref02_AreMessages_lo0 n) (subC [true, false, true, false, false] (codeOf Try.f47)) 1 (mkS bivouacref02_AreMessages_i0 54 s)).run (Lp.leaf 54 bivouacref02_AreMessages_i0 bivouacref02_AreMessages_o0 rec)
noncomputable def bivouacref02_AreMessages_L0 (n : Nat) : Lp := ⟨54, bivouacref02_AreMessages_i0, bivouacref02_AreMessages_o0, iterO n (bivouacref02_AreMessages_s0 n)⟩
theorem bivouacref02_AreMessages_q0 : loopsOf (subC [true, false, true, false, false] (codeOf Try.f47)) 1 = [] := by kernel_rfl
theorem bivouacref02_AreMessages_L0_ok (n : Nat) (st : St) (r : DEx × St) (h : ((bivouacref02_AreMessages_L0 n).go st).Is r) : DA Try.prog false (.loop (subC [true, false, true, false, false] (codeOf Try.f47))) st r := Lp.ok (L := bivouacref02_AreMessages_L0 n) (B := tab) (cs := bivouacref02_AreMessages_cs n) (lo := bivouacref02_AreMessages_lo0 n) (id := 0) rfl (hl_of bivouacref02_AreMessages_q0 all_nil) (fun _ _ => rfl) h
noncomputable def bivouacref02_AreMessages_lo (n : Nat) : Nat → St → PT (DEx × St) := fun k st => match k with
  | 0 => (bivouacref02_AreMessages_L0 n).go st
  | _ => .fail
theorem bivouacref02_AreMessages_q : loopsOf (codeOf Try.f47) 0 = [(0, .loop (subC [true, false, true, false, false] (codeOf Try.f47)))] := by kernel_rfl
theorem bivouacref02_AreMessages_b : Try.f47.body = some (codeOf Try.f47) := by kernel_rfl
abbrev bivouacref02_AreMessages_a : List Ar := [.d T24, .d T25]
abbrev bivouacref02_AreMessages_r : List Ty := [T4]
noncomputable def bivouacref02_AreMessages_M (n : Nat) (x : arsDen bivouacref02_AreMessages_a) : Option (tysDen bivouacref02_AreMessages_r) := (dcode tab (bivouacref02_AreMessages_cs n) (bivouacref02_AreMessages_lo n) (codeOf Try.f47) 0 (startS bivouacref02_AreMessages_a 54 x)).run (leafF tab [.tmp 4] bivouacref02_AreMessages_r)
noncomputable def bivouacref02_AreMessages_C (n : Nat) : Ct Try.prog := ⟨47, bivouacref02_AreMessages_a, .ts bivouacref02_AreMessages_r, bivouacref02_AreMessages_M n, fun _ _ h => fn_ok (B := tab) (cs := bivouacref02_AreMessages_cs n) (lo := bivouacref02_AreMessages_lo n) (rs := [.tmp 4]) Try.func47 (by kernel_rfl) bivouacref02_AreMessages_b (by kernel_rfl) (by decide) (hl_of bivouacref02_AreMessages_q (all_cons (fun st r h => bivouacref02_AreMessages_L0_ok n st r h) all_nil)) h⟩
noncomputable def bivouacref02_Equal_cs (n : Nat) : CL Try.prog := ⟨[], [], 0⟩
noncomputable def bivouacref02_Equal_lo0 (n : Nat) : Nat → St → PT (DEx × St) := fun _ _ => .fail
abbrev bivouacref02_Equal_i0 : List It := [.v (.t 5) T3, .obj (.t 2) false 30 5, .v (.c 0 0) T30, .obj (.t 3) false 30 5, .v (.c 1 0) T30]
abbrev bivouacref02_Equal_o0 : List (DEx × List It) := [(.exit 0, []), (.ret, [.v (.t 4) T4])]
noncomputable def bivouacref02_Equal_s0 (n : Nat) (rec : itsDen bivouacref02_Equal_i0 → Option (outDen bivouacref02_Equal_o0)) (s : itsDen bivouacref02_Equal_i0) : Option (outDen bivouacref02_Equal_o0) := (dcode tab (bivouacref02_Equal_cs n) (bivouacref02_Equal_lo0 n) (subC [true, true, false, true, false, false] (codeOf Try.f42)) 1 (mkS bivouacref02_Equal_i0 59 s)).run (Lp.leaf 59 bivouacref02_Equal_i0 bivouacref02_Equal_o0 rec)
noncomputable def bivouacref02_Equal_L0 (n : Nat) : Lp := ⟨59, bivouacref02_Equal_i0, bivouacref02_Equal_o0, iterO n (bivouacref02_Equal_s0 n)⟩
theorem bivouacref02_Equal_q0 : loopsOf (subC [true, true, false, true, false, false] (codeOf Try.f42)) 1 = [] := by kernel_rfl
theorem bivouacref02_Equal_L0_ok (n : Nat) (st : St) (r : DEx × St) (h : ((bivouacref02_Equal_L0 n).go st).Is r) : DA Try.prog false (.loop (subC [true, true, false, true, false, false] (codeOf Try.f42))) st r := Lp.ok (L := bivouacref02_Equal_L0 n) (B := tab) (cs := bivouacref02_Equal_cs n) (lo := bivouacref02_Equal_lo0 n) (id := 0) rfl (hl_of bivouacref02_Equal_q0 all_nil) (fun _ _ => rfl) h
noncomputable def bivouacref02_Equal_lo (n : Nat) : Nat → St → PT (DEx × St) := fun k st => match k with
  | 0 => (bivouacref02_Equal_L0 n).go st
  | _ => .fail
theorem bivouacref02_Equal_q : loopsOf (codeOf Try.f42) 0 = [(0, .loop (subC [true, true, false, true, false, false] (codeOf Try.f42)))] := by kernel_rfl
theorem bivouacref02_Equal_b : Try.f42.body = some (codeOf Try.f42) := by kernel_rfl
abbrev bivouacref02_Equal_a : List Ar := [.d T30, .d T30]
abbrev bivouacref02_Equal_r : List Ty := [T4]
noncomputable def bivouacref02_Equal_M (n : Nat) (x : arsDen bivouacref02_Equal_a) : Option (tysDen bivouacref02_Equal_r) := (dcode tab (bivouacref02_Equal_cs n) (bivouacref02_Equal_lo n) (codeOf Try.f42) 0 (startS bivouacref02_Equal_a 59 x)).run (leafF tab [.tmp 4] bivouacref02_Equal_r)
noncomputable def bivouacref02_Equal_C (n : Nat) : Ct Try.prog := ⟨42, bivouacref02_Equal_a, .ts bivouacref02_Equal_r, bivouacref02_Equal_M n, fun _ _ h => fn_ok (B := tab) (cs := bivouacref02_Equal_cs n) (lo := bivouacref02_Equal_lo n) (rs := [.tmp 4]) Try.func42 (by kernel_rfl) bivouacref02_Equal_b (by kernel_rfl) (by decide) (hl_of bivouacref02_Equal_q (all_cons (fun st r h => bivouacref02_Equal_L0_ok n st r h) all_nil)) h⟩
noncomputable def bivouacref02_clash_cs (n : Nat) : CL Try.prog := ⟨[bivouacref02_Equal_C n], [], 0⟩
noncomputable def bivouacref02_clash_lo1 (n : Nat) : Nat → St → PT (DEx × St) := fun _ _ => .fail
abbrev bivouacref02_clash_i1 : List It := [.v (.t 0) T25, .v (.t 3) T3, .v (.t 4) T3]
abbrev bivouacref02_clash_o1 : List (DEx × List It) := [(.exit 2, [.v (.t 0) T25, .v (.t 3) T3]), (.ret, [.v (.t 2) T4])]
noncomputable def bivouacref02_clash_s1 (n : Nat) (rec : itsDen bivouacref02_clash_i1 → Option (outDen bivouacref02_clash_o1)) (s : itsDen bivouacref02_clash_i1) : Option (outDen bivouacref02_clash_o1) := (dcode tab (bivouacref02_clash_cs n) (bivouacref02_clash_lo1 n) (subC [true, false, true, false, false, true, false, false, true, false, false] (codeOf Try.f43)) 2 (mkS bivouacref02_clash_i1 52 s)).run (Lp.leaf 52 bivouacref02_clash_i1 bivouacref02_clash_o1 rec)
noncomputable def bivouacref02_clash_L1 (n : Nat) : Lp := ⟨52, bivouacref02_clash_i1, bivouacref02_clash_o1, iterO n (bivouacref02_clash_s1 n)⟩
theorem bivouacref02_clash_q1 : loopsOf (subC [true, false, true, false, false, true, false, false, true, false, false] (codeOf Try.f43)) 2 = [] := by kernel_rfl
theorem bivouacref02_clash_L1_ok (n : Nat) (st : St) (r : DEx × St) (h : ((bivouacref02_clash_L1 n).go st).Is r) : DA Try.prog false (.loop (subC [true, false, true, false, false, true, false, false, true, false, false] (codeOf Try.f43))) st r := Lp.ok (L := bivouacref02_clash_L1 n) (B := tab) (cs := bivouacref02_clash_cs n) (lo := bivouacref02_clash_lo1 n) (id := 1) rfl (hl_of bivouacref02_clash_q1 all_nil) (fun _ _ => rfl) h
noncomputable def bivouacref02_clash_lo0 (n : Nat) : Nat → St → PT (DEx × St) := fun k st => match k with
  | 1 => (bivouacref02_clash_L1 n).go st
  | _ => .fail
abbrev bivouacref02_clash_i0 : List It := [.v (.t 0) T25, .v (.t 3) T3]
abbrev bivouacref02_clash_o0 : List (DEx × List It) := [(.exit 0, []), (.ret, [.v (.t 2) T4])]
noncomputable def bivouacref02_clash_s0 (n : Nat) (rec : itsDen bivouacref02_clash_i0 → Option (outDen bivouacref02_clash_o0)) (s : itsDen bivouacref02_clash_i0) : Option (outDen bivouacref02_clash_o0) := (dcode tab (bivouacref02_clash_cs n) (bivouacref02_clash_lo0 n) (subC [true, false, true, false, false] (codeOf Try.f43)) 1 (mkS bivouacref02_clash_i0 52 s)).run (Lp.leaf 52 bivouacref02_clash_i0 bivouacref02_clash_o0 rec)
noncomputable def bivouacref02_clash_L0 (n : Nat) : Lp := ⟨52, bivouacref02_clash_i0, bivouacref02_clash_o0, iterO n (bivouacref02_clash_s0 n)⟩
theorem bivouacref02_clash_q0 : loopsOf (subC [true, false, true, false, false] (codeOf Try.f43)) 1 = [(1, .loop (subC [true, false, true, false, false, true, false, false, true, false, false] (codeOf Try.f43)))] := by kernel_rfl
theorem bivouacref02_clash_L0_ok (n : Nat) (st : St) (r : DEx × St) (h : ((bivouacref02_clash_L0 n).go st).Is r) : DA Try.prog false (.loop (subC [true, false, true, false, false] (codeOf Try.f43))) st r := Lp.ok (L := bivouacref02_clash_L0 n) (B := tab) (cs := bivouacref02_clash_cs n) (lo := bivouacref02_clash_lo0 n) (id := 0) rfl (hl_of bivouacref02_clash_q0 (all_cons (fun st r h => bivouacref02_clash_L1_ok n st r h) all_nil)) (fun _ _ => rfl) h
noncomputable def bivouacref02_clash_lo (n : Nat) : Nat → St → PT (DEx × St) := fun k st => match k with
  | 0 => (bivouacref02_clash_L0 n).go st
  | _ => .fail
theorem bivouacref02_clash_q : loopsOf (codeOf Try.f43) 0 = [(0, .loop (subC [true, false, true, false, false] (codeOf Try.f43)))] := by kernel_rfl
theorem bivouacref02_clash_b : Try.f43.body = some (codeOf Try.f43) := by kernel_rfl
abbrev bivouacref02_clash_a : List Ar := [.d T25]
abbrev bivouacref02_clash_r : List Ty := [T4]
noncomputable def bivouacref02_clash_M (n : Nat) (x : arsDen bivouacref02_clash_a) : Option (tysDen bivouacref02_clash_r) := (dcode tab (bivouacref02_clash_cs n) (bivouacref02_clash_lo n) (codeOf Try.f43) 0 (startS bivouacref02_clash_a 52 x)).run (leafF tab [.tmp 2] bivouacref02_clash_r)
noncomputable def bivouacref02_clash_C (n : Nat) : Ct Try.prog := ⟨43, bivouacref02_clash_a, .ts bivouacref02_clash_r, bivouacref02_clash_M n, fun _ _ h => fn_ok (B := tab) (cs := bivouacref02_clash_cs n) (lo := bivouacref02_clash_lo n) (rs := [.tmp 2]) Try.func43 (by kernel_rfl) bivouacref02_clash_b (by kernel_rfl) (by decide) (hl_of bivouacref02_clash_q (all_cons (fun st r h => bivouacref02_clash_L0_ok n st r h) all_nil)) h⟩
noncomputable def bivouacref02_Check_cs (n : Nat) : CL Try.prog := ⟨[bivouacref02_clash_C n, bivouacref02_IsChain_C n, bivouacref02_AreMessages_C n], [], 0⟩
noncomputable def bivouacref02_Check_lo (n : Nat) : Nat → St → PT (DEx × St) := fun _ _ => .fail
theorem bivouacref02_Check_q : loopsOf (codeOf Try.f29) 0 = [] := by kernel_rfl
theorem bivouacref02_Check_b : Try.f29.body = some (codeOf Try.f29) := by kernel_rfl
abbrev bivouacref02_Check_a : List Ar := [.d T24, .d T25]
abbrev bivouacref02_Check_r : List Ty := [T33]
noncomputable def bivouacref02_Check_M (n : Nat) (x : arsDen bivouacref02_Check_a) : Option (tysDen bivouacref02_Check_r) := (dcode tab (bivouacref02_Check_cs n) (bivouacref02_Check_lo n) (codeOf Try.f29) 0 (startS bivouacref02_Check_a 14 x)).run (leafF tab [.tmp 4] bivouacref02_Check_r)
noncomputable def bivouacref02_Check_C (n : Nat) : Ct Try.prog := ⟨29, bivouacref02_Check_a, .ts bivouacref02_Check_r, bivouacref02_Check_M n, fun _ _ h => fn_ok (B := tab) (cs := bivouacref02_Check_cs n) (lo := bivouacref02_Check_lo n) (rs := [.tmp 4]) Try.func29 (by kernel_rfl) bivouacref02_Check_b (by kernel_rfl) (by decide) (hl_of bivouacref02_Check_q all_nil) h⟩
end Go.Proofs.Ytcjgodgpaokbnaa
