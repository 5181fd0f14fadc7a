/- Printed: what functions of the program compute. -/
import Derived.Test.YtcjgodgpaokbnaaDnB
namespace Go.Proofs.Ytcjgodgpaokbnaa
set_option linter.constructorNameAsVariable false
set_option linter.unusedSimpArgs false
set_option linter.unusedVariables false
set_option linter.unusedSectionVars false
open Go Go.Proofs Go.RowKit
set_option maxRecDepth 20000
noncomputable def beds_queue_2_cs (n : Nat) : CL Try.prog := ⟨[cmp_Or_int_C n, cmp_Compare_int_C n], [], 0⟩
noncomputable def beds_queue_2_lo (n : Nat) : Nat → St → PT (DEx × St) := fun _ _ => .fail
theorem beds_queue_2_q : loopsOf (codeOf Try.f75) 0 = [] := by kernel_rfl
theorem beds_queue_2_b : Try.f75.body = some (codeOf Try.f75) := by kernel_rfl
abbrev beds_queue_2_a : List Ar := [.d T30, .d T30]
abbrev beds_queue_2_r : List Ty := [T3]
noncomputable def beds_queue_2_M (n : Nat) (x : arsDen beds_queue_2_a) : Option (tysDen beds_queue_2_r) := (dcode tab (beds_queue_2_cs n) (beds_queue_2_lo n) (codeOf Try.f75) 0 (startS beds_queue_2_a 17 x)).run (leafF tab [.tmp 4] beds_queue_2_r)
noncomputable def beds_queue_2_C (n : Nat) : Ct Try.prog := ⟨75, beds_queue_2_a, .ts beds_queue_2_r, beds_queue_2_M n, fun _ _ h => fn_ok (B := tab) (cs := beds_queue_2_cs n) (lo := beds_queue_2_lo n) (rs := [.tmp 4]) Try.func75 (by kernel_rfl) beds_queue_2_b (by kernel_rfl) (by decide) (hl_of beds_queue_2_q all_nil) h⟩
noncomputable def beds_queue_1_1w_cs (n : Nat) : CL Try.prog := ⟨[], [], 0⟩
noncomputable def beds_queue_1_1w_lo (n : Nat) : Nat → St → PT (DEx × St) := fun _ _ => .fail
theorem beds_queue_1_1w_q : loopsOf (codeOf Try.f74) 0 = [] := by kernel_rfl
theorem beds_queue_1_1w_b : Try.f74.body = some (codeOf Try.f74) := by kernel_rfl
abbrev beds_queue_1_1w_in : List It := [.v (.t 0) T30, .obj (.t 1) true 30 5, .v (.c 0 0) T30]
abbrev beds_queue_1_1w_out : List (List It) := [[.v (.t 0) T4, .obj (.t 1) true 30 5, .v (.c 0 0) T30]]
noncomputable def beds_queue_1_1w_M (n : Nat) (x : itsDen beds_queue_1_1w_in) : Option (altDen beds_queue_1_1w_out) := runW tab (beds_queue_1_1w_cs n) (beds_queue_1_1w_lo n) (codeOf Try.f74) beds_queue_1_1w_in 2 14 [.tmp 3] beds_queue_1_1w_out x
noncomputable def beds_queue_1_1w_W (n : Nat) : Cw Try.prog := ⟨74, 2, beds_queue_1_1w_in, 1, beds_queue_1_1w_out, beds_queue_1_1w_M n, fun _ _ h => fnW_ok (B := tab) (cs := beds_queue_1_1w_cs n) (lo := beds_queue_1_1w_lo n) (rs := [.tmp 3]) Try.func74 (by kernel_rfl) beds_queue_1_1w_b (by kernel_rfl) (by decide) (hl_of beds_queue_1_1w_q all_nil) h⟩
noncomputable def slices_IndexFunc_apiMessage_beds_queue_1_1w_cs (n : Nat) : CL Try.prog := ⟨[], [beds_queue_1_1w_W n], 0⟩
noncomputable def slices_IndexFunc_apiMessage_beds_queue_1_1w_lo0 (n : Nat) : Nat → St → PT (DEx × St) := fun _ _ => .fail
abbrev slices_IndexFunc_apiMessage_beds_queue_1_1w_i0 : List It := [.v (.t 0) T25, .v (.t 7) T3, .v (.t 8) T3, .fnc (.t 1) 74 [.box true 30 5], .v (.c 0 0) T30]
abbrev slices_IndexFunc_apiMessage_beds_queue_1_1w_o0 : List (DEx × List It) := [(.exit 0, [.fnc (.t 1) 74 [.box true 30 5], .v (.c 0 0) T30]), (.ret, [.v (.t 4) T3, .fnc (.t 1) 74 [.box true 30 5], .v (.c 0 0) T30])]
noncomputable def slices_IndexFunc_apiMessage_beds_queue_1_1w_s0 (n : Nat) (rec : itsDen slices_IndexFunc_apiMessage_beds_queue_1_1w_i0 → Option (outDen slices_IndexFunc_apiMessage_beds_queue_1_1w_o0)) (s : itsDen slices_IndexFunc_apiMessage_beds_queue_1_1w_i0) : Option (outDen slices_IndexFunc_apiMessage_beds_queue_1_1w_o0) := (dcode tab (slices_IndexFunc_apiMessage_beds_queue_1_1w_cs n) (slices_IndexFunc_apiMessage_beds_queue_1_1w_lo0 n) (subC [true, false, true, false, false] (codeOf Try.f64)) 1 (mkS slices_IndexFunc_apiMessage_beds_queue_1_1w_i0 19 s)).run (Lp.leaf 19 slices_IndexFunc_apiMessage_beds_queue_1_1w_i0 slices_IndexFunc_apiMessage_beds_queue_1_1w_o0 rec)
noncomputable def slices_IndexFunc_apiMessage_beds_queue_1_1w_L0 (n : Nat) : Lp := ⟨19, slices_IndexFunc_apiMessage_beds_queue_1_1w_i0, slices_IndexFunc_apiMessage_beds_queue_1_1w_o0, iterO n (slices_IndexFunc_apiMessage_beds_queue_1_1w_s0 n)⟩
theorem slices_IndexFunc_apiMessage_beds_queue_1_1w_q0 : loopsOf (subC [true, false, true, false, false] (codeOf Try.f64)) 1 = [] := by kernel_rfl
theorem slices_IndexFunc_apiMessage_beds_queue_1_1w_L0_ok (n : Nat) (st : St) (r : DEx × St) (h : ((slices_IndexFunc_apiMessage_beds_queue_1_1w_L0 n).go st).Is r) : DA Try.prog false (.loop (subC [true, false, true, false, false] (codeOf Try.f64))) st r := Lp.ok (L := slices_IndexFunc_apiMessage_beds_queue_1_1w_L0 n) (B := tab) (cs := slices_IndexFunc_apiMessage_beds_queue_1_1w_cs n) (lo := slices_IndexFunc_apiMessage_beds_queue_1_1w_lo0 n) (id := 0) rfl (hl_of slices_IndexFunc_apiMessage_beds_queue_1_1w_q0 all_nil) (fun _ _ => rfl) h
noncomputable def slices_IndexFunc_apiMessage_beds_queue_1_1w_lo (n : Nat) : Nat → St → PT (DEx × St) := fun k st => match k with
  | 0 => (slices_IndexFunc_apiMessage_beds_queue_1_1w_L0 n).go st
  | _ => .fail
theorem slices_IndexFunc_apiMessage_beds_queue_1_1w_q : loopsOf (codeOf Try.f64) 0 = [(0, .loop (subC [true, false, true, false, false] (codeOf Try.f64)))] := by kernel_rfl
theorem slices_IndexFunc_apiMessage_beds_queue_1_1w_b : Try.f64.body = some (codeOf Try.f64) := by kernel_rfl
abbrev slices_IndexFunc_apiMessage_beds_queue_1_1w_in : List It := [.v (.t 0) T25, .fnc (.t 1) 74 [.box true 30 5], .v (.c 0 0) T30]
abbrev slices_IndexFunc_apiMessage_beds_queue_1_1w_out : List (List It) := [[.v (.t 0) T3, .obj (.t 1) true 30 5, .v (.c 0 0) T30]]
noncomputable def slices_IndexFunc_apiMessage_beds_queue_1_1w_M (n : Nat) (x : itsDen slices_IndexFunc_apiMessage_beds_queue_1_1w_in) : Option (altDen slices_IndexFunc_apiMessage_beds_queue_1_1w_out) := runW tab (slices_IndexFunc_apiMessage_beds_queue_1_1w_cs n) (slices_IndexFunc_apiMessage_beds_queue_1_1w_lo n) (codeOf Try.f64) slices_IndexFunc_apiMessage_beds_queue_1_1w_in 2 19 [.tmp 4] slices_IndexFunc_apiMessage_beds_queue_1_1w_out x
noncomputable def slices_IndexFunc_apiMessage_beds_queue_1_1w_W (n : Nat) : Cw Try.prog := ⟨64, 2, slices_IndexFunc_apiMessage_beds_queue_1_1w_in, 1, slices_IndexFunc_apiMessage_beds_queue_1_1w_out, slices_IndexFunc_apiMessage_beds_queue_1_1w_M n, fun _ _ h => fnW_ok (B := tab) (cs := slices_IndexFunc_apiMessage_beds_queue_1_1w_cs n) (lo := slices_IndexFunc_apiMessage_beds_queue_1_1w_lo n) (rs := [.tmp 4]) Try.func64 (by kernel_rfl) slices_IndexFunc_apiMessage_beds_queue_1_1w_b (by kernel_rfl) (by decide) (hl_of slices_IndexFunc_apiMessage_beds_queue_1_1w_q (all_cons (fun st r h => slices_IndexFunc_apiMessage_beds_queue_1_1w_L0_ok n st r h) all_nil)) h⟩
noncomputable def slices_ContainsFunc_apiMessage_beds_queue_1_1w_cs (n : Nat) : CL Try.prog := ⟨[], [slices_IndexFunc_apiMessage_beds_queue_1_1w_W n, beds_queue_1_1w_W n], 0⟩
noncomputable def slices_ContainsFunc_apiMessage_beds_queue_1_1w_lo (n : Nat) : Nat → St → PT (DEx × St) := fun _ _ => .fail
theorem slices_ContainsFunc_apiMessage_beds_queue_1_1w_q : loopsOf (codeOf Try.f73) 0 = [] := by kernel_rfl
theorem slices_ContainsFunc_apiMessage_beds_queue_1_1w_b : Try.f73.body = some (codeOf Try.f73) := by kernel_rfl
abbrev slices_ContainsFunc_apiMessage_beds_queue_1_1w_in : List It := [.v (.t 0) T25, .fnc (.t 1) 74 [.box true 30 5], .v (.c 0 0) T30]
abbrev slices_ContainsFunc_apiMessage_beds_queue_1_1w_out : List (List It) := [[.v (.t 0) T4, .obj (.t 1) true 30 5, .v (.c 0 0) T30]]
noncomputable def slices_ContainsFunc_apiMessage_beds_queue_1_1w_M (n : Nat) (x : itsDen slices_ContainsFunc_apiMessage_beds_queue_1_1w_in) : Option (altDen slices_ContainsFunc_apiMessage_beds_queue_1_1w_out) := runW tab (slices_ContainsFunc_apiMessage_beds_queue_1_1w_cs n) (slices_ContainsFunc_apiMessage_beds_queue_1_1w_lo n) (codeOf Try.f73) slices_ContainsFunc_apiMessage_beds_queue_1_1w_in 2 9 [.tmp 4] slices_ContainsFunc_apiMessage_beds_queue_1_1w_out x
noncomputable def slices_ContainsFunc_apiMessage_beds_queue_1_1w_W (n : Nat) : Cw Try.prog := ⟨73, 2, slices_ContainsFunc_apiMessage_beds_queue_1_1w_in, 1, slices_ContainsFunc_apiMessage_beds_queue_1_1w_out, slices_ContainsFunc_apiMessage_beds_queue_1_1w_M n, fun _ _ h => fnW_ok (B := tab) (cs := slices_ContainsFunc_apiMessage_beds_queue_1_1w_cs n) (lo := slices_ContainsFunc_apiMessage_beds_queue_1_1w_lo n) (rs := [.tmp 4]) Try.func73 (by kernel_rfl) slices_ContainsFunc_apiMessage_beds_queue_1_1w_b (by kernel_rfl) (by decide) (hl_of slices_ContainsFunc_apiMessage_beds_queue_1_1w_q all_nil) h⟩
noncomputable def beds_queue_1w_cs (n : Nat) : CL Try.prog := ⟨[], [slices_ContainsFunc_apiMessage_beds_queue_1_1w_W n], 0⟩
noncomputable def beds_queue_1w_lo (n : Nat) : Nat → St → PT (DEx × St) := fun _ _ => .fail
theorem beds_queue_1w_q : loopsOf (codeOf Try.f72) 0 = [] := by kernel_rfl
theorem beds_queue_1w_b : Try.f72.body = some (codeOf Try.f72) := by kernel_rfl
abbrev beds_queue_1w_in : List It := [.v (.t 0) T30, .obj (.t 1) true 25 1, .v (.c 0 0) T25]
abbrev beds_queue_1w_out : List (List It) := [[.v (.t 0) T4, .obj (.t 1) true 25 1, .v (.c 0 0) T25]]
noncomputable def beds_queue_1w_M (n : Nat) (x : itsDen beds_queue_1w_in) : Option (altDen beds_queue_1w_out) := runW tab (beds_queue_1w_cs n) (beds_queue_1w_lo n) (codeOf Try.f72) beds_queue_1w_in 2 12 [.tmp 3] beds_queue_1w_out x
noncomputable def beds_queue_1w_W (n : Nat) : Cw Try.prog := ⟨72, 2, beds_queue_1w_in, 1, beds_queue_1w_out, beds_queue_1w_M n, fun _ _ h => fnW_ok (B := tab) (cs := beds_queue_1w_cs n) (lo := beds_queue_1w_lo n) (rs := [.tmp 3]) Try.func72 (by kernel_rfl) beds_queue_1w_b (by kernel_rfl) (by decide) (hl_of beds_queue_1w_q all_nil) h⟩
noncomputable def slices_insertionSortCmpFunc_apiMessage_beds_queue_2w_cs (n : Nat) : CL Try.prog := ⟨[beds_queue_2_C n], [], 0⟩
noncomputable def slices_insertionSortCmpFunc_apiMessage_beds_queue_2w_lo1 (n : Nat) : Nat → St → PT (DEx × St) := fun _ _ => .fail
abbrev slices_insertionSortCmpFunc_apiMessage_beds_queue_2w_i1 : List It := [.v (.t 1) T3, .v (.t 2) T3, .fn (.t 3) 75 [] [], .v (.t 8) T3, .v (.t 9) T3, .row (.t 0) true T30 30]
abbrev slices_insertionSortCmpFunc_apiMessage_beds_queue_2w_o1 : List (DEx × List It) := [(.exit 2, [.v (.t 1) T3, .v (.t 2) T3, .fn (.t 3) 75 [] [], .v (.t 8) T3, .row (.t 0) true T30 30])]
noncomputable def slices_insertionSortCmpFunc_apiMessage_beds_queue_2w_s1 (n : Nat) (rec : itsDen slices_insertionSortCmpFunc_apiMessage_beds_queue_2w_i1 → Option (outDen slices_insertionSortCmpFunc_apiMessage_beds_queue_2w_o1)) (s : itsDen slices_insertionSortCmpFunc_apiMessage_beds_queue_2w_i1) : Option (outDen slices_insertionSortCmpFunc_apiMessage_beds_queue_2w_o1) := (dcode tab (slices_insertionSortCmpFunc_apiMessage_beds_queue_2w_cs n) (slices_insertionSortCmpFunc_apiMessage_beds_queue_2w_lo1 n) (subC [true, false, false, true, false, false, true, false, false] (codeOf Try.f106)) 2 (mkS slices_insertionSortCmpFunc_apiMessage_beds_queue_2w_i1 53 s)).run (Lp.leaf 53 slices_insertionSortCmpFunc_apiMessage_beds_queue_2w_i1 slices_insertionSortCmpFunc_apiMessage_beds_queue_2w_o1 rec)
noncomputable def slices_insertionSortCmpFunc_apiMessage_beds_queue_2w_L1 (n : Nat) : Lp := ⟨53, slices_insertionSortCmpFunc_apiMessage_beds_queue_2w_i1, slices_insertionSortCmpFunc_apiMessage_beds_queue_2w_o1, iterO n (slices_insertionSortCmpFunc_apiMessage_beds_queue_2w_s1 n)⟩
theorem slices_insertionSortCmpFunc_apiMessage_beds_queue_2w_q1 : loopsOf (subC [true, false, false, true, false, false, true, false, false] (codeOf Try.f106)) 2 = [] := by kernel_rfl
theorem slices_insertionSortCmpFunc_apiMessage_beds_queue_2w_L1_ok (n : Nat) (st : St) (r : DEx × St) (h : ((slices_insertionSortCmpFunc_apiMessage_beds_queue_2w_L1 n).go st).Is r) : DA Try.prog false (.loop (subC [true, false, false, true, false, false, true, false, false] (codeOf Try.f106))) st r := Lp.ok (L := slices_insertionSortCmpFunc_apiMessage_beds_queue_2w_L1 n) (B := tab) (cs := slices_insertionSortCmpFunc_apiMessage_beds_queue_2w_cs n) (lo := slices_insertionSortCmpFunc_apiMessage_beds_queue_2w_lo1 n) (id := 1) rfl (hl_of slices_insertionSortCmpFunc_apiMessage_beds_queue_2w_q1 all_nil) (fun _ _ => rfl) h
noncomputable def slices_insertionSortCmpFunc_apiMessage_beds_queue_2w_lo0 (n : Nat) : Nat → St → PT (DEx × St) := fun k st => match k with
  | 1 => (slices_insertionSortCmpFunc_apiMessage_beds_queue_2w_L1 n).go st
  | _ => .fail
abbrev slices_insertionSortCmpFunc_apiMessage_beds_queue_2w_i0 : List It := [.v (.t 1) T3, .v (.t 2) T3, .fn (.t 3) 75 [] [], .v (.t 8) T3, .row (.t 0) true T30 30]
abbrev slices_insertionSortCmpFunc_apiMessage_beds_queue_2w_o0 : List (DEx × List It) := [(.exit 0, [.row (.t 0) true T30 30])]
noncomputable def slices_insertionSortCmpFunc_apiMessage_beds_queue_2w_s0 (n : Nat) (rec : itsDen slices_insertionSortCmpFunc_apiMessage_beds_queue_2w_i0 → Option (outDen slices_insertionSortCmpFunc_apiMessage_beds_queue_2w_o0)) (s : itsDen slices_insertionSortCmpFunc_apiMessage_beds_queue_2w_i0) : Option (outDen slices_insertionSortCmpFunc_apiMessage_beds_queue_2w_o0) := (dcode tab (slices_insertionSortCmpFunc_apiMessage_beds_queue_2w_cs n) (slices_insertionSortCmpFunc_apiMessage_beds_queue_2w_lo0 n) (subC [true, false, false] (codeOf Try.f106)) 1 (mkS slices_insertionSortCmpFunc_apiMessage_beds_queue_2w_i0 53 s)).run (Lp.leaf 53 slices_insertionSortCmpFunc_apiMessage_beds_queue_2w_i0 slices_insertionSortCmpFunc_apiMessage_beds_queue_2w_o0 rec)
noncomputable def slices_insertionSortCmpFunc_apiMessage_beds_queue_2w_L0 (n : Nat) : Lp := ⟨53, slices_insertionSortCmpFunc_apiMessage_beds_queue_2w_i0, slices_insertionSortCmpFunc_apiMessage_beds_queue_2w_o0, iterO n (slices_insertionSortCmpFunc_apiMessage_beds_queue_2w_s0 n)⟩
theorem slices_insertionSortCmpFunc_apiMessage_beds_queue_2w_q0 : loopsOf (subC [true, false, false] (codeOf Try.f106)) 1 = [(1, .loop (subC [true, false, false, true, false, false, true, false, false] (codeOf Try.f106)))] := by kernel_rfl
theorem slices_insertionSortCmpFunc_apiMessage_beds_queue_2w_L0_ok (n : Nat) (st : St) (r : DEx × St) (h : ((slices_insertionSortCmpFunc_apiMessage_beds_queue_2w_L0 n).go st).Is r) : DA Try.prog false (.loop (subC [true, false, false] (codeOf Try.f106))) st r := Lp.ok (L := slices_insertionSortCmpFunc_apiMessage_beds_queue_2w_L0 n) (B := tab) (cs := slices_insertionSortCmpFunc_apiMessage_beds_queue_2w_cs n) (lo := slices_insertionSortCmpFunc_apiMessage_beds_queue_2w_lo0 n) (id := 0) rfl (hl_of slices_insertionSortCmpFunc_apiMessage_beds_queue_2w_q0 (all_cons (fun st r h => slices_insertionSortCmpFunc_apiMessage_beds_queue_2w_L1_ok n st r h) all_nil)) (fun _ _ => rfl) h
noncomputable def slices_insertionSortCmpFunc_apiMessage_beds_queue_2w_lo (n : Nat) : Nat → St → PT (DEx × St) := fun k st => match k with
  | 0 => (slices_insertionSortCmpFunc_apiMessage_beds_queue_2w_L0 n).go st
  | _ => .fail
theorem slices_insertionSortCmpFunc_apiMessage_beds_queue_2w_q : loopsOf (codeOf Try.f106) 0 = [(0, .loop (subC [true, false, false] (codeOf Try.f106)))] := by kernel_rfl
theorem slices_insertionSortCmpFunc_apiMessage_beds_queue_2w_b : Try.f106.body = some (codeOf Try.f106) := by kernel_rfl
abbrev slices_insertionSortCmpFunc_apiMessage_beds_queue_2w_in : List It := [.v (.t 1) T3, .v (.t 2) T3, .fn (.t 3) 75 [] [], .row (.t 0) true T30 30]
abbrev slices_insertionSortCmpFunc_apiMessage_beds_queue_2w_out : List (List It) := [[.row (.t 0) true T30 30]]
noncomputable def slices_insertionSortCmpFunc_apiMessage_beds_queue_2w_M (n : Nat) (x : itsDen slices_insertionSortCmpFunc_apiMessage_beds_queue_2w_in) : Option (altDen slices_insertionSortCmpFunc_apiMessage_beds_queue_2w_out) := runW tab (slices_insertionSortCmpFunc_apiMessage_beds_queue_2w_cs n) (slices_insertionSortCmpFunc_apiMessage_beds_queue_2w_lo n) (codeOf Try.f106) slices_insertionSortCmpFunc_apiMessage_beds_queue_2w_in 4 53 [] slices_insertionSortCmpFunc_apiMessage_beds_queue_2w_out x
noncomputable def slices_insertionSortCmpFunc_apiMessage_beds_queue_2w_W (n : Nat) : Cw Try.prog := ⟨106, 4, slices_insertionSortCmpFunc_apiMessage_beds_queue_2w_in, 0, slices_insertionSortCmpFunc_apiMessage_beds_queue_2w_out, slices_insertionSortCmpFunc_apiMessage_beds_queue_2w_M n, fun _ _ h => fnW_ok (B := tab) (cs := slices_insertionSortCmpFunc_apiMessage_beds_queue_2w_cs n) (lo := slices_insertionSortCmpFunc_apiMessage_beds_queue_2w_lo n) (rs := []) Try.func106 (by kernel_rfl) slices_insertionSortCmpFunc_apiMessage_beds_queue_2w_b (by kernel_rfl) (by decide) (hl_of slices_insertionSortCmpFunc_apiMessage_beds_queue_2w_q (all_cons (fun st r h => slices_insertionSortCmpFunc_apiMessage_beds_queue_2w_L0_ok n st r h) all_nil)) h⟩
noncomputable def beds_compare_1_cs (n : Nat) : CL Try.prog := ⟨[cmp_Or_int_C n, cmp_Compare_int_C n], [], 0⟩
noncomputable def beds_compare_1_lo (n : Nat) : Nat → St → PT (DEx × St) := fun _ _ => .fail
theorem beds_compare_1_q : loopsOf (codeOf Try.f96) 0 = [] := by kernel_rfl
theorem beds_compare_1_b : Try.f96.body = some (codeOf Try.f96) := by kernel_rfl
abbrev beds_compare_1_a : List Ar := [.d T77, .d T77]
abbrev beds_compare_1_r : List Ty := [T3]
noncomputable def beds_compare_1_M (n : Nat) (x : arsDen beds_compare_1_a) : Option (tysDen beds_compare_1_r) := (dcode tab (beds_compare_1_cs n) (beds_compare_1_lo n) (codeOf Try.f96) 0 (startS beds_compare_1_a 26 x)).run (leafF tab [.tmp 4] beds_compare_1_r)
noncomputable def beds_compare_1_C (n : Nat) : Ct Try.prog := ⟨96, beds_compare_1_a, .ts beds_compare_1_r, beds_compare_1_M n, fun _ _ h => fn_ok (B := tab) (cs := beds_compare_1_cs n) (lo := beds_compare_1_lo n) (rs := [.tmp 4]) Try.func96 (by kernel_rfl) beds_compare_1_b (by kernel_rfl) (by decide) (hl_of beds_compare_1_q all_nil) h⟩
noncomputable def slices_CompareFunc_apiStay_beds_compare_1_cs (n : Nat) : CL Try.prog := ⟨[beds_compare_1_C n], [], 0⟩
noncomputable def slices_CompareFunc_apiStay_beds_compare_1_lo0 (n : Nat) : Nat → St → PT (DEx × St) := fun _ _ => .fail
abbrev slices_CompareFunc_apiStay_beds_compare_1_i0 : List It := [.v (.t 0) T28, .v (.t 1) T28, .fn (.t 2) 96 [] [], .v (.t 11) T28, .v (.t 12) T3, .v (.t 13) T3]
abbrev slices_CompareFunc_apiStay_beds_compare_1_o0 : List (DEx × List It) := [(.exit 0, [.v (.t 0) T28, .v (.t 1) T28]), (.ret, [.v (.t 6) T3])]
noncomputable def slices_CompareFunc_apiStay_beds_compare_1_s0 (n : Nat) (rec : itsDen slices_CompareFunc_apiStay_beds_compare_1_i0 → Option (outDen slices_CompareFunc_apiStay_beds_compare_1_o0)) (s : itsDen slices_CompareFunc_apiStay_beds_compare_1_i0) : Option (outDen slices_CompareFunc_apiStay_beds_compare_1_o0) := (dcode tab (slices_CompareFunc_apiStay_beds_compare_1_cs n) (slices_CompareFunc_apiStay_beds_compare_1_lo0 n) (subC [true, false, true, false, false] (codeOf Try.f95)) 1 (mkS slices_CompareFunc_apiStay_beds_compare_1_i0 39 s)).run (Lp.leaf 39 slices_CompareFunc_apiStay_beds_compare_1_i0 slices_CompareFunc_apiStay_beds_compare_1_o0 rec)
noncomputable def slices_CompareFunc_apiStay_beds_compare_1_L0 (n : Nat) : Lp := ⟨39, slices_CompareFunc_apiStay_beds_compare_1_i0, slices_CompareFunc_apiStay_beds_compare_1_o0, iterO n (slices_CompareFunc_apiStay_beds_compare_1_s0 n)⟩
theorem slices_CompareFunc_apiStay_beds_compare_1_q0 : loopsOf (subC [true, false, true, false, false] (codeOf Try.f95)) 1 = [] := by kernel_rfl
theorem slices_CompareFunc_apiStay_beds_compare_1_L0_ok (n : Nat) (st : St) (r : DEx × St) (h : ((slices_CompareFunc_apiStay_beds_compare_1_L0 n).go st).Is r) : DA Try.prog false (.loop (subC [true, false, true, false, false] (codeOf Try.f95))) st r := Lp.ok (L := slices_CompareFunc_apiStay_beds_compare_1_L0 n) (B := tab) (cs := slices_CompareFunc_apiStay_beds_compare_1_cs n) (lo := slices_CompareFunc_apiStay_beds_compare_1_lo0 n) (id := 0) rfl (hl_of slices_CompareFunc_apiStay_beds_compare_1_q0 all_nil) (fun _ _ => rfl) h
noncomputable def slices_CompareFunc_apiStay_beds_compare_1_lo (n : Nat) : Nat → St → PT (DEx × St) := fun k st => match k with
  | 0 => (slices_CompareFunc_apiStay_beds_compare_1_L0 n).go st
  | _ => .fail
theorem slices_CompareFunc_apiStay_beds_compare_1_q : loopsOf (codeOf Try.f95) 0 = [(0, .loop (subC [true, false, true, false, false] (codeOf Try.f95)))] := by kernel_rfl
theorem slices_CompareFunc_apiStay_beds_compare_1_b : Try.f95.body = some (codeOf Try.f95) := by kernel_rfl
abbrev slices_CompareFunc_apiStay_beds_compare_1_a : List Ar := [.d T28, .d T28, .fn 96 [] []]
abbrev slices_CompareFunc_apiStay_beds_compare_1_r : List Ty := [T3]
noncomputable def slices_CompareFunc_apiStay_beds_compare_1_M (n : Nat) (x : arsDen slices_CompareFunc_apiStay_beds_compare_1_a) : Option (tysDen slices_CompareFunc_apiStay_beds_compare_1_r) := (dcode tab (slices_CompareFunc_apiStay_beds_compare_1_cs n) (slices_CompareFunc_apiStay_beds_compare_1_lo n) (codeOf Try.f95) 0 (startS slices_CompareFunc_apiStay_beds_compare_1_a 39 x)).run (leafF tab [.tmp 6] slices_CompareFunc_apiStay_beds_compare_1_r)
noncomputable def slices_CompareFunc_apiStay_beds_compare_1_C (n : Nat) : Ct Try.prog := ⟨95, slices_CompareFunc_apiStay_beds_compare_1_a, .ts slices_CompareFunc_apiStay_beds_compare_1_r, slices_CompareFunc_apiStay_beds_compare_1_M n, fun _ _ h => fn_ok (B := tab) (cs := slices_CompareFunc_apiStay_beds_compare_1_cs n) (lo := slices_CompareFunc_apiStay_beds_compare_1_lo n) (rs := [.tmp 6]) Try.func95 (by kernel_rfl) slices_CompareFunc_apiStay_beds_compare_1_b (by kernel_rfl) (by decide) (hl_of slices_CompareFunc_apiStay_beds_compare_1_q (all_cons (fun st r h => slices_CompareFunc_apiStay_beds_compare_1_L0_ok n st r h) all_nil)) h⟩
noncomputable def beds_compare_cs (n : Nat) : CL Try.prog := ⟨[cmp_Or_int_C n, cmp_Compare_int_C n, slices_CompareFunc_apiStay_beds_compare_1_C n], [], 0⟩
noncomputable def beds_compare_lo (n : Nat) : Nat → St → PT (DEx × St) := fun _ _ => .fail
theorem beds_compare_q : loopsOf (codeOf Try.f60) 0 = [] := by kernel_rfl
theorem beds_compare_b : Try.f60.body = some (codeOf Try.f60) := by kernel_rfl
abbrev beds_compare_a : List Ar := [.d T30, .d T30]
abbrev beds_compare_r : List Ty := [T3]
noncomputable def beds_compare_M (n : Nat) (x : arsDen beds_compare_a) : Option (tysDen beds_compare_r) := (dcode tab (beds_compare_cs n) (beds_compare_lo n) (codeOf Try.f60) 0 (startS beds_compare_a 32 x)).run (leafF tab [.tmp 4] beds_compare_r)
noncomputable def beds_compare_C (n : Nat) : Ct Try.prog := ⟨60, beds_compare_a, .ts beds_compare_r, beds_compare_M n, fun _ _ h => fn_ok (B := tab) (cs := beds_compare_cs n) (lo := beds_compare_lo n) (rs := [.tmp 4]) Try.func60 (by kernel_rfl) beds_compare_b (by kernel_rfl) (by decide) (hl_of beds_compare_q all_nil) h⟩
noncomputable def slices_insertionSortCmpFunc_apiMessage_beds_comparew_cs (n : Nat) : CL Try.prog := ⟨[beds_compare_C n], [], 0⟩
noncomputable def slices_insertionSortCmpFunc_apiMessage_beds_comparew_lo1 (n : Nat) : Nat → St → PT (DEx × St) := fun _ _ => .fail
abbrev slices_insertionSortCmpFunc_apiMessage_beds_comparew_i1 : List It := [.v (.t 1) T3, .v (.t 2) T3, .fn (.t 3) 60 [] [], .v (.t 8) T3, .v (.t 9) T3, .row (.t 0) true T30 30]
abbrev slices_insertionSortCmpFunc_apiMessage_beds_comparew_o1 : List (DEx × List It) := [(.exit 2, [.v (.t 1) T3, .v (.t 2) T3, .fn (.t 3) 60 [] [], .v (.t 8) T3, .row (.t 0) true T30 30])]
noncomputable def slices_insertionSortCmpFunc_apiMessage_beds_comparew_s1 (n : Nat) (rec : itsDen slices_insertionSortCmpFunc_apiMessage_beds_comparew_i1 → Option (outDen slices_insertionSortCmpFunc_apiMessage_beds_comparew_o1)) (s : itsDen slices_insertionSortCmpFunc_apiMessage_beds_comparew_i1) : Option (outDen slices_insertionSortCmpFunc_apiMessage_beds_comparew_o1) := (dcode tab (slices_insertionSortCmpFunc_apiMessage_beds_comparew_cs n) (slices_insertionSortCmpFunc_apiMessage_beds_comparew_lo1 n) (subC [true, false, false, true, false, false, true, false, false] (codeOf Try.f106)) 2 (mkS slices_insertionSortCmpFunc_apiMessage_beds_comparew_i1 53 s)).run (Lp.leaf 53 slices_insertionSortCmpFunc_apiMessage_beds_comparew_i1 slices_insertionSortCmpFunc_apiMessage_beds_comparew_o1 rec)
noncomputable def slices_insertionSortCmpFunc_apiMessage_beds_comparew_L1 (n : Nat) : Lp := ⟨53, slices_insertionSortCmpFunc_apiMessage_beds_comparew_i1, slices_insertionSortCmpFunc_apiMessage_beds_comparew_o1, iterO n (slices_insertionSortCmpFunc_apiMessage_beds_comparew_s1 n)⟩
theorem slices_insertionSortCmpFunc_apiMessage_beds_comparew_q1 : loopsOf (subC [true, false, false, true, false, false, true, false, false] (codeOf Try.f106)) 2 = [] := by kernel_rfl
theorem slices_insertionSortCmpFunc_apiMessage_beds_comparew_L1_ok (n : Nat) (st : St) (r : DEx × St) (h : ((slices_insertionSortCmpFunc_apiMessage_beds_comparew_L1 n).go st).Is r) : DA Try.prog false (.loop (subC [true, false, false, true, false, false, true, false, false] (codeOf Try.f106))) st r := Lp.ok (L := slices_insertionSortCmpFunc_apiMessage_beds_comparew_L1 n) (B := tab) (cs := slices_insertionSortCmpFunc_apiMessage_beds_comparew_cs n) (lo := slices_insertionSortCmpFunc_apiMessage_beds_comparew_lo1 n) (id := 1) rfl (hl_of slices_insertionSortCmpFunc_apiMessage_beds_comparew_q1 all_nil) (fun _ _ => rfl) h
noncomputable def slices_insertionSortCmpFunc_apiMessage_beds_comparew_lo0 (n : Nat) : Nat → St → PT (DEx × St) := fun k st => match k with
  | 1 => (slices_insertionSortCmpFunc_apiMessage_beds_comparew_L1 n).go st
  | _ => .fail
abbrev slices_insertionSortCmpFunc_apiMessage_beds_comparew_i0 : List It := [.v (.t 1) T3, .v (.t 2) T3, .fn (.t 3) 60 [] [], .v (.t 8) T3, .row (.t 0) true T30 30]
abbrev slices_insertionSortCmpFunc_apiMessage_beds_comparew_o0 : List (DEx × List It) := [(.exit 0, [.row (.t 0) true T30 30])]
noncomputable def slices_insertionSortCmpFunc_apiMessage_beds_comparew_s0 (n : Nat) (rec : itsDen slices_insertionSortCmpFunc_apiMessage_beds_comparew_i0 → Option (outDen slices_insertionSortCmpFunc_apiMessage_beds_comparew_o0)) (s : itsDen slices_insertionSortCmpFunc_apiMessage_beds_comparew_i0) : Option (outDen slices_insertionSortCmpFunc_apiMessage_beds_comparew_o0) := (dcode tab (slices_insertionSortCmpFunc_apiMessage_beds_comparew_cs n) (slices_insertionSortCmpFunc_apiMessage_beds_comparew_lo0 n) (subC [true, false, false] (codeOf Try.f106)) 1 (mkS slices_insertionSortCmpFunc_apiMessage_beds_comparew_i0 53 s)).run (Lp.leaf 53 slices_insertionSortCmpFunc_apiMessage_beds_comparew_i0 slices_insertionSortCmpFunc_apiMessage_beds_comparew_o0 rec)
noncomputable def slices_insertionSortCmpFunc_apiMessage_beds_comparew_L0 (n : Nat) : Lp := ⟨53, slices_insertionSortCmpFunc_apiMessage_beds_comparew_i0, slices_insertionSortCmpFunc_apiMessage_beds_comparew_o0, iterO n (slices_insertionSortCmpFunc_apiMessage_beds_comparew_s0 n)⟩
theorem slices_insertionSortCmpFunc_apiMessage_beds_comparew_q0 : loopsOf (subC [true, false, false] (codeOf Try.f106)) 1 = [(1, .loop (subC [true, false, false, true, false, false, true, false, false] (codeOf Try.f106)))] := by kernel_rfl
theorem slices_insertionSortCmpFunc_apiMessage_beds_comparew_L0_ok (n : Nat) (st : St) (r : DEx × St) (h : ((slices_insertionSortCmpFunc_apiMessage_beds_comparew_L0 n).go st).Is r) : DA Try.prog false (.loop (subC [true, false, false] (codeOf Try.f106))) st r := Lp.ok (L := slices_insertionSortCmpFunc_apiMessage_beds_comparew_L0 n) (B := tab) (cs := slices_insertionSortCmpFunc_apiMessage_beds_comparew_cs n) (lo := slices_insertionSortCmpFunc_apiMessage_beds_comparew_lo0 n) (id := 0) rfl (hl_of slices_insertionSortCmpFunc_apiMessage_beds_comparew_q0 (all_cons (fun st r h => slices_insertionSortCmpFunc_apiMessage_beds_comparew_L1_ok n st r h) all_nil)) (fun _ _ => rfl) h
noncomputable def slices_insertionSortCmpFunc_apiMessage_beds_comparew_lo (n : Nat) : Nat → St → PT (DEx × St) := fun k st => match k with
  | 0 => (slices_insertionSortCmpFunc_apiMessage_beds_comparew_L0 n).go st
  | _ => .fail
theorem slices_insertionSortCmpFunc_apiMessage_beds_comparew_q : loopsOf (codeOf Try.f106) 0 = [(0, .loop (subC [true, false, false] (codeOf Try.f106)))] := by kernel_rfl
theorem slices_insertionSortCmpFunc_apiMessage_beds_comparew_b : Try.f106.body = some (codeOf Try.f106) := by kernel_rfl
abbrev slices_insertionSortCmpFunc_apiMessage_beds_comparew_in : List It := [.v (.t 1) T3, .v (.t 2) T3, .fn (.t 3) 60 [] [], .row (.t 0) true T30 30]
abbrev slices_insertionSortCmpFunc_apiMessage_beds_comparew_out : List (List It) := [[.row (.t 0) true T30 30]]
noncomputable def slices_insertionSortCmpFunc_apiMessage_beds_comparew_M (n : Nat) (x : itsDen slices_insertionSortCmpFunc_apiMessage_beds_comparew_in) : Option (altDen slices_insertionSortCmpFunc_apiMessage_beds_comparew_out) := runW tab (slices_insertionSortCmpFunc_apiMessage_beds_comparew_cs n) (slices_insertionSortCmpFunc_apiMessage_beds_comparew_lo n) (codeOf Try.f106) slices_insertionSortCmpFunc_apiMessage_beds_comparew_in 4 53 [] slices_insertionSortCmpFunc_apiMessage_beds_comparew_out x
noncomputable def slices_insertionSortCmpFunc_apiMessage_beds_comparew_W (n : Nat) : Cw Try.prog := ⟨106, 4, slices_insertionSortCmpFunc_apiMessage_beds_comparew_in, 0, slices_insertionSortCmpFunc_apiMessage_beds_comparew_out, slices_insertionSortCmpFunc_apiMessage_beds_comparew_M n, fun _ _ h => fnW_ok (B := tab) (cs := slices_insertionSortCmpFunc_apiMessage_beds_comparew_cs n) (lo := slices_insertionSortCmpFunc_apiMessage_beds_comparew_lo n) (rs := []) Try.func106 (by kernel_rfl) slices_insertionSortCmpFunc_apiMessage_beds_comparew_b (by kernel_rfl) (by decide) (hl_of slices_insertionSortCmpFunc_apiMessage_beds_comparew_q (all_cons (fun st r h => slices_insertionSortCmpFunc_apiMessage_beds_comparew_L0_ok n st r h) all_nil)) h⟩
noncomputable def beds_chain_is_1_cs (n : Nat) : CL Try.prog := ⟨[beds_between_C n], [], 0⟩
noncomputable def beds_chain_is_1_lo (n : Nat) : Nat → St → PT (DEx × St) := fun _ _ => .fail
theorem beds_chain_is_1_q : loopsOf (codeOf Try.f90) 0 = [] := by kernel_rfl
theorem beds_chain_is_1_b : Try.f90.body = some (codeOf Try.f90) := by kernel_rfl
abbrev beds_chain_is_1_a : List Ar := [.d T49]
abbrev beds_chain_is_1_r : List Ty := [T4]
noncomputable def beds_chain_is_1_M (n : Nat) (x : arsDen beds_chain_is_1_a) : Option (tysDen beds_chain_is_1_r) := (dcode tab (beds_chain_is_1_cs n) (beds_chain_is_1_lo n) (codeOf Try.f90) 0 (startS beds_chain_is_1_a 13 x)).run (leafF tab [.tmp 2] beds_chain_is_1_r)
noncomputable def beds_chain_is_1_C (n : Nat) : Ct Try.prog := ⟨90, beds_chain_is_1_a, .ts beds_chain_is_1_r, beds_chain_is_1_M n, fun _ _ h => fn_ok (B := tab) (cs := beds_chain_is_1_cs n) (lo := beds_chain_is_1_lo n) (rs := [.tmp 2]) Try.func90 (by kernel_rfl) beds_chain_is_1_b (by kernel_rfl) (by decide) (hl_of beds_chain_is_1_q all_nil) h⟩
noncomputable def slices_IndexFunc_apiHut_beds_chain_is_1_cs (n : Nat) : CL Try.prog := ⟨[beds_chain_is_1_C n], [], 0⟩
noncomputable def slices_IndexFunc_apiHut_beds_chain_is_1_lo0 (n : Nat) : Nat → St → PT (DEx × St) := fun _ _ => .fail
abbrev slices_IndexFunc_apiHut_beds_chain_is_1_i0 : List It := [.v (.t 0) T22, .fn (.t 1) 90 [] [], .v (.t 7) T3, .v (.t 8) T3]
abbrev slices_IndexFunc_apiHut_beds_chain_is_1_o0 : List (DEx × List It) := [(.exit 0, []), (.ret, [.v (.t 4) T3])]
noncomputable def slices_IndexFunc_apiHut_beds_chain_is_1_s0 (n : Nat) (rec : itsDen slices_IndexFunc_apiHut_beds_chain_is_1_i0 → Option (outDen slices_IndexFunc_apiHut_beds_chain_is_1_o0)) (s : itsDen slices_IndexFunc_apiHut_beds_chain_is_1_i0) : Option (outDen slices_IndexFunc_apiHut_beds_chain_is_1_o0) := (dcode tab (slices_IndexFunc_apiHut_beds_chain_is_1_cs n) (slices_IndexFunc_apiHut_beds_chain_is_1_lo0 n) (subC [true, false, true, false, false] (codeOf Try.f104)) 1 (mkS slices_IndexFunc_apiHut_beds_chain_is_1_i0 19 s)).run (Lp.leaf 19 slices_IndexFunc_apiHut_beds_chain_is_1_i0 slices_IndexFunc_apiHut_beds_chain_is_1_o0 rec)
noncomputable def slices_IndexFunc_apiHut_beds_chain_is_1_L0 (n : Nat) : Lp := ⟨19, slices_IndexFunc_apiHut_beds_chain_is_1_i0, slices_IndexFunc_apiHut_beds_chain_is_1_o0, iterO n (slices_IndexFunc_apiHut_beds_chain_is_1_s0 n)⟩
theorem slices_IndexFunc_apiHut_beds_chain_is_1_q0 : loopsOf (subC [true, false, true, false, false] (codeOf Try.f104)) 1 = [] := by kernel_rfl
theorem slices_IndexFunc_apiHut_beds_chain_is_1_L0_ok (n : Nat) (st : St) (r : DEx × St) (h : ((slices_IndexFunc_apiHut_beds_chain_is_1_L0 n).go st).Is r) : DA Try.prog false (.loop (subC [true, false, true, false, false] (codeOf Try.f104))) st r := Lp.ok (L := slices_IndexFunc_apiHut_beds_chain_is_1_L0 n) (B := tab) (cs := slices_IndexFunc_apiHut_beds_chain_is_1_cs n) (lo := slices_IndexFunc_apiHut_beds_chain_is_1_lo0 n) (id := 0) rfl (hl_of slices_IndexFunc_apiHut_beds_chain_is_1_q0 all_nil) (fun _ _ => rfl) h
noncomputable def slices_IndexFunc_apiHut_beds_chain_is_1_lo (n : Nat) : Nat → St → PT (DEx × St) := fun k st => match k with
  | 0 => (slices_IndexFunc_apiHut_beds_chain_is_1_L0 n).go st
  | _ => .fail
theorem slices_IndexFunc_apiHut_beds_chain_is_1_q : loopsOf (codeOf Try.f104) 0 = [(0, .loop (subC [true, false, true, false, false] (codeOf Try.f104)))] := by kernel_rfl
theorem slices_IndexFunc_apiHut_beds_chain_is_1_b : Try.f104.body = some (codeOf Try.f104) := by kernel_rfl
abbrev slices_IndexFunc_apiHut_beds_chain_is_1_a : List Ar := [.d T22, .fn 90 [] []]
abbrev slices_IndexFunc_apiHut_beds_chain_is_1_r : List Ty := [T3]
noncomputable def slices_IndexFunc_apiHut_beds_chain_is_1_M (n : Nat) (x : arsDen slices_IndexFunc_apiHut_beds_chain_is_1_a) : Option (tysDen slices_IndexFunc_apiHut_beds_chain_is_1_r) := (dcode tab (slices_IndexFunc_apiHut_beds_chain_is_1_cs n) (slices_IndexFunc_apiHut_beds_chain_is_1_lo n) (codeOf Try.f104) 0 (startS slices_IndexFunc_apiHut_beds_chain_is_1_a 19 x)).run (leafF tab [.tmp 4] slices_IndexFunc_apiHut_beds_chain_is_1_r)
noncomputable def slices_IndexFunc_apiHut_beds_chain_is_1_C (n : Nat) : Ct Try.prog := ⟨104, slices_IndexFunc_apiHut_beds_chain_is_1_a, .ts slices_IndexFunc_apiHut_beds_chain_is_1_r, slices_IndexFunc_apiHut_beds_chain_is_1_M n, fun _ _ h => fn_ok (B := tab) (cs := slices_IndexFunc_apiHut_beds_chain_is_1_cs n) (lo := slices_IndexFunc_apiHut_beds_chain_is_1_lo n) (rs := [.tmp 4]) Try.func104 (by kernel_rfl) slices_IndexFunc_apiHut_beds_chain_is_1_b (by kernel_rfl) (by decide) (hl_of slices_IndexFunc_apiHut_beds_chain_is_1_q (all_cons (fun st r h => slices_IndexFunc_apiHut_beds_chain_is_1_L0_ok n st r h) all_nil)) h⟩
noncomputable def slices_ContainsFunc_apiHut_beds_chain_is_1_cs (n : Nat) : CL Try.prog := ⟨[beds_chain_is_1_C n, slices_IndexFunc_apiHut_beds_chain_is_1_C n], [], 0⟩
noncomputable def slices_ContainsFunc_apiHut_beds_chain_is_1_lo (n : Nat) : Nat → St → PT (DEx × St) := fun _ _ => .fail
theorem slices_ContainsFunc_apiHut_beds_chain_is_1_q : loopsOf (codeOf Try.f89) 0 = [] := by kernel_rfl
theorem slices_ContainsFunc_apiHut_beds_chain_is_1_b : Try.f89.body = some (codeOf Try.f89) := by kernel_rfl
abbrev slices_ContainsFunc_apiHut_beds_chain_is_1_a : List Ar := [.d T22, .fn 90 [] []]
abbrev slices_ContainsFunc_apiHut_beds_chain_is_1_r : List Ty := [T4]
noncomputable def slices_ContainsFunc_apiHut_beds_chain_is_1_M (n : Nat) (x : arsDen slices_ContainsFunc_apiHut_beds_chain_is_1_a) : Option (tysDen slices_ContainsFunc_apiHut_beds_chain_is_1_r) := (dcode tab (slices_ContainsFunc_apiHut_beds_chain_is_1_cs n) (slices_ContainsFunc_apiHut_beds_chain_is_1_lo n) (codeOf Try.f89) 0 (startS slices_ContainsFunc_apiHut_beds_chain_is_1_a 9 x)).run (leafF tab [.tmp 4] slices_ContainsFunc_apiHut_beds_chain_is_1_r)
noncomputable def slices_ContainsFunc_apiHut_beds_chain_is_1_C (n : Nat) : Ct Try.prog := ⟨89, slices_ContainsFunc_apiHut_beds_chain_is_1_a, .ts slices_ContainsFunc_apiHut_beds_chain_is_1_r, slices_ContainsFunc_apiHut_beds_chain_is_1_M n, fun _ _ h => fn_ok (B := tab) (cs := slices_ContainsFunc_apiHut_beds_chain_is_1_cs n) (lo := slices_ContainsFunc_apiHut_beds_chain_is_1_lo n) (rs := [.tmp 4]) Try.func89 (by kernel_rfl) slices_ContainsFunc_apiHut_beds_chain_is_1_b (by kernel_rfl) (by decide) (hl_of slices_ContainsFunc_apiHut_beds_chain_is_1_q all_nil) h⟩
noncomputable def beds_chain_is_cs (n : Nat) : CL Try.prog := ⟨[beds_between_C n, slices_ContainsFunc_apiHut_beds_chain_is_1_C n], [], 0⟩
noncomputable def beds_chain_is_lo (n : Nat) : Nat → St → PT (DEx × St) := fun _ _ => .fail
theorem beds_chain_is_q : loopsOf (codeOf Try.f56) 0 = [] := by kernel_rfl
theorem beds_chain_is_b : Try.f56.body = some (codeOf Try.f56) := by kernel_rfl
abbrev beds_chain_is_a : List Ar := [.d T69]
abbrev beds_chain_is_r : List Ty := [T4]
noncomputable def beds_chain_is_M (n : Nat) (x : arsDen beds_chain_is_a) : Option (tysDen beds_chain_is_r) := (dcode tab (beds_chain_is_cs n) (beds_chain_is_lo n) (codeOf Try.f56) 0 (startS beds_chain_is_a 21 x)).run (leafF tab [.tmp 2] beds_chain_is_r)
noncomputable def beds_chain_is_C (n : Nat) : Ct Try.prog := ⟨56, beds_chain_is_a, .ts beds_chain_is_r, beds_chain_is_M n, fun _ _ h => fn_ok (B := tab) (cs := beds_chain_is_cs n) (lo := beds_chain_is_lo n) (rs := [.tmp 2]) Try.func56 (by kernel_rfl) beds_chain_is_b (by kernel_rfl) (by decide) (hl_of beds_chain_is_q all_nil) h⟩
noncomputable def beds_distinct_1_cs (n : Nat) : CL Try.prog := ⟨[beds_compare_C n], [], 0⟩
noncomputable def beds_distinct_1_lo (n : Nat) : Nat → St → PT (DEx × St) := fun _ _ => .fail
theorem beds_distinct_1_q : loopsOf (codeOf Try.f62) 0 = [] := by kernel_rfl
theorem beds_distinct_1_b : Try.f62.body = some (codeOf Try.f62) := by kernel_rfl
abbrev beds_distinct_1_a : List Ar := [.d T30, .d T30]
abbrev beds_distinct_1_r : List Ty := [T4]
noncomputable def beds_distinct_1_M (n : Nat) (x : arsDen beds_distinct_1_a) : Option (tysDen beds_distinct_1_r) := (dcode tab (beds_distinct_1_cs n) (beds_distinct_1_lo n) (codeOf Try.f62) 0 (startS beds_distinct_1_a 9 x)).run (leafF tab [.tmp 4] beds_distinct_1_r)
noncomputable def beds_distinct_1_C (n : Nat) : Ct Try.prog := ⟨62, beds_distinct_1_a, .ts beds_distinct_1_r, beds_distinct_1_M n, fun _ _ h => fn_ok (B := tab) (cs := beds_distinct_1_cs n) (lo := beds_distinct_1_lo n) (rs := [.tmp 4]) Try.func62 (by kernel_rfl) beds_distinct_1_b (by kernel_rfl) (by decide) (hl_of beds_distinct_1_q all_nil) h⟩
end Go.Proofs.Ytcjgodgpaokbnaa
