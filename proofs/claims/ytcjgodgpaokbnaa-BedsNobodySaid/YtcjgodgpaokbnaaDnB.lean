/- Printed: what functions of the program compute. -/
import Derived.Test.YtcjgodgpaokbnaaDnA
namespace Go.Proofs.Ytcjgodgpaokbnaa
set_option linter.constructorNameAsVariable false
set_option linter.unusedSimpArgs false
set_option linter.unusedVariables false
set_option linter.unusedSectionVars false
open Go Go.Proofs Go.RowKit
set_option maxRecDepth 20000
noncomputable def cmp_isNaN_int_cs (n : Nat) : CL Try.prog := ⟨[], [], 0⟩
noncomputable def cmp_isNaN_int_lo (n : Nat) : Nat → St → PT (DEx × St) := fun _ _ => .fail
theorem cmp_isNaN_int_q : loopsOf (codeOf Try.f98) 0 = [] := by kernel_rfl
theorem cmp_isNaN_int_b : Try.f98.body = some (codeOf Try.f98) := by kernel_rfl
abbrev cmp_isNaN_int_a : List Ar := [.d T3]
abbrev cmp_isNaN_int_r : List Ty := [T4]
noncomputable def cmp_isNaN_int_M (n : Nat) (x : arsDen cmp_isNaN_int_a) : Option (tysDen cmp_isNaN_int_r) := (dcode tab (cmp_isNaN_int_cs n) (cmp_isNaN_int_lo n) (codeOf Try.f98) 0 (startS cmp_isNaN_int_a 6 x)).run (leafF tab [.tmp 2] cmp_isNaN_int_r)
noncomputable def cmp_isNaN_int_C (n : Nat) : Ct Try.prog := ⟨98, cmp_isNaN_int_a, .ts cmp_isNaN_int_r, cmp_isNaN_int_M n, fun _ _ h => fn_ok (B := tab) (cs := cmp_isNaN_int_cs n) (lo := cmp_isNaN_int_lo n) (rs := [.tmp 2]) Try.func98 (by kernel_rfl) cmp_isNaN_int_b (by kernel_rfl) (by decide) (hl_of cmp_isNaN_int_q all_nil) h⟩
noncomputable def cmp_Less_int_cs (n : Nat) : CL Try.prog := ⟨[cmp_isNaN_int_C n], [], 0⟩
noncomputable def cmp_Less_int_lo (n : Nat) : Nat → St → PT (DEx × St) := fun _ _ => .fail
theorem cmp_Less_int_q : loopsOf (codeOf Try.f84) 0 = [] := by kernel_rfl
theorem cmp_Less_int_b : Try.f84.body = some (codeOf Try.f84) := by kernel_rfl
abbrev cmp_Less_int_a : List Ar := [.d T3, .d T3]
abbrev cmp_Less_int_r : List Ty := [T4]
noncomputable def cmp_Less_int_M (n : Nat) (x : arsDen cmp_Less_int_a) : Option (tysDen cmp_Less_int_r) := (dcode tab (cmp_Less_int_cs n) (cmp_Less_int_lo n) (codeOf Try.f84) 0 (startS cmp_Less_int_a 17 x)).run (leafF tab [.tmp 4] cmp_Less_int_r)
noncomputable def cmp_Less_int_C (n : Nat) : Ct Try.prog := ⟨84, cmp_Less_int_a, .ts cmp_Less_int_r, cmp_Less_int_M n, fun _ _ h => fn_ok (B := tab) (cs := cmp_Less_int_cs n) (lo := cmp_Less_int_lo n) (rs := [.tmp 4]) Try.func84 (by kernel_rfl) cmp_Less_int_b (by kernel_rfl) (by decide) (hl_of cmp_Less_int_q all_nil) h⟩
noncomputable def cmp_Compare_int_cs (n : Nat) : CL Try.prog := ⟨[cmp_isNaN_int_C n], [], 0⟩
noncomputable def cmp_Compare_int_lo (n : Nat) : Nat → St → PT (DEx × St) := fun _ _ => .fail
theorem cmp_Compare_int_q : loopsOf (codeOf Try.f77) 0 = [] := by kernel_rfl
theorem cmp_Compare_int_b : Try.f77.body = some (codeOf Try.f77) := by kernel_rfl
abbrev cmp_Compare_int_a : List Ar := [.d T3, .d T3]
abbrev cmp_Compare_int_r : List Ty := [T3]
noncomputable def cmp_Compare_int_M (n : Nat) (x : arsDen cmp_Compare_int_a) : Option (tysDen cmp_Compare_int_r) := (dcode tab (cmp_Compare_int_cs n) (cmp_Compare_int_lo n) (codeOf Try.f77) 0 (startS cmp_Compare_int_a 20 x)).run (leafF tab [.tmp 4] cmp_Compare_int_r)
noncomputable def cmp_Compare_int_C (n : Nat) : Ct Try.prog := ⟨77, cmp_Compare_int_a, .ts cmp_Compare_int_r, cmp_Compare_int_M n, fun _ _ h => fn_ok (B := tab) (cs := cmp_Compare_int_cs n) (lo := cmp_Compare_int_lo n) (rs := [.tmp 4]) Try.func77 (by kernel_rfl) cmp_Compare_int_b (by kernel_rfl) (by decide) (hl_of cmp_Compare_int_q all_nil) h⟩
noncomputable def beds_idsw_cs (n : Nat) : CL Try.prog := ⟨[], [], 0⟩
noncomputable def beds_idsw_lo0 (n : Nat) : Nat → St → PT (DEx × St) := fun _ _ => .fail
abbrev beds_idsw_i0 : List It := [.v (.t 6) T25, .v (.t 7) T3, .v (.t 8) T3, .row (.t 3) false T3 3]
abbrev beds_idsw_o0 : List (DEx × List It) := [(.exit 0, [.row (.t 3) false T3 3])]
noncomputable def beds_idsw_s0 (n : Nat) (rec : itsDen beds_idsw_i0 → Option (outDen beds_idsw_o0)) (s : itsDen beds_idsw_i0) : Option (outDen beds_idsw_o0) := (dcode tab (beds_idsw_cs n) (beds_idsw_lo0 n) (subC [true, true, false, true, false, false] (codeOf Try.f32)) 1 (mkS beds_idsw_i0 19 s)).run (Lp.leaf 19 beds_idsw_i0 beds_idsw_o0 rec)
noncomputable def beds_idsw_L0 (n : Nat) : Lp := ⟨19, beds_idsw_i0, beds_idsw_o0, iterO n (beds_idsw_s0 n)⟩
theorem beds_idsw_q0 : loopsOf (subC [true, true, false, true, false, false] (codeOf Try.f32)) 1 = [] := by kernel_rfl
theorem beds_idsw_L0_ok (n : Nat) (st : St) (r : DEx × St) (h : ((beds_idsw_L0 n).go st).Is r) : DA Try.prog false (.loop (subC [true, true, false, true, false, false] (codeOf Try.f32))) st r := Lp.ok (L := beds_idsw_L0 n) (B := tab) (cs := beds_idsw_cs n) (lo := beds_idsw_lo0 n) (id := 0) rfl (hl_of beds_idsw_q0 all_nil) (fun _ _ => rfl) h
noncomputable def beds_idsw_lo (n : Nat) : Nat → St → PT (DEx × St) := fun k st => match k with
  | 0 => (beds_idsw_L0 n).go st
  | _ => .fail
theorem beds_idsw_q : loopsOf (codeOf Try.f32) 0 = [(0, .loop (subC [true, true, false, true, false, false] (codeOf Try.f32)))] := by kernel_rfl
theorem beds_idsw_b : Try.f32.body = some (codeOf Try.f32) := by kernel_rfl
abbrev beds_idsw_in : List It := [.v (.t 0) T25]
abbrev beds_idsw_out : List (List It) := [[.row (.t 0) false T3 3]]
noncomputable def beds_idsw_M (n : Nat) (x : itsDen beds_idsw_in) : Option (altDen beds_idsw_out) := runW tab (beds_idsw_cs n) (beds_idsw_lo n) (codeOf Try.f32) beds_idsw_in 1 19 [.tmp 2] beds_idsw_out x
noncomputable def beds_idsw_W (n : Nat) : Cw Try.prog := ⟨32, 1, beds_idsw_in, 1, beds_idsw_out, beds_idsw_M n, fun _ _ h => fnW_ok (B := tab) (cs := beds_idsw_cs n) (lo := beds_idsw_lo n) (rs := [.tmp 2]) Try.func32 (by kernel_rfl) beds_idsw_b (by kernel_rfl) (by decide) (hl_of beds_idsw_q (all_cons (fun st r h => beds_idsw_L0_ok n st r h) all_nil)) h⟩
noncomputable def slices_insertionSortOrdered_intw_cs (n : Nat) : CL Try.prog := ⟨[cmp_Less_int_C n], [], 0⟩
noncomputable def slices_insertionSortOrdered_intw_lo1 (n : Nat) : Nat → St → PT (DEx × St) := fun _ _ => .fail
abbrev slices_insertionSortOrdered_intw_i1 : List It := [.v (.t 1) T3, .v (.t 2) T3, .v (.t 6) T3, .v (.t 7) T3, .row (.t 0) true T3 3]
abbrev slices_insertionSortOrdered_intw_o1 : List (DEx × List It) := [(.exit 2, [.v (.t 1) T3, .v (.t 2) T3, .v (.t 6) T3, .row (.t 0) true T3 3])]
noncomputable def slices_insertionSortOrdered_intw_s1 (n : Nat) (rec : itsDen slices_insertionSortOrdered_intw_i1 → Option (outDen slices_insertionSortOrdered_intw_o1)) (s : itsDen slices_insertionSortOrdered_intw_i1) : Option (outDen slices_insertionSortOrdered_intw_o1) := (dcode tab (slices_insertionSortOrdered_intw_cs n) (slices_insertionSortOrdered_intw_lo1 n) (subC [true, false, false, true, false, false, true, false, false] (codeOf Try.f78)) 2 (mkS slices_insertionSortOrdered_intw_i1 49 s)).run (Lp.leaf 49 slices_insertionSortOrdered_intw_i1 slices_insertionSortOrdered_intw_o1 rec)
noncomputable def slices_insertionSortOrdered_intw_L1 (n : Nat) : Lp := ⟨49, slices_insertionSortOrdered_intw_i1, slices_insertionSortOrdered_intw_o1, iterO n (slices_insertionSortOrdered_intw_s1 n)⟩
theorem slices_insertionSortOrdered_intw_q1 : loopsOf (subC [true, false, false, true, false, false, true, false, false] (codeOf Try.f78)) 2 = [] := by kernel_rfl
theorem slices_insertionSortOrdered_intw_L1_ok (n : Nat) (st : St) (r : DEx × St) (h : ((slices_insertionSortOrdered_intw_L1 n).go st).Is r) : DA Try.prog false (.loop (subC [true, false, false, true, false, false, true, false, false] (codeOf Try.f78))) st r := Lp.ok (L := slices_insertionSortOrdered_intw_L1 n) (B := tab) (cs := slices_insertionSortOrdered_intw_cs n) (lo := slices_insertionSortOrdered_intw_lo1 n) (id := 1) rfl (hl_of slices_insertionSortOrdered_intw_q1 all_nil) (fun _ _ => rfl) h
noncomputable def slices_insertionSortOrdered_intw_lo0 (n : Nat) : Nat → St → PT (DEx × St) := fun k st => match k with
  | 1 => (slices_insertionSortOrdered_intw_L1 n).go st
  | _ => .fail
abbrev slices_insertionSortOrdered_intw_i0 : List It := [.v (.t 1) T3, .v (.t 2) T3, .v (.t 6) T3, .row (.t 0) true T3 3]
abbrev slices_insertionSortOrdered_intw_o0 : List (DEx × List It) := [(.exit 0, [.row (.t 0) true T3 3])]
noncomputable def slices_insertionSortOrdered_intw_s0 (n : Nat) (rec : itsDen slices_insertionSortOrdered_intw_i0 → Option (outDen slices_insertionSortOrdered_intw_o0)) (s : itsDen slices_insertionSortOrdered_intw_i0) : Option (outDen slices_insertionSortOrdered_intw_o0) := (dcode tab (slices_insertionSortOrdered_intw_cs n) (slices_insertionSortOrdered_intw_lo0 n) (subC [true, false, false] (codeOf Try.f78)) 1 (mkS slices_insertionSortOrdered_intw_i0 49 s)).run (Lp.leaf 49 slices_insertionSortOrdered_intw_i0 slices_insertionSortOrdered_intw_o0 rec)
noncomputable def slices_insertionSortOrdered_intw_L0 (n : Nat) : Lp := ⟨49, slices_insertionSortOrdered_intw_i0, slices_insertionSortOrdered_intw_o0, iterO n (slices_insertionSortOrdered_intw_s0 n)⟩
theorem slices_insertionSortOrdered_intw_q0 : loopsOf (subC [true, false, false] (codeOf Try.f78)) 1 = [(1, .loop (subC [true, false, false, true, false, false, true, false, false] (codeOf Try.f78)))] := by kernel_rfl
theorem slices_insertionSortOrdered_intw_L0_ok (n : Nat) (st : St) (r : DEx × St) (h : ((slices_insertionSortOrdered_intw_L0 n).go st).Is r) : DA Try.prog false (.loop (subC [true, false, false] (codeOf Try.f78))) st r := Lp.ok (L := slices_insertionSortOrdered_intw_L0 n) (B := tab) (cs := slices_insertionSortOrdered_intw_cs n) (lo := slices_insertionSortOrdered_intw_lo0 n) (id := 0) rfl (hl_of slices_insertionSortOrdered_intw_q0 (all_cons (fun st r h => slices_insertionSortOrdered_intw_L1_ok n st r h) all_nil)) (fun _ _ => rfl) h
noncomputable def slices_insertionSortOrdered_intw_lo (n : Nat) : Nat → St → PT (DEx × St) := fun k st => match k with
  | 0 => (slices_insertionSortOrdered_intw_L0 n).go st
  | _ => .fail
theorem slices_insertionSortOrdered_intw_q : loopsOf (codeOf Try.f78) 0 = [(0, .loop (subC [true, false, false] (codeOf Try.f78)))] := by kernel_rfl
theorem slices_insertionSortOrdered_intw_b : Try.f78.body = some (codeOf Try.f78) := by kernel_rfl
abbrev slices_insertionSortOrdered_intw_in : List It := [.v (.t 1) T3, .v (.t 2) T3, .row (.t 0) true T3 3]
abbrev slices_insertionSortOrdered_intw_out : List (List It) := [[.row (.t 0) true T3 3]]
noncomputable def slices_insertionSortOrdered_intw_M (n : Nat) (x : itsDen slices_insertionSortOrdered_intw_in) : Option (altDen slices_insertionSortOrdered_intw_out) := runW tab (slices_insertionSortOrdered_intw_cs n) (slices_insertionSortOrdered_intw_lo n) (codeOf Try.f78) slices_insertionSortOrdered_intw_in 3 49 [] slices_insertionSortOrdered_intw_out x
noncomputable def slices_insertionSortOrdered_intw_W (n : Nat) : Cw Try.prog := ⟨78, 3, slices_insertionSortOrdered_intw_in, 0, slices_insertionSortOrdered_intw_out, slices_insertionSortOrdered_intw_M n, fun _ _ h => fnW_ok (B := tab) (cs := slices_insertionSortOrdered_intw_cs n) (lo := slices_insertionSortOrdered_intw_lo n) (rs := []) Try.func78 (by kernel_rfl) slices_insertionSortOrdered_intw_b (by kernel_rfl) (by decide) (hl_of slices_insertionSortOrdered_intw_q (all_cons (fun st r h => slices_insertionSortOrdered_intw_L0_ok n st r h) all_nil)) h⟩
noncomputable def slices_siftDownOrdered_intw_cs (n : Nat) : CL Try.prog := ⟨[cmp_Less_int_C n], [], 0⟩
noncomputable def slices_siftDownOrdered_intw_lo0 (n : Nat) : Nat → St → PT (DEx × St) := fun _ _ => .fail
abbrev slices_siftDownOrdered_intw_i0 : List It := [.v (.t 2) T3, .v (.t 3) T3, .v (.t 8) T3, .row (.t 0) true T3 3]
abbrev slices_siftDownOrdered_intw_o0 : List (DEx × List It) := [(.exit 0, [.row (.t 0) true T3 3]), (.ret, [.row (.t 0) true T3 3])]
noncomputable def slices_siftDownOrdered_intw_s0 (n : Nat) (rec : itsDen slices_siftDownOrdered_intw_i0 → Option (outDen slices_siftDownOrdered_intw_o0)) (s : itsDen slices_siftDownOrdered_intw_i0) : Option (outDen slices_siftDownOrdered_intw_o0) := (dcode tab (slices_siftDownOrdered_intw_cs n) (slices_siftDownOrdered_intw_lo0 n) (subC [true, false, false] (codeOf Try.f99)) 1 (mkS slices_siftDownOrdered_intw_i0 76 s)).run (Lp.leaf 76 slices_siftDownOrdered_intw_i0 slices_siftDownOrdered_intw_o0 rec)
noncomputable def slices_siftDownOrdered_intw_L0 (n : Nat) : Lp := ⟨76, slices_siftDownOrdered_intw_i0, slices_siftDownOrdered_intw_o0, iterO n (slices_siftDownOrdered_intw_s0 n)⟩
theorem slices_siftDownOrdered_intw_q0 : loopsOf (subC [true, false, false] (codeOf Try.f99)) 1 = [] := by kernel_rfl
theorem slices_siftDownOrdered_intw_L0_ok (n : Nat) (st : St) (r : DEx × St) (h : ((slices_siftDownOrdered_intw_L0 n).go st).Is r) : DA Try.prog false (.loop (subC [true, false, false] (codeOf Try.f99))) st r := Lp.ok (L := slices_siftDownOrdered_intw_L0 n) (B := tab) (cs := slices_siftDownOrdered_intw_cs n) (lo := slices_siftDownOrdered_intw_lo0 n) (id := 0) rfl (hl_of slices_siftDownOrdered_intw_q0 all_nil) (fun _ _ => rfl) h
noncomputable def slices_siftDownOrdered_intw_lo (n : Nat) : Nat → St → PT (DEx × St) := fun k st => match k with
  | 0 => (slices_siftDownOrdered_intw_L0 n).go st
  | _ => .fail
theorem slices_siftDownOrdered_intw_q : loopsOf (codeOf Try.f99) 0 = [(0, .loop (subC [true, false, false] (codeOf Try.f99)))] := by kernel_rfl
theorem slices_siftDownOrdered_intw_b : Try.f99.body = some (codeOf Try.f99) := by kernel_rfl
abbrev slices_siftDownOrdered_intw_in : List It := [.v (.t 1) T3, .v (.t 2) T3, .v (.t 3) T3, .row (.t 0) true T3 3]
abbrev slices_siftDownOrdered_intw_out : List (List It) := [[.row (.t 0) true T3 3]]
noncomputable def slices_siftDownOrdered_intw_M (n : Nat) (x : itsDen slices_siftDownOrdered_intw_in) : Option (altDen slices_siftDownOrdered_intw_out) := runW tab (slices_siftDownOrdered_intw_cs n) (slices_siftDownOrdered_intw_lo n) (codeOf Try.f99) slices_siftDownOrdered_intw_in 4 76 [] slices_siftDownOrdered_intw_out x
noncomputable def slices_siftDownOrdered_intw_W (n : Nat) : Cw Try.prog := ⟨99, 4, slices_siftDownOrdered_intw_in, 0, slices_siftDownOrdered_intw_out, slices_siftDownOrdered_intw_M n, fun _ _ h => fnW_ok (B := tab) (cs := slices_siftDownOrdered_intw_cs n) (lo := slices_siftDownOrdered_intw_lo n) (rs := []) Try.func99 (by kernel_rfl) slices_siftDownOrdered_intw_b (by kernel_rfl) (by decide) (hl_of slices_siftDownOrdered_intw_q (all_cons (fun st r h => slices_siftDownOrdered_intw_L0_ok n st r h) all_nil)) h⟩
noncomputable def slices_heapSortOrdered_intw_cs (n : Nat) : CL Try.prog := ⟨[], [slices_siftDownOrdered_intw_W n], 0⟩
noncomputable def slices_heapSortOrdered_intw_lo1 (n : Nat) : Nat → St → PT (DEx × St) := fun _ _ => .fail
abbrev slices_heapSortOrdered_intw_i1 : List It := [.v (.t 6) T3, .v (.t 7) T3, .v (.t 10) T3, .row (.t 0) true T3 3]
abbrev slices_heapSortOrdered_intw_o1 : List (DEx × List It) := [(.exit 2, [.row (.t 0) true T3 3])]
noncomputable def slices_heapSortOrdered_intw_s1 (n : Nat) (rec : itsDen slices_heapSortOrdered_intw_i1 → Option (outDen slices_heapSortOrdered_intw_o1)) (s : itsDen slices_heapSortOrdered_intw_i1) : Option (outDen slices_heapSortOrdered_intw_o1) := (dcode tab (slices_heapSortOrdered_intw_cs n) (slices_heapSortOrdered_intw_lo1 n) (subC [true, true, true, true, true, false, false] (codeOf Try.f79)) 2 (mkS slices_heapSortOrdered_intw_i1 56 s)).run (Lp.leaf 56 slices_heapSortOrdered_intw_i1 slices_heapSortOrdered_intw_o1 rec)
noncomputable def slices_heapSortOrdered_intw_L1 (n : Nat) : Lp := ⟨56, slices_heapSortOrdered_intw_i1, slices_heapSortOrdered_intw_o1, iterO n (slices_heapSortOrdered_intw_s1 n)⟩
theorem slices_heapSortOrdered_intw_q1 : loopsOf (subC [true, true, true, true, true, false, false] (codeOf Try.f79)) 2 = [] := by kernel_rfl
theorem slices_heapSortOrdered_intw_L1_ok (n : Nat) (st : St) (r : DEx × St) (h : ((slices_heapSortOrdered_intw_L1 n).go st).Is r) : DA Try.prog false (.loop (subC [true, true, true, true, true, false, false] (codeOf Try.f79))) st r := Lp.ok (L := slices_heapSortOrdered_intw_L1 n) (B := tab) (cs := slices_heapSortOrdered_intw_cs n) (lo := slices_heapSortOrdered_intw_lo1 n) (id := 1) rfl (hl_of slices_heapSortOrdered_intw_q1 all_nil) (fun _ _ => rfl) h
noncomputable def slices_heapSortOrdered_intw_lo0 (n : Nat) : Nat → St → PT (DEx × St) := fun _ _ => .fail
abbrev slices_heapSortOrdered_intw_i0 : List It := [.v (.t 6) T3, .v (.t 7) T3, .v (.t 8) T3, .v (.t 9) T3, .row (.t 0) true T3 3]
abbrev slices_heapSortOrdered_intw_o0 : List (DEx × List It) := [(.exit 0, [.v (.t 6) T3, .v (.t 7) T3, .v (.t 8) T3, .row (.t 0) true T3 3])]
noncomputable def slices_heapSortOrdered_intw_s0 (n : Nat) (rec : itsDen slices_heapSortOrdered_intw_i0 → Option (outDen slices_heapSortOrdered_intw_o0)) (s : itsDen slices_heapSortOrdered_intw_i0) : Option (outDen slices_heapSortOrdered_intw_o0) := (dcode tab (slices_heapSortOrdered_intw_cs n) (slices_heapSortOrdered_intw_lo0 n) (subC [true, true, true, false, true, false, false] (codeOf Try.f79)) 1 (mkS slices_heapSortOrdered_intw_i0 56 s)).run (Lp.leaf 56 slices_heapSortOrdered_intw_i0 slices_heapSortOrdered_intw_o0 rec)
noncomputable def slices_heapSortOrdered_intw_L0 (n : Nat) : Lp := ⟨56, slices_heapSortOrdered_intw_i0, slices_heapSortOrdered_intw_o0, iterO n (slices_heapSortOrdered_intw_s0 n)⟩
theorem slices_heapSortOrdered_intw_q0 : loopsOf (subC [true, true, true, false, true, false, false] (codeOf Try.f79)) 1 = [] := by kernel_rfl
theorem slices_heapSortOrdered_intw_L0_ok (n : Nat) (st : St) (r : DEx × St) (h : ((slices_heapSortOrdered_intw_L0 n).go st).Is r) : DA Try.prog false (.loop (subC [true, true, true, false, true, false, false] (codeOf Try.f79))) st r := Lp.ok (L := slices_heapSortOrdered_intw_L0 n) (B := tab) (cs := slices_heapSortOrdered_intw_cs n) (lo := slices_heapSortOrdered_intw_lo0 n) (id := 0) rfl (hl_of slices_heapSortOrdered_intw_q0 all_nil) (fun _ _ => rfl) h
noncomputable def slices_heapSortOrdered_intw_lo (n : Nat) : Nat → St → PT (DEx × St) := fun k st => match k with
  | 0 => (slices_heapSortOrdered_intw_L0 n).go st
  | 1 => (slices_heapSortOrdered_intw_L1 n).go st
  | _ => .fail
theorem slices_heapSortOrdered_intw_q : loopsOf (codeOf Try.f79) 0 = [(0, .loop (subC [true, true, true, false, true, false, false] (codeOf Try.f79))), (1, .loop (subC [true, true, true, true, true, false, false] (codeOf Try.f79)))] := by kernel_rfl
theorem slices_heapSortOrdered_intw_b : Try.f79.body = some (codeOf Try.f79) := by kernel_rfl
abbrev slices_heapSortOrdered_intw_in : List It := [.v (.t 1) T3, .v (.t 2) T3, .row (.t 0) true T3 3]
abbrev slices_heapSortOrdered_intw_out : List (List It) := [[.row (.t 0) true T3 3]]
noncomputable def slices_heapSortOrdered_intw_M (n : Nat) (x : itsDen slices_heapSortOrdered_intw_in) : Option (altDen slices_heapSortOrdered_intw_out) := runW tab (slices_heapSortOrdered_intw_cs n) (slices_heapSortOrdered_intw_lo n) (codeOf Try.f79) slices_heapSortOrdered_intw_in 3 56 [] slices_heapSortOrdered_intw_out x
noncomputable def slices_heapSortOrdered_intw_W (n : Nat) : Cw Try.prog := ⟨79, 3, slices_heapSortOrdered_intw_in, 0, slices_heapSortOrdered_intw_out, slices_heapSortOrdered_intw_M n, fun _ _ h => fnW_ok (B := tab) (cs := slices_heapSortOrdered_intw_cs n) (lo := slices_heapSortOrdered_intw_lo n) (rs := []) Try.func79 (by kernel_rfl) slices_heapSortOrdered_intw_b (by kernel_rfl) (by decide) (hl_of slices_heapSortOrdered_intw_q (all_cons (fun st r h => slices_heapSortOrdered_intw_L0_ok n st r h) (all_cons (fun st r h => slices_heapSortOrdered_intw_L1_ok n st r h) all_nil))) h⟩
noncomputable def slices_reverseRangeOrdered_intw_cs (n : Nat) : CL Try.prog := ⟨[], [], 0⟩
noncomputable def slices_reverseRangeOrdered_intw_lo0 (n : Nat) : Nat → St → PT (DEx × St) := fun _ _ => .fail
abbrev slices_reverseRangeOrdered_intw_i0 : List It := [.v (.t 6) T3, .v (.t 7) T3, .row (.t 0) true T3 3]
abbrev slices_reverseRangeOrdered_intw_o0 : List (DEx × List It) := [(.exit 0, [.row (.t 0) true T3 3])]
noncomputable def slices_reverseRangeOrdered_intw_s0 (n : Nat) (rec : itsDen slices_reverseRangeOrdered_intw_i0 → Option (outDen slices_reverseRangeOrdered_intw_o0)) (s : itsDen slices_reverseRangeOrdered_intw_i0) : Option (outDen slices_reverseRangeOrdered_intw_o0) := (dcode tab (slices_reverseRangeOrdered_intw_cs n) (slices_reverseRangeOrdered_intw_lo0 n) (subC [true, true, false, false] (codeOf Try.f82)) 1 (mkS slices_reverseRangeOrdered_intw_i0 32 s)).run (Lp.leaf 32 slices_reverseRangeOrdered_intw_i0 slices_reverseRangeOrdered_intw_o0 rec)
noncomputable def slices_reverseRangeOrdered_intw_L0 (n : Nat) : Lp := ⟨32, slices_reverseRangeOrdered_intw_i0, slices_reverseRangeOrdered_intw_o0, iterO n (slices_reverseRangeOrdered_intw_s0 n)⟩
theorem slices_reverseRangeOrdered_intw_q0 : loopsOf (subC [true, true, false, false] (codeOf Try.f82)) 1 = [] := by kernel_rfl
theorem slices_reverseRangeOrdered_intw_L0_ok (n : Nat) (st : St) (r : DEx × St) (h : ((slices_reverseRangeOrdered_intw_L0 n).go st).Is r) : DA Try.prog false (.loop (subC [true, true, false, false] (codeOf Try.f82))) st r := Lp.ok (L := slices_reverseRangeOrdered_intw_L0 n) (B := tab) (cs := slices_reverseRangeOrdered_intw_cs n) (lo := slices_reverseRangeOrdered_intw_lo0 n) (id := 0) rfl (hl_of slices_reverseRangeOrdered_intw_q0 all_nil) (fun _ _ => rfl) h
noncomputable def slices_reverseRangeOrdered_intw_lo (n : Nat) : Nat → St → PT (DEx × St) := fun k st => match k with
  | 0 => (slices_reverseRangeOrdered_intw_L0 n).go st
  | _ => .fail
theorem slices_reverseRangeOrdered_intw_q : loopsOf (codeOf Try.f82) 0 = [(0, .loop (subC [true, true, false, false] (codeOf Try.f82)))] := by kernel_rfl
theorem slices_reverseRangeOrdered_intw_b : Try.f82.body = some (codeOf Try.f82) := by kernel_rfl
abbrev slices_reverseRangeOrdered_intw_in : List It := [.v (.t 1) T3, .v (.t 2) T3, .row (.t 0) true T3 3]
abbrev slices_reverseRangeOrdered_intw_out : List (List It) := [[.row (.t 0) true T3 3]]
noncomputable def slices_reverseRangeOrdered_intw_M (n : Nat) (x : itsDen slices_reverseRangeOrdered_intw_in) : Option (altDen slices_reverseRangeOrdered_intw_out) := runW tab (slices_reverseRangeOrdered_intw_cs n) (slices_reverseRangeOrdered_intw_lo n) (codeOf Try.f82) slices_reverseRangeOrdered_intw_in 3 32 [] slices_reverseRangeOrdered_intw_out x
noncomputable def slices_reverseRangeOrdered_intw_W (n : Nat) : Cw Try.prog := ⟨82, 3, slices_reverseRangeOrdered_intw_in, 0, slices_reverseRangeOrdered_intw_out, slices_reverseRangeOrdered_intw_M n, fun _ _ h => fnW_ok (B := tab) (cs := slices_reverseRangeOrdered_intw_cs n) (lo := slices_reverseRangeOrdered_intw_lo n) (rs := []) Try.func82 (by kernel_rfl) slices_reverseRangeOrdered_intw_b (by kernel_rfl) (by decide) (hl_of slices_reverseRangeOrdered_intw_q (all_cons (fun st r h => slices_reverseRangeOrdered_intw_L0_ok n st r h) all_nil)) h⟩
noncomputable def math_bits_Len64_cs (n : Nat) : CL Try.prog := ⟨[], [], 0⟩
noncomputable def math_bits_Len64_lo (n : Nat) : Nat → St → PT (DEx × St) := fun _ _ => .fail
theorem math_bits_Len64_q : loopsOf (codeOf Try.f88) 0 = [] := by kernel_rfl
theorem math_bits_Len64_b : Try.f88.body = some (codeOf Try.f88) := by kernel_rfl
abbrev math_bits_Len64_a : List Ar := [.d T129]
abbrev math_bits_Len64_r : List Ty := [T3]
noncomputable def math_bits_Len64_M (n : Nat) (x : arsDen math_bits_Len64_a) : Option (tysDen math_bits_Len64_r) := (dcode tab (math_bits_Len64_cs n) (math_bits_Len64_lo n) (codeOf Try.f88) 0 (startS math_bits_Len64_a 25 x)).run (leafF tab [.tmp 2] math_bits_Len64_r)
noncomputable def math_bits_Len64_C (n : Nat) : Ct Try.prog := ⟨88, math_bits_Len64_a, .ts math_bits_Len64_r, math_bits_Len64_M n, fun _ _ h => fn_ok (B := tab) (cs := math_bits_Len64_cs n) (lo := math_bits_Len64_lo n) (rs := [.tmp 2]) Try.func88 (by kernel_rfl) math_bits_Len64_b (by kernel_rfl) (by decide) (hl_of math_bits_Len64_q all_nil) h⟩
noncomputable def slices_order2Ordered_intw_cs (n : Nat) : CL Try.prog := ⟨[cmp_Less_int_C n], [], 0⟩
noncomputable def slices_order2Ordered_intw_lo (n : Nat) : Nat → St → PT (DEx × St) := fun _ _ => .fail
theorem slices_order2Ordered_intw_q : loopsOf (codeOf Try.f114) 0 = [] := by kernel_rfl
theorem slices_order2Ordered_intw_b : Try.f114.body = some (codeOf Try.f114) := by kernel_rfl
abbrev slices_order2Ordered_intw_in : List It := [.v (.t 0) T32, .v (.t 1) T3, .v (.t 2) T3, .obj (.t 3) true 3 1, .v (.c 0 0) T3]
abbrev slices_order2Ordered_intw_out : List (List It) := [[.v (.t 0) T3, .v (.t 1) T3, .obj (.t 2) true 3 1, .v (.c 0 0) T3]]
noncomputable def slices_order2Ordered_intw_M (n : Nat) (x : itsDen slices_order2Ordered_intw_in) : Option (altDen slices_order2Ordered_intw_out) := runW tab (slices_order2Ordered_intw_cs n) (slices_order2Ordered_intw_lo n) (codeOf Try.f114) slices_order2Ordered_intw_in 4 28 [.tmp 8, .tmp 9] slices_order2Ordered_intw_out x
noncomputable def slices_order2Ordered_intw_W (n : Nat) : Cw Try.prog := ⟨114, 4, slices_order2Ordered_intw_in, 2, slices_order2Ordered_intw_out, slices_order2Ordered_intw_M n, fun _ _ h => fnW_ok (B := tab) (cs := slices_order2Ordered_intw_cs n) (lo := slices_order2Ordered_intw_lo n) (rs := [.tmp 8, .tmp 9]) Try.func114 (by kernel_rfl) slices_order2Ordered_intw_b (by kernel_rfl) (by decide) (hl_of slices_order2Ordered_intw_q all_nil) h⟩
noncomputable def slices_medianOrdered_intw_cs (n : Nat) : CL Try.prog := ⟨[], [slices_order2Ordered_intw_W n], 0⟩
noncomputable def slices_medianOrdered_intw_lo (n : Nat) : Nat → St → PT (DEx × St) := fun _ _ => .fail
theorem slices_medianOrdered_intw_q : loopsOf (codeOf Try.f103) 0 = [] := by kernel_rfl
theorem slices_medianOrdered_intw_b : Try.f103.body = some (codeOf Try.f103) := by kernel_rfl
abbrev slices_medianOrdered_intw_in : List It := [.v (.t 0) T32, .v (.t 1) T3, .v (.t 2) T3, .v (.t 3) T3, .obj (.t 4) true 3 1, .v (.c 0 0) T3]
abbrev slices_medianOrdered_intw_out : List (List It) := [[.v (.t 0) T3, .obj (.t 1) true 3 1, .v (.c 0 0) T3]]
noncomputable def slices_medianOrdered_intw_M (n : Nat) (x : itsDen slices_medianOrdered_intw_in) : Option (altDen slices_medianOrdered_intw_out) := runW tab (slices_medianOrdered_intw_cs n) (slices_medianOrdered_intw_lo n) (codeOf Try.f103) slices_medianOrdered_intw_in 5 36 [.tmp 10] slices_medianOrdered_intw_out x
noncomputable def slices_medianOrdered_intw_W (n : Nat) : Cw Try.prog := ⟨103, 5, slices_medianOrdered_intw_in, 1, slices_medianOrdered_intw_out, slices_medianOrdered_intw_M n, fun _ _ h => fnW_ok (B := tab) (cs := slices_medianOrdered_intw_cs n) (lo := slices_medianOrdered_intw_lo n) (rs := [.tmp 10]) Try.func103 (by kernel_rfl) slices_medianOrdered_intw_b (by kernel_rfl) (by decide) (hl_of slices_medianOrdered_intw_q all_nil) h⟩
noncomputable def slices_medianAdjacentOrdered_intw_cs (n : Nat) : CL Try.prog := ⟨[], [slices_medianOrdered_intw_W n], 0⟩
noncomputable def slices_medianAdjacentOrdered_intw_lo (n : Nat) : Nat → St → PT (DEx × St) := fun _ _ => .fail
theorem slices_medianAdjacentOrdered_intw_q : loopsOf (codeOf Try.f102) 0 = [] := by kernel_rfl
theorem slices_medianAdjacentOrdered_intw_b : Try.f102.body = some (codeOf Try.f102) := by kernel_rfl
abbrev slices_medianAdjacentOrdered_intw_in : List It := [.v (.t 0) T32, .v (.t 1) T3, .obj (.t 2) true 3 1, .v (.c 0 0) T3]
abbrev slices_medianAdjacentOrdered_intw_out : List (List It) := [[.v (.t 0) T3, .obj (.t 1) true 3 1, .v (.c 0 0) T3]]
noncomputable def slices_medianAdjacentOrdered_intw_M (n : Nat) (x : itsDen slices_medianAdjacentOrdered_intw_in) : Option (altDen slices_medianAdjacentOrdered_intw_out) := runW tab (slices_medianAdjacentOrdered_intw_cs n) (slices_medianAdjacentOrdered_intw_lo n) (codeOf Try.f102) slices_medianAdjacentOrdered_intw_in 3 15 [.tmp 6] slices_medianAdjacentOrdered_intw_out x
noncomputable def slices_medianAdjacentOrdered_intw_W (n : Nat) : Cw Try.prog := ⟨102, 3, slices_medianAdjacentOrdered_intw_in, 1, slices_medianAdjacentOrdered_intw_out, slices_medianAdjacentOrdered_intw_M n, fun _ _ h => fnW_ok (B := tab) (cs := slices_medianAdjacentOrdered_intw_cs n) (lo := slices_medianAdjacentOrdered_intw_lo n) (rs := [.tmp 6]) Try.func102 (by kernel_rfl) slices_medianAdjacentOrdered_intw_b (by kernel_rfl) (by decide) (hl_of slices_medianAdjacentOrdered_intw_q all_nil) h⟩
noncomputable def slices_choosePivotOrdered_intw_cs (n : Nat) : CL Try.prog := ⟨[], [slices_medianAdjacentOrdered_intw_W n, slices_medianOrdered_intw_W n], 0⟩
noncomputable def slices_choosePivotOrdered_intw_lo (n : Nat) : Nat → St → PT (DEx × St) := fun _ _ => .fail
theorem slices_choosePivotOrdered_intw_q : loopsOf (codeOf Try.f81) 0 = [] := by kernel_rfl
theorem slices_choosePivotOrdered_intw_b : Try.f81.body = some (codeOf Try.f81) := by kernel_rfl
abbrev slices_choosePivotOrdered_intw_in : List It := [.v (.t 0) T32, .v (.t 1) T3, .v (.t 2) T3]
abbrev slices_choosePivotOrdered_intw_out : List (List It) := [[.v (.t 0) T3, .v (.t 1) T118]]
noncomputable def slices_choosePivotOrdered_intw_M (n : Nat) (x : itsDen slices_choosePivotOrdered_intw_in) : Option (altDen slices_choosePivotOrdered_intw_out) := runW tab (slices_choosePivotOrdered_intw_cs n) (slices_choosePivotOrdered_intw_lo n) (codeOf Try.f81) slices_choosePivotOrdered_intw_in 3 57 [.tmp 6, .tmp 7] slices_choosePivotOrdered_intw_out x
noncomputable def slices_choosePivotOrdered_intw_W (n : Nat) : Cw Try.prog := ⟨81, 3, slices_choosePivotOrdered_intw_in, 2, slices_choosePivotOrdered_intw_out, slices_choosePivotOrdered_intw_M n, fun _ _ h => fnW_ok (B := tab) (cs := slices_choosePivotOrdered_intw_cs n) (lo := slices_choosePivotOrdered_intw_lo n) (rs := [.tmp 6, .tmp 7]) Try.func81 (by kernel_rfl) slices_choosePivotOrdered_intw_b (by kernel_rfl) (by decide) (hl_of slices_choosePivotOrdered_intw_q all_nil) h⟩
noncomputable def slices_partialInsertionSortOrdered_intw_cs (n : Nat) : CL Try.prog := ⟨[cmp_Less_int_C n], [], 0⟩
noncomputable def slices_partialInsertionSortOrdered_intw_lo3 (n : Nat) : Nat → St → PT (DEx × St) := fun _ _ => .fail
abbrev slices_partialInsertionSortOrdered_intw_i3 : List It := [.v (.t 1) T3, .v (.t 2) T3, .v (.t 7) T3, .v (.t 8) T3, .v (.t 10) T3, .row (.t 0) true T3 3]
abbrev slices_partialInsertionSortOrdered_intw_o3 : List (DEx × List It) := [(.exit 6, [.v (.t 1) T3, .v (.t 2) T3, .v (.t 7) T3, .v (.t 8) T3, .row (.t 0) true T3 3])]
noncomputable def slices_partialInsertionSortOrdered_intw_s3 (n : Nat) (rec : itsDen slices_partialInsertionSortOrdered_intw_i3 → Option (outDen slices_partialInsertionSortOrdered_intw_o3)) (s : itsDen slices_partialInsertionSortOrdered_intw_i3) : Option (outDen slices_partialInsertionSortOrdered_intw_o3) := (dcode tab (slices_partialInsertionSortOrdered_intw_cs n) (slices_partialInsertionSortOrdered_intw_lo3 n) (subC [true, true, false, true, false, false, true, false, false, true, true, true, true, true, true, false, true, false, false] (codeOf Try.f83)) 4 (mkS slices_partialInsertionSortOrdered_intw_i3 133 s)).run (Lp.leaf 133 slices_partialInsertionSortOrdered_intw_i3 slices_partialInsertionSortOrdered_intw_o3 rec)
noncomputable def slices_partialInsertionSortOrdered_intw_L3 (n : Nat) : Lp := ⟨133, slices_partialInsertionSortOrdered_intw_i3, slices_partialInsertionSortOrdered_intw_o3, iterO n (slices_partialInsertionSortOrdered_intw_s3 n)⟩
theorem slices_partialInsertionSortOrdered_intw_q3 : loopsOf (subC [true, true, false, true, false, false, true, false, false, true, true, true, true, true, true, false, true, false, false] (codeOf Try.f83)) 4 = [] := by kernel_rfl
theorem slices_partialInsertionSortOrdered_intw_L3_ok (n : Nat) (st : St) (r : DEx × St) (h : ((slices_partialInsertionSortOrdered_intw_L3 n).go st).Is r) : DA Try.prog false (.loop (subC [true, true, false, true, false, false, true, false, false, true, true, true, true, true, true, false, true, false, false] (codeOf Try.f83))) st r := Lp.ok (L := slices_partialInsertionSortOrdered_intw_L3 n) (B := tab) (cs := slices_partialInsertionSortOrdered_intw_cs n) (lo := slices_partialInsertionSortOrdered_intw_lo3 n) (id := 3) rfl (hl_of slices_partialInsertionSortOrdered_intw_q3 all_nil) (fun _ _ => rfl) h
noncomputable def slices_partialInsertionSortOrdered_intw_lo2 (n : Nat) : Nat → St → PT (DEx × St) := fun _ _ => .fail
abbrev slices_partialInsertionSortOrdered_intw_i2 : List It := [.v (.t 1) T3, .v (.t 2) T3, .v (.t 7) T3, .v (.t 8) T3, .v (.t 9) T3, .row (.t 0) true T3 3]
abbrev slices_partialInsertionSortOrdered_intw_o2 : List (DEx × List It) := [(.exit 4, [.v (.t 1) T3, .v (.t 2) T3, .v (.t 7) T3, .v (.t 8) T3, .row (.t 0) true T3 3])]
noncomputable def slices_partialInsertionSortOrdered_intw_s2 (n : Nat) (rec : itsDen slices_partialInsertionSortOrdered_intw_i2 → Option (outDen slices_partialInsertionSortOrdered_intw_o2)) (s : itsDen slices_partialInsertionSortOrdered_intw_i2) : Option (outDen slices_partialInsertionSortOrdered_intw_o2) := (dcode tab (slices_partialInsertionSortOrdered_intw_cs n) (slices_partialInsertionSortOrdered_intw_lo2 n) (subC [true, true, false, true, false, false, true, false, false, true, true, true, true, false, true, false, true, false, false] (codeOf Try.f83)) 3 (mkS slices_partialInsertionSortOrdered_intw_i2 133 s)).run (Lp.leaf 133 slices_partialInsertionSortOrdered_intw_i2 slices_partialInsertionSortOrdered_intw_o2 rec)
noncomputable def slices_partialInsertionSortOrdered_intw_L2 (n : Nat) : Lp := ⟨133, slices_partialInsertionSortOrdered_intw_i2, slices_partialInsertionSortOrdered_intw_o2, iterO n (slices_partialInsertionSortOrdered_intw_s2 n)⟩
theorem slices_partialInsertionSortOrdered_intw_q2 : loopsOf (subC [true, true, false, true, false, false, true, false, false, true, true, true, true, false, true, false, true, false, false] (codeOf Try.f83)) 3 = [] := by kernel_rfl
theorem slices_partialInsertionSortOrdered_intw_L2_ok (n : Nat) (st : St) (r : DEx × St) (h : ((slices_partialInsertionSortOrdered_intw_L2 n).go st).Is r) : DA Try.prog false (.loop (subC [true, true, false, true, false, false, true, false, false, true, true, true, true, false, true, false, true, false, false] (codeOf Try.f83))) st r := Lp.ok (L := slices_partialInsertionSortOrdered_intw_L2 n) (B := tab) (cs := slices_partialInsertionSortOrdered_intw_cs n) (lo := slices_partialInsertionSortOrdered_intw_lo2 n) (id := 2) rfl (hl_of slices_partialInsertionSortOrdered_intw_q2 all_nil) (fun _ _ => rfl) h
noncomputable def slices_partialInsertionSortOrdered_intw_lo1 (n : Nat) : Nat → St → PT (DEx × St) := fun _ _ => .fail
abbrev slices_partialInsertionSortOrdered_intw_i1 : List It := [.v (.t 1) T3, .v (.t 2) T3, .v (.t 7) T3, .v (.t 8) T3, .row (.t 0) true T3 3]
abbrev slices_partialInsertionSortOrdered_intw_o1 : List (DEx × List It) := [(.exit 2, [.v (.t 1) T3, .v (.t 2) T3, .v (.t 7) T3, .v (.t 8) T3, .row (.t 0) true T3 3])]
noncomputable def slices_partialInsertionSortOrdered_intw_s1 (n : Nat) (rec : itsDen slices_partialInsertionSortOrdered_intw_i1 → Option (outDen slices_partialInsertionSortOrdered_intw_o1)) (s : itsDen slices_partialInsertionSortOrdered_intw_i1) : Option (outDen slices_partialInsertionSortOrdered_intw_o1) := (dcode tab (slices_partialInsertionSortOrdered_intw_cs n) (slices_partialInsertionSortOrdered_intw_lo1 n) (subC [true, true, false, true, false, false, true, false, false, false, false, false] (codeOf Try.f83)) 2 (mkS slices_partialInsertionSortOrdered_intw_i1 133 s)).run (Lp.leaf 133 slices_partialInsertionSortOrdered_intw_i1 slices_partialInsertionSortOrdered_intw_o1 rec)
noncomputable def slices_partialInsertionSortOrdered_intw_L1 (n : Nat) : Lp := ⟨133, slices_partialInsertionSortOrdered_intw_i1, slices_partialInsertionSortOrdered_intw_o1, iterO n (slices_partialInsertionSortOrdered_intw_s1 n)⟩
theorem slices_partialInsertionSortOrdered_intw_q1 : loopsOf (subC [true, true, false, true, false, false, true, false, false, false, false, false] (codeOf Try.f83)) 2 = [] := by kernel_rfl
theorem slices_partialInsertionSortOrdered_intw_L1_ok (n : Nat) (st : St) (r : DEx × St) (h : ((slices_partialInsertionSortOrdered_intw_L1 n).go st).Is r) : DA Try.prog false (.loop (subC [true, true, false, true, false, false, true, false, false, false, false, false] (codeOf Try.f83))) st r := Lp.ok (L := slices_partialInsertionSortOrdered_intw_L1 n) (B := tab) (cs := slices_partialInsertionSortOrdered_intw_cs n) (lo := slices_partialInsertionSortOrdered_intw_lo1 n) (id := 1) rfl (hl_of slices_partialInsertionSortOrdered_intw_q1 all_nil) (fun _ _ => rfl) h
noncomputable def slices_partialInsertionSortOrdered_intw_lo0 (n : Nat) : Nat → St → PT (DEx × St) := fun k st => match k with
  | 1 => (slices_partialInsertionSortOrdered_intw_L1 n).go st
  | 2 => (slices_partialInsertionSortOrdered_intw_L2 n).go st
  | 3 => (slices_partialInsertionSortOrdered_intw_L3 n).go st
  | _ => .fail
abbrev slices_partialInsertionSortOrdered_intw_i0 : List It := [.v (.t 1) T3, .v (.t 2) T3, .v (.t 7) T3, .v (.t 8) T3, .row (.t 0) true T3 3]
abbrev slices_partialInsertionSortOrdered_intw_o0 : List (DEx × List It) := [(.exit 0, [.row (.t 0) true T3 3]), (.ret, [.v (.t 6) T4, .row (.t 0) true T3 3])]
noncomputable def slices_partialInsertionSortOrdered_intw_s0 (n : Nat) (rec : itsDen slices_partialInsertionSortOrdered_intw_i0 → Option (outDen slices_partialInsertionSortOrdered_intw_o0)) (s : itsDen slices_partialInsertionSortOrdered_intw_i0) : Option (outDen slices_partialInsertionSortOrdered_intw_o0) := (dcode tab (slices_partialInsertionSortOrdered_intw_cs n) (slices_partialInsertionSortOrdered_intw_lo0 n) (subC [true, true, false, true, false, false] (codeOf Try.f83)) 1 (mkS slices_partialInsertionSortOrdered_intw_i0 133 s)).run (Lp.leaf 133 slices_partialInsertionSortOrdered_intw_i0 slices_partialInsertionSortOrdered_intw_o0 rec)
noncomputable def slices_partialInsertionSortOrdered_intw_L0 (n : Nat) : Lp := ⟨133, slices_partialInsertionSortOrdered_intw_i0, slices_partialInsertionSortOrdered_intw_o0, iterO n (slices_partialInsertionSortOrdered_intw_s0 n)⟩
theorem slices_partialInsertionSortOrdered_intw_q0 : loopsOf (subC [true, true, false, true, false, false] (codeOf Try.f83)) 1 = [(1, .loop (subC [true, true, false, true, false, false, true, false, false, false, false, false] (codeOf Try.f83))), (2, .loop (subC [true, true, false, true, false, false, true, false, false, true, true, true, true, false, true, false, true, false, false] (codeOf Try.f83))), (3, .loop (subC [true, true, false, true, false, false, true, false, false, true, true, true, true, true, true, false, true, false, false] (codeOf Try.f83)))] := by kernel_rfl
theorem slices_partialInsertionSortOrdered_intw_L0_ok (n : Nat) (st : St) (r : DEx × St) (h : ((slices_partialInsertionSortOrdered_intw_L0 n).go st).Is r) : DA Try.prog false (.loop (subC [true, true, false, true, false, false] (codeOf Try.f83))) st r := Lp.ok (L := slices_partialInsertionSortOrdered_intw_L0 n) (B := tab) (cs := slices_partialInsertionSortOrdered_intw_cs n) (lo := slices_partialInsertionSortOrdered_intw_lo0 n) (id := 0) rfl (hl_of slices_partialInsertionSortOrdered_intw_q0 (all_cons (fun st r h => slices_partialInsertionSortOrdered_intw_L1_ok n st r h) (all_cons (fun st r h => slices_partialInsertionSortOrdered_intw_L2_ok n st r h) (all_cons (fun st r h => slices_partialInsertionSortOrdered_intw_L3_ok n st r h) all_nil)))) (fun _ _ => rfl) h
noncomputable def slices_partialInsertionSortOrdered_intw_lo (n : Nat) : Nat → St → PT (DEx × St) := fun k st => match k with
  | 0 => (slices_partialInsertionSortOrdered_intw_L0 n).go st
  | _ => .fail
theorem slices_partialInsertionSortOrdered_intw_q : loopsOf (codeOf Try.f83) 0 = [(0, .loop (subC [true, true, false, true, false, false] (codeOf Try.f83)))] := by kernel_rfl
theorem slices_partialInsertionSortOrdered_intw_b : Try.f83.body = some (codeOf Try.f83) := by kernel_rfl
abbrev slices_partialInsertionSortOrdered_intw_in : List It := [.v (.t 1) T3, .v (.t 2) T3, .row (.t 0) true T3 3]
abbrev slices_partialInsertionSortOrdered_intw_out : List (List It) := [[.v (.t 0) T4, .row (.t 1) true T3 3]]
noncomputable def slices_partialInsertionSortOrdered_intw_M (n : Nat) (x : itsDen slices_partialInsertionSortOrdered_intw_in) : Option (altDen slices_partialInsertionSortOrdered_intw_out) := runW tab (slices_partialInsertionSortOrdered_intw_cs n) (slices_partialInsertionSortOrdered_intw_lo n) (codeOf Try.f83) slices_partialInsertionSortOrdered_intw_in 3 133 [.tmp 6] slices_partialInsertionSortOrdered_intw_out x
noncomputable def slices_partialInsertionSortOrdered_intw_W (n : Nat) : Cw Try.prog := ⟨83, 3, slices_partialInsertionSortOrdered_intw_in, 1, slices_partialInsertionSortOrdered_intw_out, slices_partialInsertionSortOrdered_intw_M n, fun _ _ h => fnW_ok (B := tab) (cs := slices_partialInsertionSortOrdered_intw_cs n) (lo := slices_partialInsertionSortOrdered_intw_lo n) (rs := [.tmp 6]) Try.func83 (by kernel_rfl) slices_partialInsertionSortOrdered_intw_b (by kernel_rfl) (by decide) (hl_of slices_partialInsertionSortOrdered_intw_q (all_cons (fun st r h => slices_partialInsertionSortOrdered_intw_L0_ok n st r h) all_nil)) h⟩
noncomputable def slices_partitionEqualOrdered_intw_cs (n : Nat) : CL Try.prog := ⟨[cmp_Less_int_C n], [], 0⟩
noncomputable def slices_partitionEqualOrdered_intw_lo2 (n : Nat) : Nat → St → PT (DEx × St) := fun _ _ => .fail
abbrev slices_partitionEqualOrdered_intw_i2 : List It := [.v (.t 1) T3, .v (.t 9) T3, .v (.t 10) T3, .row (.t 0) true T3 3]
abbrev slices_partitionEqualOrdered_intw_o2 : List (DEx × List It) := [(.exit 4, [.v (.t 1) T3, .v (.t 9) T3, .v (.t 10) T3, .row (.t 0) true T3 3])]
noncomputable def slices_partitionEqualOrdered_intw_s2 (n : Nat) (rec : itsDen slices_partitionEqualOrdered_intw_i2 → Option (outDen slices_partitionEqualOrdered_intw_o2)) (s : itsDen slices_partitionEqualOrdered_intw_i2) : Option (outDen slices_partitionEqualOrdered_intw_o2) := (dcode tab (slices_partitionEqualOrdered_intw_cs n) (slices_partitionEqualOrdered_intw_lo2 n) (subC [true, true, true, false, false, false, false, true, false, false, false] (codeOf Try.f85)) 3 (mkS slices_partitionEqualOrdered_intw_i2 84 s)).run (Lp.leaf 84 slices_partitionEqualOrdered_intw_i2 slices_partitionEqualOrdered_intw_o2 rec)
noncomputable def slices_partitionEqualOrdered_intw_L2 (n : Nat) : Lp := ⟨84, slices_partitionEqualOrdered_intw_i2, slices_partitionEqualOrdered_intw_o2, iterO n (slices_partitionEqualOrdered_intw_s2 n)⟩
theorem slices_partitionEqualOrdered_intw_q2 : loopsOf (subC [true, true, true, false, false, false, false, true, false, false, false] (codeOf Try.f85)) 3 = [] := by kernel_rfl
theorem slices_partitionEqualOrdered_intw_L2_ok (n : Nat) (st : St) (r : DEx × St) (h : ((slices_partitionEqualOrdered_intw_L2 n).go st).Is r) : DA Try.prog false (.loop (subC [true, true, true, false, false, false, false, true, false, false, false] (codeOf Try.f85))) st r := Lp.ok (L := slices_partitionEqualOrdered_intw_L2 n) (B := tab) (cs := slices_partitionEqualOrdered_intw_cs n) (lo := slices_partitionEqualOrdered_intw_lo2 n) (id := 2) rfl (hl_of slices_partitionEqualOrdered_intw_q2 all_nil) (fun _ _ => rfl) h
noncomputable def slices_partitionEqualOrdered_intw_lo1 (n : Nat) : Nat → St → PT (DEx × St) := fun _ _ => .fail
abbrev slices_partitionEqualOrdered_intw_i1 : List It := [.v (.t 1) T3, .v (.t 9) T3, .v (.t 10) T3, .row (.t 0) true T3 3]
abbrev slices_partitionEqualOrdered_intw_o1 : List (DEx × List It) := [(.exit 2, [.v (.t 1) T3, .v (.t 9) T3, .v (.t 10) T3, .row (.t 0) true T3 3])]
noncomputable def slices_partitionEqualOrdered_intw_s1 (n : Nat) (rec : itsDen slices_partitionEqualOrdered_intw_i1 → Option (outDen slices_partitionEqualOrdered_intw_o1)) (s : itsDen slices_partitionEqualOrdered_intw_i1) : Option (outDen slices_partitionEqualOrdered_intw_o1) := (dcode tab (slices_partitionEqualOrdered_intw_cs n) (slices_partitionEqualOrdered_intw_lo1 n) (subC [true, true, true, false, false, false, false, false, false, false] (codeOf Try.f85)) 2 (mkS slices_partitionEqualOrdered_intw_i1 84 s)).run (Lp.leaf 84 slices_partitionEqualOrdered_intw_i1 slices_partitionEqualOrdered_intw_o1 rec)
noncomputable def slices_partitionEqualOrdered_intw_L1 (n : Nat) : Lp := ⟨84, slices_partitionEqualOrdered_intw_i1, slices_partitionEqualOrdered_intw_o1, iterO n (slices_partitionEqualOrdered_intw_s1 n)⟩
theorem slices_partitionEqualOrdered_intw_q1 : loopsOf (subC [true, true, true, false, false, false, false, false, false, false] (codeOf Try.f85)) 2 = [] := by kernel_rfl
theorem slices_partitionEqualOrdered_intw_L1_ok (n : Nat) (st : St) (r : DEx × St) (h : ((slices_partitionEqualOrdered_intw_L1 n).go st).Is r) : DA Try.prog false (.loop (subC [true, true, true, false, false, false, false, false, false, false] (codeOf Try.f85))) st r := Lp.ok (L := slices_partitionEqualOrdered_intw_L1 n) (B := tab) (cs := slices_partitionEqualOrdered_intw_cs n) (lo := slices_partitionEqualOrdered_intw_lo1 n) (id := 1) rfl (hl_of slices_partitionEqualOrdered_intw_q1 all_nil) (fun _ _ => rfl) h
noncomputable def slices_partitionEqualOrdered_intw_lo0 (n : Nat) : Nat → St → PT (DEx × St) := fun k st => match k with
  | 1 => (slices_partitionEqualOrdered_intw_L1 n).go st
  | 2 => (slices_partitionEqualOrdered_intw_L2 n).go st
  | _ => .fail
abbrev slices_partitionEqualOrdered_intw_i0 : List It := [.v (.t 1) T3, .v (.t 9) T3, .v (.t 10) T3, .row (.t 0) true T3 3]
abbrev slices_partitionEqualOrdered_intw_o0 : List (DEx × List It) := [(.exit 0, [.v (.t 9) T3, .row (.t 0) true T3 3])]
noncomputable def slices_partitionEqualOrdered_intw_s0 (n : Nat) (rec : itsDen slices_partitionEqualOrdered_intw_i0 → Option (outDen slices_partitionEqualOrdered_intw_o0)) (s : itsDen slices_partitionEqualOrdered_intw_i0) : Option (outDen slices_partitionEqualOrdered_intw_o0) := (dcode tab (slices_partitionEqualOrdered_intw_cs n) (slices_partitionEqualOrdered_intw_lo0 n) (subC [true, true, true, false, false, false] (codeOf Try.f85)) 1 (mkS slices_partitionEqualOrdered_intw_i0 84 s)).run (Lp.leaf 84 slices_partitionEqualOrdered_intw_i0 slices_partitionEqualOrdered_intw_o0 rec)
noncomputable def slices_partitionEqualOrdered_intw_L0 (n : Nat) : Lp := ⟨84, slices_partitionEqualOrdered_intw_i0, slices_partitionEqualOrdered_intw_o0, iterO n (slices_partitionEqualOrdered_intw_s0 n)⟩
theorem slices_partitionEqualOrdered_intw_q0 : loopsOf (subC [true, true, true, false, false, false] (codeOf Try.f85)) 1 = [(1, .loop (subC [true, true, true, false, false, false, false, false, false, false] (codeOf Try.f85))), (2, .loop (subC [true, true, true, false, false, false, false, true, false, false, false] (codeOf Try.f85)))] := by kernel_rfl
theorem slices_partitionEqualOrdered_intw_L0_ok (n : Nat) (st : St) (r : DEx × St) (h : ((slices_partitionEqualOrdered_intw_L0 n).go st).Is r) : DA Try.prog false (.loop (subC [true, true, true, false, false, false] (codeOf Try.f85))) st r := Lp.ok (L := slices_partitionEqualOrdered_intw_L0 n) (B := tab) (cs := slices_partitionEqualOrdered_intw_cs n) (lo := slices_partitionEqualOrdered_intw_lo0 n) (id := 0) rfl (hl_of slices_partitionEqualOrdered_intw_q0 (all_cons (fun st r h => slices_partitionEqualOrdered_intw_L1_ok n st r h) (all_cons (fun st r h => slices_partitionEqualOrdered_intw_L2_ok n st r h) all_nil))) (fun _ _ => rfl) h
noncomputable def slices_partitionEqualOrdered_intw_lo (n : Nat) : Nat → St → PT (DEx × St) := fun k st => match k with
  | 0 => (slices_partitionEqualOrdered_intw_L0 n).go st
  | _ => .fail
theorem slices_partitionEqualOrdered_intw_q : loopsOf (codeOf Try.f85) 0 = [(0, .loop (subC [true, true, true, false, false, false] (codeOf Try.f85)))] := by kernel_rfl
theorem slices_partitionEqualOrdered_intw_b : Try.f85.body = some (codeOf Try.f85) := by kernel_rfl
abbrev slices_partitionEqualOrdered_intw_in : List It := [.v (.t 1) T3, .v (.t 2) T3, .v (.t 3) T3, .row (.t 0) true T3 3]
abbrev slices_partitionEqualOrdered_intw_out : List (List It) := [[.v (.t 0) T3, .row (.t 1) true T3 3]]
noncomputable def slices_partitionEqualOrdered_intw_M (n : Nat) (x : itsDen slices_partitionEqualOrdered_intw_in) : Option (altDen slices_partitionEqualOrdered_intw_out) := runW tab (slices_partitionEqualOrdered_intw_cs n) (slices_partitionEqualOrdered_intw_lo n) (codeOf Try.f85) slices_partitionEqualOrdered_intw_in 4 84 [.tmp 8] slices_partitionEqualOrdered_intw_out x
noncomputable def slices_partitionEqualOrdered_intw_W (n : Nat) : Cw Try.prog := ⟨85, 4, slices_partitionEqualOrdered_intw_in, 1, slices_partitionEqualOrdered_intw_out, slices_partitionEqualOrdered_intw_M n, fun _ _ h => fnW_ok (B := tab) (cs := slices_partitionEqualOrdered_intw_cs n) (lo := slices_partitionEqualOrdered_intw_lo n) (rs := [.tmp 8]) Try.func85 (by kernel_rfl) slices_partitionEqualOrdered_intw_b (by kernel_rfl) (by decide) (hl_of slices_partitionEqualOrdered_intw_q (all_cons (fun st r h => slices_partitionEqualOrdered_intw_L0_ok n st r h) all_nil)) h⟩
noncomputable def slices_partitionOrdered_intw_cs (n : Nat) : CL Try.prog := ⟨[cmp_Less_int_C n], [], 0⟩
noncomputable def slices_partitionOrdered_intw_lo4 (n : Nat) : Nat → St → PT (DEx × St) := fun _ _ => .fail
abbrev slices_partitionOrdered_intw_i4 : List It := [.v (.t 1) T3, .v (.t 10) T3, .v (.t 11) T3, .row (.t 0) true T3 3]
abbrev slices_partitionOrdered_intw_o4 : List (DEx × List It) := [(.exit 8, [.v (.t 1) T3, .v (.t 10) T3, .v (.t 11) T3, .row (.t 0) true T3 3])]
noncomputable def slices_partitionOrdered_intw_s4 (n : Nat) (rec : itsDen slices_partitionOrdered_intw_i4 → Option (outDen slices_partitionOrdered_intw_o4)) (s : itsDen slices_partitionOrdered_intw_i4) : Option (outDen slices_partitionOrdered_intw_o4) := (dcode tab (slices_partitionOrdered_intw_cs n) (slices_partitionOrdered_intw_lo4 n) (subC [true, true, true, true, true, true, true, true, true, false, false, false, false, true, false, false, false] (codeOf Try.f86)) 5 (mkS slices_partitionOrdered_intw_i4 168 s)).run (Lp.leaf 168 slices_partitionOrdered_intw_i4 slices_partitionOrdered_intw_o4 rec)
noncomputable def slices_partitionOrdered_intw_L4 (n : Nat) : Lp := ⟨168, slices_partitionOrdered_intw_i4, slices_partitionOrdered_intw_o4, iterO n (slices_partitionOrdered_intw_s4 n)⟩
theorem slices_partitionOrdered_intw_q4 : loopsOf (subC [true, true, true, true, true, true, true, true, true, false, false, false, false, true, false, false, false] (codeOf Try.f86)) 5 = [] := by kernel_rfl
theorem slices_partitionOrdered_intw_L4_ok (n : Nat) (st : St) (r : DEx × St) (h : ((slices_partitionOrdered_intw_L4 n).go st).Is r) : DA Try.prog false (.loop (subC [true, true, true, true, true, true, true, true, true, false, false, false, false, true, false, false, false] (codeOf Try.f86))) st r := Lp.ok (L := slices_partitionOrdered_intw_L4 n) (B := tab) (cs := slices_partitionOrdered_intw_cs n) (lo := slices_partitionOrdered_intw_lo4 n) (id := 4) rfl (hl_of slices_partitionOrdered_intw_q4 all_nil) (fun _ _ => rfl) h
noncomputable def slices_partitionOrdered_intw_lo3 (n : Nat) : Nat → St → PT (DEx × St) := fun _ _ => .fail
abbrev slices_partitionOrdered_intw_i3 : List It := [.v (.t 1) T3, .v (.t 10) T3, .v (.t 11) T3, .row (.t 0) true T3 3]
abbrev slices_partitionOrdered_intw_o3 : List (DEx × List It) := [(.exit 6, [.v (.t 1) T3, .v (.t 10) T3, .v (.t 11) T3, .row (.t 0) true T3 3])]
noncomputable def slices_partitionOrdered_intw_s3 (n : Nat) (rec : itsDen slices_partitionOrdered_intw_i3 → Option (outDen slices_partitionOrdered_intw_o3)) (s : itsDen slices_partitionOrdered_intw_i3) : Option (outDen slices_partitionOrdered_intw_o3) := (dcode tab (slices_partitionOrdered_intw_cs n) (slices_partitionOrdered_intw_lo3 n) (subC [true, true, true, true, true, true, true, true, true, false, false, false, false, false, false, false] (codeOf Try.f86)) 4 (mkS slices_partitionOrdered_intw_i3 168 s)).run (Lp.leaf 168 slices_partitionOrdered_intw_i3 slices_partitionOrdered_intw_o3 rec)
noncomputable def slices_partitionOrdered_intw_L3 (n : Nat) : Lp := ⟨168, slices_partitionOrdered_intw_i3, slices_partitionOrdered_intw_o3, iterO n (slices_partitionOrdered_intw_s3 n)⟩
theorem slices_partitionOrdered_intw_q3 : loopsOf (subC [true, true, true, true, true, true, true, true, true, false, false, false, false, false, false, false] (codeOf Try.f86)) 4 = [] := by kernel_rfl
theorem slices_partitionOrdered_intw_L3_ok (n : Nat) (st : St) (r : DEx × St) (h : ((slices_partitionOrdered_intw_L3 n).go st).Is r) : DA Try.prog false (.loop (subC [true, true, true, true, true, true, true, true, true, false, false, false, false, false, false, false] (codeOf Try.f86))) st r := Lp.ok (L := slices_partitionOrdered_intw_L3 n) (B := tab) (cs := slices_partitionOrdered_intw_cs n) (lo := slices_partitionOrdered_intw_lo3 n) (id := 3) rfl (hl_of slices_partitionOrdered_intw_q3 all_nil) (fun _ _ => rfl) h
noncomputable def slices_partitionOrdered_intw_lo2 (n : Nat) : Nat → St → PT (DEx × St) := fun k st => match k with
  | 3 => (slices_partitionOrdered_intw_L3 n).go st
  | 4 => (slices_partitionOrdered_intw_L4 n).go st
  | _ => .fail
abbrev slices_partitionOrdered_intw_i2 : List It := [.v (.t 1) T3, .v (.t 10) T3, .v (.t 11) T3, .row (.t 0) true T3 3]
abbrev slices_partitionOrdered_intw_o2 : List (DEx × List It) := [(.exit 4, [.v (.t 1) T3, .v (.t 11) T3, .row (.t 0) true T3 3])]
noncomputable def slices_partitionOrdered_intw_s2 (n : Nat) (rec : itsDen slices_partitionOrdered_intw_i2 → Option (outDen slices_partitionOrdered_intw_o2)) (s : itsDen slices_partitionOrdered_intw_i2) : Option (outDen slices_partitionOrdered_intw_o2) := (dcode tab (slices_partitionOrdered_intw_cs n) (slices_partitionOrdered_intw_lo2 n) (subC [true, true, true, true, true, true, true, true, true, false, false, false] (codeOf Try.f86)) 3 (mkS slices_partitionOrdered_intw_i2 168 s)).run (Lp.leaf 168 slices_partitionOrdered_intw_i2 slices_partitionOrdered_intw_o2 rec)
noncomputable def slices_partitionOrdered_intw_L2 (n : Nat) : Lp := ⟨168, slices_partitionOrdered_intw_i2, slices_partitionOrdered_intw_o2, iterO n (slices_partitionOrdered_intw_s2 n)⟩
theorem slices_partitionOrdered_intw_q2 : loopsOf (subC [true, true, true, true, true, true, true, true, true, false, false, false] (codeOf Try.f86)) 3 = [(3, .loop (subC [true, true, true, true, true, true, true, true, true, false, false, false, false, false, false, false] (codeOf Try.f86))), (4, .loop (subC [true, true, true, true, true, true, true, true, true, false, false, false, false, true, false, false, false] (codeOf Try.f86)))] := by kernel_rfl
theorem slices_partitionOrdered_intw_L2_ok (n : Nat) (st : St) (r : DEx × St) (h : ((slices_partitionOrdered_intw_L2 n).go st).Is r) : DA Try.prog false (.loop (subC [true, true, true, true, true, true, true, true, true, false, false, false] (codeOf Try.f86))) st r := Lp.ok (L := slices_partitionOrdered_intw_L2 n) (B := tab) (cs := slices_partitionOrdered_intw_cs n) (lo := slices_partitionOrdered_intw_lo2 n) (id := 2) rfl (hl_of slices_partitionOrdered_intw_q2 (all_cons (fun st r h => slices_partitionOrdered_intw_L3_ok n st r h) (all_cons (fun st r h => slices_partitionOrdered_intw_L4_ok n st r h) all_nil))) (fun _ _ => rfl) h
noncomputable def slices_partitionOrdered_intw_lo1 (n : Nat) : Nat → St → PT (DEx × St) := fun _ _ => .fail
abbrev slices_partitionOrdered_intw_i1 : List It := [.v (.t 1) T3, .v (.t 10) T3, .v (.t 11) T3, .row (.t 0) true T3 3]
abbrev slices_partitionOrdered_intw_o1 : List (DEx × List It) := [(.exit 2, [.v (.t 1) T3, .v (.t 10) T3, .v (.t 11) T3, .row (.t 0) true T3 3])]
noncomputable def slices_partitionOrdered_intw_s1 (n : Nat) (rec : itsDen slices_partitionOrdered_intw_i1 → Option (outDen slices_partitionOrdered_intw_o1)) (s : itsDen slices_partitionOrdered_intw_i1) : Option (outDen slices_partitionOrdered_intw_o1) := (dcode tab (slices_partitionOrdered_intw_cs n) (slices_partitionOrdered_intw_lo1 n) (subC [true, true, true, true, false, false, false] (codeOf Try.f86)) 2 (mkS slices_partitionOrdered_intw_i1 168 s)).run (Lp.leaf 168 slices_partitionOrdered_intw_i1 slices_partitionOrdered_intw_o1 rec)
noncomputable def slices_partitionOrdered_intw_L1 (n : Nat) : Lp := ⟨168, slices_partitionOrdered_intw_i1, slices_partitionOrdered_intw_o1, iterO n (slices_partitionOrdered_intw_s1 n)⟩
theorem slices_partitionOrdered_intw_q1 : loopsOf (subC [true, true, true, true, false, false, false] (codeOf Try.f86)) 2 = [] := by kernel_rfl
theorem slices_partitionOrdered_intw_L1_ok (n : Nat) (st : St) (r : DEx × St) (h : ((slices_partitionOrdered_intw_L1 n).go st).Is r) : DA Try.prog false (.loop (subC [true, true, true, true, false, false, false] (codeOf Try.f86))) st r := Lp.ok (L := slices_partitionOrdered_intw_L1 n) (B := tab) (cs := slices_partitionOrdered_intw_cs n) (lo := slices_partitionOrdered_intw_lo1 n) (id := 1) rfl (hl_of slices_partitionOrdered_intw_q1 all_nil) (fun _ _ => rfl) h
noncomputable def slices_partitionOrdered_intw_lo0 (n : Nat) : Nat → St → PT (DEx × St) := fun _ _ => .fail
abbrev slices_partitionOrdered_intw_i0 : List It := [.v (.t 1) T3, .v (.t 10) T3, .v (.t 11) T3, .row (.t 0) true T3 3]
abbrev slices_partitionOrdered_intw_o0 : List (DEx × List It) := [(.exit 0, [.v (.t 1) T3, .v (.t 10) T3, .v (.t 11) T3, .row (.t 0) true T3 3])]
noncomputable def slices_partitionOrdered_intw_s0 (n : Nat) (rec : itsDen slices_partitionOrdered_intw_i0 → Option (outDen slices_partitionOrdered_intw_o0)) (s : itsDen slices_partitionOrdered_intw_i0) : Option (outDen slices_partitionOrdered_intw_o0) := (dcode tab (slices_partitionOrdered_intw_cs n) (slices_partitionOrdered_intw_lo0 n) (subC [true, true, true, false, false, false] (codeOf Try.f86)) 1 (mkS slices_partitionOrdered_intw_i0 168 s)).run (Lp.leaf 168 slices_partitionOrdered_intw_i0 slices_partitionOrdered_intw_o0 rec)
noncomputable def slices_partitionOrdered_intw_L0 (n : Nat) : Lp := ⟨168, slices_partitionOrdered_intw_i0, slices_partitionOrdered_intw_o0, iterO n (slices_partitionOrdered_intw_s0 n)⟩
theorem slices_partitionOrdered_intw_q0 : loopsOf (subC [true, true, true, false, false, false] (codeOf Try.f86)) 1 = [] := by kernel_rfl
theorem slices_partitionOrdered_intw_L0_ok (n : Nat) (st : St) (r : DEx × St) (h : ((slices_partitionOrdered_intw_L0 n).go st).Is r) : DA Try.prog false (.loop (subC [true, true, true, false, false, false] (codeOf Try.f86))) st r := Lp.ok (L := slices_partitionOrdered_intw_L0 n) (B := tab) (cs := slices_partitionOrdered_intw_cs n) (lo := slices_partitionOrdered_intw_lo0 n) (id := 0) rfl (hl_of slices_partitionOrdered_intw_q0 all_nil) (fun _ _ => rfl) h
noncomputable def slices_partitionOrdered_intw_lo (n : Nat) : Nat → St → PT (DEx × St) := fun k st => match k with
  | 0 => (slices_partitionOrdered_intw_L0 n).go st
  | 1 => (slices_partitionOrdered_intw_L1 n).go st
  | 2 => (slices_partitionOrdered_intw_L2 n).go st
  | _ => .fail
theorem slices_partitionOrdered_intw_q : loopsOf (codeOf Try.f86) 0 = [(0, .loop (subC [true, true, true, false, false, false] (codeOf Try.f86))), (1, .loop (subC [true, true, true, true, false, false, false] (codeOf Try.f86))), (2, .loop (subC [true, true, true, true, true, true, true, true, true, false, false, false] (codeOf Try.f86)))] := by kernel_rfl
theorem slices_partitionOrdered_intw_b : Try.f86.body = some (codeOf Try.f86) := by kernel_rfl
abbrev slices_partitionOrdered_intw_in : List It := [.v (.t 1) T3, .v (.t 2) T3, .v (.t 3) T3, .row (.t 0) true T3 3]
abbrev slices_partitionOrdered_intw_out : List (List It) := [[.v (.t 0) T3, .v (.t 1) T4, .row (.t 2) true T3 3]]
noncomputable def slices_partitionOrdered_intw_M (n : Nat) (x : itsDen slices_partitionOrdered_intw_in) : Option (altDen slices_partitionOrdered_intw_out) := runW tab (slices_partitionOrdered_intw_cs n) (slices_partitionOrdered_intw_lo n) (codeOf Try.f86) slices_partitionOrdered_intw_in 4 168 [.tmp 8, .tmp 9] slices_partitionOrdered_intw_out x
noncomputable def slices_partitionOrdered_intw_W (n : Nat) : Cw Try.prog := ⟨86, 4, slices_partitionOrdered_intw_in, 2, slices_partitionOrdered_intw_out, slices_partitionOrdered_intw_M n, fun _ _ h => fnW_ok (B := tab) (cs := slices_partitionOrdered_intw_cs n) (lo := slices_partitionOrdered_intw_lo n) (rs := [.tmp 8, .tmp 9]) Try.func86 (by kernel_rfl) slices_partitionOrdered_intw_b (by kernel_rfl) (by decide) (hl_of slices_partitionOrdered_intw_q (all_cons (fun st r h => slices_partitionOrdered_intw_L0_ok n st r h) (all_cons (fun st r h => slices_partitionOrdered_intw_L1_ok n st r h) (all_cons (fun st r h => slices_partitionOrdered_intw_L2_ok n st r h) all_nil)))) h⟩
noncomputable def beds_between_cs (n : Nat) : CL Try.prog := ⟨[], [], 0⟩
noncomputable def beds_between_lo (n : Nat) : Nat → St → PT (DEx × St) := fun _ _ => .fail
theorem beds_between_q : loopsOf (codeOf Try.f36) 0 = [] := by kernel_rfl
theorem beds_between_b : Try.f36.body = some (codeOf Try.f36) := by kernel_rfl
abbrev beds_between_a : List Ar := [.d T3, .d T3, .d T3]
abbrev beds_between_r : List Ty := [T4]
noncomputable def beds_between_M (n : Nat) (x : arsDen beds_between_a) : Option (tysDen beds_between_r) := (dcode tab (beds_between_cs n) (beds_between_lo n) (codeOf Try.f36) 0 (startS beds_between_a 15 x)).run (leafF tab [.tmp 6] beds_between_r)
noncomputable def beds_between_C (n : Nat) : Ct Try.prog := ⟨36, beds_between_a, .ts beds_between_r, beds_between_M n, fun _ _ h => fn_ok (B := tab) (cs := beds_between_cs n) (lo := beds_between_lo n) (rs := [.tmp 6]) Try.func36 (by kernel_rfl) beds_between_b (by kernel_rfl) (by decide) (hl_of beds_between_q all_nil) h⟩
noncomputable def beds_chain_hut_cs (n : Nat) : CL Try.prog := ⟨[beds_between_C n], [], 0⟩
noncomputable def beds_chain_hut_lo (n : Nat) : Nat → St → PT (DEx × St) := fun _ _ => .fail
theorem beds_chain_hut_q : loopsOf (codeOf Try.f50) 0 = [] := by kernel_rfl
theorem beds_chain_hut_b : Try.f50.body = some (codeOf Try.f50) := by kernel_rfl
abbrev beds_chain_hut_a : List Ar := [.d T69, .d T3]
abbrev beds_chain_hut_r : List Ty := [T4]
noncomputable def beds_chain_hut_M (n : Nat) (x : arsDen beds_chain_hut_a) : Option (tysDen beds_chain_hut_r) := (dcode tab (beds_chain_hut_cs n) (beds_chain_hut_lo n) (codeOf Try.f50) 0 (startS beds_chain_hut_a 12 x)).run (leafF tab [.tmp 4] beds_chain_hut_r)
noncomputable def beds_chain_hut_C (n : Nat) : Ct Try.prog := ⟨50, beds_chain_hut_a, .ts beds_chain_hut_r, beds_chain_hut_M n, fun _ _ h => fn_ok (B := tab) (cs := beds_chain_hut_cs n) (lo := beds_chain_hut_lo n) (rs := [.tmp 4]) Try.func50 (by kernel_rfl) beds_chain_hut_b (by kernel_rfl) (by decide) (hl_of beds_chain_hut_q all_nil) h⟩
noncomputable def beds_chain_night_cs (n : Nat) : CL Try.prog := ⟨[beds_between_C n], [], 0⟩
noncomputable def beds_chain_night_lo (n : Nat) : Nat → St → PT (DEx × St) := fun _ _ => .fail
theorem beds_chain_night_q : loopsOf (codeOf Try.f51) 0 = [] := by kernel_rfl
theorem beds_chain_night_b : Try.f51.body = some (codeOf Try.f51) := by kernel_rfl
abbrev beds_chain_night_a : List Ar := [.d T69, .d T3]
abbrev beds_chain_night_r : List Ty := [T4]
noncomputable def beds_chain_night_M (n : Nat) (x : arsDen beds_chain_night_a) : Option (tysDen beds_chain_night_r) := (dcode tab (beds_chain_night_cs n) (beds_chain_night_lo n) (codeOf Try.f51) 0 (startS beds_chain_night_a 11 x)).run (leafF tab [.tmp 4] beds_chain_night_r)
noncomputable def beds_chain_night_C (n : Nat) : Ct Try.prog := ⟨51, beds_chain_night_a, .ts beds_chain_night_r, beds_chain_night_M n, fun _ _ h => fn_ok (B := tab) (cs := beds_chain_night_cs n) (lo := beds_chain_night_lo n) (rs := [.tmp 4]) Try.func51 (by kernel_rfl) beds_chain_night_b (by kernel_rfl) (by decide) (hl_of beds_chain_night_q all_nil) h⟩
noncomputable def beds_chain_stays_cs (n : Nat) : CL Try.prog := ⟨[beds_between_C n, beds_chain_hut_C n, beds_chain_night_C n], [], 0⟩
noncomputable def beds_chain_stays_lo0 (n : Nat) : Nat → St → PT (DEx × St) := fun _ _ => .fail
abbrev beds_chain_stays_i0 : List It := [.v (.t 5) T3, .v (.t 8) T28, .v (.t 9) T3, .v (.t 10) T3, .obj (.t 2) false 69 2, .v (.c 0 0) T69]
abbrev beds_chain_stays_o0 : List (DEx × List It) := [(.exit 0, []), (.ret, [.v (.t 4) T4])]
noncomputable def beds_chain_stays_s0 (n : Nat) (rec : itsDen beds_chain_stays_i0 → Option (outDen beds_chain_stays_o0)) (s : itsDen beds_chain_stays_i0) : Option (outDen beds_chain_stays_o0) := (dcode tab (beds_chain_stays_cs n) (beds_chain_stays_lo0 n) (subC [true, true, false, true, false, false] (codeOf Try.f105)) 1 (mkS beds_chain_stays_i0 43 s)).run (Lp.leaf 43 beds_chain_stays_i0 beds_chain_stays_o0 rec)
noncomputable def beds_chain_stays_L0 (n : Nat) : Lp := ⟨43, beds_chain_stays_i0, beds_chain_stays_o0, iterO n (beds_chain_stays_s0 n)⟩
theorem beds_chain_stays_q0 : loopsOf (subC [true, true, false, true, false, false] (codeOf Try.f105)) 1 = [] := by kernel_rfl
theorem beds_chain_stays_L0_ok (n : Nat) (st : St) (r : DEx × St) (h : ((beds_chain_stays_L0 n).go st).Is r) : DA Try.prog false (.loop (subC [true, true, false, true, false, false] (codeOf Try.f105))) st r := Lp.ok (L := beds_chain_stays_L0 n) (B := tab) (cs := beds_chain_stays_cs n) (lo := beds_chain_stays_lo0 n) (id := 0) rfl (hl_of beds_chain_stays_q0 all_nil) (fun _ _ => rfl) h
noncomputable def beds_chain_stays_lo (n : Nat) : Nat → St → PT (DEx × St) := fun k st => match k with
  | 0 => (beds_chain_stays_L0 n).go st
  | _ => .fail
theorem beds_chain_stays_q : loopsOf (codeOf Try.f105) 0 = [(0, .loop (subC [true, true, false, true, false, false] (codeOf Try.f105)))] := by kernel_rfl
theorem beds_chain_stays_b : Try.f105.body = some (codeOf Try.f105) := by kernel_rfl
abbrev beds_chain_stays_a : List Ar := [.d T69, .d T28]
abbrev beds_chain_stays_r : List Ty := [T4]
noncomputable def beds_chain_stays_M (n : Nat) (x : arsDen beds_chain_stays_a) : Option (tysDen beds_chain_stays_r) := (dcode tab (beds_chain_stays_cs n) (beds_chain_stays_lo n) (codeOf Try.f105) 0 (startS beds_chain_stays_a 43 x)).run (leafF tab [.tmp 4] beds_chain_stays_r)
noncomputable def beds_chain_stays_C (n : Nat) : Ct Try.prog := ⟨105, beds_chain_stays_a, .ts beds_chain_stays_r, beds_chain_stays_M n, fun _ _ h => fn_ok (B := tab) (cs := beds_chain_stays_cs n) (lo := beds_chain_stays_lo n) (rs := [.tmp 4]) Try.func105 (by kernel_rfl) beds_chain_stays_b (by kernel_rfl) (by decide) (hl_of beds_chain_stays_q (all_cons (fun st r h => beds_chain_stays_L0_ok n st r h) all_nil)) h⟩
noncomputable def beds_chain_message_cs (n : Nat) : CL Try.prog := ⟨[beds_between_C n, beds_chain_stays_C n], [], 0⟩
noncomputable def beds_chain_message_lo (n : Nat) : Nat → St → PT (DEx × St) := fun _ _ => .fail
theorem beds_chain_message_q : loopsOf (codeOf Try.f92) 0 = [] := by kernel_rfl
theorem beds_chain_message_b : Try.f92.body = some (codeOf Try.f92) := by kernel_rfl
abbrev beds_chain_message_a : List Ar := [.d T69, .d T30]
abbrev beds_chain_message_r : List Ty := [T4]
noncomputable def beds_chain_message_M (n : Nat) (x : arsDen beds_chain_message_a) : Option (tysDen beds_chain_message_r) := (dcode tab (beds_chain_message_cs n) (beds_chain_message_lo n) (codeOf Try.f92) 0 (startS beds_chain_message_a 49 x)).run (leafF tab [.tmp 4] beds_chain_message_r)
noncomputable def beds_chain_message_C (n : Nat) : Ct Try.prog := ⟨92, beds_chain_message_a, .ts beds_chain_message_r, beds_chain_message_M n, fun _ _ h => fn_ok (B := tab) (cs := beds_chain_message_cs n) (lo := beds_chain_message_lo n) (rs := [.tmp 4]) Try.func92 (by kernel_rfl) beds_chain_message_b (by kernel_rfl) (by decide) (hl_of beds_chain_message_q all_nil) h⟩
noncomputable def cmp_Or_int_cs (n : Nat) : CL Try.prog := ⟨[], [], 0⟩
noncomputable def cmp_Or_int_lo0 (n : Nat) : Nat → St → PT (DEx × St) := fun _ _ => .fail
abbrev cmp_Or_int_i0 : List It := [.v (.t 3) T3, .v (.t 6) T32, .v (.t 7) T3, .v (.t 8) T3]
abbrev cmp_Or_int_o0 : List (DEx × List It) := [(.exit 0, [.v (.t 3) T3]), (.ret, [.v (.t 2) T3])]
noncomputable def cmp_Or_int_s0 (n : Nat) (rec : itsDen cmp_Or_int_i0 → Option (outDen cmp_Or_int_o0)) (s : itsDen cmp_Or_int_i0) : Option (outDen cmp_Or_int_o0) := (dcode tab (cmp_Or_int_cs n) (cmp_Or_int_lo0 n) (subC [true, true, false, true, false, false] (codeOf Try.f76)) 1 (mkS cmp_Or_int_i0 18 s)).run (Lp.leaf 18 cmp_Or_int_i0 cmp_Or_int_o0 rec)
noncomputable def cmp_Or_int_L0 (n : Nat) : Lp := ⟨18, cmp_Or_int_i0, cmp_Or_int_o0, iterO n (cmp_Or_int_s0 n)⟩
theorem cmp_Or_int_q0 : loopsOf (subC [true, true, false, true, false, false] (codeOf Try.f76)) 1 = [] := by kernel_rfl
theorem cmp_Or_int_L0_ok (n : Nat) (st : St) (r : DEx × St) (h : ((cmp_Or_int_L0 n).go st).Is r) : DA Try.prog false (.loop (subC [true, true, false, true, false, false] (codeOf Try.f76))) st r := Lp.ok (L := cmp_Or_int_L0 n) (B := tab) (cs := cmp_Or_int_cs n) (lo := cmp_Or_int_lo0 n) (id := 0) rfl (hl_of cmp_Or_int_q0 all_nil) (fun _ _ => rfl) h
noncomputable def cmp_Or_int_lo (n : Nat) : Nat → St → PT (DEx × St) := fun k st => match k with
  | 0 => (cmp_Or_int_L0 n).go st
  | _ => .fail
theorem cmp_Or_int_q : loopsOf (codeOf Try.f76) 0 = [(0, .loop (subC [true, true, false, true, false, false] (codeOf Try.f76)))] := by kernel_rfl
theorem cmp_Or_int_b : Try.f76.body = some (codeOf Try.f76) := by kernel_rfl
abbrev cmp_Or_int_a : List Ar := [.d T32]
abbrev cmp_Or_int_r : List Ty := [T3]
noncomputable def cmp_Or_int_M (n : Nat) (x : arsDen cmp_Or_int_a) : Option (tysDen cmp_Or_int_r) := (dcode tab (cmp_Or_int_cs n) (cmp_Or_int_lo n) (codeOf Try.f76) 0 (startS cmp_Or_int_a 18 x)).run (leafF tab [.tmp 2] cmp_Or_int_r)
noncomputable def cmp_Or_int_C (n : Nat) : Ct Try.prog := ⟨76, cmp_Or_int_a, .ts cmp_Or_int_r, cmp_Or_int_M n, fun _ _ h => fn_ok (B := tab) (cs := cmp_Or_int_cs n) (lo := cmp_Or_int_lo n) (rs := [.tmp 2]) Try.func76 (by kernel_rfl) cmp_Or_int_b (by kernel_rfl) (by decide) (hl_of cmp_Or_int_q (all_cons (fun st r h => cmp_Or_int_L0_ok n st r h) all_nil)) h⟩
noncomputable def beds_clash_cs (n : Nat) : CL Try.prog := ⟨[], [], 0⟩
noncomputable def beds_clash_lo0 (n : Nat) : Nat → St → PT (DEx × St) := fun _ _ => .fail
abbrev beds_clash_i0 : List It := [.v (.t 0) T25, .v (.t 5) T25, .v (.t 6) T3, .v (.t 7) T3]
abbrev beds_clash_o0 : List (DEx × List It) := [(.exit 0, []), (.ret, [.v (.t 2) T4])]
noncomputable def beds_clash_s0 (n : Nat) (rec : itsDen beds_clash_i0 → Option (outDen beds_clash_o0)) (s : itsDen beds_clash_i0) : Option (outDen beds_clash_o0) := (dcode tab (beds_clash_cs n) (beds_clash_lo0 n) (subC [true, false, true, false, false] (codeOf Try.f40)) 1 (mkS beds_clash_i0 37 s)).run (Lp.leaf 37 beds_clash_i0 beds_clash_o0 rec)
noncomputable def beds_clash_L0 (n : Nat) : Lp := ⟨37, beds_clash_i0, beds_clash_o0, iterO n (beds_clash_s0 n)⟩
theorem beds_clash_q0 : loopsOf (subC [true, false, true, false, false] (codeOf Try.f40)) 1 = [] := by kernel_rfl
theorem beds_clash_L0_ok (n : Nat) (st : St) (r : DEx × St) (h : ((beds_clash_L0 n).go st).Is r) : DA Try.prog false (.loop (subC [true, false, true, false, false] (codeOf Try.f40))) st r := Lp.ok (L := beds_clash_L0 n) (B := tab) (cs := beds_clash_cs n) (lo := beds_clash_lo0 n) (id := 0) rfl (hl_of beds_clash_q0 all_nil) (fun _ _ => rfl) h
noncomputable def beds_clash_lo (n : Nat) : Nat → St → PT (DEx × St) := fun k st => match k with
  | 0 => (beds_clash_L0 n).go st
  | _ => .fail
theorem beds_clash_q : loopsOf (codeOf Try.f40) 0 = [(0, .loop (subC [true, false, true, false, false] (codeOf Try.f40)))] := by kernel_rfl
theorem beds_clash_b : Try.f40.body = some (codeOf Try.f40) := by kernel_rfl
abbrev beds_clash_a : List Ar := [.d T25]
abbrev beds_clash_r : List Ty := [T4]
noncomputable def beds_clash_M (n : Nat) (x : arsDen beds_clash_a) : Option (tysDen beds_clash_r) := (dcode tab (beds_clash_cs n) (beds_clash_lo n) (codeOf Try.f40) 0 (startS beds_clash_a 37 x)).run (leafF tab [.tmp 2] beds_clash_r)
noncomputable def beds_clash_C (n : Nat) : Ct Try.prog := ⟨40, beds_clash_a, .ts beds_clash_r, beds_clash_M n, fun _ _ h => fn_ok (B := tab) (cs := beds_clash_cs n) (lo := beds_clash_lo n) (rs := [.tmp 2]) Try.func40 (by kernel_rfl) beds_clash_b (by kernel_rfl) (by decide) (hl_of beds_clash_q (all_cons (fun st r h => beds_clash_L0_ok n st r h) all_nil)) h⟩
noncomputable def bivouacref02_CheckNight_cs (n : Nat) : CL Try.prog := ⟨[bivouacref02_Check_C n, bivouacref02_within_C n], [], 0⟩
noncomputable def bivouacref02_CheckNight_lo (n : Nat) : Nat → St → PT (DEx × St) := fun _ _ => .fail
theorem bivouacref02_CheckNight_q : loopsOf (codeOf Try.f18) 0 = [] := by kernel_rfl
theorem bivouacref02_CheckNight_b : Try.f18.body = some (codeOf Try.f18) := by kernel_rfl
abbrev bivouacref02_CheckNight_a : List Ar := [.d T24, .d T25, .d T3, .d T3]
abbrev bivouacref02_CheckNight_r : List Ty := [T33]
noncomputable def bivouacref02_CheckNight_M (n : Nat) (x : arsDen bivouacref02_CheckNight_a) : Option (tysDen bivouacref02_CheckNight_r) := (dcode tab (bivouacref02_CheckNight_cs n) (bivouacref02_CheckNight_lo n) (codeOf Try.f18) 0 (startS bivouacref02_CheckNight_a 31 x)).run (leafF tab [.tmp 8] bivouacref02_CheckNight_r)
noncomputable def bivouacref02_CheckNight_C (n : Nat) : Ct Try.prog := ⟨18, bivouacref02_CheckNight_a, .ts bivouacref02_CheckNight_r, bivouacref02_CheckNight_M n, fun _ _ h => fn_ok (B := tab) (cs := bivouacref02_CheckNight_cs n) (lo := bivouacref02_CheckNight_lo n) (rs := [.tmp 8]) Try.func18 (by kernel_rfl) bivouacref02_CheckNight_b (by kernel_rfl) (by decide) (hl_of bivouacref02_CheckNight_q all_nil) h⟩
noncomputable def bivouaclaw02_sameInts_cs (n : Nat) : CL Try.prog := ⟨[], [], 0⟩
noncomputable def bivouaclaw02_sameInts_lo0 (n : Nat) : Nat → St → PT (DEx × St) := fun _ _ => .fail
abbrev bivouaclaw02_sameInts_i0 : List It := [.v (.t 0) T32, .v (.t 1) T32, .v (.t 5) T3]
abbrev bivouaclaw02_sameInts_o0 : List (DEx × List It) := [(.exit 0, []), (.ret, [.v (.t 4) T4])]
noncomputable def bivouaclaw02_sameInts_s0 (n : Nat) (rec : itsDen bivouaclaw02_sameInts_i0 → Option (outDen bivouaclaw02_sameInts_o0)) (s : itsDen bivouaclaw02_sameInts_i0) : Option (outDen bivouaclaw02_sameInts_o0) := (dcode tab (bivouaclaw02_sameInts_cs n) (bivouaclaw02_sameInts_lo0 n) (subC [true, true, false, true, false, false] (codeOf Try.f14)) 1 (mkS bivouaclaw02_sameInts_i0 26 s)).run (Lp.leaf 26 bivouaclaw02_sameInts_i0 bivouaclaw02_sameInts_o0 rec)
noncomputable def bivouaclaw02_sameInts_L0 (n : Nat) : Lp := ⟨26, bivouaclaw02_sameInts_i0, bivouaclaw02_sameInts_o0, iterO n (bivouaclaw02_sameInts_s0 n)⟩
theorem bivouaclaw02_sameInts_q0 : loopsOf (subC [true, true, false, true, false, false] (codeOf Try.f14)) 1 = [] := by kernel_rfl
theorem bivouaclaw02_sameInts_L0_ok (n : Nat) (st : St) (r : DEx × St) (h : ((bivouaclaw02_sameInts_L0 n).go st).Is r) : DA Try.prog false (.loop (subC [true, true, false, true, false, false] (codeOf Try.f14))) st r := Lp.ok (L := bivouaclaw02_sameInts_L0 n) (B := tab) (cs := bivouaclaw02_sameInts_cs n) (lo := bivouaclaw02_sameInts_lo0 n) (id := 0) rfl (hl_of bivouaclaw02_sameInts_q0 all_nil) (fun _ _ => rfl) h
noncomputable def bivouaclaw02_sameInts_lo (n : Nat) : Nat → St → PT (DEx × St) := fun k st => match k with
  | 0 => (bivouaclaw02_sameInts_L0 n).go st
  | _ => .fail
theorem bivouaclaw02_sameInts_q : loopsOf (codeOf Try.f14) 0 = [(0, .loop (subC [true, true, false, true, false, false] (codeOf Try.f14)))] := by kernel_rfl
theorem bivouaclaw02_sameInts_b : Try.f14.body = some (codeOf Try.f14) := by kernel_rfl
abbrev bivouaclaw02_sameInts_a : List Ar := [.d T32, .d T32]
abbrev bivouaclaw02_sameInts_r : List Ty := [T4]
noncomputable def bivouaclaw02_sameInts_M (n : Nat) (x : arsDen bivouaclaw02_sameInts_a) : Option (tysDen bivouaclaw02_sameInts_r) := (dcode tab (bivouaclaw02_sameInts_cs n) (bivouaclaw02_sameInts_lo n) (codeOf Try.f14) 0 (startS bivouaclaw02_sameInts_a 26 x)).run (leafF tab [.tmp 4] bivouaclaw02_sameInts_r)
noncomputable def bivouaclaw02_sameInts_C (n : Nat) : Ct Try.prog := ⟨14, bivouaclaw02_sameInts_a, .ts bivouaclaw02_sameInts_r, bivouaclaw02_sameInts_M n, fun _ _ h => fn_ok (B := tab) (cs := bivouaclaw02_sameInts_cs n) (lo := bivouaclaw02_sameInts_lo n) (rs := [.tmp 4]) Try.func14 (by kernel_rfl) bivouaclaw02_sameInts_b (by kernel_rfl) (by decide) (hl_of bivouaclaw02_sameInts_q (all_cons (fun st r h => bivouaclaw02_sameInts_L0_ok n st r h) all_nil)) h⟩
noncomputable def bivouaclaw02_Far_cs (n : Nat) : CL Try.prog := ⟨[], [], 0⟩
noncomputable def bivouaclaw02_Far_lo0 (n : Nat) : Nat → St → PT (DEx × St) := fun _ _ => .fail
abbrev bivouaclaw02_Far_i0 : List It := [.v (.t 1) T25, .v (.t 5) T3, .obj (.t 2) false 24 2, .v (.c 0 0) T24]
abbrev bivouaclaw02_Far_o0 : List (DEx × List It) := [(.exit 0, [.v (.t 1) T25, .obj (.t 2) false 24 2, .v (.c 0 0) T24]), (.ret, [.v (.t 4) T4])]
noncomputable def bivouaclaw02_Far_s0 (n : Nat) (rec : itsDen bivouaclaw02_Far_i0 → Option (outDen bivouaclaw02_Far_o0)) (s : itsDen bivouaclaw02_Far_i0) : Option (outDen bivouaclaw02_Far_o0) := (dcode tab (bivouaclaw02_Far_cs n) (bivouaclaw02_Far_lo0 n) (subC [true, false, true, false, false] (codeOf Try.f24)) 1 (mkS bivouaclaw02_Far_i0 38 s)).run (Lp.leaf 38 bivouaclaw02_Far_i0 bivouaclaw02_Far_o0 rec)
noncomputable def bivouaclaw02_Far_L0 (n : Nat) : Lp := ⟨38, bivouaclaw02_Far_i0, bivouaclaw02_Far_o0, iterO n (bivouaclaw02_Far_s0 n)⟩
theorem bivouaclaw02_Far_q0 : loopsOf (subC [true, false, true, false, false] (codeOf Try.f24)) 1 = [] := by kernel_rfl
theorem bivouaclaw02_Far_L0_ok (n : Nat) (st : St) (r : DEx × St) (h : ((bivouaclaw02_Far_L0 n).go st).Is r) : DA Try.prog false (.loop (subC [true, false, true, false, false] (codeOf Try.f24))) st r := Lp.ok (L := bivouaclaw02_Far_L0 n) (B := tab) (cs := bivouaclaw02_Far_cs n) (lo := bivouaclaw02_Far_lo0 n) (id := 0) rfl (hl_of bivouaclaw02_Far_q0 all_nil) (fun _ _ => rfl) h
noncomputable def bivouaclaw02_Far_lo (n : Nat) : Nat → St → PT (DEx × St) := fun k st => match k with
  | 0 => (bivouaclaw02_Far_L0 n).go st
  | _ => .fail
theorem bivouaclaw02_Far_q : loopsOf (codeOf Try.f24) 0 = [(0, .loop (subC [true, false, true, false, false] (codeOf Try.f24)))] := by kernel_rfl
theorem bivouaclaw02_Far_b : Try.f24.body = some (codeOf Try.f24) := by kernel_rfl
abbrev bivouaclaw02_Far_a : List Ar := [.d T24, .d T25]
abbrev bivouaclaw02_Far_r : List Ty := [T4]
noncomputable def bivouaclaw02_Far_M (n : Nat) (x : arsDen bivouaclaw02_Far_a) : Option (tysDen bivouaclaw02_Far_r) := (dcode tab (bivouaclaw02_Far_cs n) (bivouaclaw02_Far_lo n) (codeOf Try.f24) 0 (startS bivouaclaw02_Far_a 38 x)).run (leafF tab [.tmp 4] bivouaclaw02_Far_r)
noncomputable def bivouaclaw02_Far_C (n : Nat) : Ct Try.prog := ⟨24, bivouaclaw02_Far_a, .ts bivouaclaw02_Far_r, bivouaclaw02_Far_M n, fun _ _ h => fn_ok (B := tab) (cs := bivouaclaw02_Far_cs n) (lo := bivouaclaw02_Far_lo n) (rs := [.tmp 4]) Try.func24 (by kernel_rfl) bivouaclaw02_Far_b (by kernel_rfl) (by decide) (hl_of bivouaclaw02_Far_q (all_cons (fun st r h => bivouaclaw02_Far_L0_ok n st r h) all_nil)) h⟩
noncomputable def bivouaclaw02_valid_cs (n : Nat) : CL Try.prog := ⟨[bivouaclaw02_Far_C n, bivouacref02_Check_C n], [], 0⟩
noncomputable def bivouaclaw02_valid_lo (n : Nat) : Nat → St → PT (DEx × St) := fun _ _ => .fail
theorem bivouaclaw02_valid_q : loopsOf (codeOf Try.f9) 0 = [] := by kernel_rfl
theorem bivouaclaw02_valid_b : Try.f9.body = some (codeOf Try.f9) := by kernel_rfl
abbrev bivouaclaw02_valid_a : List Ar := [.d T24, .d T25]
abbrev bivouaclaw02_valid_r : List Ty := [T4]
noncomputable def bivouaclaw02_valid_M (n : Nat) (x : arsDen bivouaclaw02_valid_a) : Option (tysDen bivouaclaw02_valid_r) := (dcode tab (bivouaclaw02_valid_cs n) (bivouaclaw02_valid_lo n) (codeOf Try.f9) 0 (startS bivouaclaw02_valid_a 20 x)).run (leafF tab [.tmp 4] bivouaclaw02_valid_r)
noncomputable def bivouaclaw02_valid_C (n : Nat) : Ct Try.prog := ⟨9, bivouaclaw02_valid_a, .ts bivouaclaw02_valid_r, bivouaclaw02_valid_M n, fun _ _ h => fn_ok (B := tab) (cs := bivouaclaw02_valid_cs n) (lo := bivouaclaw02_valid_lo n) (rs := [.tmp 4]) Try.func9 (by kernel_rfl) bivouaclaw02_valid_b (by kernel_rfl) (by decide) (hl_of bivouaclaw02_valid_q all_nil) h⟩
noncomputable def bivouaclaw02_Example_cs (n : Nat) : CL Try.prog := ⟨[], [], 0⟩
noncomputable def bivouaclaw02_Example_lo (n : Nat) : Nat → St → PT (DEx × St) := fun _ _ => .fail
theorem bivouaclaw02_Example_q : loopsOf (codeOf Try.f30) 0 = [] := by kernel_rfl
theorem bivouaclaw02_Example_b : Try.f30.body = some (codeOf Try.f30) := by kernel_rfl
abbrev bivouaclaw02_Example_a : List Ar := []
abbrev bivouaclaw02_Example_r : List Ty := [T24, T25]
noncomputable def bivouaclaw02_Example_M (n : Nat) (x : arsDen bivouaclaw02_Example_a) : Option (tysDen bivouaclaw02_Example_r) := (dcode tab (bivouaclaw02_Example_cs n) (bivouaclaw02_Example_lo n) (codeOf Try.f30) 0 (startS bivouaclaw02_Example_a 27 x)).run (leafF tab [.cell 0 24, .tmp 1] bivouaclaw02_Example_r)
noncomputable def bivouaclaw02_Example_C (n : Nat) : Ct Try.prog := ⟨30, bivouaclaw02_Example_a, .ts bivouaclaw02_Example_r, bivouaclaw02_Example_M n, fun _ _ h => fn_ok (B := tab) (cs := bivouaclaw02_Example_cs n) (lo := bivouaclaw02_Example_lo n) (rs := [.cell 0 24, .tmp 1]) Try.func30 (by kernel_rfl) bivouaclaw02_Example_b (by kernel_rfl) (by decide) (hl_of bivouaclaw02_Example_q all_nil) h⟩
end Go.Proofs.Ytcjgodgpaokbnaa
