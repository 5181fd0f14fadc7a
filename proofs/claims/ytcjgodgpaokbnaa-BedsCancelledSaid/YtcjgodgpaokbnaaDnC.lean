/- Printed: what functions of the program compute. -/
import Derived.Test.YtcjgodgpaokbnaaDnB
namespace Go.Proofs.Ytcjgodgpaokbnaa
set_option linter.constructorNameAsVariable false
set_option linter.unusedSimpArgs false
set_option linter.unusedVariables false
set_option linter.unusedSectionVars false
open Go Go.Proofs Go.RowKit
set_option maxRecDepth 20000
noncomputable def qvI (n : Nat) : CL Try.prog := ⟨[quA n, qoR n], [], 0⟩
noncomputable def qvJ (n : Nat) : Nat → St → PT (DEx × St) := fun _ _ => .fail
theorem qB3 : qd (qa Try.f75) 0 = [] := by kernel_rfl
theorem qB4 : Try.f75.body = some (qa Try.f75) := by kernel_rfl
abbrev qr8 : List Ar := [.d T30, .d T30]
abbrev qr9 : List Ty := [T3]
noncomputable def qwH (n : Nat) (x : qy qr8) : Option (qk qr9) := (qj tab (qvI n) (qvJ n) (qa Try.f75) 0 (qH qr8 17 x)).run (qbX tab [.tmp 4] qr9)
noncomputable def qsa (n : Nat) : Ct Try.prog := ⟨75, qr8, .ts qr9, qwH n, fun _ _ h => qb1 (B := tab) (cs := qvI n) (lo := qvJ n) (rs := [.tmp 4]) Try.func75 (by kernel_rfl) qB4 (by kernel_rfl) (by decide) (qh qB3 qe) h⟩
noncomputable def qsX (n : Nat) : CL Try.prog := ⟨[], [], 0⟩
noncomputable def qsY (n : Nat) : Nat → St → PT (DEx × St) := fun _ _ => .fail
theorem qzP : qd (qa Try.f74) 0 = [] := by kernel_rfl
theorem qzQ : Try.f74.body = some (qa Try.f74) := by kernel_rfl
abbrev qn4 : List It := [.v (.t 0) T30, .obj (.t 1) true 30 5, .v (.c 0 0) T30]
abbrev qnd : List (List It) := [[.v (.t 0) T4, .obj (.t 1) true 30 5, .v (.c 0 0) T30]]
noncomputable def qtA (n : Nat) (x : qc qn4) : Option (qw qnd) := runW tab (qsX n) (qsY n) (qa Try.f74) qn4 2 14 [.tmp 3] qnd x
noncomputable def qtB (n : Nat) : Cw Try.prog := ⟨74, 2, qn4, 1, qnd, qtA n, fun _ _ h => q9 (B := tab) (cs := qsX n) (lo := qsY n) (rs := [.tmp 3]) Try.func74 (by kernel_rfl) qzQ (by kernel_rfl) (by decide) (qh qzP qe) h⟩
noncomputable def qby (n : Nat) : CL Try.prog := ⟨[], [qtB n], 0⟩
noncomputable def qfq (n : Nat) : Nat → St → PT (DEx × St) := fun _ _ => .fail
abbrev qT : List It := [.v (.t 0) T25, .v (.t 7) T3, .v (.t 8) T3, .fnc (.t 1) 74 [.box true 30 5], .v (.c 0 0) T30]
abbrev qbz : List (DEx × List It) := [(.exit 0, [.fnc (.t 1) 74 [.box true 30 5], .v (.c 0 0) T30]), (.ret, [.v (.t 4) T3, .fnc (.t 1) 74 [.box true 30 5], .v (.c 0 0) T30])]
noncomputable def qfE (n : Nat) (rec : qc qT → Option (qf qbz)) (s : qc qT) : Option (qf qbz) := (qj tab (qby n) (qfq n) (subC [true, false, true, false, false] (qa Try.f64)) 1 (mkS qT 19 s)).run (Lp.leaf 19 qT qbz rec)
noncomputable def qcT (n : Nat) : Lp := ⟨19, qT, qbz, qg n (qfE n)⟩
theorem qj5 : qd (subC [true, false, true, false, false] (qa Try.f64)) 1 = [] := by kernel_rfl
theorem qi7 (n : Nat) (st : St) (r : DEx × St) (h : ((qcT n).go st).Is r) : DA Try.prog false (.loop (subC [true, false, true, false, false] (qa Try.f64))) st r := Lp.ok (L := qcT n) (B := tab) (cs := qby n) (lo := qfq n) (id := 0) rfl (qh qj5 qe) (fun _ _ => rfl) h
noncomputable def qfF (n : Nat) : Nat → St → PT (DEx × St) := fun k st => match k with
  | 0 => (qcT n).go st
  | _ => .fail
theorem qko : qd (qa Try.f64) 0 = [(0, .loop (subC [true, false, true, false, false] (qa Try.f64)))] := by kernel_rfl
theorem qkp : Try.f64.body = some (qa Try.f64) := by kernel_rfl
abbrev qcU : List It := [.v (.t 0) T25, .fnc (.t 1) 74 [.box true 30 5], .v (.c 0 0) T30]
abbrev qcM : List (List It) := [[.v (.t 0) T3, .obj (.t 1) true 30 5, .v (.c 0 0) T30]]
noncomputable def qfR (n : Nat) (x : qc qcU) : Option (qw qcM) := runW tab (qby n) (qfF n) (qa Try.f64) qcU 2 19 [.tmp 4] qcM x
noncomputable def qc5 (n : Nat) : Cw Try.prog := ⟨64, 2, qcU, 1, qcM, qfR n, fun _ _ h => q9 (B := tab) (cs := qby n) (lo := qfF n) (rs := [.tmp 4]) Try.func64 (by kernel_rfl) qkp (by kernel_rfl) (by decide) (qh qko (all_cons (fun st r h => qi7 n st r h) qe)) h⟩
noncomputable def qeQ (n : Nat) : CL Try.prog := ⟨[], [qc5 n, qtB n], 0⟩
noncomputable def qeR (n : Nat) : Nat → St → PT (DEx × St) := fun _ _ => .fail
theorem qjm : qd (qa Try.f73) 0 = [] := by kernel_rfl
theorem qjn : Try.f73.body = some (qa Try.f73) := by kernel_rfl
abbrev qcs : List It := [.v (.t 0) T25, .fnc (.t 1) 74 [.box true 30 5], .v (.c 0 0) T30]
abbrev qcl : List (List It) := [[.v (.t 0) T4, .obj (.t 1) true 30 5, .v (.c 0 0) T30]]
noncomputable def qfg (n : Nat) (x : qc qcs) : Option (qw qcl) := runW tab (qeQ n) (qeR n) (qa Try.f73) qcs 2 9 [.tmp 4] qcl x
noncomputable def qfh (n : Nat) : Cw Try.prog := ⟨73, 2, qcs, 1, qcl, qfg n, fun _ _ h => q9 (B := tab) (cs := qeQ n) (lo := qeR n) (rs := [.tmp 4]) Try.func73 (by kernel_rfl) qjn (by kernel_rfl) (by decide) (qh qjm qe) h⟩
noncomputable def quF (n : Nat) : CL Try.prog := ⟨[], [qfh n], 0⟩
noncomputable def quG (n : Nat) : Nat → St → PT (DEx × St) := fun _ _ => .fail
theorem qBm : qd (qa Try.f72) 0 = [] := by kernel_rfl
theorem qBn : Try.f72.body = some (qa Try.f72) := by kernel_rfl
abbrev qpO : List It := [.v (.t 0) T30, .obj (.t 1) true 25 1, .v (.c 0 0) T25]
abbrev qo4 : List (List It) := [[.v (.t 0) T4, .obj (.t 1) true 25 1, .v (.c 0 0) T25]]
noncomputable def qvK (n : Nat) (x : qc qpO) : Option (qw qo4) := runW tab (quF n) (quG n) (qa Try.f72) qpO 2 12 [.tmp 3] qo4 x
noncomputable def qvL (n : Nat) : Cw Try.prog := ⟨72, 2, qpO, 1, qo4, qvK n, fun _ _ h => q9 (B := tab) (cs := quF n) (lo := quG n) (rs := [.tmp 3]) Try.func72 (by kernel_rfl) qBn (by kernel_rfl) (by decide) (qh qBm qe) h⟩
noncomputable def qu (n : Nat) : CL Try.prog := ⟨[qsa n], [], 0⟩
noncomputable def qdL (n : Nat) : Nat → St → PT (DEx × St) := fun _ _ => .fail
abbrev qC : List It := [.v (.t 1) T3, .v (.t 2) T3, .fn (.t 3) 75 [] [], .v (.t 8) T3, .v (.t 9) T3, .row (.t 0) true T30 30]
abbrev qU : List (DEx × List It) := [(.exit 2, [.v (.t 1) T3, .v (.t 2) T3, .fn (.t 3) 75 [] [], .v (.t 8) T3, .row (.t 0) true T30 30])]
noncomputable def qd1 (n : Nat) (rec : qc qC → Option (qf qU)) (s : qc qC) : Option (qf qU) := (qj tab (qu n) (qdL n) (subC [true, false, false, true, false, false, true, false, false] (qa Try.f106)) 2 (mkS qC 53 s)).run (Lp.leaf 53 qC qU rec)
noncomputable def qbG (n : Nat) : Lp := ⟨53, qC, qU, qg n (qd1 n)⟩
theorem qhQ : qd (subC [true, false, false, true, false, false, true, false, false] (qa Try.f106)) 2 = [] := by kernel_rfl
theorem qhd (n : Nat) (st : St) (r : DEx × St) (h : ((qbG n).go st).Is r) : DA Try.prog false (.loop (subC [true, false, false, true, false, false, true, false, false] (qa Try.f106))) st r := Lp.ok (L := qbG n) (B := tab) (cs := qu n) (lo := qdL n) (id := 1) rfl (qh qhQ qe) (fun _ _ => rfl) h
noncomputable def qdM (n : Nat) : Nat → St → PT (DEx × St) := fun k st => match k with
  | 1 => (qbG n).go st
  | _ => .fail
abbrev qD : List It := [.v (.t 1) T3, .v (.t 2) T3, .fn (.t 3) 75 [] [], .v (.t 8) T3, .row (.t 0) true T30 30]
abbrev qV : List (DEx × List It) := [(.exit 0, [.row (.t 0) true T30 30])]
noncomputable def qd2 (n : Nat) (rec : qc qD → Option (qf qV)) (s : qc qD) : Option (qf qV) := (qj tab (qu n) (qdM n) (subC [true, false, false] (qa Try.f106)) 1 (mkS qD 53 s)).run (Lp.leaf 53 qD qV rec)
noncomputable def qbH (n : Nat) : Lp := ⟨53, qD, qV, qg n (qd2 n)⟩
theorem qhR : qd (subC [true, false, false] (qa Try.f106)) 1 = [(1, .loop (subC [true, false, false, true, false, false, true, false, false] (qa Try.f106)))] := by kernel_rfl
theorem qhe (n : Nat) (st : St) (r : DEx × St) (h : ((qbH n).go st).Is r) : DA Try.prog false (.loop (subC [true, false, false] (qa Try.f106))) st r := Lp.ok (L := qbH n) (B := tab) (cs := qu n) (lo := qdM n) (id := 0) rfl (qh qhR (all_cons (fun st r h => qhd n st r h) qe)) (fun _ _ => rfl) h
noncomputable def qd3 (n : Nat) : Nat → St → PT (DEx × St) := fun k st => match k with
  | 0 => (qbH n).go st
  | _ => .fail
theorem qh9 : qd (qa Try.f106) 0 = [(0, .loop (subC [true, false, false] (qa Try.f106)))] := by kernel_rfl
theorem qia : Try.f106.body = some (qa Try.f106) := by kernel_rfl
abbrev qbI : List It := [.v (.t 1) T3, .v (.t 2) T3, .fn (.t 3) 75 [] [], .row (.t 0) true T30 30]
abbrev qbD : List (List It) := [[.row (.t 0) true T30 30]]
noncomputable def qed (n : Nat) (x : qc qbI) : Option (qw qbD) := runW tab (qu n) (qd3 n) (qa Try.f106) qbI 4 53 [] qbD x
noncomputable def qee (n : Nat) : Cw Try.prog := ⟨106, 4, qbI, 0, qbD, qed n, fun _ _ h => q9 (B := tab) (cs := qu n) (lo := qd3 n) (rs := []) Try.func106 (by kernel_rfl) qia (by kernel_rfl) (by decide) (qh qh9 (all_cons (fun st r h => qhe n st r h) qe)) h⟩
noncomputable def qtC (n : Nat) : CL Try.prog := ⟨[quA n, qoR n], [], 0⟩
noncomputable def qtD (n : Nat) : Nat → St → PT (DEx × St) := fun _ _ => .fail
theorem qAF : qd (qa Try.f96) 0 = [] := by kernel_rfl
theorem qAG : Try.f96.body = some (qa Try.f96) := by kernel_rfl
abbrev qpP : List Ar := [.d T77, .d T77]
abbrev qpQ : List Ty := [T3]
noncomputable def quH (n : Nat) (x : qy qpP) : Option (qk qpQ) := (qj tab (qtC n) (qtD n) (qa Try.f96) 0 (qH qpP 26 x)).run (qbX tab [.tmp 4] qpQ)
noncomputable def qAH (n : Nat) : Ct Try.prog := ⟨96, qpP, .ts qpQ, quH n, fun _ _ h => qb1 (B := tab) (cs := qtC n) (lo := qtD n) (rs := [.tmp 4]) Try.func96 (by kernel_rfl) qAG (by kernel_rfl) (by decide) (qh qAF qe) h⟩
noncomputable def qbJ (n : Nat) : CL Try.prog := ⟨[qAH n], [], 0⟩
noncomputable def qfS (n : Nat) : Nat → St → PT (DEx × St) := fun _ _ => .fail
abbrev q8 : List It := [.v (.t 0) T28, .v (.t 1) T28, .fn (.t 2) 96 [] [], .v (.t 11) T28, .v (.t 12) T3, .v (.t 13) T3]
abbrev qbK : List (DEx × List It) := [(.exit 0, [.v (.t 0) T28, .v (.t 1) T28]), (.ret, [.v (.t 6) T3])]
noncomputable def qf3 (n : Nat) (rec : qc q8 → Option (qf qbK)) (s : qc q8) : Option (qf qbK) := (qj tab (qbJ n) (qfS n) (subC [true, false, true, false, false] (qa Try.f95)) 1 (mkS q8 39 s)).run (Lp.leaf 39 q8 qbK rec)
noncomputable def qde (n : Nat) : Lp := ⟨39, q8, qbK, qg n (qf3 n)⟩
theorem qkK : qd (subC [true, false, true, false, false] (qa Try.f95)) 1 = [] := by kernel_rfl
theorem qjN (n : Nat) (st : St) (r : DEx × St) (h : ((qde n).go st).Is r) : DA Try.prog false (.loop (subC [true, false, true, false, false] (qa Try.f95))) st r := Lp.ok (L := qde n) (B := tab) (cs := qbJ n) (lo := qfS n) (id := 0) rfl (qh qkK qe) (fun _ _ => rfl) h
noncomputable def qf4 (n : Nat) : Nat → St → PT (DEx × St) := fun k st => match k with
  | 0 => (qde n).go st
  | _ => .fail
theorem qlb : qd (qa Try.f95) 0 = [(0, .loop (subC [true, false, true, false, false] (qa Try.f95)))] := by kernel_rfl
theorem qlc : Try.f95.body = some (qa Try.f95) := by kernel_rfl
abbrev qdr : List Ar := [.d T28, .d T28, .fn 96 [] []]
abbrev qds : List Ty := [T3]
noncomputable def qgf (n : Nat) (x : qy qdr) : Option (qk qds) := (qj tab (qbJ n) (qf4 n) (qa Try.f95) 0 (qH qdr 39 x)).run (qbX tab [.tmp 6] qds)
noncomputable def qld (n : Nat) : Ct Try.prog := ⟨95, qdr, .ts qds, qgf n, fun _ _ h => qb1 (B := tab) (cs := qbJ n) (lo := qf4 n) (rs := [.tmp 6]) Try.func95 (by kernel_rfl) qlc (by kernel_rfl) (by decide) (qh qlb (all_cons (fun st r h => qjN n st r h) qe)) h⟩
noncomputable def qvM (n : Nat) : CL Try.prog := ⟨[quA n, qoR n, qld n], [], 0⟩
noncomputable def qvN (n : Nat) : Nat → St → PT (DEx × St) := fun _ _ => .fail
theorem qB5 : qd (qa Try.f60) 0 = [] := by kernel_rfl
theorem qB6 : Try.f60.body = some (qa Try.f60) := by kernel_rfl
abbrev qsb : List Ar := [.d T30, .d T30]
abbrev qsc : List Ty := [T3]
noncomputable def qwI (n : Nat) (x : qy qsb) : Option (qk qsc) := (qj tab (qvM n) (qvN n) (qa Try.f60) 0 (qH qsb 32 x)).run (qbX tab [.tmp 4] qsc)
noncomputable def qow (n : Nat) : Ct Try.prog := ⟨60, qsb, .ts qsc, qwI n, fun _ _ h => qb1 (B := tab) (cs := qvM n) (lo := qvN n) (rs := [.tmp 4]) Try.func60 (by kernel_rfl) qB6 (by kernel_rfl) (by decide) (qh qB5 qe) h⟩
noncomputable def qv (n : Nat) : CL Try.prog := ⟨[qow n], [], 0⟩
noncomputable def qdN (n : Nat) : Nat → St → PT (DEx × St) := fun _ _ => .fail
abbrev qE : List It := [.v (.t 1) T3, .v (.t 2) T3, .fn (.t 3) 60 [] [], .v (.t 8) T3, .v (.t 9) T3, .row (.t 0) true T30 30]
abbrev qW : List (DEx × List It) := [(.exit 2, [.v (.t 1) T3, .v (.t 2) T3, .fn (.t 3) 60 [] [], .v (.t 8) T3, .row (.t 0) true T30 30])]
noncomputable def qd4 (n : Nat) (rec : qc qE → Option (qf qW)) (s : qc qE) : Option (qf qW) := (qj tab (qv n) (qdN n) (subC [true, false, false, true, false, false, true, false, false] (qa Try.f106)) 2 (mkS qE 53 s)).run (Lp.leaf 53 qE qW rec)
noncomputable def qbL (n : Nat) : Lp := ⟨53, qE, qW, qg n (qd4 n)⟩
theorem qhS : qd (subC [true, false, false, true, false, false, true, false, false] (qa Try.f106)) 2 = [] := by kernel_rfl
theorem qhf (n : Nat) (st : St) (r : DEx × St) (h : ((qbL n).go st).Is r) : DA Try.prog false (.loop (subC [true, false, false, true, false, false, true, false, false] (qa Try.f106))) st r := Lp.ok (L := qbL n) (B := tab) (cs := qv n) (lo := qdN n) (id := 1) rfl (qh qhS qe) (fun _ _ => rfl) h
noncomputable def qdO (n : Nat) : Nat → St → PT (DEx × St) := fun k st => match k with
  | 1 => (qbL n).go st
  | _ => .fail
abbrev qF : List It := [.v (.t 1) T3, .v (.t 2) T3, .fn (.t 3) 60 [] [], .v (.t 8) T3, .row (.t 0) true T30 30]
abbrev qX : List (DEx × List It) := [(.exit 0, [.row (.t 0) true T30 30])]
noncomputable def qd5 (n : Nat) (rec : qc qF → Option (qf qX)) (s : qc qF) : Option (qf qX) := (qj tab (qv n) (qdO n) (subC [true, false, false] (qa Try.f106)) 1 (mkS qF 53 s)).run (Lp.leaf 53 qF qX rec)
noncomputable def qbM (n : Nat) : Lp := ⟨53, qF, qX, qg n (qd5 n)⟩
theorem qhT : qd (subC [true, false, false] (qa Try.f106)) 1 = [(1, .loop (subC [true, false, false, true, false, false, true, false, false] (qa Try.f106)))] := by kernel_rfl
theorem qhg (n : Nat) (st : St) (r : DEx × St) (h : ((qbM n).go st).Is r) : DA Try.prog false (.loop (subC [true, false, false] (qa Try.f106))) st r := Lp.ok (L := qbM n) (B := tab) (cs := qv n) (lo := qdO n) (id := 0) rfl (qh qhT (all_cons (fun st r h => qhf n st r h) qe)) (fun _ _ => rfl) h
noncomputable def qd6 (n : Nat) : Nat → St → PT (DEx × St) := fun k st => match k with
  | 0 => (qbM n).go st
  | _ => .fail
theorem qib : qd (qa Try.f106) 0 = [(0, .loop (subC [true, false, false] (qa Try.f106)))] := by kernel_rfl
theorem qic : Try.f106.body = some (qa Try.f106) := by kernel_rfl
abbrev qbN : List It := [.v (.t 1) T3, .v (.t 2) T3, .fn (.t 3) 60 [] [], .row (.t 0) true T30 30]
abbrev qbE : List (List It) := [[.row (.t 0) true T30 30]]
noncomputable def qef (n : Nat) (x : qc qbN) : Option (qw qbE) := runW tab (qv n) (qd6 n) (qa Try.f106) qbN 4 53 [] qbE x
noncomputable def qeg (n : Nat) : Cw Try.prog := ⟨106, 4, qbN, 0, qbE, qef n, fun _ _ h => q9 (B := tab) (cs := qv n) (lo := qd6 n) (rs := []) Try.func106 (by kernel_rfl) qic (by kernel_rfl) (by decide) (qh qib (all_cons (fun st r h => qhg n st r h) qe)) h⟩
noncomputable def qsZ (n : Nat) : CL Try.prog := ⟨[qi6 n], [], 0⟩
noncomputable def qs0 (n : Nat) : Nat → St → PT (DEx × St) := fun _ _ => .fail
theorem qzR : qd (qa Try.f90) 0 = [] := by kernel_rfl
theorem qzS : Try.f90.body = some (qa Try.f90) := by kernel_rfl
abbrev qo5 : List Ar := [.d T49]
abbrev qo6 : List Ty := [T4]
noncomputable def qtE (n : Nat) (x : qy qo5) : Option (qk qo6) := (qj tab (qsZ n) (qs0 n) (qa Try.f90) 0 (qH qo5 13 x)).run (qbX tab [.tmp 2] qo6)
noncomputable def qtF (n : Nat) : Ct Try.prog := ⟨90, qo5, .ts qo6, qtE n, fun _ _ h => qb1 (B := tab) (cs := qsZ n) (lo := qs0 n) (rs := [.tmp 2]) Try.func90 (by kernel_rfl) qzS (by kernel_rfl) (by decide) (qh qzR qe) h⟩
noncomputable def qb9 (n : Nat) : CL Try.prog := ⟨[qtF n], [], 0⟩
noncomputable def qgg (n : Nat) : Nat → St → PT (DEx × St) := fun _ _ => .fail
abbrev qbg : List It := [.v (.t 0) T22, .fn (.t 1) 90 [] [], .v (.t 7) T3, .v (.t 8) T3]
abbrev qca : List (DEx × List It) := [(.exit 0, []), (.ret, [.v (.t 4) T3])]
noncomputable def qgu (n : Nat) (rec : qc qbg → Option (qf qca)) (s : qc qbg) : Option (qf qca) := (qj tab (qb9 n) (qgg n) (subC [true, false, true, false, false] (qa Try.f104)) 1 (mkS qbg 19 s)).run (Lp.leaf 19 qbg qca rec)
noncomputable def qdP (n : Nat) : Lp := ⟨19, qbg, qca, qg n (qgu n)⟩
theorem qlH : qd (subC [true, false, true, false, false] (qa Try.f104)) 1 = [] := by kernel_rfl
theorem qkq (n : Nat) (st : St) (r : DEx × St) (h : ((qdP n).go st).Is r) : DA Try.prog false (.loop (subC [true, false, true, false, false] (qa Try.f104))) st r := Lp.ok (L := qdP n) (B := tab) (cs := qb9 n) (lo := qgg n) (id := 0) rfl (qh qlH qe) (fun _ _ => rfl) h
noncomputable def qgv (n : Nat) : Nat → St → PT (DEx × St) := fun k st => match k with
  | 0 => (qdP n).go st
  | _ => .fail
theorem ql4 : qd (qa Try.f104) 0 = [(0, .loop (subC [true, false, true, false, false] (qa Try.f104)))] := by kernel_rfl
theorem ql5 : Try.f104.body = some (qa Try.f104) := by kernel_rfl
abbrev qd8 : List Ar := [.d T22, .fn 90 [] []]
abbrev qd9 : List Ty := [T3]
noncomputable def qgO (n : Nat) (x : qy qd8) : Option (qk qd9) := (qj tab (qb9 n) (qgv n) (qa Try.f104) 0 (qH qd8 19 x)).run (qbX tab [.tmp 4] qd9)
noncomputable def ql6 (n : Nat) : Ct Try.prog := ⟨104, qd8, .ts qd9, qgO n, fun _ _ h => qb1 (B := tab) (cs := qb9 n) (lo := qgv n) (rs := [.tmp 4]) Try.func104 (by kernel_rfl) ql5 (by kernel_rfl) (by decide) (qh ql4 (all_cons (fun st r h => qkq n st r h) qe)) h⟩
noncomputable def qfT (n : Nat) : CL Try.prog := ⟨[qtF n, ql6 n], [], 0⟩
noncomputable def qfU (n : Nat) : Nat → St → PT (DEx × St) := fun _ _ => .fail
theorem qkL : qd (qa Try.f89) 0 = [] := by kernel_rfl
theorem qkM : Try.f89.body = some (qa Try.f89) := by kernel_rfl
abbrev qdf : List Ar := [.d T22, .fn 90 [] []]
abbrev qdg : List Ty := [T4]
noncomputable def qf5 (n : Nat) (x : qy qdf) : Option (qk qdg) := (qj tab (qfT n) (qfU n) (qa Try.f89) 0 (qH qdf 9 x)).run (qbX tab [.tmp 4] qdg)
noncomputable def qkN (n : Nat) : Ct Try.prog := ⟨89, qdf, .ts qdg, qf5 n, fun _ _ h => qb1 (B := tab) (cs := qfT n) (lo := qfU n) (rs := [.tmp 4]) Try.func89 (by kernel_rfl) qkM (by kernel_rfl) (by decide) (qh qkL qe) h⟩
noncomputable def quI (n : Nat) : CL Try.prog := ⟨[qi6 n, qkN n], [], 0⟩
noncomputable def quJ (n : Nat) : Nat → St → PT (DEx × St) := fun _ _ => .fail
theorem qBo : qd (qa Try.f56) 0 = [] := by kernel_rfl
theorem qBp : Try.f56.body = some (qa Try.f56) := by kernel_rfl
abbrev qq5 : List Ar := [.d T69]
abbrev qq6 : List Ty := [T4]
noncomputable def qvO (n : Nat) (x : qy qq5) : Option (qk qq6) := (qj tab (quI n) (quJ n) (qa Try.f56) 0 (qH qq5 21 x)).run (qbX tab [.tmp 2] qq6)
noncomputable def qBq (n : Nat) : Ct Try.prog := ⟨56, qq5, .ts qq6, qvO n, fun _ _ h => qb1 (B := tab) (cs := quI n) (lo := quJ n) (rs := [.tmp 2]) Try.func56 (by kernel_rfl) qBp (by kernel_rfl) (by decide) (qh qBo qe) h⟩
noncomputable def qs1 (n : Nat) : CL Try.prog := ⟨[qow n], [], 0⟩
noncomputable def qs2 (n : Nat) : Nat → St → PT (DEx × St) := fun _ _ => .fail
theorem qzT : qd (qa Try.f62) 0 = [] := by kernel_rfl
theorem qzU : Try.f62.body = some (qa Try.f62) := by kernel_rfl
abbrev qo7 : List Ar := [.d T30, .d T30]
abbrev qo8 : List Ty := [T4]
noncomputable def qtG (n : Nat) (x : qy qo7) : Option (qk qo8) := (qj tab (qs1 n) (qs2 n) (qa Try.f62) 0 (qH qo7 9 x)).run (qbX tab [.tmp 4] qo8)
noncomputable def qzV (n : Nat) : Ct Try.prog := ⟨62, qo7, .ts qo8, qtG n, fun _ _ h => qb1 (B := tab) (cs := qs1 n) (lo := qs2 n) (rs := [.tmp 4]) Try.func62 (by kernel_rfl) qzU (by kernel_rfl) (by decide) (qh qzT qe) h⟩
end Go.Proofs.Ytcjgodgpaokbnaa
