/- Printed: what functions of the program compute. -/
import Derived.Test.YtcjgodgpaokbnaaDnC
namespace Go.Proofs.Ytcjgodgpaokbnaa
set_option linter.constructorNameAsVariable false
set_option linter.unusedSimpArgs false
set_option linter.unusedVariables false
set_option linter.unusedSectionVars false
open Go Go.Proofs Go.RowKit
set_option maxRecDepth 20000
noncomputable def qlI (n : Nat) : CL Try.prog := ⟨[], [], 0⟩
noncomputable def qlJ (n : Nat) : Nat → St → PT (DEx × St) := fun _ _ => .fail
theorem qt5 : qd (qa Try.f93) 0 = [] := by kernel_rfl
theorem qt6 : Try.f93.body = some (qa Try.f93) := by kernel_rfl
abbrev qhN : List It := [.raw (.t 0), .v (.t 1) T3]
abbrev qhs : List (List It) := [[.row (.t 0) false T30 30]]
noncomputable def qn (n : Nat) (x : qb qhN) : Option (qq qhs) := runW tab (qlI n) (qlJ n) (qa Try.f93) qhN 2 27 [.tmp 4] qhs x
noncomputable def qt7 (n : Nat) : Cw Try.prog := ⟨93, 2, qhN, 1, qhs, qn n, fun _ _ h => qP (B := tab) (cs := qlI n) (lo := qlJ n) (rs := [.tmp 4]) Try.func93 (by kernel_rfl) qt6 (by kernel_rfl) (by decide) (qh qt5 qe) h⟩
noncomputable def qcH (n : Nat) : CL Try.prog := ⟨[], [qt7 n], 1⟩
noncomputable def qmn (n : Nat) : Nat → St → PT (DEx × St) := fun _ _ => .fail
abbrev qd7 : List It := [.v (.t 25) T83, .v (.t 26) T3, .v (.t 27) T3, .row (.t 6) false T30 30]
abbrev qfZ : List (DEx × List It) := [(.exit 2, [.row (.t 6) false T30 30])]
noncomputable def qnb (n : Nat) (rec : qb qd7 → Option (qf qfZ)) (s : qb qd7) : Option (qf qfZ) := (qi tab (qcH n) (qmn n) (subC [true, true, true, true, false, true, false, false] (qa Try.f58)) 2 (mkS qd7 36 s)).run (Lp.leaf 36 qd7 qfZ rec)
noncomputable def qis (n : Nat) : Lp := ⟨36, qd7, qfZ, qg n (qnb n)⟩
theorem quK : qd (subC [true, true, true, true, false, true, false, false] (qa Try.f58)) 2 = [] := by kernel_rfl
theorem qsW (n : Nat) (st : St) (r : DEx × St) (h : ((qis n).go st).Is r) : DA Try.prog false (.loop (subC [true, true, true, true, false, true, false, false] (qa Try.f58))) st r := Lp.ok (L := qis n) (B := tab) (cs := qcH n) (lo := qmn n) (id := 1) rfl (qh quK qe) (fun _ _ => rfl) h
noncomputable def qmo (n : Nat) : Nat → St → PT (DEx × St) := fun _ _ => .fail
abbrev qd8 : List It := [.v (.t 0) T83, .v (.t 3) T3, .v (.t 9) T83, .v (.t 10) T3, .v (.t 11) T3]
abbrev qf0 : List (DEx × List It) := [(.exit 0, [.v (.t 0) T83, .v (.t 3) T3])]
noncomputable def qnc (n : Nat) (rec : qb qd8 → Option (qf qf0)) (s : qb qd8) : Option (qf qf0) := (qi tab (qcH n) (qmo n) (subC [true, true, false, true, false, false] (qa Try.f58)) 1 (mkS qd8 36 s)).run (Lp.leaf 36 qd8 qf0 rec)
noncomputable def qit (n : Nat) : Lp := ⟨36, qd8, qf0, qg n (qnc n)⟩
theorem quL : qd (subC [true, true, false, true, false, false] (qa Try.f58)) 1 = [] := by kernel_rfl
theorem qsX (n : Nat) (st : St) (r : DEx × St) (h : ((qit n).go st).Is r) : DA Try.prog false (.loop (subC [true, true, false, true, false, false] (qa Try.f58))) st r := Lp.ok (L := qit n) (B := tab) (cs := qcH n) (lo := qmo n) (id := 0) rfl (qh quL qe) (fun _ _ => rfl) h
noncomputable def qnd (n : Nat) : Nat → St → PT (DEx × St) := fun k st => match k with
  | 0 => (qit n).go st
  | 1 => (qis n).go st
  | _ => .fail
theorem qvE : qd (qa Try.f58) 0 = [(0, .loop (subC [true, true, false, true, false, false] (qa Try.f58))), (1, .loop (subC [true, true, true, true, false, true, false, false] (qa Try.f58)))] := by kernel_rfl
theorem qvF : Try.f58.body = some (qa Try.f58) := by kernel_rfl
abbrev qiu : List It := [.v (.t 0) T83]
abbrev qh3 : List (List It) := [[.row (.t 0) false T30 30]]
noncomputable def qnQ (n : Nat) (x : qb qiu) : Option (qq qh3) := runW tab (qcH n) (qnd n) (qa Try.f58) qiu 1 36 [.tmp 2] qh3 x
noncomputable def qvG (n : Nat) : Cw Try.prog := ⟨58, 1, qiu, 1, qh3, qnQ n, fun _ _ h => qP (B := tab) (cs := qcH n) (lo := qnd n) (rs := [.tmp 2]) Try.func58 (by kernel_rfl) qvF (by kernel_rfl) (by decide) (qh qvE (all_cons (fun st r h => qsX n st r h) (all_cons (fun st r h => qsW n st r h) qe))) h⟩
noncomputable def qxz (n : Nat) : CL Try.prog := ⟨[qDn n], [], 0⟩
noncomputable def qxA (n : Nat) : Nat → St → PT (DEx × St) := fun _ _ => .fail
theorem qE9 : qd (qa Try.f55) 0 = [] := by kernel_rfl
theorem qFa : Try.f55.body = some (qa Try.f55) := by kernel_rfl
abbrev qty : List Ar := [.d T100]
abbrev qtz : List Ty := [T3]
noncomputable def qyU (n : Nat) (x : qz qty) : Option (qk qtz) := (qi tab (qxz n) (qxA n) (qa Try.f55) 0 (qB qty 8 x)).run (qbz tab [.tmp 2] qtz)
noncomputable def qtA (n : Nat) : Ct Try.prog := ⟨55, qty, .ts qtz, qyU n, fun _ _ h => qbF (B := tab) (cs := qxz n) (lo := qxA n) (rs := [.tmp 2]) Try.func55 (by kernel_rfl) qFa (by kernel_rfl) (by decide) (qh qE9 qe) h⟩
noncomputable def qbt (n : Nat) : CL Try.prog := ⟨[qqx n], [qew n, qey n], 0⟩
noncomputable def qeZ (n : Nat) : Nat → St → PT (DEx × St) := fun _ _ => .fail
abbrev qQ : List It := [.v (.t 1) T3, .v (.t 2) T3, .v (.t 3) T3, .fn (.t 4) 60 [] [], .v (.t 10) T4, .v (.t 11) T4, .row (.t 0) true T30 30]
abbrev qbu : List (DEx × List It) := [(.ret, [.row (.t 0) true T30 30])]
noncomputable def qfd (n : Nat) (rec : qb qQ → Option (qf qbu)) (s : qb qQ) : Option (qf qbu) := (qi tab (qbt n) (qeZ n) (subC [true, true, false, false] (qa Try.f94)) 1 (mkS qQ 148 s)).run (Lp.leaf 148 qQ qbu rec)
noncomputable def qcI (n : Nat) : Lp := ⟨148, qQ, qbu, qg n (qfd n)⟩
theorem qkb : qd (subC [true, true, false, false] (qa Try.f94)) 1 = [] := by kernel_rfl
theorem qjw (n : Nat) (st : St) (r : DEx × St) (h : ((qcI n).go st).Is r) : DA Try.prog false (.loop (subC [true, true, false, false] (qa Try.f94))) st r := Lp.ok (L := qcI n) (B := tab) (cs := qbt n) (lo := qeZ n) (id := 0) rfl (qh qkb qe) (fun _ _ => rfl) h
noncomputable def qfe (n : Nat) : Nat → St → PT (DEx × St) := fun k st => match k with
  | 0 => (qcI n).go st
  | _ => .fail
theorem qkv : qd (qa Try.f94) 0 = [(0, .loop (subC [true, true, false, false] (qa Try.f94)))] := by kernel_rfl
theorem qkw : Try.f94.body = some (qa Try.f94) := by kernel_rfl
abbrev qcJ : List It := [.v (.t 1) T3, .v (.t 2) T3, .v (.t 3) T3, .fn (.t 4) 60 [] [], .row (.t 0) true T30 30]
abbrev qcA : List (List It) := [[.row (.t 0) true T30 30]]
noncomputable def qfG (n : Nat) (x : qb qcJ) : Option (qq qcA) := runW tab (qbt n) (qfe n) (qa Try.f94) qcJ 5 148 [] qcA x
noncomputable def qcU (n : Nat) : Cw Try.prog := ⟨94, 5, qcJ, 0, qcA, qfG n, fun _ _ h => qP (B := tab) (cs := qbt n) (lo := qfe n) (rs := []) Try.func94 (by kernel_rfl) qkw (by kernel_rfl) (by decide) (qh qkv (all_cons (fun st r h => qjw n st r h) qe)) h⟩
noncomputable def qgS (n : Nat) : CL Try.prog := ⟨[qtA n, qqx n], [qcU n], 0⟩
noncomputable def qgT (n : Nat) : Nat → St → PT (DEx × St) := fun _ _ => .fail
theorem qne : qd (qa Try.f59) 0 = [] := by kernel_rfl
theorem qnf : Try.f59.body = some (qa Try.f59) := by kernel_rfl
abbrev qdJ : List It := [.fn (.t 1) 60 [] [], .row (.t 0) true T30 30]
abbrev qdv : List (List It) := [[.row (.t 0) true T30 30]]
noncomputable def qha (n : Nat) (x : qb qdJ) : Option (qq qdv) := runW tab (qgS n) (qgT n) (qa Try.f59) qdJ 2 14 [] qdv x
noncomputable def qhb (n : Nat) : Cw Try.prog := ⟨59, 2, qdJ, 0, qdv, qha n, fun _ _ h => qP (B := tab) (cs := qgS n) (lo := qgT n) (rs := []) Try.func59 (by kernel_rfl) qnf (by kernel_rfl) (by decide) (qh qne qe) h⟩
noncomputable def qbv (n : Nat) : CL Try.prog := ⟨[quH n], [qcU n, qew n, qey n], 0⟩
noncomputable def qe0 (n : Nat) : Nat → St → PT (DEx × St) := fun _ _ => .fail
abbrev qR : List It := [.v (.t 1) T3, .v (.t 2) T3, .v (.t 3) T3, .fn (.t 4) 75 [] [], .v (.t 10) T4, .v (.t 11) T4, .row (.t 0) true T30 30]
abbrev qbw : List (DEx × List It) := [(.ret, [.row (.t 0) true T30 30])]
noncomputable def qff (n : Nat) (rec : qb qR → Option (qf qbw)) (s : qb qR) : Option (qf qbw) := (qi tab (qbv n) (qe0 n) (subC [true, true, false, false] (qa Try.f94)) 1 (mkS qR 148 s)).run (Lp.leaf 148 qR qbw rec)
noncomputable def qcK (n : Nat) : Lp := ⟨148, qR, qbw, qg n (qff n)⟩
theorem qkc : qd (subC [true, true, false, false] (qa Try.f94)) 1 = [] := by kernel_rfl
theorem qjx (n : Nat) (st : St) (r : DEx × St) (h : ((qcK n).go st).Is r) : DA Try.prog false (.loop (subC [true, true, false, false] (qa Try.f94))) st r := Lp.ok (L := qcK n) (B := tab) (cs := qbv n) (lo := qe0 n) (id := 0) rfl (qh qkc qe) (fun _ _ => rfl) h
noncomputable def qfg (n : Nat) : Nat → St → PT (DEx × St) := fun k st => match k with
  | 0 => (qcK n).go st
  | _ => .fail
theorem qkx : qd (qa Try.f94) 0 = [(0, .loop (subC [true, true, false, false] (qa Try.f94)))] := by kernel_rfl
theorem qky : Try.f94.body = some (qa Try.f94) := by kernel_rfl
abbrev qcL : List It := [.v (.t 1) T3, .v (.t 2) T3, .v (.t 3) T3, .fn (.t 4) 75 [] [], .row (.t 0) true T30 30]
abbrev qcB : List (List It) := [[.row (.t 0) true T30 30]]
noncomputable def qfH (n : Nat) (x : qb qcL) : Option (qq qcB) := runW tab (qbv n) (qfg n) (qa Try.f94) qcL 5 148 [] qcB x
noncomputable def qkz (n : Nat) : Cw Try.prog := ⟨94, 5, qcL, 0, qcB, qfH n, fun _ _ h => qP (B := tab) (cs := qbv n) (lo := qfg n) (rs := []) Try.func94 (by kernel_rfl) qky (by kernel_rfl) (by decide) (qh qkx (all_cons (fun st r h => qjx n st r h) qe)) h⟩
noncomputable def qgU (n : Nat) : CL Try.prog := ⟨[qtA n, quH n], [qcU n, qkz n], 0⟩
noncomputable def qgV (n : Nat) : Nat → St → PT (DEx × St) := fun _ _ => .fail
theorem qng : qd (qa Try.f59) 0 = [] := by kernel_rfl
theorem qnh : Try.f59.body = some (qa Try.f59) := by kernel_rfl
abbrev qdK : List It := [.fn (.t 1) 75 [] [], .row (.t 0) true T30 30]
abbrev qdw : List (List It) := [[.row (.t 0) true T30 30]]
noncomputable def qhc (n : Nat) (x : qb qdK) : Option (qq qdw) := runW tab (qgU n) (qgV n) (qa Try.f59) qdK 2 14 [] qdw x
noncomputable def qhd (n : Nat) : Cw Try.prog := ⟨59, 2, qdK, 0, qdw, qhc n, fun _ _ h => qP (B := tab) (cs := qgU n) (lo := qgV n) (rs := []) Try.func59 (by kernel_rfl) qnh (by kernel_rfl) (by decide) (qh qng qe) h⟩
noncomputable def qC (n : Nat) : CL Try.prog := ⟨[qDu n], [], 0⟩
noncomputable def qe1 (n : Nat) : Nat → St → PT (DEx × St) := fun _ _ => .fail
abbrev qS : List It := [.fn (.t 1) 62 [] [], .v (.t 5) T3, .v (.t 7) T3, .row (.t 0) true T30 30, .sub (.t 6) 0]
abbrev qbx : List (DEx × List It) := [(.exit 2, [.v (.t 5) T3, .row (.t 0) true T30 30])]
noncomputable def qfh (n : Nat) (rec : qb qS → Option (qf qbx)) (s : qb qS) : Option (qf qbx) := (qi tab (qC n) (qe1 n) (subC [true, true, false, true, false, false, true, false, false, true, false, true, false, true, false, false] (qa Try.f61)) 2 (mkS qS 66 s)).run (Lp.leaf 66 qS qbx rec)
noncomputable def qcM (n : Nat) : Lp := ⟨66, qS, qbx, qg n (qfh n)⟩
theorem qkd : qd (subC [true, true, false, true, false, false, true, false, false, true, false, true, false, true, false, false] (qa Try.f61)) 2 = [] := by kernel_rfl
theorem qjy (n : Nat) (st : St) (r : DEx × St) (h : ((qcM n).go st).Is r) : DA Try.prog false (.loop (subC [true, true, false, true, false, false, true, false, false, true, false, true, false, true, false, false] (qa Try.f61))) st r := Lp.ok (L := qcM n) (B := tab) (cs := qC n) (lo := qe1 n) (id := 1) rfl (qh qkd qe) (fun _ _ => rfl) h
noncomputable def qe2 (n : Nat) : Nat → St → PT (DEx × St) := fun k st => match k with
  | 1 => (qcM n).go st
  | _ => .fail
abbrev qT : List It := [.fn (.t 1) 62 [] [], .v (.t 5) T3, .row (.t 0) true T30 30]
abbrev qby : List (DEx × List It) := [(.exit 0, [.row (.t 0) true T30 30]), (.ret, [.row (.t 0) true T30 30, .sub (.t 4) 0])]
noncomputable def qfi (n : Nat) (rec : qb qT → Option (qf qby)) (s : qb qT) : Option (qf qby) := (qi tab (qC n) (qe2 n) (subC [true, true, false, true, false, false] (qa Try.f61)) 1 (mkS qT 66 s)).run (Lp.leaf 66 qT qby rec)
noncomputable def qcN (n : Nat) : Lp := ⟨66, qT, qby, qg n (qfi n)⟩
theorem qke : qd (subC [true, true, false, true, false, false] (qa Try.f61)) 1 = [(1, .loop (subC [true, true, false, true, false, false, true, false, false, true, false, true, false, true, false, false] (qa Try.f61)))] := by kernel_rfl
theorem qjz (n : Nat) (st : St) (r : DEx × St) (h : ((qcN n).go st).Is r) : DA Try.prog false (.loop (subC [true, true, false, true, false, false] (qa Try.f61))) st r := Lp.ok (L := qcN n) (B := tab) (cs := qC n) (lo := qe2 n) (id := 0) rfl (qh qke (all_cons (fun st r h => qjy n st r h) qe)) (fun _ _ => rfl) h
noncomputable def qfj (n : Nat) : Nat → St → PT (DEx × St) := fun k st => match k with
  | 0 => (qcN n).go st
  | _ => .fail
theorem qkA : qd (qa Try.f61) 0 = [(0, .loop (subC [true, true, false, true, false, false] (qa Try.f61)))] := by kernel_rfl
theorem qkB : Try.f61.body = some (qa Try.f61) := by kernel_rfl
abbrev qcO : List It := [.fn (.t 1) 62 [] [], .row (.t 0) true T30 30]
abbrev qcC : List (List It) := [[.row (.t 1) true T30 30, .sub (.t 0) 0]]
noncomputable def qfI (n : Nat) (x : qb qcO) : Option (qq qcC) := runW tab (qC n) (qfj n) (qa Try.f61) qcO 2 66 [.tmp 4] qcC x
noncomputable def qkC (n : Nat) : Cw Try.prog := ⟨61, 2, qcO, 1, qcC, qfI n, fun _ _ h => qP (B := tab) (cs := qC n) (lo := qfj n) (rs := [.tmp 4]) Try.func61 (by kernel_rfl) qkB (by kernel_rfl) (by decide) (qh qkA (all_cons (fun st r h => qjz n st r h) qe)) h⟩
noncomputable def qbA (n : Nat) : CL Try.prog := ⟨[], [qyQ n], 0⟩
noncomputable def qfk (n : Nat) : Nat → St → PT (DEx × St) := fun _ _ => .fail
abbrev qU : List It := [.v (.t 7) T3, .v (.t 8) T3, .row (.t 0) true T30 30, .fnc (.t 1) 72 [.box true 25 1], .v (.c 1 0) T25]
abbrev qbB : List (DEx × List It) := [(.exit 0, [.row (.t 0) true T30 30, .fnc (.t 1) 72 [.box true 25 1], .v (.c 1 0) T25]), (.ret, [.v (.t 4) T3, .row (.t 0) true T30 30, .fnc (.t 1) 72 [.box true 25 1], .v (.c 1 0) T25])]
noncomputable def qfJ (n : Nat) (rec : qb qU → Option (qf qbB)) (s : qb qU) : Option (qf qbB) := (qi tab (qbA n) (qfk n) (subC [true, false, true, false, false] (qa Try.f64)) 1 (mkS qU 19 s)).run (Lp.leaf 19 qU qbB rec)
noncomputable def qcV (n : Nat) : Lp := ⟨19, qU, qbB, qg n (qfJ n)⟩
theorem qkD : qd (subC [true, false, true, false, false] (qa Try.f64)) 1 = [] := by kernel_rfl
theorem qjJ (n : Nat) (st : St) (r : DEx × St) (h : ((qcV n).go st).Is r) : DA Try.prog false (.loop (subC [true, false, true, false, false] (qa Try.f64))) st r := Lp.ok (L := qcV n) (B := tab) (cs := qbA n) (lo := qfk n) (id := 0) rfl (qh qkD qe) (fun _ _ => rfl) h
noncomputable def qfK (n : Nat) : Nat → St → PT (DEx × St) := fun k st => match k with
  | 0 => (qcV n).go st
  | _ => .fail
theorem qkW : qd (qa Try.f64) 0 = [(0, .loop (subC [true, false, true, false, false] (qa Try.f64)))] := by kernel_rfl
theorem qkX : Try.f64.body = some (qa Try.f64) := by kernel_rfl
abbrev qcW : List It := [.row (.t 0) true T30 30, .fnc (.t 1) 72 [.box true 25 1], .v (.c 1 0) T25]
abbrev qcP : List (List It) := [[.v (.t 0) T3, .row (.t 1) true T30 30, .obj (.t 2) true 25 1, .v (.c 1 0) T25]]
noncomputable def qfT (n : Nat) (x : qb qcW) : Option (qq qcP) := runW tab (qbA n) (qfK n) (qa Try.f64) qcW 2 19 [.tmp 4] qcP x
noncomputable def qc1 (n : Nat) : Cw Try.prog := ⟨64, 2, qcW, 1, qcP, qfT n, fun _ _ h => qP (B := tab) (cs := qbA n) (lo := qfK n) (rs := [.tmp 4]) Try.func64 (by kernel_rfl) qkX (by kernel_rfl) (by decide) (qh qkW (all_cons (fun st r h => qjJ n st r h) qe)) h⟩
noncomputable def qbN (n : Nat) : CL Try.prog := ⟨[], [qc1 n, qbM n, qyQ n], 0⟩
noncomputable def qf9 (n : Nat) : Nat → St → PT (DEx × St) := fun _ _ => .fail
abbrev qba : List It := [.v (.t 5) T3, .v (.t 6) T3, .row (.t 0) true T30 30, .fnc (.t 1) 72 [.box true 25 1], .v (.c 1 0) T25]
abbrev qbO : List (DEx × List It) := [(.exit 0, [.v (.t 5) T3, .row (.t 0) true T30 30, .fnc (.t 1) 72 [.box true 25 1], .v (.c 1 0) T25])]
noncomputable def qgo (n : Nat) (rec : qb qba → Option (qf qbO)) (s : qb qba) : Option (qf qbO) := (qi tab (qbN n) (qf9 n) (subC [true, true, true, false, true, false, false] (qa Try.f70)) 1 (mkS qba 42 s)).run (Lp.leaf 42 qba qbO rec)
noncomputable def qdj (n : Nat) : Lp := ⟨42, qba, qbO, qg n (qgo n)⟩
theorem qlK : qd (subC [true, true, true, false, true, false, false] (qa Try.f70)) 1 = [] := by kernel_rfl
theorem qkE (n : Nat) (st : St) (r : DEx × St) (h : ((qdj n).go st).Is r) : DA Try.prog false (.loop (subC [true, true, true, false, true, false, false] (qa Try.f70))) st r := Lp.ok (L := qdj n) (B := tab) (cs := qbN n) (lo := qf9 n) (id := 0) rfl (qh qlK qe) (fun _ _ => rfl) h
noncomputable def qgp (n : Nat) : Nat → St → PT (DEx × St) := fun k st => match k with
  | 0 => (qdj n).go st
  | _ => .fail
theorem ql7 : qd (qa Try.f70) 0 = [(0, .loop (subC [true, true, true, false, true, false, false] (qa Try.f70)))] := by kernel_rfl
theorem ql8 : Try.f70.body = some (qa Try.f70) := by kernel_rfl
abbrev qdk : List It := [.row (.t 0) true T30 30, .fnc (.t 1) 72 [.box true 25 1], .v (.c 1 0) T25]
abbrev qda : List (List It) := [[.row (.t 1) true T30 30, .obj (.t 2) true 25 1, .v (.c 1 0) T25, .sub (.t 0) 0]]
noncomputable def qgB (n : Nat) (x : qb qdk) : Option (qq qda) := runW tab (qbN n) (qgp n) (qa Try.f70) qdk 2 42 [.tmp 4] qda x
noncomputable def ql9 (n : Nat) : Cw Try.prog := ⟨70, 2, qdk, 1, qda, qgB n, fun _ _ h => qP (B := tab) (cs := qbN n) (lo := qgp n) (rs := [.tmp 4]) Try.func70 (by kernel_rfl) ql8 (by kernel_rfl) (by decide) (qh ql7 (all_cons (fun st r h => qkE n st r h) qe)) h⟩
noncomputable def qfo (n : Nat) : CL Try.prog := ⟨[qip n], [qq0 n, qt4 n, qrY n, qrD n, qnH n, qqw n, qtq n], 0⟩
noncomputable def qlL (n : Nat) : Nat → St → PT (DEx × St) := fun _ _ => .fail
abbrev qdF : List It := [.v (.t 1) T3, .v (.t 2) T3, .v (.t 3) T3, .v (.t 8) T4, .v (.t 9) T4, .row (.t 0) true T3 3]
abbrev qfp : List (DEx × List It) := [(.ret, [.row (.t 0) true T3 3])]
noncomputable def qmp (n : Nat) (rec : qb qdF → Option (qf qfp)) (s : qb qdF) : Option (qf qfp) := (qi tab (qfo n) (qlL n) (subC [true, true, false, false] (qa Try.f54)) 1 (mkS qdF 134 s)).run (Lp.leaf 134 qdF qfp rec)
noncomputable def qh4 (n : Nat) : Lp := ⟨134, qdF, qfp, qg n (qmp n)⟩
theorem qt8 : qd (subC [true, true, false, false] (qa Try.f54)) 1 = [] := by kernel_rfl
theorem qr4 (n : Nat) (st : St) (r : DEx × St) (h : ((qh4 n).go st).Is r) : DA Try.prog false (.loop (subC [true, true, false, false] (qa Try.f54))) st r := Lp.ok (L := qh4 n) (B := tab) (cs := qfo n) (lo := qlL n) (id := 0) rfl (qh qt8 qe) (fun _ _ => rfl) h
noncomputable def qmq (n : Nat) : Nat → St → PT (DEx × St) := fun k st => match k with
  | 0 => (qh4 n).go st
  | _ => .fail
theorem quM : qd (qa Try.f54) 0 = [(0, .loop (subC [true, true, false, false] (qa Try.f54)))] := by kernel_rfl
theorem quN : Try.f54.body = some (qa Try.f54) := by kernel_rfl
abbrev qh5 : List It := [.v (.t 1) T3, .v (.t 2) T3, .v (.t 3) T3, .row (.t 0) true T3 3]
abbrev qhO : List (List It) := [[.row (.t 0) true T3 3]]
noncomputable def qni (n : Nat) (x : qb qh5) : Option (qq qhO) := runW tab (qfo n) (qmq n) (qa Try.f54) qh5 4 134 [] qhO x
noncomputable def quO (n : Nat) : Cw Try.prog := ⟨54, 4, qh5, 0, qhO, qni n, fun _ _ h => qP (B := tab) (cs := qfo n) (lo := qmq n) (rs := []) Try.func54 (by kernel_rfl) quN (by kernel_rfl) (by decide) (qh quM (all_cons (fun st r h => qr4 n st r h) qe)) h⟩
noncomputable def qui (n : Nat) : CL Try.prog := ⟨[qtA n], [quO n], 0⟩
noncomputable def quj (n : Nat) : Nat → St → PT (DEx × St) := fun _ _ => .fail
theorem qCC : qd (qa Try.f33) 0 = [] := by kernel_rfl
theorem qCD : Try.f33.body = some (qa Try.f33) := by kernel_rfl
abbrev qoY : List It := [.row (.t 0) true T3 3]
abbrev qoh : List (List It) := [[.row (.t 0) true T3 3]]
noncomputable def qvH (n : Nat) (x : qb qoY) : Option (qq qoh) := runW tab (qui n) (quj n) (qa Try.f33) qoY 1 11 [] qoh x
noncomputable def qCE (n : Nat) : Cw Try.prog := ⟨33, 1, qoY, 0, qoh, qvH n, fun _ _ h => qP (B := tab) (cs := qui n) (lo := quj n) (rs := []) Try.func33 (by kernel_rfl) qCD (by kernel_rfl) (by decide) (qh qCC qe) h⟩
noncomputable def qws (n : Nat) : CL Try.prog := ⟨[], [qvG n, qhb n, qhd n, qkC n], 1⟩
noncomputable def qwt (n : Nat) : Nat → St → PT (DEx × St) := fun _ _ => .fail
theorem qEn : qd (qa Try.f39) 0 = [] := by kernel_rfl
theorem qEo : Try.f39.body = some (qa Try.f39) := by kernel_rfl
abbrev qrf : List It := [.v (.t 0) T83]
abbrev qp2 : List (List It) := [[.row (.t 0) false T30 30]]
noncomputable def qxB (n : Nat) (x : qb qrf) : Option (qq qp2) := runW tab (qws n) (qwt n) (qa Try.f39) qrf 1 10 [.tmp 2] qp2 x
noncomputable def qxC (n : Nat) : Cw Try.prog := ⟨39, 1, qrf, 1, qp2, qxB n, fun _ _ h => qP (B := tab) (cs := qws n) (lo := qwt n) (rs := [.tmp 2]) Try.func39 (by kernel_rfl) qEo (by kernel_rfl) (by decide) (qh qEn qe) h⟩
noncomputable def qpi (n : Nat) : CL Try.prog := ⟨[qA3 n], [], 0⟩
noncomputable def qpj (n : Nat) : Nat → St → PT (DEx × St) := fun _ _ => .fail
theorem qxD : qd (qa Try.f91) 0 = [] := by kernel_rfl
theorem qxE : Try.f91.body = some (qa Try.f91) := by kernel_rfl
abbrev qjV : List It := [.v (.t 0) T30, .obj (.t 1) true 69 2, .v (.c 0 0) T69]
abbrev qjA : List (List It) := [[.v (.t 0) T4, .obj (.t 1) true 69 2, .v (.c 0 0) T69]]
noncomputable def qp3 (n : Nat) (x : qb qjV) : Option (qq qjA) := runW tab (qpi n) (qpj n) (qa Try.f91) qjV 2 8 [.tmp 3] qjA x
noncomputable def qp4 (n : Nat) : Cw Try.prog := ⟨91, 2, qjV, 1, qjA, qp3 n, fun _ _ h => qP (B := tab) (cs := qpi n) (lo := qpj n) (rs := [.tmp 3]) Try.func91 (by kernel_rfl) qxE (by kernel_rfl) (by decide) (qh qxD qe) h⟩
noncomputable def qbb (n : Nat) : CL Try.prog := ⟨[], [qp4 n], 0⟩
noncomputable def qez (n : Nat) : Nat → St → PT (DEx × St) := fun _ _ => .fail
abbrev qN : List It := [.v (.t 0) T25, .v (.t 7) T3, .v (.t 8) T3, .fnc (.t 1) 91 [.box true 69 2], .v (.c 0 0) T69]
abbrev qbc : List (DEx × List It) := [(.exit 0, [.fnc (.t 1) 91 [.box true 69 2], .v (.c 0 0) T69]), (.ret, [.v (.t 4) T3, .fnc (.t 1) 91 [.box true 69 2], .v (.c 0 0) T69])]
noncomputable def qeC (n : Nat) (rec : qb qN → Option (qf qbc)) (s : qb qN) : Option (qf qbc) := (qi tab (qbb n) (qez n) (subC [true, false, true, false, false] (qa Try.f64)) 1 (mkS qN 19 s)).run (Lp.leaf 19 qN qbc rec)
noncomputable def qcd (n : Nat) : Lp := ⟨19, qN, qbc, qg n (qeC n)⟩
theorem qja : qd (subC [true, false, true, false, false] (qa Try.f64)) 1 = [] := by kernel_rfl
theorem qiv (n : Nat) (st : St) (r : DEx × St) (h : ((qcd n).go st).Is r) : DA Try.prog false (.loop (subC [true, false, true, false, false] (qa Try.f64))) st r := Lp.ok (L := qcd n) (B := tab) (cs := qbb n) (lo := qez n) (id := 0) rfl (qh qja qe) (fun _ _ => rfl) h
noncomputable def qeD (n : Nat) : Nat → St → PT (DEx × St) := fun k st => match k with
  | 0 => (qcd n).go st
  | _ => .fail
theorem qjB : qd (qa Try.f64) 0 = [(0, .loop (subC [true, false, true, false, false] (qa Try.f64)))] := by kernel_rfl
theorem qjC : Try.f64.body = some (qa Try.f64) := by kernel_rfl
abbrev qce : List It := [.v (.t 0) T25, .fnc (.t 1) 91 [.box true 69 2], .v (.c 0 0) T69]
abbrev qb8 : List (List It) := [[.v (.t 0) T3, .obj (.t 1) true 69 2, .v (.c 0 0) T69]]
noncomputable def qeG (n : Nat) (x : qb qce) : Option (qq qb8) := runW tab (qbb n) (qeD n) (qa Try.f64) qce 2 19 [.tmp 4] qb8 x
noncomputable def qeH (n : Nat) : Cw Try.prog := ⟨64, 2, qce, 1, qb8, qeG n, fun _ _ h => qP (B := tab) (cs := qbb n) (lo := qeD n) (rs := [.tmp 4]) Try.func64 (by kernel_rfl) qjC (by kernel_rfl) (by decide) (qh qjB (all_cons (fun st r h => qiv n st r h) qe)) h⟩
noncomputable def qd9 (n : Nat) : CL Try.prog := ⟨[], [qc1 n, qbM n, qeH n, qp4 n], 0⟩
noncomputable def qea (n : Nat) : Nat → St → PT (DEx × St) := fun _ _ => .fail
theorem qiK : qd (qa Try.f73) 0 = [] := by kernel_rfl
theorem qiL : Try.f73.body = some (qa Try.f73) := by kernel_rfl
abbrev qbR : List It := [.v (.t 0) T25, .fnc (.t 1) 91 [.box true 69 2], .v (.c 0 0) T69]
abbrev qbL : List (List It) := [[.v (.t 0) T4, .obj (.t 1) true 69 2, .v (.c 0 0) T69]]
noncomputable def qep (n : Nat) (x : qb qbR) : Option (qq qbL) := runW tab (qd9 n) (qea n) (qa Try.f73) qbR 2 9 [.tmp 4] qbL x
noncomputable def qiM (n : Nat) : Cw Try.prog := ⟨73, 2, qbR, 1, qbL, qep n, fun _ _ h => qP (B := tab) (cs := qd9 n) (lo := qea n) (rs := [.tmp 4]) Try.func73 (by kernel_rfl) qiL (by kernel_rfl) (by decide) (qh qiK qe) h⟩
noncomputable def qrF (n : Nat) : CL Try.prog := ⟨[qHZ n], [qxC n, qfF n, qiM n], 1⟩
noncomputable def qrG (n : Nat) : Nat → St → PT (DEx × St) := fun _ _ => .fail
theorem qzY : qd (qa Try.f57) 0 = [] := by kernel_rfl
theorem qzZ : Try.f57.body = some (qa Try.f57) := by kernel_rfl
abbrev qnj : List Ar := [.d T69, .d T25]
abbrev qnk : List Ty := [T33]
noncomputable def qsB (n : Nat) (x : qz qnj) : Option (qk qnk) := (qi tab (qrF n) (qrG n) (qa Try.f57) 0 (qB qnj 19 x)).run (qbz tab [.tmp 4] qnk)
noncomputable def qz0 (n : Nat) : Ct Try.prog := ⟨57, qnj, .ts qnk, qsB n, fun _ _ h => qbF (B := tab) (cs := qrF n) (lo := qrG n) (rs := [.tmp 4]) Try.func57 (by kernel_rfl) qzZ (by kernel_rfl) (by decide) (qh qzY qe) h⟩
noncomputable def qBE (n : Nat) : CL Try.prog := ⟨[qE8 n, qz0 n], [], 0⟩
noncomputable def qBF (n : Nat) : Nat → St → PT (DEx × St) := fun _ _ => .fail
theorem qH0 : qd (qa Try.f38) 0 = [] := by kernel_rfl
theorem qH1 : Try.f38.body = some (qa Try.f38) := by kernel_rfl
abbrev qxF : List Ar := [.d T24, .d T25]
abbrev qxG : List Ty := [T33]
noncomputable def qCF (n : Nat) (x : qz qxF) : Option (qk qxG) := (qi tab (qBE n) (qBF n) (qa Try.f38) 0 (qB qxF 14 x)).run (qbz tab [.tmp 4] qxG)
noncomputable def qH2 (n : Nat) : Ct Try.prog := ⟨38, qxF, .ts qxG, qCF n, fun _ _ h => qbF (B := tab) (cs := qBE n) (lo := qBF n) (rs := [.tmp 4]) Try.func38 (by kernel_rfl) qH1 (by kernel_rfl) (by decide) (qh qH0 qe) h⟩
end Go.Proofs.Ytcjgodgpaokbnaa
