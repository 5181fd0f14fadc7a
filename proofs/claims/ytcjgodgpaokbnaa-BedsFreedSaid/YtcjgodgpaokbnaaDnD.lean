/- Printed: what functions of the program compute. -/
import Derived.Test.YtcjgodgpaokbnaaDnC
namespace Go.Proofs.Ytcjgodgpaokbnaa
set_option linter.constructorNameAsVariable false
set_option linter.unusedSimpArgs false
set_option linter.unusedVariables false
set_option linter.unusedSectionVars false
open Go Go.Proofs Go.RowKit
set_option maxRecDepth 20000
noncomputable def qla (n : Nat) : CL Try.prog := ⟨[], [], 0⟩
noncomputable def qlb (n : Nat) : Nat → St → PT (DEx × St) := fun _ _ => .fail
theorem qs6 : qd (qa Try.f93) 0 = [] := by kernel_rfl
theorem qs7 : Try.f93.body = some (qa Try.f93) := by kernel_rfl
abbrev qhq : List It := [.raw (.t 0), .v (.t 1) T3]
abbrev qg6 : List (List It) := [[.row (.t 0) false T30 30]]
noncomputable def qm (n : Nat) (x : qb qhq) : Option (qx qg6) := runW tab (qla n) (qlb n) (qa Try.f93) qhq 2 27 [.tmp 4] qg6 x
noncomputable def qs8 (n : Nat) : Cw Try.prog := ⟨93, 2, qhq, 1, qg6, qm n, fun _ _ h => qbb (B := tab) (cs := qla n) (lo := qlb n) (rs := [.tmp 4]) Try.func93 (by kernel_rfl) qs7 (by kernel_rfl) (by decide) (qh qs6 qe) h⟩
noncomputable def qcA (n : Nat) : CL Try.prog := ⟨[], [qs8 n], 1⟩
noncomputable def qlR (n : Nat) : Nat → St → PT (DEx × St) := fun _ _ => .fail
abbrev qdV : List It := [.v (.t 25) T83, .v (.t 26) T3, .v (.t 27) T3, .row (.t 6) false T30 30]
abbrev qfI : List (DEx × List It) := [(.exit 2, [.row (.t 6) false T30 30])]
noncomputable def qmC (n : Nat) (rec : qb qdV → Option (qf qfI)) (s : qb qdV) : Option (qf qfI) := (qi tab (qcA n) (qlR n) (subC [true, true, true, true, false, true, false, false] (qa Try.f58)) 2 (mkS qdV 36 s)).run (Lp.leaf 36 qdV qfI rec)
noncomputable def qh6 (n : Nat) : Lp := ⟨36, qdV, qfI, qg n (qmC n)⟩
theorem qtJ : qd (subC [true, true, true, true, false, true, false, false] (qa Try.f58)) 2 = [] := by kernel_rfl
theorem qr6 (n : Nat) (st : St) (r : DEx × St) (h : ((qh6 n).go st).Is r) : DA Try.prog false (.loop (subC [true, true, true, true, false, true, false, false] (qa Try.f58))) st r := Lp.ok (L := qh6 n) (B := tab) (cs := qcA n) (lo := qlR n) (id := 1) rfl (qh qtJ qe) (fun _ _ => rfl) h
noncomputable def qlS (n : Nat) : Nat → St → PT (DEx × St) := fun _ _ => .fail
abbrev qdW : List It := [.v (.t 0) T83, .v (.t 3) T3, .v (.t 9) T83, .v (.t 10) T3, .v (.t 11) T3]
abbrev qfJ : List (DEx × List It) := [(.exit 0, [.v (.t 0) T83, .v (.t 3) T3])]
noncomputable def qmD (n : Nat) (rec : qb qdW → Option (qf qfJ)) (s : qb qdW) : Option (qf qfJ) := (qi tab (qcA n) (qlS n) (subC [true, true, false, true, false, false] (qa Try.f58)) 1 (mkS qdW 36 s)).run (Lp.leaf 36 qdW qfJ rec)
noncomputable def qh7 (n : Nat) : Lp := ⟨36, qdW, qfJ, qg n (qmD n)⟩
theorem qtK : qd (subC [true, true, false, true, false, false] (qa Try.f58)) 1 = [] := by kernel_rfl
theorem qr7 (n : Nat) (st : St) (r : DEx × St) (h : ((qh7 n).go st).Is r) : DA Try.prog false (.loop (subC [true, true, false, true, false, false] (qa Try.f58))) st r := Lp.ok (L := qh7 n) (B := tab) (cs := qcA n) (lo := qlS n) (id := 0) rfl (qh qtK qe) (fun _ _ => rfl) h
noncomputable def qmE (n : Nat) : Nat → St → PT (DEx × St) := fun k st => match k with
  | 0 => (qh7 n).go st
  | 1 => (qh6 n).go st
  | _ => .fail
theorem quE : qd (qa Try.f58) 0 = [(0, .loop (subC [true, true, false, true, false, false] (qa Try.f58))), (1, .loop (subC [true, true, true, true, false, true, false, false] (qa Try.f58)))] := by kernel_rfl
theorem quF : Try.f58.body = some (qa Try.f58) := by kernel_rfl
abbrev qh8 : List It := [.v (.t 0) T83]
abbrev qhF : List (List It) := [[.row (.t 0) false T30 30]]
noncomputable def qm8 (n : Nat) (x : qb qh8) : Option (qx qhF) := runW tab (qcA n) (qmE n) (qa Try.f58) qh8 1 36 [.tmp 2] qhF x
noncomputable def quG (n : Nat) : Cw Try.prog := ⟨58, 1, qh8, 1, qhF, qm8 n, fun _ _ h => qbb (B := tab) (cs := qcA n) (lo := qmE n) (rs := [.tmp 2]) Try.func58 (by kernel_rfl) quF (by kernel_rfl) (by decide) (qh quE (all_cons (fun st r h => qr7 n st r h) (all_cons (fun st r h => qr6 n st r h) qe))) h⟩
noncomputable def qwv (n : Nat) : CL Try.prog := ⟨[qB0 n], [], 0⟩
noncomputable def qww (n : Nat) : Nat → St → PT (DEx × St) := fun _ _ => .fail
theorem qDJ : qd (qa Try.f55) 0 = [] := by kernel_rfl
theorem qDK : Try.f55.body = some (qa Try.f55) := by kernel_rfl
abbrev qsF : List Ar := [.d T100]
abbrev qsG : List Ty := [T3]
noncomputable def qxN (n : Nat) (x : qy qsF) : Option (qk qsG) := (qi tab (qwv n) (qww n) (qa Try.f55) 0 (qC qsF 8 x)).run (qbA tab [.tmp 2] qsG)
noncomputable def qsH (n : Nat) : Ct Try.prog := ⟨55, qsF, .ts qsG, qxN n, fun _ _ h => qbF (B := tab) (cs := qwv n) (lo := qww n) (rs := [.tmp 2]) Try.func55 (by kernel_rfl) qDK (by kernel_rfl) (by decide) (qh qDJ qe) h⟩
noncomputable def qbm (n : Nat) : CL Try.prog := ⟨[qpP n], [qeh n, qej n], 0⟩
noncomputable def qeG (n : Nat) : Nat → St → PT (DEx × St) := fun _ _ => .fail
abbrev qN : List It := [.v (.t 1) T3, .v (.t 2) T3, .v (.t 3) T3, .fn (.t 4) 60 [] [], .v (.t 10) T4, .v (.t 11) T4, .row (.t 0) true T30 30]
abbrev qbn : List (DEx × List It) := [(.ret, [.row (.t 0) true T30 30])]
noncomputable def qeY (n : Nat) (rec : qb qN → Option (qf qbn)) (s : qb qN) : Option (qf qbn) := (qi tab (qbm n) (qeG n) (subC [true, true, false, false] (qa Try.f94)) 1 (mkS qN 148 s)).run (Lp.leaf 148 qN qbn rec)
noncomputable def qcB (n : Nat) : Lp := ⟨148, qN, qbn, qg n (qeY n)⟩
theorem qjI : qd (subC [true, true, false, false] (qa Try.f94)) 1 = [] := by kernel_rfl
theorem qi3 (n : Nat) (st : St) (r : DEx × St) (h : ((qcB n).go st).Is r) : DA Try.prog false (.loop (subC [true, true, false, false] (qa Try.f94))) st r := Lp.ok (L := qcB n) (B := tab) (cs := qbm n) (lo := qeG n) (id := 0) rfl (qh qjI qe) (fun _ _ => rfl) h
noncomputable def qeZ (n : Nat) : Nat → St → PT (DEx × St) := fun k st => match k with
  | 0 => (qcB n).go st
  | _ => .fail
theorem qj4 : qd (qa Try.f94) 0 = [(0, .loop (subC [true, true, false, false] (qa Try.f94)))] := by kernel_rfl
theorem qj5 : Try.f94.body = some (qa Try.f94) := by kernel_rfl
abbrev qcC : List It := [.v (.t 1) T3, .v (.t 2) T3, .v (.t 3) T3, .fn (.t 4) 60 [] [], .row (.t 0) true T30 30]
abbrev qcs : List (List It) := [[.row (.t 0) true T30 30]]
noncomputable def qfq (n : Nat) (x : qb qcC) : Option (qx qcs) := runW tab (qbm n) (qeZ n) (qa Try.f94) qcC 5 148 [] qcs x
noncomputable def qcM (n : Nat) : Cw Try.prog := ⟨94, 5, qcC, 0, qcs, qfq n, fun _ _ h => qbb (B := tab) (cs := qbm n) (lo := qeZ n) (rs := []) Try.func94 (by kernel_rfl) qj5 (by kernel_rfl) (by decide) (qh qj4 (all_cons (fun st r h => qi3 n st r h) qe)) h⟩
noncomputable def qgu (n : Nat) : CL Try.prog := ⟨[qsH n, qpP n], [qcM n], 0⟩
noncomputable def qgv (n : Nat) : Nat → St → PT (DEx × St) := fun _ _ => .fail
theorem qmF : qd (qa Try.f59) 0 = [] := by kernel_rfl
theorem qmG : Try.f59.body = some (qa Try.f59) := by kernel_rfl
abbrev qdy : List It := [.fn (.t 1) 60 [] [], .row (.t 0) true T30 30]
abbrev qdm : List (List It) := [[.row (.t 0) true T30 30]]
noncomputable def qgM (n : Nat) (x : qb qdy) : Option (qx qdm) := runW tab (qgu n) (qgv n) (qa Try.f59) qdy 2 14 [] qdm x
noncomputable def qgN (n : Nat) : Cw Try.prog := ⟨59, 2, qdy, 0, qdm, qgM n, fun _ _ h => qbb (B := tab) (cs := qgu n) (lo := qgv n) (rs := []) Try.func59 (by kernel_rfl) qmG (by kernel_rfl) (by decide) (qh qmF qe) h⟩
noncomputable def qbo (n : Nat) : CL Try.prog := ⟨[qtG n], [qcM n, qeh n, qej n], 0⟩
noncomputable def qeH (n : Nat) : Nat → St → PT (DEx × St) := fun _ _ => .fail
abbrev qO : List It := [.v (.t 1) T3, .v (.t 2) T3, .v (.t 3) T3, .fn (.t 4) 75 [] [], .v (.t 10) T4, .v (.t 11) T4, .row (.t 0) true T30 30]
abbrev qbp : List (DEx × List It) := [(.ret, [.row (.t 0) true T30 30])]
noncomputable def qe0 (n : Nat) (rec : qb qO → Option (qf qbp)) (s : qb qO) : Option (qf qbp) := (qi tab (qbo n) (qeH n) (subC [true, true, false, false] (qa Try.f94)) 1 (mkS qO 148 s)).run (Lp.leaf 148 qO qbp rec)
noncomputable def qcD (n : Nat) : Lp := ⟨148, qO, qbp, qg n (qe0 n)⟩
theorem qjJ : qd (subC [true, true, false, false] (qa Try.f94)) 1 = [] := by kernel_rfl
theorem qi4 (n : Nat) (st : St) (r : DEx × St) (h : ((qcD n).go st).Is r) : DA Try.prog false (.loop (subC [true, true, false, false] (qa Try.f94))) st r := Lp.ok (L := qcD n) (B := tab) (cs := qbo n) (lo := qeH n) (id := 0) rfl (qh qjJ qe) (fun _ _ => rfl) h
noncomputable def qe1 (n : Nat) : Nat → St → PT (DEx × St) := fun k st => match k with
  | 0 => (qcD n).go st
  | _ => .fail
theorem qj6 : qd (qa Try.f94) 0 = [(0, .loop (subC [true, true, false, false] (qa Try.f94)))] := by kernel_rfl
theorem qj7 : Try.f94.body = some (qa Try.f94) := by kernel_rfl
abbrev qcE : List It := [.v (.t 1) T3, .v (.t 2) T3, .v (.t 3) T3, .fn (.t 4) 75 [] [], .row (.t 0) true T30 30]
abbrev qct : List (List It) := [[.row (.t 0) true T30 30]]
noncomputable def qfr (n : Nat) (x : qb qcE) : Option (qx qct) := runW tab (qbo n) (qe1 n) (qa Try.f94) qcE 5 148 [] qct x
noncomputable def qj8 (n : Nat) : Cw Try.prog := ⟨94, 5, qcE, 0, qct, qfr n, fun _ _ h => qbb (B := tab) (cs := qbo n) (lo := qe1 n) (rs := []) Try.func94 (by kernel_rfl) qj7 (by kernel_rfl) (by decide) (qh qj6 (all_cons (fun st r h => qi4 n st r h) qe)) h⟩
noncomputable def qgw (n : Nat) : CL Try.prog := ⟨[qsH n, qtG n], [qcM n, qj8 n], 0⟩
noncomputable def qgx (n : Nat) : Nat → St → PT (DEx × St) := fun _ _ => .fail
theorem qmH : qd (qa Try.f59) 0 = [] := by kernel_rfl
theorem qmI : Try.f59.body = some (qa Try.f59) := by kernel_rfl
abbrev qdz : List It := [.fn (.t 1) 75 [] [], .row (.t 0) true T30 30]
abbrev qdn : List (List It) := [[.row (.t 0) true T30 30]]
noncomputable def qgO (n : Nat) (x : qb qdz) : Option (qx qdn) := runW tab (qgw n) (qgx n) (qa Try.f59) qdz 2 14 [] qdn x
noncomputable def qgP (n : Nat) : Cw Try.prog := ⟨59, 2, qdz, 0, qdn, qgO n, fun _ _ h => qbb (B := tab) (cs := qgw n) (lo := qgx n) (rs := []) Try.func59 (by kernel_rfl) qmI (by kernel_rfl) (by decide) (qh qmH qe) h⟩
noncomputable def qA (n : Nat) : CL Try.prog := ⟨[qB7 n], [], 0⟩
noncomputable def qeI (n : Nat) : Nat → St → PT (DEx × St) := fun _ _ => .fail
abbrev qP : List It := [.fn (.t 1) 62 [] [], .v (.t 5) T3, .v (.t 7) T3, .row (.t 0) true T30 30, .sub (.t 6) 0]
abbrev qbq : List (DEx × List It) := [(.exit 2, [.v (.t 5) T3, .row (.t 0) true T30 30])]
noncomputable def qe2 (n : Nat) (rec : qb qP → Option (qf qbq)) (s : qb qP) : Option (qf qbq) := (qi tab (qA n) (qeI n) (subC [true, true, false, true, false, false, true, false, false, true, false, true, false, true, false, false] (qa Try.f61)) 2 (mkS qP 66 s)).run (Lp.leaf 66 qP qbq rec)
noncomputable def qcF (n : Nat) : Lp := ⟨66, qP, qbq, qg n (qe2 n)⟩
theorem qjK : qd (subC [true, true, false, true, false, false, true, false, false, true, false, true, false, true, false, false] (qa Try.f61)) 2 = [] := by kernel_rfl
theorem qi5 (n : Nat) (st : St) (r : DEx × St) (h : ((qcF n).go st).Is r) : DA Try.prog false (.loop (subC [true, true, false, true, false, false, true, false, false, true, false, true, false, true, false, false] (qa Try.f61))) st r := Lp.ok (L := qcF n) (B := tab) (cs := qA n) (lo := qeI n) (id := 1) rfl (qh qjK qe) (fun _ _ => rfl) h
noncomputable def qeJ (n : Nat) : Nat → St → PT (DEx × St) := fun k st => match k with
  | 1 => (qcF n).go st
  | _ => .fail
abbrev qQ : List It := [.fn (.t 1) 62 [] [], .v (.t 5) T3, .row (.t 0) true T30 30]
abbrev qbr : List (DEx × List It) := [(.exit 0, [.row (.t 0) true T30 30]), (.ret, [.row (.t 0) true T30 30, .sub (.t 4) 0])]
noncomputable def qe3 (n : Nat) (rec : qb qQ → Option (qf qbr)) (s : qb qQ) : Option (qf qbr) := (qi tab (qA n) (qeJ n) (subC [true, true, false, true, false, false] (qa Try.f61)) 1 (mkS qQ 66 s)).run (Lp.leaf 66 qQ qbr rec)
noncomputable def qcG (n : Nat) : Lp := ⟨66, qQ, qbr, qg n (qe3 n)⟩
theorem qjL : qd (subC [true, true, false, true, false, false] (qa Try.f61)) 1 = [(1, .loop (subC [true, true, false, true, false, false, true, false, false, true, false, true, false, true, false, false] (qa Try.f61)))] := by kernel_rfl
theorem qi6 (n : Nat) (st : St) (r : DEx × St) (h : ((qcG n).go st).Is r) : DA Try.prog false (.loop (subC [true, true, false, true, false, false] (qa Try.f61))) st r := Lp.ok (L := qcG n) (B := tab) (cs := qA n) (lo := qeJ n) (id := 0) rfl (qh qjL (all_cons (fun st r h => qi5 n st r h) qe)) (fun _ _ => rfl) h
noncomputable def qe4 (n : Nat) : Nat → St → PT (DEx × St) := fun k st => match k with
  | 0 => (qcG n).go st
  | _ => .fail
theorem qj9 : qd (qa Try.f61) 0 = [(0, .loop (subC [true, true, false, true, false, false] (qa Try.f61)))] := by kernel_rfl
theorem qka : Try.f61.body = some (qa Try.f61) := by kernel_rfl
abbrev qcH : List It := [.fn (.t 1) 62 [] [], .row (.t 0) true T30 30]
abbrev qcu : List (List It) := [[.row (.t 1) true T30 30, .sub (.t 0) 0]]
noncomputable def qfs (n : Nat) (x : qb qcH) : Option (qx qcu) := runW tab (qA n) (qe4 n) (qa Try.f61) qcH 2 66 [.tmp 4] qcu x
noncomputable def qkb (n : Nat) : Cw Try.prog := ⟨61, 2, qcH, 1, qcu, qfs n, fun _ _ h => qbb (B := tab) (cs := qA n) (lo := qe4 n) (rs := [.tmp 4]) Try.func61 (by kernel_rfl) qka (by kernel_rfl) (by decide) (qh qj9 (all_cons (fun st r h => qi6 n st r h) qe)) h⟩
noncomputable def qbt (n : Nat) : CL Try.prog := ⟨[], [qxJ n], 0⟩
noncomputable def qe5 (n : Nat) : Nat → St → PT (DEx × St) := fun _ _ => .fail
abbrev qR : List It := [.v (.t 7) T3, .v (.t 8) T3, .row (.t 0) true T30 30, .fnc (.t 1) 72 [.box true 25 1], .v (.c 1 0) T25]
abbrev qbu : List (DEx × List It) := [(.exit 0, [.row (.t 0) true T30 30, .fnc (.t 1) 72 [.box true 25 1], .v (.c 1 0) T25]), (.ret, [.v (.t 4) T3, .row (.t 0) true T30 30, .fnc (.t 1) 72 [.box true 25 1], .v (.c 1 0) T25])]
noncomputable def qft (n : Nat) (rec : qb qR → Option (qf qbu)) (s : qb qR) : Option (qf qbu) := (qi tab (qbt n) (qe5 n) (subC [true, false, true, false, false] (qa Try.f64)) 1 (mkS qR 19 s)).run (Lp.leaf 19 qR qbu rec)
noncomputable def qcN (n : Nat) : Lp := ⟨19, qR, qbu, qg n (qft n)⟩
theorem qkc : qd (subC [true, false, true, false, false] (qa Try.f64)) 1 = [] := by kernel_rfl
theorem qjj (n : Nat) (st : St) (r : DEx × St) (h : ((qcN n).go st).Is r) : DA Try.prog false (.loop (subC [true, false, true, false, false] (qa Try.f64))) st r := Lp.ok (L := qcN n) (B := tab) (cs := qbt n) (lo := qe5 n) (id := 0) rfl (qh qkc qe) (fun _ _ => rfl) h
noncomputable def qfu (n : Nat) : Nat → St → PT (DEx × St) := fun k st => match k with
  | 0 => (qcN n).go st
  | _ => .fail
theorem qkt : qd (qa Try.f64) 0 = [(0, .loop (subC [true, false, true, false, false] (qa Try.f64)))] := by kernel_rfl
theorem qku : Try.f64.body = some (qa Try.f64) := by kernel_rfl
abbrev qcO : List It := [.row (.t 0) true T30 30, .fnc (.t 1) 72 [.box true 25 1], .v (.c 1 0) T25]
abbrev qcI : List (List It) := [[.v (.t 0) T3, .row (.t 1) true T30 30, .obj (.t 2) true 25 1, .v (.c 1 0) T25]]
noncomputable def qfB (n : Nat) (x : qb qcO) : Option (qx qcI) := runW tab (qbt n) (qfu n) (qa Try.f64) qcO 2 19 [.tmp 4] qcI x
noncomputable def qfC (n : Nat) : Cw Try.prog := ⟨64, 2, qcO, 1, qcI, qfB n, fun _ _ h => qbb (B := tab) (cs := qbt n) (lo := qfu n) (rs := [.tmp 4]) Try.func64 (by kernel_rfl) qku (by kernel_rfl) (by decide) (qh qkt (all_cons (fun st r h => qjj n st r h) qe)) h⟩
noncomputable def qbG (n : Nat) : CL Try.prog := ⟨[], [qfC n, qdb n, qxJ n], 0⟩
noncomputable def qfP (n : Nat) : Nat → St → PT (DEx × St) := fun _ _ => .fail
abbrev q7 : List It := [.v (.t 5) T3, .v (.t 6) T3, .row (.t 0) true T30 30, .fnc (.t 1) 72 [.box true 25 1], .v (.c 1 0) T25]
abbrev qbH : List (DEx × List It) := [(.exit 0, [.v (.t 5) T3, .row (.t 0) true T30 30, .fnc (.t 1) 72 [.box true 25 1], .v (.c 1 0) T25])]
noncomputable def qf3 (n : Nat) (rec : qb q7 → Option (qf qbH)) (s : qb q7) : Option (qf qbH) := (qi tab (qbG n) (qfP n) (subC [true, true, true, false, true, false, false] (qa Try.f70)) 1 (mkS q7 42 s)).run (Lp.leaf 42 q7 qbH rec)
noncomputable def qdc (n : Nat) : Lp := ⟨42, q7, qbH, qg n (qf3 n)⟩
theorem qlc : qd (subC [true, true, true, false, true, false, false] (qa Try.f70)) 1 = [] := by kernel_rfl
theorem qkd (n : Nat) (st : St) (r : DEx × St) (h : ((qdc n).go st).Is r) : DA Try.prog false (.loop (subC [true, true, true, false, true, false, false] (qa Try.f70))) st r := Lp.ok (L := qdc n) (B := tab) (cs := qbG n) (lo := qfP n) (id := 0) rfl (qh qlc qe) (fun _ _ => rfl) h
noncomputable def qf4 (n : Nat) : Nat → St → PT (DEx × St) := fun k st => match k with
  | 0 => (qdc n).go st
  | _ => .fail
theorem qlD : qd (qa Try.f70) 0 = [(0, .loop (subC [true, true, true, false, true, false, false] (qa Try.f70)))] := by kernel_rfl
theorem qlE : Try.f70.body = some (qa Try.f70) := by kernel_rfl
abbrev qdd : List It := [.row (.t 0) true T30 30, .fnc (.t 1) 72 [.box true 25 1], .v (.c 1 0) T25]
abbrev qc2 : List (List It) := [[.row (.t 1) true T30 30, .obj (.t 2) true 25 1, .v (.c 1 0) T25, .sub (.t 0) 0]]
noncomputable def qgf (n : Nat) (x : qb qdd) : Option (qx qc2) := runW tab (qbG n) (qf4 n) (qa Try.f70) qdd 2 42 [.tmp 4] qc2 x
noncomputable def qlF (n : Nat) : Cw Try.prog := ⟨70, 2, qdd, 1, qc2, qgf n, fun _ _ h => qbb (B := tab) (cs := qbG n) (lo := qf4 n) (rs := [.tmp 4]) Try.func70 (by kernel_rfl) qlE (by kernel_rfl) (by decide) (qh qlD (all_cons (fun st r h => qkd n st r h) qe)) h⟩
noncomputable def qe8 (n : Nat) : CL Try.prog := ⟨[qh3 n], [qqi n, qs5 n, qrg n, qqT n, qmZ n, qpO n, qsy n], 0⟩
noncomputable def qld (n : Nat) : Nat → St → PT (DEx × St) := fun _ _ => .fail
abbrev qdu : List It := [.v (.t 1) T3, .v (.t 2) T3, .v (.t 3) T3, .v (.t 8) T4, .v (.t 9) T4, .row (.t 0) true T3 3]
abbrev qe9 : List (DEx × List It) := [(.ret, [.row (.t 0) true T3 3])]
noncomputable def qlT (n : Nat) (rec : qb qdu → Option (qf qe9)) (s : qb qdu) : Option (qf qe9) := (qi tab (qe8 n) (qld n) (subC [true, true, false, false] (qa Try.f54)) 1 (mkS qdu 134 s)).run (Lp.leaf 134 qdu qe9 rec)
noncomputable def qhG (n : Nat) : Lp := ⟨134, qdu, qe9, qg n (qlT n)⟩
theorem qs9 : qd (subC [true, true, false, false] (qa Try.f54)) 1 = [] := by kernel_rfl
theorem qrm (n : Nat) (st : St) (r : DEx × St) (h : ((qhG n).go st).Is r) : DA Try.prog false (.loop (subC [true, true, false, false] (qa Try.f54))) st r := Lp.ok (L := qhG n) (B := tab) (cs := qe8 n) (lo := qld n) (id := 0) rfl (qh qs9 qe) (fun _ _ => rfl) h
noncomputable def qlU (n : Nat) : Nat → St → PT (DEx × St) := fun k st => match k with
  | 0 => (qhG n).go st
  | _ => .fail
theorem qtL : qd (qa Try.f54) 0 = [(0, .loop (subC [true, true, false, false] (qa Try.f54)))] := by kernel_rfl
theorem qtM : Try.f54.body = some (qa Try.f54) := by kernel_rfl
abbrev qhH : List It := [.v (.t 1) T3, .v (.t 2) T3, .v (.t 3) T3, .row (.t 0) true T3 3]
abbrev qhr : List (List It) := [[.row (.t 0) true T3 3]]
noncomputable def qmJ (n : Nat) (x : qb qhH) : Option (qx qhr) := runW tab (qe8 n) (qlU n) (qa Try.f54) qhH 4 134 [] qhr x
noncomputable def qtN (n : Nat) : Cw Try.prog := ⟨54, 4, qhH, 0, qhr, qmJ n, fun _ _ h => qbb (B := tab) (cs := qe8 n) (lo := qlU n) (rs := []) Try.func54 (by kernel_rfl) qtM (by kernel_rfl) (by decide) (qh qtL (all_cons (fun st r h => qrm n st r h) qe)) h⟩
noncomputable def qti (n : Nat) : CL Try.prog := ⟨[qsH n], [qtN n], 0⟩
noncomputable def qtj (n : Nat) : Nat → St → PT (DEx × St) := fun _ _ => .fail
theorem qBg : qd (qa Try.f33) 0 = [] := by kernel_rfl
theorem qBh : Try.f33.body = some (qa Try.f33) := by kernel_rfl
abbrev qoi : List It := [.row (.t 0) true T3 3]
abbrev qnB : List (List It) := [[.row (.t 0) true T3 3]]
noncomputable def quH (n : Nat) (x : qb qoi) : Option (qx qnB) := runW tab (qti n) (qtj n) (qa Try.f33) qoi 1 11 [] qnB x
noncomputable def qBi (n : Nat) : Cw Try.prog := ⟨33, 1, qoi, 0, qnB, quH n, fun _ _ h => qbb (B := tab) (cs := qti n) (lo := qtj n) (rs := []) Try.func33 (by kernel_rfl) qBh (by kernel_rfl) (by decide) (qh qBg qe) h⟩
noncomputable def qvj (n : Nat) : CL Try.prog := ⟨[], [quG n, qgN n, qgP n, qkb n], 1⟩
noncomputable def qvk (n : Nat) : Nat → St → PT (DEx × St) := fun _ _ => .fail
theorem qCZ : qd (qa Try.f39) 0 = [] := by kernel_rfl
theorem qC0 : Try.f39.body = some (qa Try.f39) := by kernel_rfl
abbrev qqx : List It := [.v (.t 0) T83]
abbrev qpn : List (List It) := [[.row (.t 0) false T30 30]]
noncomputable def qwx (n : Nat) (x : qb qqx) : Option (qx qpn) := runW tab (qvj n) (qvk n) (qa Try.f39) qqx 1 10 [.tmp 2] qpn x
noncomputable def qwy (n : Nat) : Cw Try.prog := ⟨39, 1, qqx, 1, qpn, qwx n, fun _ _ h => qbb (B := tab) (cs := qvj n) (lo := qvk n) (rs := [.tmp 2]) Try.func39 (by kernel_rfl) qC0 (by kernel_rfl) (by decide) (qh qCZ qe) h⟩
noncomputable def qoC (n : Nat) : CL Try.prog := ⟨[qzT n], [], 0⟩
noncomputable def qoD (n : Nat) : Nat → St → PT (DEx × St) := fun _ _ => .fail
theorem qwz : qd (qa Try.f91) 0 = [] := by kernel_rfl
theorem qwA : Try.f91.body = some (qa Try.f91) := by kernel_rfl
abbrev qjs : List It := [.v (.t 0) T30, .obj (.t 1) true 69 2, .v (.c 0 0) T69]
abbrev qi7 : List (List It) := [[.v (.t 0) T4, .obj (.t 1) true 69 2, .v (.c 0 0) T69]]
noncomputable def qpo (n : Nat) (x : qb qjs) : Option (qx qi7) := runW tab (qoC n) (qoD n) (qa Try.f91) qjs 2 8 [.tmp 3] qi7 x
noncomputable def qpp (n : Nat) : Cw Try.prog := ⟨91, 2, qjs, 1, qi7, qpo n, fun _ _ h => qbb (B := tab) (cs := qoC n) (lo := qoD n) (rs := [.tmp 3]) Try.func91 (by kernel_rfl) qwA (by kernel_rfl) (by decide) (qh qwz qe) h⟩
noncomputable def q8 (n : Nat) : CL Try.prog := ⟨[], [qpp n], 0⟩
noncomputable def qek (n : Nat) : Nat → St → PT (DEx × St) := fun _ _ => .fail
abbrev qL : List It := [.v (.t 0) T25, .v (.t 7) T3, .v (.t 8) T3, .fnc (.t 1) 91 [.box true 69 2], .v (.c 0 0) T69]
abbrev q9 : List (DEx × List It) := [(.exit 0, [.fnc (.t 1) 91 [.box true 69 2], .v (.c 0 0) T69]), (.ret, [.v (.t 4) T3, .fnc (.t 1) 91 [.box true 69 2], .v (.c 0 0) T69])]
noncomputable def qel (n : Nat) (rec : qb qL → Option (qf q9)) (s : qb qL) : Option (qf q9) := (qi tab (q8 n) (qek n) (subC [true, false, true, false, false] (qa Try.f64)) 1 (mkS qL 19 s)).run (Lp.leaf 19 qL q9 rec)
noncomputable def qb5 (n : Nat) : Lp := ⟨19, qL, q9, qg n (qel n)⟩
theorem qiH : qd (subC [true, false, true, false, false] (qa Try.f64)) 1 = [] := by kernel_rfl
theorem qh9 (n : Nat) (st : St) (r : DEx × St) (h : ((qb5 n).go st).Is r) : DA Try.prog false (.loop (subC [true, false, true, false, false] (qa Try.f64))) st r := Lp.ok (L := qb5 n) (B := tab) (cs := q8 n) (lo := qek n) (id := 0) rfl (qh qiH qe) (fun _ _ => rfl) h
noncomputable def qem (n : Nat) : Nat → St → PT (DEx × St) := fun k st => match k with
  | 0 => (qb5 n).go st
  | _ => .fail
theorem qi8 : qd (qa Try.f64) 0 = [(0, .loop (subC [true, false, true, false, false] (qa Try.f64)))] := by kernel_rfl
theorem qi9 : Try.f64.body = some (qa Try.f64) := by kernel_rfl
abbrev qb6 : List It := [.v (.t 0) T25, .fnc (.t 1) 91 [.box true 69 2], .v (.c 0 0) T69]
abbrev qb1 : List (List It) := [[.v (.t 0) T3, .obj (.t 1) true 69 2, .v (.c 0 0) T69]]
noncomputable def qep (n : Nat) (x : qb qb6) : Option (qx qb1) := runW tab (q8 n) (qem n) (qa Try.f64) qb6 2 19 [.tmp 4] qb1 x
noncomputable def qja (n : Nat) : Cw Try.prog := ⟨64, 2, qb6, 1, qb1, qep n, fun _ _ h => qbb (B := tab) (cs := q8 n) (lo := qem n) (rs := [.tmp 4]) Try.func64 (by kernel_rfl) qi9 (by kernel_rfl) (by decide) (qh qi8 (all_cons (fun st r h => qh9 n st r h) qe)) h⟩
noncomputable def qdX (n : Nat) : CL Try.prog := ⟨[], [qfC n, qdb n, qja n, qpp n], 0⟩
noncomputable def qdY (n : Nat) : Nat → St → PT (DEx × St) := fun _ _ => .fail
theorem qil : qd (qa Try.f73) 0 = [] := by kernel_rfl
theorem qim : Try.f73.body = some (qa Try.f73) := by kernel_rfl
abbrev qbL : List It := [.v (.t 0) T25, .fnc (.t 1) 91 [.box true 69 2], .v (.c 0 0) T69]
abbrev qbE : List (List It) := [[.v (.t 0) T4, .obj (.t 1) true 69 2, .v (.c 0 0) T69]]
noncomputable def qea (n : Nat) (x : qb qbL) : Option (qx qbE) := runW tab (qdX n) (qdY n) (qa Try.f73) qbL 2 9 [.tmp 4] qbE x
noncomputable def qin (n : Nat) : Cw Try.prog := ⟨73, 2, qbL, 1, qbE, qea n, fun _ _ h => qbb (B := tab) (cs := qdX n) (lo := qdY n) (rs := [.tmp 4]) Try.func73 (by kernel_rfl) qim (by kernel_rfl) (by decide) (qh qil qe) h⟩
noncomputable def qqW (n : Nat) : CL Try.prog := ⟨[qGp n], [qwy n, qfp n, qin n], 1⟩
noncomputable def qqX (n : Nat) : Nat → St → PT (DEx × St) := fun _ _ => .fail
theorem qyQ : qd (qa Try.f57) 0 = [] := by kernel_rfl
theorem qyR : Try.f57.body = some (qa Try.f57) := by kernel_rfl
abbrev qmK : List Ar := [.d T69, .d T25]
abbrev qmL : List Ty := [T33]
noncomputable def qrO (n : Nat) (x : qy qmK) : Option (qk qmL) := (qi tab (qqW n) (qqX n) (qa Try.f57) 0 (qC qmK 19 x)).run (qbA tab [.tmp 4] qmL)
noncomputable def qyS (n : Nat) : Ct Try.prog := ⟨57, qmK, .ts qmL, qrO n, fun _ _ h => qbF (B := tab) (cs := qqW n) (lo := qqX n) (rs := [.tmp 4]) Try.func57 (by kernel_rfl) qyR (by kernel_rfl) (by decide) (qh qyQ qe) h⟩
noncomputable def qAp (n : Nat) : CL Try.prog := ⟨[qDI n, qyS n], [], 0⟩
noncomputable def qAq (n : Nat) : Nat → St → PT (DEx × St) := fun _ _ => .fail
theorem qGq : qd (qa Try.f38) 0 = [] := by kernel_rfl
theorem qGr : Try.f38.body = some (qa Try.f38) := by kernel_rfl
abbrev qwB : List Ar := [.d T24, .d T25]
abbrev qwC : List Ty := [T33]
noncomputable def qBj (n : Nat) (x : qy qwB) : Option (qk qwC) := (qi tab (qAp n) (qAq n) (qa Try.f38) 0 (qC qwB 14 x)).run (qbA tab [.tmp 4] qwC)
noncomputable def qGs (n : Nat) : Ct Try.prog := ⟨38, qwB, .ts qwC, qBj n, fun _ _ h => qbF (B := tab) (cs := qAp n) (lo := qAq n) (rs := [.tmp 4]) Try.func38 (by kernel_rfl) qGr (by kernel_rfl) (by decide) (qh qGq qe) h⟩
end Go.Proofs.Ytcjgodgpaokbnaa
