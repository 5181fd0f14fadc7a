/- Printed: what functions of the program compute. -/
import Derived.Test.YtcjgodgpaokbnaaGreatDnC
namespace Go.Proofs.YtcjgodgpaokbnaaGreat
set_option linter.constructorNameAsVariable false
set_option linter.unusedSimpArgs false
set_option linter.unusedVariables false
set_option linter.unusedSectionVars false
open Go Go.Proofs Go.RowKit
set_option maxRecDepth 20000
noncomputable def qj5 (n : Nat) : CL Tryz.prog := ⟨[], [], 0⟩
noncomputable def qj6 (n : Nat) : Nat → St → PT (DEx × St) := fun _ _ => .fail
theorem qrH : qd (qa Tryz.f131) 0 = [] := by kernel_rfl
theorem qrI : Tryz.f131.body = some (qa Tryz.f131) := by kernel_rfl
abbrev qgn : List It := [.raw (.t 0), .v (.t 1) T3]
abbrev qf9 : List (List It) := [[.row (.t 0) false T59 59]]
noncomputable def qm (n : Nat) (x : qc qgn) : Option (qD qf9) := runW tab (qj5 n) (qj6 n) (qa Tryz.f131) qgn 2 27 [.tmp 4] qf9 x
noncomputable def qrJ (n : Nat) : Cw Tryz.prog := ⟨131, 2, qgn, 1, qf9, qm n, fun _ _ h => qbY (B := tab) (cs := qj5 n) (lo := qj6 n) (rs := [.tmp 4]) Tryz.func131 (by kernel_rfl) qrI (by kernel_rfl) (by decide) (qh qrH qe) h⟩
noncomputable def qcl (n : Nat) : CL Tryz.prog := ⟨[], [qrJ n], 1⟩
noncomputable def qkV (n : Nat) : Nat → St → PT (DEx × St) := fun _ _ => .fail
abbrev qdq : List It := [.v (.t 25) T137, .v (.t 26) T3, .v (.t 27) T3, .row (.t 6) false T59 59]
abbrev qeX : List (DEx × List It) := [(.exit 2, [.row (.t 6) false T59 59])]
noncomputable def qlw (n : Nat) (rec : qc qdq → Option (qg qeX)) (s : qc qdq) : Option (qg qeX) := (qk tab (qcl n) (qkV n) (subC [true, true, true, true, false, true, false, false] (qa Tryz.f104)) 2 (mkS qdq 36 s)).run (Lp.leaf 36 qdq qeX rec)
noncomputable def qg0 (n : Nat) : Lp := ⟨36, qdq, qeX, qf n (qlw n)⟩
theorem qso : qd (subC [true, true, true, true, false, true, false, false] (qa Tryz.f104)) 2 = [] := by kernel_rfl
theorem qqM (n : Nat) (st : St) (r : DEx × St) (h : ((qg0 n).go st).Is r) : DA Tryz.prog false (.loop (subC [true, true, true, true, false, true, false, false] (qa Tryz.f104))) st r := Lp.ok (L := qg0 n) (B := tab) (cs := qcl n) (lo := qkV n) (id := 1) rfl (qh qso qe) (fun _ _ => rfl) h
noncomputable def qkW (n : Nat) : Nat → St → PT (DEx × St) := fun _ _ => .fail
abbrev qdr : List It := [.v (.t 0) T137, .v (.t 3) T3, .v (.t 9) T137, .v (.t 10) T3, .v (.t 11) T3]
abbrev qeY : List (DEx × List It) := [(.exit 0, [.v (.t 0) T137, .v (.t 3) T3])]
noncomputable def qlx (n : Nat) (rec : qc qdr → Option (qg qeY)) (s : qc qdr) : Option (qg qeY) := (qk tab (qcl n) (qkW n) (subC [true, true, false, true, false, false] (qa Tryz.f104)) 1 (mkS qdr 36 s)).run (Lp.leaf 36 qdr qeY rec)
noncomputable def qg1 (n : Nat) : Lp := ⟨36, qdr, qeY, qf n (qlx n)⟩
theorem qsp : qd (subC [true, true, false, true, false, false] (qa Tryz.f104)) 1 = [] := by kernel_rfl
theorem qqN (n : Nat) (st : St) (r : DEx × St) (h : ((qg1 n).go st).Is r) : DA Tryz.prog false (.loop (subC [true, true, false, true, false, false] (qa Tryz.f104))) st r := Lp.ok (L := qg1 n) (B := tab) (cs := qcl n) (lo := qkW n) (id := 0) rfl (qh qsp qe) (fun _ _ => rfl) h
noncomputable def qly (n : Nat) : Nat → St → PT (DEx × St) := fun k st => match k with
  | 0 => (qg1 n).go st
  | 1 => (qg0 n).go st
  | _ => .fail
theorem qte : qd (qa Tryz.f104) 0 = [(0, .loop (subC [true, true, false, true, false, false] (qa Tryz.f104))), (1, .loop (subC [true, true, true, true, false, true, false, false] (qa Tryz.f104)))] := by kernel_rfl
theorem qtf : Tryz.f104.body = some (qa Tryz.f104) := by kernel_rfl
abbrev qg2 : List It := [.v (.t 0) T137]
abbrev qgC : List (List It) := [[.row (.t 0) false T59 59]]
noncomputable def ql1 (n : Nat) (x : qc qg2) : Option (qD qgC) := runW tab (qcl n) (qly n) (qa Tryz.f104) qg2 1 36 [.tmp 2] qgC x
noncomputable def qtg (n : Nat) : Cw Tryz.prog := ⟨104, 1, qg2, 1, qgC, ql1 n, fun _ _ h => qbY (B := tab) (cs := qcl n) (lo := qly n) (rs := [.tmp 2]) Tryz.func104 (by kernel_rfl) qtf (by kernel_rfl) (by decide) (qh qte (all_cons (fun st r h => qqN n st r h) (all_cons (fun st r h => qqM n st r h) qe))) h⟩
noncomputable def qvo (n : Nat) : CL Tryz.prog := ⟨[qBl n], [], 0⟩
noncomputable def qvp (n : Nat) : Nat → St → PT (DEx × St) := fun _ _ => .fail
theorem qC6 : qd (qa Tryz.f87) 0 = [] := by kernel_rfl
theorem qC7 : Tryz.f87.body = some (qa Tryz.f87) := by kernel_rfl
abbrev qrc : List Ar := [.d T98]
abbrev qrd : List Ty := [T3]
noncomputable def qwK (n : Nat) (x : qp qrc) : Option (qi qrd) := (qk tab (qvo n) (qvp n) (qa Tryz.f87) 0 (qu qrc 8 x)).run (qU tab [.tmp 2] qrd)
noncomputable def qre (n : Nat) : Ct Tryz.prog := ⟨87, qrc, .ts qrd, qwK n, fun _ _ h => q6 (B := tab) (cs := qvo n) (lo := qvp n) (rs := [.tmp 2]) Tryz.func87 (by kernel_rfl) qC7 (by kernel_rfl) (by decide) (qh qC6 qe) h⟩
noncomputable def qbk (n : Nat) : CL Tryz.prog := ⟨[qoI n], [qdO n, qdQ n], 0⟩
noncomputable def qd6 (n : Nat) : Nat → St → PT (DEx × St) := fun _ _ => .fail
abbrev qK : List It := [.v (.t 1) T3, .v (.t 2) T3, .v (.t 3) T3, .fn (.t 4) 105 [] [], .v (.t 10) T4, .v (.t 11) T4, .row (.t 0) true T59 59]
abbrev qbl : List (DEx × List It) := [(.ret, [.row (.t 0) true T59 59])]
noncomputable def qek (n : Nat) (rec : qc qK → Option (qg qbl)) (s : qc qK) : Option (qg qbl) := (qk tab (qbk n) (qd6 n) (subC [true, true, false, false] (qa Tryz.f120)) 1 (mkS qK 148 s)).run (Lp.leaf 148 qK qbl rec)
noncomputable def qcm (n : Nat) : Lp := ⟨148, qK, qbl, qf n (qek n)⟩
theorem qiJ : qd (subC [true, true, false, false] (qa Tryz.f120)) 1 = [] := by kernel_rfl
theorem qhX (n : Nat) (st : St) (r : DEx × St) (h : ((qcm n).go st).Is r) : DA Tryz.prog false (.loop (subC [true, true, false, false] (qa Tryz.f120))) st r := Lp.ok (L := qcm n) (B := tab) (cs := qbk n) (lo := qd6 n) (id := 0) rfl (qh qiJ qe) (fun _ _ => rfl) h
noncomputable def qel (n : Nat) : Nat → St → PT (DEx × St) := fun k st => match k with
  | 0 => (qcm n).go st
  | _ => .fail
theorem qiZ : qd (qa Tryz.f120) 0 = [(0, .loop (subC [true, true, false, false] (qa Tryz.f120)))] := by kernel_rfl
theorem qi0 : Tryz.f120.body = some (qa Tryz.f120) := by kernel_rfl
abbrev qcn : List It := [.v (.t 1) T3, .v (.t 2) T3, .v (.t 3) T3, .fn (.t 4) 105 [] [], .row (.t 0) true T59 59]
abbrev qcd : List (List It) := [[.row (.t 0) true T59 59]]
noncomputable def qeG (n : Nat) (x : qc qcn) : Option (qD qcd) := runW tab (qbk n) (qel n) (qa Tryz.f120) qcn 5 148 [] qcd x
noncomputable def qcx (n : Nat) : Cw Tryz.prog := ⟨120, 5, qcn, 0, qcd, qeG n, fun _ _ h => qbY (B := tab) (cs := qbk n) (lo := qel n) (rs := []) Tryz.func120 (by kernel_rfl) qi0 (by kernel_rfl) (by decide) (qh qiZ (all_cons (fun st r h => qhX n st r h) qe)) h⟩
noncomputable def qfE (n : Nat) : CL Tryz.prog := ⟨[qre n, qoI n], [qcx n], 0⟩
noncomputable def qfF (n : Nat) : Nat → St → PT (DEx × St) := fun _ _ => .fail
theorem qlz : qd (qa Tryz.f95) 0 = [] := by kernel_rfl
theorem qlA : Tryz.f95.body = some (qa Tryz.f95) := by kernel_rfl
abbrev qc9 : List It := [.fn (.t 1) 105 [] [], .row (.t 0) true T59 59]
abbrev qcY : List (List It) := [[.row (.t 0) true T59 59]]
noncomputable def qfU (n : Nat) (x : qc qc9) : Option (qD qcY) := runW tab (qfE n) (qfF n) (qa Tryz.f95) qc9 2 14 [] qcY x
noncomputable def qfV (n : Nat) : Cw Tryz.prog := ⟨95, 2, qc9, 0, qcY, qfU n, fun _ _ h => qbY (B := tab) (cs := qfE n) (lo := qfF n) (rs := []) Tryz.func95 (by kernel_rfl) qlA (by kernel_rfl) (by decide) (qh qlz qe) h⟩
noncomputable def qbm (n : Nat) : CL Tryz.prog := ⟨[qsl n], [qcx n, qdO n, qdQ n], 0⟩
noncomputable def qd7 (n : Nat) : Nat → St → PT (DEx × St) := fun _ _ => .fail
abbrev qL : List It := [.v (.t 1) T3, .v (.t 2) T3, .v (.t 3) T3, .fn (.t 4) 96 [] [], .v (.t 10) T4, .v (.t 11) T4, .row (.t 0) true T59 59]
abbrev qbn : List (DEx × List It) := [(.ret, [.row (.t 0) true T59 59])]
noncomputable def qem (n : Nat) (rec : qc qL → Option (qg qbn)) (s : qc qL) : Option (qg qbn) := (qk tab (qbm n) (qd7 n) (subC [true, true, false, false] (qa Tryz.f120)) 1 (mkS qL 148 s)).run (Lp.leaf 148 qL qbn rec)
noncomputable def qco (n : Nat) : Lp := ⟨148, qL, qbn, qf n (qem n)⟩
theorem qiK : qd (subC [true, true, false, false] (qa Tryz.f120)) 1 = [] := by kernel_rfl
theorem qhY (n : Nat) (st : St) (r : DEx × St) (h : ((qco n).go st).Is r) : DA Tryz.prog false (.loop (subC [true, true, false, false] (qa Tryz.f120))) st r := Lp.ok (L := qco n) (B := tab) (cs := qbm n) (lo := qd7 n) (id := 0) rfl (qh qiK qe) (fun _ _ => rfl) h
noncomputable def qen (n : Nat) : Nat → St → PT (DEx × St) := fun k st => match k with
  | 0 => (qco n).go st
  | _ => .fail
theorem qi1 : qd (qa Tryz.f120) 0 = [(0, .loop (subC [true, true, false, false] (qa Tryz.f120)))] := by kernel_rfl
theorem qi2 : Tryz.f120.body = some (qa Tryz.f120) := by kernel_rfl
abbrev qcp : List It := [.v (.t 1) T3, .v (.t 2) T3, .v (.t 3) T3, .fn (.t 4) 96 [] [], .row (.t 0) true T59 59]
abbrev qce : List (List It) := [[.row (.t 0) true T59 59]]
noncomputable def qeH (n : Nat) (x : qc qcp) : Option (qD qce) := runW tab (qbm n) (qen n) (qa Tryz.f120) qcp 5 148 [] qce x
noncomputable def qi3 (n : Nat) : Cw Tryz.prog := ⟨120, 5, qcp, 0, qce, qeH n, fun _ _ h => qbY (B := tab) (cs := qbm n) (lo := qen n) (rs := []) Tryz.func120 (by kernel_rfl) qi2 (by kernel_rfl) (by decide) (qh qi1 (all_cons (fun st r h => qhY n st r h) qe)) h⟩
noncomputable def qfG (n : Nat) : CL Tryz.prog := ⟨[qre n, qsl n], [qcx n, qi3 n], 0⟩
noncomputable def qfH (n : Nat) : Nat → St → PT (DEx × St) := fun _ _ => .fail
theorem qlB : qd (qa Tryz.f95) 0 = [] := by kernel_rfl
theorem qlC : Tryz.f95.body = some (qa Tryz.f95) := by kernel_rfl
abbrev qda : List It := [.fn (.t 1) 96 [] [], .row (.t 0) true T59 59]
abbrev qcZ : List (List It) := [[.row (.t 0) true T59 59]]
noncomputable def qfW (n : Nat) (x : qc qda) : Option (qD qcZ) := runW tab (qfG n) (qfH n) (qa Tryz.f95) qda 2 14 [] qcZ x
noncomputable def qfX (n : Nat) : Cw Tryz.prog := ⟨95, 2, qda, 0, qcZ, qfW n, fun _ _ h => qbY (B := tab) (cs := qfG n) (lo := qfH n) (rs := []) Tryz.func95 (by kernel_rfl) qlC (by kernel_rfl) (by decide) (qh qlB qe) h⟩
noncomputable def qz (n : Nat) : CL Tryz.prog := ⟨[qBs n], [], 0⟩
noncomputable def qd8 (n : Nat) : Nat → St → PT (DEx × St) := fun _ _ => .fail
abbrev qM : List It := [.fn (.t 1) 107 [] [], .v (.t 5) T3, .v (.t 7) T3, .row (.t 0) true T59 59, .sub (.t 6) 0]
abbrev qbo : List (DEx × List It) := [(.exit 2, [.v (.t 5) T3, .row (.t 0) true T59 59])]
noncomputable def qeo (n : Nat) (rec : qc qM → Option (qg qbo)) (s : qc qM) : Option (qg qbo) := (qk tab (qz n) (qd8 n) (subC [true, true, false, true, false, false, true, false, false, true, false, true, false, true, false, false] (qa Tryz.f106)) 2 (mkS qM 66 s)).run (Lp.leaf 66 qM qbo rec)
noncomputable def qcq (n : Nat) : Lp := ⟨66, qM, qbo, qf n (qeo n)⟩
theorem qiL : qd (subC [true, true, false, true, false, false, true, false, false, true, false, true, false, true, false, false] (qa Tryz.f106)) 2 = [] := by kernel_rfl
theorem qhZ (n : Nat) (st : St) (r : DEx × St) (h : ((qcq n).go st).Is r) : DA Tryz.prog false (.loop (subC [true, true, false, true, false, false, true, false, false, true, false, true, false, true, false, false] (qa Tryz.f106))) st r := Lp.ok (L := qcq n) (B := tab) (cs := qz n) (lo := qd8 n) (id := 1) rfl (qh qiL qe) (fun _ _ => rfl) h
noncomputable def qd9 (n : Nat) : Nat → St → PT (DEx × St) := fun k st => match k with
  | 1 => (qcq n).go st
  | _ => .fail
abbrev qN : List It := [.fn (.t 1) 107 [] [], .v (.t 5) T3, .row (.t 0) true T59 59]
abbrev qbp : List (DEx × List It) := [(.exit 0, [.row (.t 0) true T59 59]), (.ret, [.row (.t 0) true T59 59, .sub (.t 4) 0])]
noncomputable def qep (n : Nat) (rec : qc qN → Option (qg qbp)) (s : qc qN) : Option (qg qbp) := (qk tab (qz n) (qd9 n) (subC [true, true, false, true, false, false] (qa Tryz.f106)) 1 (mkS qN 66 s)).run (Lp.leaf 66 qN qbp rec)
noncomputable def qcr (n : Nat) : Lp := ⟨66, qN, qbp, qf n (qep n)⟩
theorem qiM : qd (subC [true, true, false, true, false, false] (qa Tryz.f106)) 1 = [(1, .loop (subC [true, true, false, true, false, false, true, false, false, true, false, true, false, true, false, false] (qa Tryz.f106)))] := by kernel_rfl
theorem qh0 (n : Nat) (st : St) (r : DEx × St) (h : ((qcr n).go st).Is r) : DA Tryz.prog false (.loop (subC [true, true, false, true, false, false] (qa Tryz.f106))) st r := Lp.ok (L := qcr n) (B := tab) (cs := qz n) (lo := qd9 n) (id := 0) rfl (qh qiM (all_cons (fun st r h => qhZ n st r h) qe)) (fun _ _ => rfl) h
noncomputable def qeq (n : Nat) : Nat → St → PT (DEx × St) := fun k st => match k with
  | 0 => (qcr n).go st
  | _ => .fail
theorem qi4 : qd (qa Tryz.f106) 0 = [(0, .loop (subC [true, true, false, true, false, false] (qa Tryz.f106)))] := by kernel_rfl
theorem qi5 : Tryz.f106.body = some (qa Tryz.f106) := by kernel_rfl
abbrev qcs : List It := [.fn (.t 1) 107 [] [], .row (.t 0) true T59 59]
abbrev qcf : List (List It) := [[.row (.t 1) true T59 59, .sub (.t 0) 0]]
noncomputable def qeI (n : Nat) (x : qc qcs) : Option (qD qcf) := runW tab (qz n) (qeq n) (qa Tryz.f106) qcs 2 66 [.tmp 4] qcf x
noncomputable def qi6 (n : Nat) : Cw Tryz.prog := ⟨106, 2, qcs, 1, qcf, qeI n, fun _ _ h => qbY (B := tab) (cs := qz n) (lo := qeq n) (rs := [.tmp 4]) Tryz.func106 (by kernel_rfl) qi5 (by kernel_rfl) (by decide) (qh qi4 (all_cons (fun st r h => qh0 n st r h) qe)) h⟩
noncomputable def qbq (n : Nat) : CL Tryz.prog := ⟨[], [qwG n], 0⟩
noncomputable def qer (n : Nat) : Nat → St → PT (DEx × St) := fun _ _ => .fail
abbrev qO : List It := [.v (.t 7) T3, .v (.t 8) T3, .row (.t 0) true T59 59, .fnc (.t 1) 93 [.box true 25 1], .v (.c 1 0) T25]
abbrev qbr : List (DEx × List It) := [(.exit 0, [.row (.t 0) true T59 59, .fnc (.t 1) 93 [.box true 25 1], .v (.c 1 0) T25]), (.ret, [.v (.t 4) T3, .row (.t 0) true T59 59, .fnc (.t 1) 93 [.box true 25 1], .v (.c 1 0) T25])]
noncomputable def qeJ (n : Nat) (rec : qc qO → Option (qg qbr)) (s : qc qO) : Option (qg qbr) := (qk tab (qbq n) (qer n) (subC [true, false, true, false, false] (qa Tryz.f88)) 1 (mkS qO 19 s)).run (Lp.leaf 19 qO qbr rec)
noncomputable def qcy (n : Nat) : Lp := ⟨19, qO, qbr, qf n (qeJ n)⟩
theorem qi7 : qd (subC [true, false, true, false, false] (qa Tryz.f88)) 1 = [] := by kernel_rfl
theorem qie (n : Nat) (st : St) (r : DEx × St) (h : ((qcy n).go st).Is r) : DA Tryz.prog false (.loop (subC [true, false, true, false, false] (qa Tryz.f88))) st r := Lp.ok (L := qcy n) (B := tab) (cs := qbq n) (lo := qer n) (id := 0) rfl (qh qi7 qe) (fun _ _ => rfl) h
noncomputable def qeK (n : Nat) : Nat → St → PT (DEx × St) := fun k st => match k with
  | 0 => (qcy n).go st
  | _ => .fail
theorem qjx : qd (qa Tryz.f88) 0 = [(0, .loop (subC [true, false, true, false, false] (qa Tryz.f88)))] := by kernel_rfl
theorem qjy : Tryz.f88.body = some (qa Tryz.f88) := by kernel_rfl
abbrev qcz : List It := [.row (.t 0) true T59 59, .fnc (.t 1) 93 [.box true 25 1], .v (.c 1 0) T25]
abbrev qct : List (List It) := [[.v (.t 0) T3, .row (.t 1) true T59 59, .obj (.t 2) true 25 1, .v (.c 1 0) T25]]
noncomputable def qeP (n : Nat) (x : qc qcz) : Option (qD qct) := runW tab (qbq n) (qeK n) (qa Tryz.f88) qcz 2 19 [.tmp 4] qct x
noncomputable def qeQ (n : Nat) : Cw Tryz.prog := ⟨88, 2, qcz, 1, qct, qeP n, fun _ _ h => qbY (B := tab) (cs := qbq n) (lo := qeK n) (rs := [.tmp 4]) Tryz.func88 (by kernel_rfl) qjy (by kernel_rfl) (by decide) (qh qjx (all_cons (fun st r h => qie n st r h) qe)) h⟩
noncomputable def qbA (n : Nat) : CL Tryz.prog := ⟨[], [qeQ n, qcM n, qwG n], 0⟩
noncomputable def qe4 (n : Nat) : Nat → St → PT (DEx × St) := fun _ _ => .fail
abbrev q7 : List It := [.v (.t 5) T3, .v (.t 6) T3, .row (.t 0) true T59 59, .fnc (.t 1) 93 [.box true 25 1], .v (.c 1 0) T25]
abbrev qbB : List (DEx × List It) := [(.exit 0, [.v (.t 5) T3, .row (.t 0) true T59 59, .fnc (.t 1) 93 [.box true 25 1], .v (.c 1 0) T25])]
noncomputable def qfg (n : Nat) (rec : qc q7 → Option (qg qbB)) (s : qc q7) : Option (qg qbB) := (qk tab (qbA n) (qe4 n) (subC [true, true, true, false, true, false, false] (qa Tryz.f55)) 1 (mkS q7 42 s)).run (Lp.leaf 42 q7 qbB rec)
noncomputable def qcN (n : Nat) : Lp := ⟨42, q7, qbB, qf n (qfg n)⟩
theorem qj7 : qd (subC [true, true, true, false, true, false, false] (qa Tryz.f55)) 1 = [] := by kernel_rfl
theorem qi8 (n : Nat) (st : St) (r : DEx × St) (h : ((qcN n).go st).Is r) : DA Tryz.prog false (.loop (subC [true, true, true, false, true, false, false] (qa Tryz.f55))) st r := Lp.ok (L := qcN n) (B := tab) (cs := qbA n) (lo := qe4 n) (id := 0) rfl (qh qj7 qe) (fun _ _ => rfl) h
noncomputable def qfh (n : Nat) : Nat → St → PT (DEx × St) := fun k st => match k with
  | 0 => (qcN n).go st
  | _ => .fail
theorem qkv : qd (qa Tryz.f55) 0 = [(0, .loop (subC [true, true, true, false, true, false, false] (qa Tryz.f55)))] := by kernel_rfl
theorem qkw : Tryz.f55.body = some (qa Tryz.f55) := by kernel_rfl
abbrev qcO : List It := [.row (.t 0) true T59 59, .fnc (.t 1) 93 [.box true 25 1], .v (.c 1 0) T25]
abbrev qcJ : List (List It) := [[.row (.t 1) true T59 59, .obj (.t 2) true 25 1, .v (.c 1 0) T25, .sub (.t 0) 0]]
noncomputable def qfr (n : Nat) (x : qc qcO) : Option (qD qcJ) := runW tab (qbA n) (qfh n) (qa Tryz.f55) qcO 2 42 [.tmp 4] qcJ x
noncomputable def qkx (n : Nat) : Cw Tryz.prog := ⟨55, 2, qcO, 1, qcJ, qfr n, fun _ _ h => qbY (B := tab) (cs := qbA n) (lo := qfh n) (rs := [.tmp 4]) Tryz.func55 (by kernel_rfl) qkw (by kernel_rfl) (by decide) (qh qkv (all_cons (fun st r h => qi8 n st r h) qe)) h⟩
noncomputable def qev (n : Nat) : CL Tryz.prog := ⟨[qxQ n], [qpd n], 0⟩
noncomputable def qj8 (n : Nat) : Nat → St → PT (DEx × St) := fun _ _ => .fail
abbrev qc6 : List It := [.v (.t 1) T3, .v (.t 2) T3, .v (.t 3) T3, .v (.t 8) T4, .v (.t 9) T4, .row (.t 0) true T3 3]
abbrev qew : List (DEx × List It) := [(.ret, [.row (.t 0) true T3 3])]
noncomputable def qkX (n : Nat) (rec : qc qc6 → Option (qg qew)) (s : qc qc6) : Option (qg qew) := (qk tab (qev n) (qj8 n) (subC [true, true, false, false] (qa Tryz.f86)) 1 (mkS qc6 134 s)).run (Lp.leaf 134 qc6 qew rec)
noncomputable def qgD (n : Nat) : Lp := ⟨134, qc6, qew, qf n (qkX n)⟩
theorem qrK : qd (subC [true, true, false, false] (qa Tryz.f86)) 1 = [] := by kernel_rfl
theorem qp4 (n : Nat) (st : St) (r : DEx × St) (h : ((qgD n).go st).Is r) : DA Tryz.prog false (.loop (subC [true, true, false, false] (qa Tryz.f86))) st r := Lp.ok (L := qgD n) (B := tab) (cs := qev n) (lo := qj8 n) (id := 0) rfl (qh qrK qe) (fun _ _ => rfl) h
noncomputable def qkY (n : Nat) : Nat → St → PT (DEx × St) := fun k st => match k with
  | 0 => (qgD n).go st
  | _ => .fail
theorem qsq : qd (qa Tryz.f86) 0 = [(0, .loop (subC [true, true, false, false] (qa Tryz.f86)))] := by kernel_rfl
theorem qsr : Tryz.f86.body = some (qa Tryz.f86) := by kernel_rfl
abbrev qgE : List It := [.v (.t 1) T3, .v (.t 2) T3, .v (.t 3) T3, .row (.t 0) true T3 3]
abbrev qgo : List (List It) := [[.row (.t 0) true T3 3]]
noncomputable def qlD (n : Nat) (x : qc qgE) : Option (qD qgo) := runW tab (qev n) (qkY n) (qa Tryz.f86) qgE 4 134 [] qgo x
noncomputable def qss (n : Nat) : Cw Tryz.prog := ⟨86, 4, qgE, 0, qgo, qlD n, fun _ _ h => qbY (B := tab) (cs := qev n) (lo := qkY n) (rs := []) Tryz.func86 (by kernel_rfl) qsr (by kernel_rfl) (by decide) (qh qsq (all_cons (fun st r h => qp4 n st r h) qe)) h⟩
noncomputable def qrT (n : Nat) : CL Tryz.prog := ⟨[qre n], [qss n], 0⟩
noncomputable def qrU (n : Nat) : Nat → St → PT (DEx × St) := fun _ _ => .fail
theorem qAy : qd (qa Tryz.f45) 0 = [] := by kernel_rfl
theorem qAz : Tryz.f45.body = some (qa Tryz.f45) := by kernel_rfl
abbrev qnd : List It := [.row (.t 0) true T3 3]
abbrev qmv : List (List It) := [[.row (.t 0) true T3 3]]
noncomputable def qth (n : Nat) (x : qc qnd) : Option (qD qmv) := runW tab (qrT n) (qrU n) (qa Tryz.f45) qnd 1 11 [] qmv x
noncomputable def qAA (n : Nat) : Cw Tryz.prog := ⟨45, 1, qnd, 0, qmv, qth n, fun _ _ h => qbY (B := tab) (cs := qrT n) (lo := qrU n) (rs := []) Tryz.func45 (by kernel_rfl) qAz (by kernel_rfl) (by decide) (qh qAy qe) h⟩
noncomputable def qt5 (n : Nat) : CL Tryz.prog := ⟨[], [qfV n, qfX n, qtg n, qi6 n], 1⟩
noncomputable def qt6 (n : Nat) : Nat → St → PT (DEx × St) := fun _ _ => .fail
theorem qCk : qd (qa Tryz.f80) 0 = [] := by kernel_rfl
theorem qCl : Tryz.f80.body = some (qa Tryz.f80) := by kernel_rfl
abbrev qpl : List It := [.v (.t 0) T137]
abbrev qoh : List (List It) := [[.row (.t 0) false T59 59]]
noncomputable def qvq (n : Nat) (x : qc qpl) : Option (qD qoh) := runW tab (qt5 n) (qt6 n) (qa Tryz.f80) qpl 1 10 [.tmp 2] qoh x
noncomputable def qvr (n : Nat) : Cw Tryz.prog := ⟨80, 1, qpl, 1, qoh, qvq n, fun _ _ h => qbY (B := tab) (cs := qt5 n) (lo := qt6 n) (rs := [.tmp 2]) Tryz.func80 (by kernel_rfl) qCl (by kernel_rfl) (by decide) (qh qCk qe) h⟩
noncomputable def qnD (n : Nat) : CL Tryz.prog := ⟨[qy1 n], [], 0⟩
noncomputable def qnE (n : Nat) : Nat → St → PT (DEx × St) := fun _ _ => .fail
theorem qvs : qd (qa Tryz.f77) 0 = [] := by kernel_rfl
theorem qvt : Tryz.f77.body = some (qa Tryz.f77) := by kernel_rfl
abbrev qis : List It := [.v (.t 0) T59, .obj (.t 1) true 66 2, .v (.c 0 0) T66]
abbrev qh1 : List (List It) := [[.v (.t 0) T4, .obj (.t 1) true 66 2, .v (.c 0 0) T66]]
noncomputable def qoi (n : Nat) (x : qc qis) : Option (qD qh1) := runW tab (qnD n) (qnE n) (qa Tryz.f77) qis 2 8 [.tmp 3] qh1 x
noncomputable def qoj (n : Nat) : Cw Tryz.prog := ⟨77, 2, qis, 1, qh1, qoi n, fun _ _ h => qbY (B := tab) (cs := qnD n) (lo := qnE n) (rs := [.tmp 3]) Tryz.func77 (by kernel_rfl) qvt (by kernel_rfl) (by decide) (qh qvs qe) h⟩
noncomputable def q9 (n : Nat) : CL Tryz.prog := ⟨[], [qoj n], 0⟩
noncomputable def qdR (n : Nat) : Nat → St → PT (DEx × St) := fun _ _ => .fail
abbrev qI : List It := [.v (.t 0) T25, .v (.t 7) T3, .v (.t 8) T3, .fnc (.t 1) 77 [.box true 66 2], .v (.c 0 0) T66]
abbrev qba : List (DEx × List It) := [(.exit 0, [.fnc (.t 1) 77 [.box true 66 2], .v (.c 0 0) T66]), (.ret, [.v (.t 4) T3, .fnc (.t 1) 77 [.box true 66 2], .v (.c 0 0) T66])]
noncomputable def qdU (n : Nat) (rec : qc qI → Option (qg qba)) (s : qc qI) : Option (qg qba) := (qk tab (q9 n) (qdR n) (subC [true, false, true, false, false] (qa Tryz.f88)) 1 (mkS qI 19 s)).run (Lp.leaf 19 qI qba rec)
noncomputable def qbV (n : Nat) : Lp := ⟨19, qI, qba, qf n (qdU n)⟩
theorem qhy : qd (subC [true, false, true, false, false] (qa Tryz.f88)) 1 = [] := by kernel_rfl
theorem qg3 (n : Nat) (st : St) (r : DEx × St) (h : ((qbV n).go st).Is r) : DA Tryz.prog false (.loop (subC [true, false, true, false, false] (qa Tryz.f88))) st r := Lp.ok (L := qbV n) (B := tab) (cs := q9 n) (lo := qdR n) (id := 0) rfl (qh qhy qe) (fun _ _ => rfl) h
noncomputable def qdV (n : Nat) : Nat → St → PT (DEx × St) := fun k st => match k with
  | 0 => (qbV n).go st
  | _ => .fail
theorem qh2 : qd (qa Tryz.f88) 0 = [(0, .loop (subC [true, false, true, false, false] (qa Tryz.f88)))] := by kernel_rfl
theorem qh3 : Tryz.f88.body = some (qa Tryz.f88) := by kernel_rfl
abbrev qbW : List It := [.v (.t 0) T25, .fnc (.t 1) 77 [.box true 66 2], .v (.c 0 0) T66]
abbrev qbR : List (List It) := [[.v (.t 0) T3, .obj (.t 1) true 66 2, .v (.c 0 0) T66]]
noncomputable def qdY (n : Nat) (x : qc qbW) : Option (qD qbR) := runW tab (q9 n) (qdV n) (qa Tryz.f88) qbW 2 19 [.tmp 4] qbR x
noncomputable def qh4 (n : Nat) : Cw Tryz.prog := ⟨88, 2, qbW, 1, qbR, qdY n, fun _ _ h => qbY (B := tab) (cs := q9 n) (lo := qdV n) (rs := [.tmp 4]) Tryz.func88 (by kernel_rfl) qh3 (by kernel_rfl) (by decide) (qh qh2 (all_cons (fun st r h => qg3 n st r h) qe)) h⟩
noncomputable def qds (n : Nat) : CL Tryz.prog := ⟨[], [qoj n, qeQ n, qcM n, qh4 n], 0⟩
noncomputable def qdt (n : Nat) : Nat → St → PT (DEx × St) := fun _ _ => .fail
theorem qhc : qd (qa Tryz.f76) 0 = [] := by kernel_rfl
theorem qhd : Tryz.f76.body = some (qa Tryz.f76) := by kernel_rfl
abbrev qbE : List It := [.v (.t 0) T25, .fnc (.t 1) 77 [.box true 66 2], .v (.c 0 0) T66]
abbrev qbz : List (List It) := [[.v (.t 0) T4, .obj (.t 1) true 66 2, .v (.c 0 0) T66]]
noncomputable def qdF (n : Nat) (x : qc qbE) : Option (qD qbz) := runW tab (qds n) (qdt n) (qa Tryz.f76) qbE 2 9 [.tmp 4] qbz x
noncomputable def qhe (n : Nat) : Cw Tryz.prog := ⟨76, 2, qbE, 1, qbz, qdF n, fun _ _ h => qbY (B := tab) (cs := qds n) (lo := qdt n) (rs := [.tmp 4]) Tryz.func76 (by kernel_rfl) qhd (by kernel_rfl) (by decide) (qh qhc qe) h⟩
noncomputable def qpD (n : Nat) : CL Tryz.prog := ⟨[qFT n], [qeF n, qhe n, qvr n], 1⟩
noncomputable def qpE (n : Nat) : Nat → St → PT (DEx × St) := fun _ _ => .fail
theorem qxW : qd (qa Tryz.f39) 0 = [] := by kernel_rfl
theorem qxX : Tryz.f39.body = some (qa Tryz.f39) := by kernel_rfl
abbrev qlE : List Ar := [.d T66, .d T25]
abbrev qlF : List Ty := [T32]
noncomputable def qqy (n : Nat) (x : qp qlE) : Option (qi qlF) := (qk tab (qpD n) (qpE n) (qa Tryz.f39) 0 (qu qlE 19 x)).run (qU tab [.tmp 4] qlF)
noncomputable def qxY (n : Nat) : Ct Tryz.prog := ⟨39, qlE, .ts qlF, qqy n, fun _ _ h => q6 (B := tab) (cs := qpD n) (lo := qpE n) (rs := [.tmp 4]) Tryz.func39 (by kernel_rfl) qxX (by kernel_rfl) (by decide) (qh qxW qe) h⟩
noncomputable def qzy (n : Nat) : CL Tryz.prog := ⟨[qC5 n, qxY n], [], 0⟩
noncomputable def qzz (n : Nat) : Nat → St → PT (DEx × St) := fun _ _ => .fail
theorem qFU : qd (qa Tryz.f11) 0 = [] := by kernel_rfl
theorem qFV : Tryz.f11.body = some (qa Tryz.f11) := by kernel_rfl
abbrev qvu : List Ar := [.d T24, .d T25]
abbrev qvv : List Ty := [T32]
noncomputable def qAB (n : Nat) (x : qp qvu) : Option (qi qvv) := (qk tab (qzy n) (qzz n) (qa Tryz.f11) 0 (qu qvu 14 x)).run (qU tab [.tmp 4] qvv)
noncomputable def qAC (n : Nat) : Ct Tryz.prog := ⟨11, qvu, .ts qvv, qAB n, fun _ _ h => q6 (B := tab) (cs := qzy n) (lo := qzz n) (rs := [.tmp 4]) Tryz.func11 (by kernel_rfl) qFV (by kernel_rfl) (by decide) (qh qFU qe) h⟩
end Go.Proofs.YtcjgodgpaokbnaaGreat
