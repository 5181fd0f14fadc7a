/- Printed: what functions of the program compute. -/
import Derived.Test.YtcjgodgpaokbnaaGreatDnB
namespace Go.Proofs.YtcjgodgpaokbnaaGreat
set_option linter.constructorNameAsVariable false
set_option linter.unusedSimpArgs false
set_option linter.unusedVariables false
set_option linter.unusedSectionVars false
open Go Go.Proofs Go.RowKit
set_option maxRecDepth 20000
noncomputable def qwD (n : Nat) : CL Tryz.prog := ⟨[qpa n, qvc n], [], 0⟩
noncomputable def qwE (n : Nat) : Nat → St → PT (DEx × St) := fun _ _ => .fail
theorem qDH : qd (qa Tryz.f96) 0 = [] := by kernel_rfl
theorem qDI : Tryz.f96.body = some (qa Tryz.f96) := by kernel_rfl
abbrev qsj : List Ar := [.d T59, .d T59]
abbrev qsk : List Ty := [T3]
noncomputable def qxU (n : Nat) (x : qp qsj) : Option (qi qsk) := (qk tab (qwD n) (qwE n) (qa Tryz.f96) 0 (qu qsj 17 x)).run (qU tab [.tmp 4] qsk)
noncomputable def qsl (n : Nat) : Ct Tryz.prog := ⟨96, qsj, .ts qsk, qxU n, fun _ _ h => q6 (B := tab) (cs := qwD n) (lo := qwE n) (rs := [.tmp 4]) Tryz.func96 (by kernel_rfl) qDI (by kernel_rfl) (by decide) (qh qDH qe) h⟩
noncomputable def qs8 (n : Nat) : CL Tryz.prog := ⟨[], [], 0⟩
noncomputable def qs9 (n : Nat) : Nat → St → PT (DEx × St) := fun _ _ => .fail
theorem qBm : qd (qa Tryz.f94) 0 = [] := by kernel_rfl
theorem qBn : Tryz.f94.body = some (qa Tryz.f94) := by kernel_rfl
abbrev qog : List It := [.v (.t 0) T59, .obj (.t 1) true 59 5, .v (.c 0 0) T59]
abbrev qnc : List (List It) := [[.v (.t 0) T4, .obj (.t 1) true 59 5, .v (.c 0 0) T59]]
noncomputable def qtY (n : Nat) (x : qc qog) : Option (qD qnc) := runW tab (qs8 n) (qs9 n) (qa Tryz.f94) qog 2 14 [.tmp 3] qnc x
noncomputable def qtZ (n : Nat) : Cw Tryz.prog := ⟨94, 2, qog, 1, qnc, qtY n, fun _ _ h => qbY (B := tab) (cs := qs8 n) (lo := qs9 n) (rs := [.tmp 3]) Tryz.func94 (by kernel_rfl) qBn (by kernel_rfl) (by decide) (qh qBm qe) h⟩
noncomputable def qbx (n : Nat) : CL Tryz.prog := ⟨[], [qtZ n], 0⟩
noncomputable def qeO (n : Nat) : Nat → St → PT (DEx × St) := fun _ _ => .fail
abbrev qT : List It := [.v (.t 0) T25, .v (.t 7) T3, .v (.t 8) T3, .fnc (.t 1) 94 [.box true 59 5], .v (.c 0 0) T59]
abbrev qby : List (DEx × List It) := [(.exit 0, [.fnc (.t 1) 94 [.box true 59 5], .v (.c 0 0) T59]), (.ret, [.v (.t 4) T3, .fnc (.t 1) 94 [.box true 59 5], .v (.c 0 0) T59])]
noncomputable def qe2 (n : Nat) (rec : qc qT → Option (qg qby)) (s : qc qT) : Option (qg qby) := (qk tab (qbx n) (qeO n) (subC [true, false, true, false, false] (qa Tryz.f88)) 1 (mkS qT 19 s)).run (Lp.leaf 19 qT qby rec)
noncomputable def qcH (n : Nat) : Lp := ⟨19, qT, qby, qf n (qe2 n)⟩
theorem qjJ : qd (subC [true, false, true, false, false] (qa Tryz.f88)) 1 = [] := by kernel_rfl
theorem qiI (n : Nat) (st : St) (r : DEx × St) (h : ((qcH n).go st).Is r) : DA Tryz.prog false (.loop (subC [true, false, true, false, false] (qa Tryz.f88))) st r := Lp.ok (L := qcH n) (B := tab) (cs := qbx n) (lo := qeO n) (id := 0) rfl (qh qjJ qe) (fun _ _ => rfl) h
noncomputable def qe3 (n : Nat) : Nat → St → PT (DEx × St) := fun k st => match k with
  | 0 => (qcH n).go st
  | _ => .fail
theorem qj2 : qd (qa Tryz.f88) 0 = [(0, .loop (subC [true, false, true, false, false] (qa Tryz.f88)))] := by kernel_rfl
theorem qj3 : Tryz.f88.body = some (qa Tryz.f88) := by kernel_rfl
abbrev qcI : List It := [.v (.t 0) T25, .fnc (.t 1) 94 [.box true 59 5], .v (.c 0 0) T59]
abbrev qcF : List (List It) := [[.v (.t 0) T3, .obj (.t 1) true 59 5, .v (.c 0 0) T59]]
noncomputable def qfc (n : Nat) (x : qc qcI) : Option (qD qcF) := runW tab (qbx n) (qe3 n) (qa Tryz.f88) qcI 2 19 [.tmp 4] qcF x
noncomputable def qcM (n : Nat) : Cw Tryz.prog := ⟨88, 2, qcI, 1, qcF, qfc n, fun _ _ h => qbY (B := tab) (cs := qbx n) (lo := qe3 n) (rs := [.tmp 4]) Tryz.func88 (by kernel_rfl) qj3 (by kernel_rfl) (by decide) (qh qj2 (all_cons (fun st r h => qiI n st r h) qe)) h⟩
noncomputable def qei (n : Nat) : CL Tryz.prog := ⟨[], [qcM n, qtZ n], 0⟩
noncomputable def qej (n : Nat) : Nat → St → PT (DEx × St) := fun _ _ => .fail
theorem qiX : qd (qa Tryz.f76) 0 = [] := by kernel_rfl
theorem qiY : Tryz.f76.body = some (qa Tryz.f76) := by kernel_rfl
abbrev qck : List It := [.v (.t 0) T25, .fnc (.t 1) 94 [.box true 59 5], .v (.c 0 0) T59]
abbrev qcc : List (List It) := [[.v (.t 0) T4, .obj (.t 1) true 59 5, .v (.c 0 0) T59]]
noncomputable def qeE (n : Nat) (x : qc qck) : Option (qD qcc) := runW tab (qei n) (qej n) (qa Tryz.f76) qck 2 9 [.tmp 4] qcc x
noncomputable def qeF (n : Nat) : Cw Tryz.prog := ⟨76, 2, qck, 1, qcc, qeE n, fun _ _ h => qbY (B := tab) (cs := qei n) (lo := qej n) (rs := [.tmp 4]) Tryz.func76 (by kernel_rfl) qiY (by kernel_rfl) (by decide) (qh qiX qe) h⟩
noncomputable def qvj (n : Nat) : CL Tryz.prog := ⟨[], [qeF n], 0⟩
noncomputable def qvk (n : Nat) : Nat → St → PT (DEx × St) := fun _ _ => .fail
theorem qC1 : qd (qa Tryz.f93) 0 = [] := by kernel_rfl
theorem qC2 : Tryz.f93.body = some (qa Tryz.f93) := by kernel_rfl
abbrev qp1 : List It := [.v (.t 0) T59, .obj (.t 1) true 25 1, .v (.c 0 0) T25]
abbrev qpg : List (List It) := [[.v (.t 0) T4, .obj (.t 1) true 25 1, .v (.c 0 0) T25]]
noncomputable def qwF (n : Nat) (x : qc qp1) : Option (qD qpg) := runW tab (qvj n) (qvk n) (qa Tryz.f93) qp1 2 12 [.tmp 3] qpg x
noncomputable def qwG (n : Nat) : Cw Tryz.prog := ⟨93, 2, qp1, 1, qpg, qwF n, fun _ _ h => qbY (B := tab) (cs := qvj n) (lo := qvk n) (rs := [.tmp 3]) Tryz.func93 (by kernel_rfl) qC2 (by kernel_rfl) (by decide) (qh qC1 qe) h⟩
noncomputable def qv (n : Nat) : CL Tryz.prog := ⟨[qsl n], [], 0⟩
noncomputable def qdl (n : Nat) : Nat → St → PT (DEx × St) := fun _ _ => .fail
abbrev qE : List It := [.v (.t 1) T3, .v (.t 2) T3, .fn (.t 3) 96 [] [], .v (.t 8) T3, .v (.t 9) T3, .row (.t 0) true T59 59]
abbrev qV : List (DEx × List It) := [(.exit 2, [.v (.t 1) T3, .v (.t 2) T3, .fn (.t 3) 96 [] [], .v (.t 8) T3, .row (.t 0) true T59 59])]
noncomputable def qdz (n : Nat) (rec : qc qE → Option (qg qV)) (s : qc qE) : Option (qg qV) := (qk tab (qv n) (qdl n) (subC [true, false, false, true, false, false, true, false, false] (qa Tryz.f139)) 2 (mkS qE 53 s)).run (Lp.leaf 53 qE qV rec)
noncomputable def qbF (n : Nat) : Lp := ⟨53, qE, qV, qf n (qdz n)⟩
theorem qg8 : qd (subC [true, false, false, true, false, false, true, false, false] (qa Tryz.f139)) 2 = [] := by kernel_rfl
theorem qgy (n : Nat) (st : St) (r : DEx × St) (h : ((qbF n).go st).Is r) : DA Tryz.prog false (.loop (subC [true, false, false, true, false, false, true, false, false] (qa Tryz.f139))) st r := Lp.ok (L := qbF n) (B := tab) (cs := qv n) (lo := qdl n) (id := 1) rfl (qh qg8 qe) (fun _ _ => rfl) h
noncomputable def qdm (n : Nat) : Nat → St → PT (DEx × St) := fun k st => match k with
  | 1 => (qbF n).go st
  | _ => .fail
abbrev qF : List It := [.v (.t 1) T3, .v (.t 2) T3, .fn (.t 3) 96 [] [], .v (.t 8) T3, .row (.t 0) true T59 59]
abbrev qW : List (DEx × List It) := [(.exit 0, [.row (.t 0) true T59 59])]
noncomputable def qdA (n : Nat) (rec : qc qF → Option (qg qW)) (s : qc qF) : Option (qg qW) := (qk tab (qv n) (qdm n) (subC [true, false, false] (qa Tryz.f139)) 1 (mkS qF 53 s)).run (Lp.leaf 53 qF qW rec)
noncomputable def qbG (n : Nat) : Lp := ⟨53, qF, qW, qf n (qdA n)⟩
theorem qg9 : qd (subC [true, false, false] (qa Tryz.f139)) 1 = [(1, .loop (subC [true, false, false, true, false, false, true, false, false] (qa Tryz.f139)))] := by kernel_rfl
theorem qgz (n : Nat) (st : St) (r : DEx × St) (h : ((qbG n).go st).Is r) : DA Tryz.prog false (.loop (subC [true, false, false] (qa Tryz.f139))) st r := Lp.ok (L := qbG n) (B := tab) (cs := qv n) (lo := qdm n) (id := 0) rfl (qh qg9 (all_cons (fun st r h => qgy n st r h) qe)) (fun _ _ => rfl) h
noncomputable def qdB (n : Nat) : Nat → St → PT (DEx × St) := fun k st => match k with
  | 0 => (qbG n).go st
  | _ => .fail
theorem qhr : qd (qa Tryz.f139) 0 = [(0, .loop (subC [true, false, false] (qa Tryz.f139)))] := by kernel_rfl
theorem qhs : Tryz.f139.body = some (qa Tryz.f139) := by kernel_rfl
abbrev qbH : List It := [.v (.t 1) T3, .v (.t 2) T3, .fn (.t 3) 96 [] [], .row (.t 0) true T59 59]
abbrev qbC : List (List It) := [[.row (.t 0) true T59 59]]
noncomputable def qdN (n : Nat) (x : qc qbH) : Option (qD qbC) := runW tab (qv n) (qdB n) (qa Tryz.f139) qbH 4 53 [] qbC x
noncomputable def qdO (n : Nat) : Cw Tryz.prog := ⟨139, 4, qbH, 0, qbC, qdN n, fun _ _ h => qbY (B := tab) (cs := qv n) (lo := qdB n) (rs := []) Tryz.func139 (by kernel_rfl) qhs (by kernel_rfl) (by decide) (qh qhr (all_cons (fun st r h => qgz n st r h) qe)) h⟩
noncomputable def qt0 (n : Nat) : CL Tryz.prog := ⟨[qpa n, qvc n], [], 0⟩
noncomputable def qt1 (n : Nat) : Nat → St → PT (DEx × St) := fun _ _ => .fail
theorem qCh : qd (qa Tryz.f133) 0 = [] := by kernel_rfl
theorem qCi : Tryz.f133.body = some (qa Tryz.f133) := by kernel_rfl
abbrev qp2 : List Ar := [.d T104, .d T104]
abbrev qp3 : List Ty := [T3]
noncomputable def qvl (n : Nat) (x : qp qp2) : Option (qi qp3) := (qk tab (qt0 n) (qt1 n) (qa Tryz.f133) 0 (qu qp2 26 x)).run (qU tab [.tmp 4] qp3)
noncomputable def qCj (n : Nat) : Ct Tryz.prog := ⟨133, qp2, .ts qp3, qvl n, fun _ _ h => q6 (B := tab) (cs := qt0 n) (lo := qt1 n) (rs := [.tmp 4]) Tryz.func133 (by kernel_rfl) qCi (by kernel_rfl) (by decide) (qh qCh qe) h⟩
noncomputable def qbI (n : Nat) : CL Tryz.prog := ⟨[qCj n], [], 0⟩
noncomputable def qfd (n : Nat) : Nat → St → PT (DEx × St) := fun _ _ => .fail
abbrev qbb : List It := [.v (.t 0) T57, .v (.t 1) T57, .fn (.t 2) 133 [] [], .v (.t 11) T57, .v (.t 12) T3, .v (.t 13) T3]
abbrev qbJ : List (DEx × List It) := [(.exit 0, [.v (.t 0) T57, .v (.t 1) T57]), (.ret, [.v (.t 6) T3])]
noncomputable def qfo (n : Nat) (rec : qc qbb → Option (qg qbJ)) (s : qc qbb) : Option (qg qbJ) := (qk tab (qbI n) (qfd n) (subC [true, false, true, false, false] (qa Tryz.f132)) 1 (mkS qbb 39 s)).run (Lp.leaf 39 qbb qbJ rec)
noncomputable def qcV (n : Nat) : Lp := ⟨39, qbb, qbJ, qf n (qfo n)⟩
theorem qkr : qd (subC [true, false, true, false, false] (qa Tryz.f132)) 1 = [] := by kernel_rfl
theorem qjw (n : Nat) (st : St) (r : DEx × St) (h : ((qcV n).go st).Is r) : DA Tryz.prog false (.loop (subC [true, false, true, false, false] (qa Tryz.f132))) st r := Lp.ok (L := qcV n) (B := tab) (cs := qbI n) (lo := qfd n) (id := 0) rfl (qh qkr qe) (fun _ _ => rfl) h
noncomputable def qfp (n : Nat) : Nat → St → PT (DEx × St) := fun k st => match k with
  | 0 => (qcV n).go st
  | _ => .fail
theorem qk4 : qd (qa Tryz.f132) 0 = [(0, .loop (subC [true, false, true, false, false] (qa Tryz.f132)))] := by kernel_rfl
theorem qk5 : Tryz.f132.body = some (qa Tryz.f132) := by kernel_rfl
abbrev qc7 : List Ar := [.d T57, .d T57, .fn 133 [] []]
abbrev qc8 : List Ty := [T3]
noncomputable def qfC (n : Nat) (x : qp qc7) : Option (qi qc8) := (qk tab (qbI n) (qfp n) (qa Tryz.f132) 0 (qu qc7 39 x)).run (qU tab [.tmp 6] qc8)
noncomputable def qk6 (n : Nat) : Ct Tryz.prog := ⟨132, qc7, .ts qc8, qfC n, fun _ _ h => q6 (B := tab) (cs := qbI n) (lo := qfp n) (rs := [.tmp 6]) Tryz.func132 (by kernel_rfl) qk5 (by kernel_rfl) (by decide) (qh qk4 (all_cons (fun st r h => qjw n st r h) qe)) h⟩
noncomputable def qwH (n : Nat) : CL Tryz.prog := ⟨[qpa n, qvc n, qk6 n], [], 0⟩
noncomputable def qwI (n : Nat) : Nat → St → PT (DEx × St) := fun _ _ => .fail
theorem qDJ : qd (qa Tryz.f105) 0 = [] := by kernel_rfl
theorem qDK : Tryz.f105.body = some (qa Tryz.f105) := by kernel_rfl
abbrev qsm : List Ar := [.d T59, .d T59]
abbrev qsn : List Ty := [T3]
noncomputable def qxV (n : Nat) (x : qp qsm) : Option (qi qsn) := (qk tab (qwH n) (qwI n) (qa Tryz.f105) 0 (qu qsm 32 x)).run (qU tab [.tmp 4] qsn)
noncomputable def qoI (n : Nat) : Ct Tryz.prog := ⟨105, qsm, .ts qsn, qxV n, fun _ _ h => q6 (B := tab) (cs := qwH n) (lo := qwI n) (rs := [.tmp 4]) Tryz.func105 (by kernel_rfl) qDK (by kernel_rfl) (by decide) (qh qDJ qe) h⟩
noncomputable def qw (n : Nat) : CL Tryz.prog := ⟨[qoI n], [], 0⟩
noncomputable def qdn (n : Nat) : Nat → St → PT (DEx × St) := fun _ _ => .fail
abbrev qG : List It := [.v (.t 1) T3, .v (.t 2) T3, .fn (.t 3) 105 [] [], .v (.t 8) T3, .v (.t 9) T3, .row (.t 0) true T59 59]
abbrev qX : List (DEx × List It) := [(.exit 2, [.v (.t 1) T3, .v (.t 2) T3, .fn (.t 3) 105 [] [], .v (.t 8) T3, .row (.t 0) true T59 59])]
noncomputable def qdC (n : Nat) (rec : qc qG → Option (qg qX)) (s : qc qG) : Option (qg qX) := (qk tab (qw n) (qdn n) (subC [true, false, false, true, false, false, true, false, false] (qa Tryz.f139)) 2 (mkS qG 53 s)).run (Lp.leaf 53 qG qX rec)
noncomputable def qbK (n : Nat) : Lp := ⟨53, qG, qX, qf n (qdC n)⟩
theorem qha : qd (subC [true, false, false, true, false, false, true, false, false] (qa Tryz.f139)) 2 = [] := by kernel_rfl
theorem qgA (n : Nat) (st : St) (r : DEx × St) (h : ((qbK n).go st).Is r) : DA Tryz.prog false (.loop (subC [true, false, false, true, false, false, true, false, false] (qa Tryz.f139))) st r := Lp.ok (L := qbK n) (B := tab) (cs := qw n) (lo := qdn n) (id := 1) rfl (qh qha qe) (fun _ _ => rfl) h
noncomputable def qdo (n : Nat) : Nat → St → PT (DEx × St) := fun k st => match k with
  | 1 => (qbK n).go st
  | _ => .fail
abbrev qH : List It := [.v (.t 1) T3, .v (.t 2) T3, .fn (.t 3) 105 [] [], .v (.t 8) T3, .row (.t 0) true T59 59]
abbrev qY : List (DEx × List It) := [(.exit 0, [.row (.t 0) true T59 59])]
noncomputable def qdD (n : Nat) (rec : qc qH → Option (qg qY)) (s : qc qH) : Option (qg qY) := (qk tab (qw n) (qdo n) (subC [true, false, false] (qa Tryz.f139)) 1 (mkS qH 53 s)).run (Lp.leaf 53 qH qY rec)
noncomputable def qbL (n : Nat) : Lp := ⟨53, qH, qY, qf n (qdD n)⟩
theorem qhb : qd (subC [true, false, false] (qa Tryz.f139)) 1 = [(1, .loop (subC [true, false, false, true, false, false, true, false, false] (qa Tryz.f139)))] := by kernel_rfl
theorem qgB (n : Nat) (st : St) (r : DEx × St) (h : ((qbL n).go st).Is r) : DA Tryz.prog false (.loop (subC [true, false, false] (qa Tryz.f139))) st r := Lp.ok (L := qbL n) (B := tab) (cs := qw n) (lo := qdo n) (id := 0) rfl (qh qhb (all_cons (fun st r h => qgA n st r h) qe)) (fun _ _ => rfl) h
noncomputable def qdE (n : Nat) : Nat → St → PT (DEx × St) := fun k st => match k with
  | 0 => (qbL n).go st
  | _ => .fail
theorem qht : qd (qa Tryz.f139) 0 = [(0, .loop (subC [true, false, false] (qa Tryz.f139)))] := by kernel_rfl
theorem qhu : Tryz.f139.body = some (qa Tryz.f139) := by kernel_rfl
abbrev qbM : List It := [.v (.t 1) T3, .v (.t 2) T3, .fn (.t 3) 105 [] [], .row (.t 0) true T59 59]
abbrev qbD : List (List It) := [[.row (.t 0) true T59 59]]
noncomputable def qdP (n : Nat) (x : qc qbM) : Option (qD qbD) := runW tab (qw n) (qdE n) (qa Tryz.f139) qbM 4 53 [] qbD x
noncomputable def qdQ (n : Nat) : Cw Tryz.prog := ⟨139, 4, qbM, 0, qbD, qdP n, fun _ _ h => qbY (B := tab) (cs := qw n) (lo := qdE n) (rs := []) Tryz.func139 (by kernel_rfl) qhu (by kernel_rfl) (by decide) (qh qht (all_cons (fun st r h => qgB n st r h) qe)) h⟩
noncomputable def qta (n : Nat) : CL Tryz.prog := ⟨[qiH n], [], 0⟩
noncomputable def qtb (n : Nat) : Nat → St → PT (DEx × St) := fun _ _ => .fail
theorem qBo : qd (qa Tryz.f75) 0 = [] := by kernel_rfl
theorem qBp : Tryz.f75.body = some (qa Tryz.f75) := by kernel_rfl
abbrev qph : List Ar := [.d T61]
abbrev qpi : List Ty := [T4]
noncomputable def qt2 (n : Nat) (x : qp qph) : Option (qi qpi) := (qk tab (qta n) (qtb n) (qa Tryz.f75) 0 (qu qph 13 x)).run (qU tab [.tmp 2] qpi)
noncomputable def qt3 (n : Nat) : Ct Tryz.prog := ⟨75, qph, .ts qpi, qt2 n, fun _ _ h => q6 (B := tab) (cs := qta n) (lo := qtb n) (rs := [.tmp 2]) Tryz.func75 (by kernel_rfl) qBp (by kernel_rfl) (by decide) (qh qBo qe) h⟩
noncomputable def qb1 (n : Nat) : CL Tryz.prog := ⟨[qt3 n], [], 0⟩
noncomputable def qfD (n : Nat) : Nat → St → PT (DEx × St) := fun _ _ => .fail
abbrev qbf : List It := [.v (.t 0) T22, .fn (.t 1) 75 [] [], .v (.t 7) T3, .v (.t 8) T3]
abbrev qb2 : List (DEx × List It) := [(.exit 0, []), (.ret, [.v (.t 4) T3])]
noncomputable def qfS (n : Nat) (rec : qc qbf → Option (qg qb2)) (s : qc qbf) : Option (qg qb2) := (qk tab (qb1 n) (qfD n) (subC [true, false, true, false, false] (qa Tryz.f102)) 1 (mkS qbf 19 s)).run (Lp.leaf 19 qbf qb2 rec)
noncomputable def qdp (n : Nat) : Lp := ⟨19, qbf, qb2, qf n (qfS n)⟩
theorem qlv : qd (subC [true, false, true, false, false] (qa Tryz.f102)) 1 = [] := by kernel_rfl
theorem qj4 (n : Nat) (st : St) (r : DEx × St) (h : ((qdp n).go st).Is r) : DA Tryz.prog false (.loop (subC [true, false, true, false, false] (qa Tryz.f102))) st r := Lp.ok (L := qdp n) (B := tab) (cs := qb1 n) (lo := qfD n) (id := 0) rfl (qh qlv qe) (fun _ _ => rfl) h
noncomputable def qfT (n : Nat) : Nat → St → PT (DEx × St) := fun k st => match k with
  | 0 => (qdp n).go st
  | _ => .fail
theorem qlT : qd (qa Tryz.f102) 0 = [(0, .loop (subC [true, false, true, false, false] (qa Tryz.f102)))] := by kernel_rfl
theorem qlU : Tryz.f102.body = some (qa Tryz.f102) := by kernel_rfl
abbrev qdI : List Ar := [.d T22, .fn 75 [] []]
abbrev qdJ : List Ty := [T3]
noncomputable def qgb (n : Nat) (x : qp qdI) : Option (qi qdJ) := (qk tab (qb1 n) (qfT n) (qa Tryz.f102) 0 (qu qdI 19 x)).run (qU tab [.tmp 4] qdJ)
noncomputable def qlV (n : Nat) : Ct Tryz.prog := ⟨102, qdI, .ts qdJ, qgb n, fun _ _ h => q6 (B := tab) (cs := qb1 n) (lo := qfT n) (rs := [.tmp 4]) Tryz.func102 (by kernel_rfl) qlU (by kernel_rfl) (by decide) (qh qlT (all_cons (fun st r h => qj4 n st r h) qe)) h⟩
noncomputable def qfe (n : Nat) : CL Tryz.prog := ⟨[qt3 n, qlV n], [], 0⟩
noncomputable def qff (n : Nat) : Nat → St → PT (DEx × St) := fun _ _ => .fail
theorem qks : qd (qa Tryz.f74) 0 = [] := by kernel_rfl
theorem qkt : Tryz.f74.body = some (qa Tryz.f74) := by kernel_rfl
abbrev qcW : List Ar := [.d T22, .fn 75 [] []]
abbrev qcX : List Ty := [T4]
noncomputable def qfq (n : Nat) (x : qp qcW) : Option (qi qcX) := (qk tab (qfe n) (qff n) (qa Tryz.f74) 0 (qu qcW 9 x)).run (qU tab [.tmp 4] qcX)
noncomputable def qku (n : Nat) : Ct Tryz.prog := ⟨74, qcW, .ts qcX, qfq n, fun _ _ h => q6 (B := tab) (cs := qfe n) (lo := qff n) (rs := [.tmp 4]) Tryz.func74 (by kernel_rfl) qkt (by kernel_rfl) (by decide) (qh qks qe) h⟩
noncomputable def qvm (n : Nat) : CL Tryz.prog := ⟨[qiH n, qku n], [], 0⟩
noncomputable def qvn (n : Nat) : Nat → St → PT (DEx × St) := fun _ _ => .fail
theorem qC3 : qd (qa Tryz.f38) 0 = [] := by kernel_rfl
theorem qC4 : Tryz.f38.body = some (qa Tryz.f38) := by kernel_rfl
abbrev qra : List Ar := [.d T66]
abbrev qrb : List Ty := [T4]
noncomputable def qwJ (n : Nat) (x : qp qra) : Option (qi qrb) := (qk tab (qvm n) (qvn n) (qa Tryz.f38) 0 (qu qra 21 x)).run (qU tab [.tmp 2] qrb)
noncomputable def qC5 (n : Nat) : Ct Tryz.prog := ⟨38, qra, .ts qrb, qwJ n, fun _ _ h => q6 (B := tab) (cs := qvm n) (lo := qvn n) (rs := [.tmp 2]) Tryz.func38 (by kernel_rfl) qC4 (by kernel_rfl) (by decide) (qh qC3 qe) h⟩
noncomputable def qtc (n : Nat) : CL Tryz.prog := ⟨[qoI n], [], 0⟩
noncomputable def qtd (n : Nat) : Nat → St → PT (DEx × St) := fun _ _ => .fail
theorem qBq : qd (qa Tryz.f107) 0 = [] := by kernel_rfl
theorem qBr : Tryz.f107.body = some (qa Tryz.f107) := by kernel_rfl
abbrev qpj : List Ar := [.d T59, .d T59]
abbrev qpk : List Ty := [T4]
noncomputable def qt4 (n : Nat) (x : qp qpj) : Option (qi qpk) := (qk tab (qtc n) (qtd n) (qa Tryz.f107) 0 (qu qpj 9 x)).run (qU tab [.tmp 4] qpk)
noncomputable def qBs (n : Nat) : Ct Tryz.prog := ⟨107, qpj, .ts qpk, qt4 n, fun _ _ h => q6 (B := tab) (cs := qtc n) (lo := qtd n) (rs := [.tmp 4]) Tryz.func107 (by kernel_rfl) qBr (by kernel_rfl) (by decide) (qh qBq qe) h⟩
end Go.Proofs.YtcjgodgpaokbnaaGreat
