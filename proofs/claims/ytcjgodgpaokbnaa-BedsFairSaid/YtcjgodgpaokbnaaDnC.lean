/- Printed: what functions of the program compute. -/
import Derived.Test.YtcjgodgpaokbnaaDnB
namespace Go.Proofs.Ytcjgodgpaokbnaa
set_option linter.constructorNameAsVariable false
set_option linter.unusedSimpArgs false
set_option linter.unusedVariables false
set_option linter.unusedSectionVars false
open Go Go.Proofs Go.RowKit
set_option maxRecDepth 20000
noncomputable def qyN (n : Nat) : CL Try.prog := ⟨[qxp n, qqX n], [], 0⟩
noncomputable def qyO (n : Nat) : Nat → St → PT (DEx × St) := fun _ _ => .fail
theorem qFR : qd (qa Try.f75) 0 = [] := by kernel_rfl
theorem qFS : Try.f75.body = some (qa Try.f75) := by kernel_rfl
abbrev quF : List Ar := [.d T30, .d T30]
abbrev quG : List Ty := [T3]
noncomputable def qzW (n : Nat) (x : qz quF) : Option (qk quG) := (qi tab (qyN n) (qyO n) (qa Try.f75) 0 (qB quF 17 x)).run (qbz tab [.tmp 4] quG)
noncomputable def quH (n : Nat) : Ct Try.prog := ⟨75, quF, .ts quG, qzW n, fun _ _ h => qbF (B := tab) (cs := qyN n) (lo := qyO n) (rs := [.tmp 4]) Try.func75 (by kernel_rfl) qFS (by kernel_rfl) (by decide) (qh qFR qe) h⟩
noncomputable def qvy (n : Nat) : CL Try.prog := ⟨[], [], 0⟩
noncomputable def qvz (n : Nat) : Nat → St → PT (DEx × St) := fun _ _ => .fail
theorem qDo : qd (qa Try.f74) 0 = [] := by kernel_rfl
theorem qDp : Try.f74.body = some (qa Try.f74) := by kernel_rfl
abbrev qp1 : List It := [.v (.t 0) T30, .obj (.t 1) true 30 5, .v (.c 0 0) T30]
abbrev qoX : List (List It) := [[.v (.t 0) T4, .obj (.t 1) true 30 5, .v (.c 0 0) T30]]
noncomputable def qwl (n : Nat) (x : qb qp1) : Option (qq qoX) := runW tab (qvy n) (qvz n) (qa Try.f74) qp1 2 14 [.tmp 3] qoX x
noncomputable def qwm (n : Nat) : Cw Try.prog := ⟨74, 2, qp1, 1, qoX, qwl n, fun _ _ h => qP (B := tab) (cs := qvy n) (lo := qvz n) (rs := [.tmp 3]) Try.func74 (by kernel_rfl) qDp (by kernel_rfl) (by decide) (qh qDo qe) h⟩
noncomputable def qbJ (n : Nat) : CL Try.prog := ⟨[], [qwm n], 0⟩
noncomputable def qfS (n : Nat) : Nat → St → PT (DEx × St) := fun _ _ => .fail
abbrev qY : List It := [.v (.t 0) T25, .v (.t 7) T3, .v (.t 8) T3, .fnc (.t 1) 74 [.box true 30 5], .v (.c 0 0) T30]
abbrev qbK : List (DEx × List It) := [(.exit 0, [.fnc (.t 1) 74 [.box true 30 5], .v (.c 0 0) T30]), (.ret, [.v (.t 4) T3, .fnc (.t 1) 74 [.box true 30 5], .v (.c 0 0) T30])]
noncomputable def qf7 (n : Nat) (rec : qb qY → Option (qf qbK)) (s : qb qY) : Option (qf qbK) := (qi tab (qbJ n) (qfS n) (subC [true, false, true, false, false] (qa Try.f64)) 1 (mkS qY 19 s)).run (Lp.leaf 19 qY qbK rec)
noncomputable def qc8 (n : Nat) : Lp := ⟨19, qY, qbK, qg n (qf7 n)⟩
theorem qlf : qd (subC [true, false, true, false, false] (qa Try.f64)) 1 = [] := by kernel_rfl
theorem qka (n : Nat) (st : St) (r : DEx × St) (h : ((qc8 n).go st).Is r) : DA Try.prog false (.loop (subC [true, false, true, false, false] (qa Try.f64))) st r := Lp.ok (L := qc8 n) (B := tab) (cs := qbJ n) (lo := qfS n) (id := 0) rfl (qh qlf qe) (fun _ _ => rfl) h
noncomputable def qf8 (n : Nat) : Nat → St → PT (DEx × St) := fun k st => match k with
  | 0 => (qc8 n).go st
  | _ => .fail
theorem qlF : qd (qa Try.f64) 0 = [(0, .loop (subC [true, false, true, false, false] (qa Try.f64)))] := by kernel_rfl
theorem qlG : Try.f64.body = some (qa Try.f64) := by kernel_rfl
abbrev qc9 : List It := [.v (.t 0) T25, .fnc (.t 1) 74 [.box true 30 5], .v (.c 0 0) T30]
abbrev qc0 : List (List It) := [[.v (.t 0) T3, .obj (.t 1) true 30 5, .v (.c 0 0) T30]]
noncomputable def qgk (n : Nat) (x : qb qc9) : Option (qq qc0) := runW tab (qbJ n) (qf8 n) (qa Try.f64) qc9 2 19 [.tmp 4] qc0 x
noncomputable def qbM (n : Nat) : Cw Try.prog := ⟨64, 2, qc9, 1, qc0, qgk n, fun _ _ h => qP (B := tab) (cs := qbJ n) (lo := qf8 n) (rs := [.tmp 4]) Try.func64 (by kernel_rfl) qlG (by kernel_rfl) (by decide) (qh qlF (all_cons (fun st r h => qka n st r h) qe)) h⟩
noncomputable def qfb (n : Nat) : CL Try.prog := ⟨[], [qbM n, qwm n], 0⟩
noncomputable def qfc (n : Nat) : Nat → St → PT (DEx × St) := fun _ _ => .fail
theorem qkt : qd (qa Try.f73) 0 = [] := by kernel_rfl
theorem qku : Try.f73.body = some (qa Try.f73) := by kernel_rfl
abbrev qcG : List It := [.v (.t 0) T25, .fnc (.t 1) 74 [.box true 30 5], .v (.c 0 0) T30]
abbrev qcz : List (List It) := [[.v (.t 0) T4, .obj (.t 1) true 30 5, .v (.c 0 0) T30]]
noncomputable def qfE (n : Nat) (x : qb qcG) : Option (qq qcz) := runW tab (qfb n) (qfc n) (qa Try.f73) qcG 2 9 [.tmp 4] qcz x
noncomputable def qfF (n : Nat) : Cw Try.prog := ⟨73, 2, qcG, 1, qcz, qfE n, fun _ _ h => qP (B := tab) (cs := qfb n) (lo := qfc n) (rs := [.tmp 4]) Try.func73 (by kernel_rfl) qku (by kernel_rfl) (by decide) (qh qkt qe) h⟩
noncomputable def qxu (n : Nat) : CL Try.prog := ⟨[], [qfF n], 0⟩
noncomputable def qxv (n : Nat) : Nat → St → PT (DEx × St) := fun _ _ => .fail
theorem qE4 : qd (qa Try.f72) 0 = [] := by kernel_rfl
theorem qE5 : Try.f72.body = some (qa Try.f72) := by kernel_rfl
abbrev qr1 : List It := [.v (.t 0) T30, .obj (.t 1) true 25 1, .v (.c 0 0) T25]
abbrev qra : List (List It) := [[.v (.t 0) T4, .obj (.t 1) true 25 1, .v (.c 0 0) T25]]
noncomputable def qyP (n : Nat) (x : qb qr1) : Option (qq qra) := runW tab (qxu n) (qxv n) (qa Try.f72) qr1 2 12 [.tmp 3] qra x
noncomputable def qyQ (n : Nat) : Cw Try.prog := ⟨72, 2, qr1, 1, qra, qyP n, fun _ _ h => qP (B := tab) (cs := qxu n) (lo := qxv n) (rs := [.tmp 3]) Try.func72 (by kernel_rfl) qE5 (by kernel_rfl) (by decide) (qh qE4 qe) h⟩
noncomputable def qx (n : Nat) : CL Try.prog := ⟨[quH n], [], 0⟩
noncomputable def qd2 (n : Nat) : Nat → St → PT (DEx × St) := fun _ _ => .fail
abbrev qG : List It := [.v (.t 1) T3, .v (.t 2) T3, .fn (.t 3) 75 [] [], .v (.t 8) T3, .v (.t 9) T3, .row (.t 0) true T30 30]
abbrev qZ : List (DEx × List It) := [(.exit 2, [.v (.t 1) T3, .v (.t 2) T3, .fn (.t 3) 75 [] [], .v (.t 8) T3, .row (.t 0) true T30 30])]
noncomputable def qej (n : Nat) (rec : qb qG → Option (qf qZ)) (s : qb qG) : Option (qf qZ) := (qi tab (qx n) (qd2 n) (subC [true, false, false, true, false, false, true, false, false] (qa Try.f106)) 2 (mkS qG 53 s)).run (Lp.leaf 53 qG qZ rec)
noncomputable def qbS (n : Nat) : Lp := ⟨53, qG, qZ, qg n (qej n)⟩
theorem qiG : qd (subC [true, false, false, true, false, false, true, false, false] (qa Try.f106)) 2 = [] := by kernel_rfl
theorem qhZ (n : Nat) (st : St) (r : DEx × St) (h : ((qbS n).go st).Is r) : DA Try.prog false (.loop (subC [true, false, false, true, false, false, true, false, false] (qa Try.f106))) st r := Lp.ok (L := qbS n) (B := tab) (cs := qx n) (lo := qd2 n) (id := 1) rfl (qh qiG qe) (fun _ _ => rfl) h
noncomputable def qd3 (n : Nat) : Nat → St → PT (DEx × St) := fun k st => match k with
  | 1 => (qbS n).go st
  | _ => .fail
abbrev qH : List It := [.v (.t 1) T3, .v (.t 2) T3, .fn (.t 3) 75 [] [], .v (.t 8) T3, .row (.t 0) true T30 30]
abbrev q6 : List (DEx × List It) := [(.exit 0, [.row (.t 0) true T30 30])]
noncomputable def qek (n : Nat) (rec : qb qH → Option (qf q6)) (s : qb qH) : Option (qf q6) := (qi tab (qx n) (qd3 n) (subC [true, false, false] (qa Try.f106)) 1 (mkS qH 53 s)).run (Lp.leaf 53 qH q6 rec)
noncomputable def qbT (n : Nat) : Lp := ⟨53, qH, q6, qg n (qek n)⟩
theorem qiH : qd (subC [true, false, false] (qa Try.f106)) 1 = [(1, .loop (subC [true, false, false, true, false, false, true, false, false] (qa Try.f106)))] := by kernel_rfl
theorem qh0 (n : Nat) (st : St) (r : DEx × St) (h : ((qbT n).go st).Is r) : DA Try.prog false (.loop (subC [true, false, false] (qa Try.f106))) st r := Lp.ok (L := qbT n) (B := tab) (cs := qx n) (lo := qd3 n) (id := 0) rfl (qh qiH (all_cons (fun st r h => qhZ n st r h) qe)) (fun _ _ => rfl) h
noncomputable def qel (n : Nat) : Nat → St → PT (DEx × St) := fun k st => match k with
  | 0 => (qbT n).go st
  | _ => .fail
theorem qi3 : qd (qa Try.f106) 0 = [(0, .loop (subC [true, false, false] (qa Try.f106)))] := by kernel_rfl
theorem qi4 : Try.f106.body = some (qa Try.f106) := by kernel_rfl
abbrev qbU : List It := [.v (.t 1) T3, .v (.t 2) T3, .fn (.t 3) 75 [] [], .row (.t 0) true T30 30]
abbrev qbP : List (List It) := [[.row (.t 0) true T30 30]]
noncomputable def qev (n : Nat) (x : qb qbU) : Option (qq qbP) := runW tab (qx n) (qel n) (qa Try.f106) qbU 4 53 [] qbP x
noncomputable def qew (n : Nat) : Cw Try.prog := ⟨106, 4, qbU, 0, qbP, qev n, fun _ _ h => qP (B := tab) (cs := qx n) (lo := qel n) (rs := []) Try.func106 (by kernel_rfl) qi4 (by kernel_rfl) (by decide) (qh qi3 (all_cons (fun st r h => qh0 n st r h) qe)) h⟩
noncomputable def qwn (n : Nat) : CL Try.prog := ⟨[qxp n, qqX n], [], 0⟩
noncomputable def qwo (n : Nat) : Nat → St → PT (DEx × St) := fun _ _ => .fail
theorem qEk : qd (qa Try.f96) 0 = [] := by kernel_rfl
theorem qEl : Try.f96.body = some (qa Try.f96) := by kernel_rfl
abbrev qr2 : List Ar := [.d T77, .d T77]
abbrev qr3 : List Ty := [T3]
noncomputable def qxw (n : Nat) (x : qz qr2) : Option (qk qr3) := (qi tab (qwn n) (qwo n) (qa Try.f96) 0 (qB qr2 26 x)).run (qbz tab [.tmp 4] qr3)
noncomputable def qEm (n : Nat) : Ct Try.prog := ⟨96, qr2, .ts qr3, qxw n, fun _ _ h => qbF (B := tab) (cs := qwn n) (lo := qwo n) (rs := [.tmp 4]) Try.func96 (by kernel_rfl) qEl (by kernel_rfl) (by decide) (qh qEk qe) h⟩
noncomputable def qbV (n : Nat) : CL Try.prog := ⟨[qEm n], [], 0⟩
noncomputable def qgl (n : Nat) : Nat → St → PT (DEx × St) := fun _ _ => .fail
abbrev qbd : List It := [.v (.t 0) T28, .v (.t 1) T28, .fn (.t 2) 96 [] [], .v (.t 11) T28, .v (.t 12) T3, .v (.t 13) T3]
abbrev qbW : List (DEx × List It) := [(.exit 0, [.v (.t 0) T28, .v (.t 1) T28]), (.ret, [.v (.t 6) T3])]
noncomputable def qgy (n : Nat) (rec : qb qbd → Option (qf qbW)) (s : qb qbd) : Option (qf qbW) := (qi tab (qbV n) (qgl n) (subC [true, false, true, false, false] (qa Try.f95)) 1 (mkS qbd 39 s)).run (Lp.leaf 39 qbd qbW rec)
noncomputable def qds (n : Nat) : Lp := ⟨39, qbd, qbW, qg n (qgy n)⟩
theorem ql3 : qd (subC [true, false, true, false, false] (qa Try.f95)) 1 = [] := by kernel_rfl
theorem qkV (n : Nat) (st : St) (r : DEx × St) (h : ((qds n).go st).Is r) : DA Try.prog false (.loop (subC [true, false, true, false, false] (qa Try.f95))) st r := Lp.ok (L := qds n) (B := tab) (cs := qbV n) (lo := qgl n) (id := 0) rfl (qh ql3 qe) (fun _ _ => rfl) h
noncomputable def qgz (n : Nat) : Nat → St → PT (DEx × St) := fun k st => match k with
  | 0 => (qds n).go st
  | _ => .fail
theorem qmw : qd (qa Try.f95) 0 = [(0, .loop (subC [true, false, true, false, false] (qa Try.f95)))] := by kernel_rfl
theorem qmx : Try.f95.body = some (qa Try.f95) := by kernel_rfl
abbrev qdH : List Ar := [.d T28, .d T28, .fn 96 [] []]
abbrev qdI : List Ty := [T3]
noncomputable def qgQ (n : Nat) (x : qz qdH) : Option (qk qdI) := (qi tab (qbV n) (qgz n) (qa Try.f95) 0 (qB qdH 39 x)).run (qbz tab [.tmp 6] qdI)
noncomputable def qmy (n : Nat) : Ct Try.prog := ⟨95, qdH, .ts qdI, qgQ n, fun _ _ h => qbF (B := tab) (cs := qbV n) (lo := qgz n) (rs := [.tmp 6]) Try.func95 (by kernel_rfl) qmx (by kernel_rfl) (by decide) (qh qmw (all_cons (fun st r h => qkV n st r h) qe)) h⟩
noncomputable def qyR (n : Nat) : CL Try.prog := ⟨[qxp n, qqX n, qmy n], [], 0⟩
noncomputable def qyS (n : Nat) : Nat → St → PT (DEx × St) := fun _ _ => .fail
theorem qFT : qd (qa Try.f60) 0 = [] := by kernel_rfl
theorem qFU : Try.f60.body = some (qa Try.f60) := by kernel_rfl
abbrev quI : List Ar := [.d T30, .d T30]
abbrev quJ : List Ty := [T3]
noncomputable def qzX (n : Nat) (x : qz quI) : Option (qk quJ) := (qi tab (qyR n) (qyS n) (qa Try.f60) 0 (qB quI 32 x)).run (qbz tab [.tmp 4] quJ)
noncomputable def qqx (n : Nat) : Ct Try.prog := ⟨60, quI, .ts quJ, qzX n, fun _ _ h => qbF (B := tab) (cs := qyR n) (lo := qyS n) (rs := [.tmp 4]) Try.func60 (by kernel_rfl) qFU (by kernel_rfl) (by decide) (qh qFT qe) h⟩
noncomputable def qy (n : Nat) : CL Try.prog := ⟨[qqx n], [], 0⟩
noncomputable def qd4 (n : Nat) : Nat → St → PT (DEx × St) := fun _ _ => .fail
abbrev qI : List It := [.v (.t 1) T3, .v (.t 2) T3, .fn (.t 3) 60 [] [], .v (.t 8) T3, .v (.t 9) T3, .row (.t 0) true T30 30]
abbrev q7 : List (DEx × List It) := [(.exit 2, [.v (.t 1) T3, .v (.t 2) T3, .fn (.t 3) 60 [] [], .v (.t 8) T3, .row (.t 0) true T30 30])]
noncomputable def qem (n : Nat) (rec : qb qI → Option (qf q7)) (s : qb qI) : Option (qf q7) := (qi tab (qy n) (qd4 n) (subC [true, false, false, true, false, false, true, false, false] (qa Try.f106)) 2 (mkS qI 53 s)).run (Lp.leaf 53 qI q7 rec)
noncomputable def qbX (n : Nat) : Lp := ⟨53, qI, q7, qg n (qem n)⟩
theorem qiI : qd (subC [true, false, false, true, false, false, true, false, false] (qa Try.f106)) 2 = [] := by kernel_rfl
theorem qh1 (n : Nat) (st : St) (r : DEx × St) (h : ((qbX n).go st).Is r) : DA Try.prog false (.loop (subC [true, false, false, true, false, false, true, false, false] (qa Try.f106))) st r := Lp.ok (L := qbX n) (B := tab) (cs := qy n) (lo := qd4 n) (id := 1) rfl (qh qiI qe) (fun _ _ => rfl) h
noncomputable def qd5 (n : Nat) : Nat → St → PT (DEx × St) := fun k st => match k with
  | 1 => (qbX n).go st
  | _ => .fail
abbrev qJ : List It := [.v (.t 1) T3, .v (.t 2) T3, .fn (.t 3) 60 [] [], .v (.t 8) T3, .row (.t 0) true T30 30]
abbrev q8 : List (DEx × List It) := [(.exit 0, [.row (.t 0) true T30 30])]
noncomputable def qen (n : Nat) (rec : qb qJ → Option (qf q8)) (s : qb qJ) : Option (qf q8) := (qi tab (qy n) (qd5 n) (subC [true, false, false] (qa Try.f106)) 1 (mkS qJ 53 s)).run (Lp.leaf 53 qJ q8 rec)
noncomputable def qbY (n : Nat) : Lp := ⟨53, qJ, q8, qg n (qen n)⟩
theorem qiJ : qd (subC [true, false, false] (qa Try.f106)) 1 = [(1, .loop (subC [true, false, false, true, false, false, true, false, false] (qa Try.f106)))] := by kernel_rfl
theorem qh2 (n : Nat) (st : St) (r : DEx × St) (h : ((qbY n).go st).Is r) : DA Try.prog false (.loop (subC [true, false, false] (qa Try.f106))) st r := Lp.ok (L := qbY n) (B := tab) (cs := qy n) (lo := qd5 n) (id := 0) rfl (qh qiJ (all_cons (fun st r h => qh1 n st r h) qe)) (fun _ _ => rfl) h
noncomputable def qeo (n : Nat) : Nat → St → PT (DEx × St) := fun k st => match k with
  | 0 => (qbY n).go st
  | _ => .fail
theorem qi5 : qd (qa Try.f106) 0 = [(0, .loop (subC [true, false, false] (qa Try.f106)))] := by kernel_rfl
theorem qi6 : Try.f106.body = some (qa Try.f106) := by kernel_rfl
abbrev qbZ : List It := [.v (.t 1) T3, .v (.t 2) T3, .fn (.t 3) 60 [] [], .row (.t 0) true T30 30]
abbrev qbQ : List (List It) := [[.row (.t 0) true T30 30]]
noncomputable def qex (n : Nat) (x : qb qbZ) : Option (qq qbQ) := runW tab (qy n) (qeo n) (qa Try.f106) qbZ 4 53 [] qbQ x
noncomputable def qey (n : Nat) : Cw Try.prog := ⟨106, 4, qbZ, 0, qbQ, qex n, fun _ _ h => qP (B := tab) (cs := qy n) (lo := qeo n) (rs := []) Try.func106 (by kernel_rfl) qi6 (by kernel_rfl) (by decide) (qh qi5 (all_cons (fun st r h => qh2 n st r h) qe)) h⟩
noncomputable def qvA (n : Nat) : CL Try.prog := ⟨[qj9 n], [], 0⟩
noncomputable def qvB (n : Nat) : Nat → St → PT (DEx × St) := fun _ _ => .fail
theorem qDq : qd (qa Try.f90) 0 = [] := by kernel_rfl
theorem qDr : Try.f90.body = some (qa Try.f90) := by kernel_rfl
abbrev qrb : List Ar := [.d T49]
abbrev qrc : List Ty := [T4]
noncomputable def qwp (n : Nat) (x : qz qrb) : Option (qk qrc) := (qi tab (qvA n) (qvB n) (qa Try.f90) 0 (qB qrb 13 x)).run (qbz tab [.tmp 2] qrc)
noncomputable def qwq (n : Nat) : Ct Try.prog := ⟨90, qrb, .ts qrc, qwp n, fun _ _ h => qbF (B := tab) (cs := qvA n) (lo := qvB n) (rs := [.tmp 2]) Try.func90 (by kernel_rfl) qDr (by kernel_rfl) (by decide) (qh qDq qe) h⟩
noncomputable def qcn (n : Nat) : CL Try.prog := ⟨[qwq n], [], 0⟩
noncomputable def qgR (n : Nat) : Nat → St → PT (DEx × St) := fun _ _ => .fail
abbrev qbn : List It := [.v (.t 0) T22, .fn (.t 1) 90 [] [], .v (.t 7) T3, .v (.t 8) T3]
abbrev qco : List (DEx × List It) := [(.exit 0, []), (.ret, [.v (.t 4) T3])]
noncomputable def qg8 (n : Nat) (rec : qb qbn → Option (qf qco)) (s : qb qbn) : Option (qf qco) := (qi tab (qcn n) (qgR n) (subC [true, false, true, false, false] (qa Try.f104)) 1 (mkS qbn 19 s)).run (Lp.leaf 19 qbn qco rec)
noncomputable def qd6 (n : Nat) : Lp := ⟨19, qbn, qco, qg n (qg8 n)⟩
theorem qna : qd (subC [true, false, true, false, false] (qa Try.f104)) 1 = [] := by kernel_rfl
theorem qlH (n : Nat) (st : St) (r : DEx × St) (h : ((qd6 n).go st).Is r) : DA Try.prog false (.loop (subC [true, false, true, false, false] (qa Try.f104))) st r := Lp.ok (L := qd6 n) (B := tab) (cs := qcn n) (lo := qgR n) (id := 0) rfl (qh qna qe) (fun _ _ => rfl) h
noncomputable def qg9 (n : Nat) : Nat → St → PT (DEx × St) := fun k st => match k with
  | 0 => (qd6 n).go st
  | _ => .fail
theorem qnI : qd (qa Try.f104) 0 = [(0, .loop (subC [true, false, true, false, false] (qa Try.f104)))] := by kernel_rfl
theorem qnJ : Try.f104.body = some (qa Try.f104) := by kernel_rfl
abbrev qeq : List Ar := [.d T22, .fn 90 [] []]
abbrev qer : List Ty := [T3]
noncomputable def qhu (n : Nat) (x : qz qeq) : Option (qk qer) := (qi tab (qcn n) (qg9 n) (qa Try.f104) 0 (qB qeq 19 x)).run (qbz tab [.tmp 4] qer)
noncomputable def qnK (n : Nat) : Ct Try.prog := ⟨104, qeq, .ts qer, qhu n, fun _ _ h => qbF (B := tab) (cs := qcn n) (lo := qg9 n) (rs := [.tmp 4]) Try.func104 (by kernel_rfl) qnJ (by kernel_rfl) (by decide) (qh qnI (all_cons (fun st r h => qlH n st r h) qe)) h⟩
noncomputable def qgm (n : Nat) : CL Try.prog := ⟨[qwq n, qnK n], [], 0⟩
noncomputable def qgn (n : Nat) : Nat → St → PT (DEx × St) := fun _ _ => .fail
theorem ql4 : qd (qa Try.f89) 0 = [] := by kernel_rfl
theorem ql5 : Try.f89.body = some (qa Try.f89) := by kernel_rfl
abbrev qdt : List Ar := [.d T22, .fn 90 [] []]
abbrev qdu : List Ty := [T4]
noncomputable def qgA (n : Nat) (x : qz qdt) : Option (qk qdu) := (qi tab (qgm n) (qgn n) (qa Try.f89) 0 (qB qdt 9 x)).run (qbz tab [.tmp 4] qdu)
noncomputable def ql6 (n : Nat) : Ct Try.prog := ⟨89, qdt, .ts qdu, qgA n, fun _ _ h => qbF (B := tab) (cs := qgm n) (lo := qgn n) (rs := [.tmp 4]) Try.func89 (by kernel_rfl) ql5 (by kernel_rfl) (by decide) (qh ql4 qe) h⟩
noncomputable def qxx (n : Nat) : CL Try.prog := ⟨[qj9 n, ql6 n], [], 0⟩
noncomputable def qxy (n : Nat) : Nat → St → PT (DEx × St) := fun _ _ => .fail
theorem qE6 : qd (qa Try.f56) 0 = [] := by kernel_rfl
theorem qE7 : Try.f56.body = some (qa Try.f56) := by kernel_rfl
abbrev qtw : List Ar := [.d T69]
abbrev qtx : List Ty := [T4]
noncomputable def qyT (n : Nat) (x : qz qtw) : Option (qk qtx) := (qi tab (qxx n) (qxy n) (qa Try.f56) 0 (qB qtw 21 x)).run (qbz tab [.tmp 2] qtx)
noncomputable def qE8 (n : Nat) : Ct Try.prog := ⟨56, qtw, .ts qtx, qyT n, fun _ _ h => qbF (B := tab) (cs := qxx n) (lo := qxy n) (rs := [.tmp 2]) Try.func56 (by kernel_rfl) qE7 (by kernel_rfl) (by decide) (qh qE6 qe) h⟩
noncomputable def qvC (n : Nat) : CL Try.prog := ⟨[qqx n], [], 0⟩
noncomputable def qvD (n : Nat) : Nat → St → PT (DEx × St) := fun _ _ => .fail
theorem qDs : qd (qa Try.f62) 0 = [] := by kernel_rfl
theorem qDt : Try.f62.body = some (qa Try.f62) := by kernel_rfl
abbrev qrd : List Ar := [.d T30, .d T30]
abbrev qre : List Ty := [T4]
noncomputable def qwr (n : Nat) (x : qz qrd) : Option (qk qre) := (qi tab (qvC n) (qvD n) (qa Try.f62) 0 (qB qrd 9 x)).run (qbz tab [.tmp 4] qre)
noncomputable def qDu (n : Nat) : Ct Try.prog := ⟨62, qrd, .ts qre, qwr n, fun _ _ h => qbF (B := tab) (cs := qvC n) (lo := qvD n) (rs := [.tmp 4]) Try.func62 (by kernel_rfl) qDt (by kernel_rfl) (by decide) (qh qDs qe) h⟩
end Go.Proofs.Ytcjgodgpaokbnaa
