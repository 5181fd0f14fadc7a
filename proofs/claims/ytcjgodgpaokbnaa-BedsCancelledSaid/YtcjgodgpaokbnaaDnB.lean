/- Printed: what functions of the program compute. -/
import Derived.Test.YtcjgodgpaokbnaaDnA
namespace Go.Proofs.Ytcjgodgpaokbnaa
set_option linter.constructorNameAsVariable false
set_option linter.unusedSimpArgs false
set_option linter.unusedVariables false
set_option linter.unusedSectionVars false
open Go Go.Proofs Go.RowKit
set_option maxRecDepth 20000
noncomputable def qus (n : Nat) : CL Try.prog := ⟨[], [], 0⟩
noncomputable def qut (n : Nat) : Nat → St → PT (DEx × St) := fun _ _ => .fail
theorem qBj : qd (qa Try.f98) 0 = [] := by kernel_rfl
theorem qBk : Try.f98.body = some (qa Try.f98) := by kernel_rfl
abbrev qqN : List Ar := [.d T3]
abbrev qqO : List Ty := [T4]
noncomputable def qvC (n : Nat) (x : qy qqN) : Option (qk qqO) := (qj tab (qus n) (qut n) (qa Try.f98) 0 (qH qqN 6 x)).run (qbX tab [.tmp 2] qqO)
noncomputable def qvD (n : Nat) : Ct Try.prog := ⟨98, qqN, .ts qqO, qvC n, fun _ _ h => qb1 (B := tab) (cs := qus n) (lo := qut n) (rs := [.tmp 2]) Try.func98 (by kernel_rfl) qBk (by kernel_rfl) (by decide) (qh qBj qe) h⟩
noncomputable def qvE (n : Nat) : CL Try.prog := ⟨[qvD n], [], 0⟩
noncomputable def qvF (n : Nat) : Nat → St → PT (DEx × St) := fun _ _ => .fail
theorem qBZ : qd (qa Try.f84) 0 = [] := by kernel_rfl
theorem qB0 : Try.f84.body = some (qa Try.f84) := by kernel_rfl
abbrev qr4 : List Ar := [.d T3, .d T3]
abbrev qr5 : List Ty := [T4]
noncomputable def qwD (n : Nat) (x : qy qr4) : Option (qk qr5) := (qj tab (qvE n) (qvF n) (qa Try.f84) 0 (qH qr4 17 x)).run (qbX tab [.tmp 4] qr5)
noncomputable def qhE (n : Nat) : Ct Try.prog := ⟨84, qr4, .ts qr5, qwD n, fun _ _ h => qb1 (B := tab) (cs := qvE n) (lo := qvF n) (rs := [.tmp 4]) Try.func84 (by kernel_rfl) qB0 (by kernel_rfl) (by decide) (qh qBZ qe) h⟩
noncomputable def qsG (n : Nat) : CL Try.prog := ⟨[qvD n], [], 0⟩
noncomputable def qsH (n : Nat) : Nat → St → PT (DEx × St) := fun _ _ => .fail
theorem qzK : qd (qa Try.f77) 0 = [] := by kernel_rfl
theorem qzL : Try.f77.body = some (qa Try.f77) := by kernel_rfl
abbrev qoP : List Ar := [.d T3, .d T3]
abbrev qoQ : List Ty := [T3]
noncomputable def qtw (n : Nat) (x : qy qoP) : Option (qk qoQ) := (qj tab (qsG n) (qsH n) (qa Try.f77) 0 (qH qoP 20 x)).run (qbX tab [.tmp 4] qoQ)
noncomputable def qoR (n : Nat) : Ct Try.prog := ⟨77, qoP, .ts qoQ, qtw n, fun _ _ h => qb1 (B := tab) (cs := qsG n) (lo := qsH n) (rs := [.tmp 4]) Try.func77 (by kernel_rfl) qzL (by kernel_rfl) (by decide) (qh qzK qe) h⟩
noncomputable def qqP (n : Nat) : CL Try.prog := ⟨[], [], 0⟩
noncomputable def qya (n : Nat) : Nat → St → PT (DEx × St) := fun _ _ => .fail
abbrev qnM : List It := [.v (.t 6) T25, .v (.t 7) T3, .v (.t 8) T3, .row (.t 3) false T3 3]
abbrev qqQ : List (DEx × List It) := [(.exit 0, [.row (.t 3) false T3 3])]
noncomputable def qyV (n : Nat) (rec : qc qnM → Option (qf qqQ)) (s : qc qnM) : Option (qf qqQ) := (qj tab (qqP n) (qya n) (subC [true, true, false, true, false, false] (qa Try.f32)) 1 (mkS qnM 19 s)).run (Lp.leaf 19 qnM qqQ rec)
noncomputable def quu (n : Nat) : Lp := ⟨19, qnM, qqQ, qg n (qyV n)⟩
theorem qDU : qd (subC [true, true, false, true, false, false] (qa Try.f32)) 1 = [] := by kernel_rfl
theorem qBl (n : Nat) (st : St) (r : DEx × St) (h : ((quu n).go st).Is r) : DA Try.prog false (.loop (subC [true, true, false, true, false, false] (qa Try.f32))) st r := Lp.ok (L := quu n) (B := tab) (cs := qqP n) (lo := qya n) (id := 0) rfl (qh qDU qe) (fun _ _ => rfl) h
noncomputable def qyW (n : Nat) : Nat → St → PT (DEx × St) := fun k st => match k with
  | 0 => (quu n).go st
  | _ => .fail
theorem qED : qd (qa Try.f32) 0 = [(0, .loop (subC [true, true, false, true, false, false] (qa Try.f32)))] := by kernel_rfl
theorem qEE : Try.f32.body = some (qa Try.f32) := by kernel_rfl
abbrev quv : List It := [.v (.t 0) T25]
abbrev qth : List (List It) := [[.row (.t 0) false T3 3]]
noncomputable def qAe (n : Nat) (x : qc quv) : Option (qw qth) := runW tab (qqP n) (qyW n) (qa Try.f32) quv 1 19 [.tmp 2] qth x
noncomputable def qAf (n : Nat) : Cw Try.prog := ⟨32, 1, quv, 1, qth, qAe n, fun _ _ h => q9 (B := tab) (cs := qqP n) (lo := qyW n) (rs := [.tmp 2]) Try.func32 (by kernel_rfl) qEE (by kernel_rfl) (by decide) (qh qED (all_cons (fun st r h => qBl n st r h) qe)) h⟩
noncomputable def qbk (n : Nat) : CL Try.prog := ⟨[qhE n], [], 0⟩
noncomputable def qh4 (n : Nat) : Nat → St → PT (DEx × St) := fun _ _ => .fail
abbrev qb2 : List It := [.v (.t 1) T3, .v (.t 2) T3, .v (.t 6) T3, .v (.t 7) T3, .row (.t 0) true T3 3]
abbrev qdm : List (DEx × List It) := [(.exit 2, [.v (.t 1) T3, .v (.t 2) T3, .v (.t 6) T3, .row (.t 0) true T3 3])]
noncomputable def qim (n : Nat) (rec : qc qb2 → Option (qf qdm)) (s : qc qb2) : Option (qf qdm) := (qj tab (qbk n) (qh4 n) (subC [true, false, false, true, false, false, true, false, false] (qa Try.f78)) 2 (mkS qb2 49 s)).run (Lp.leaf 49 qb2 qdm rec)
noncomputable def qfu (n : Nat) : Lp := ⟨49, qb2, qdm, qg n (qim n)⟩
theorem qom : qd (subC [true, false, false, true, false, false, true, false, false] (qa Try.f78)) 2 = [] := by kernel_rfl
theorem qm9 (n : Nat) (st : St) (r : DEx × St) (h : ((qfu n).go st).Is r) : DA Try.prog false (.loop (subC [true, false, false, true, false, false, true, false, false] (qa Try.f78))) st r := Lp.ok (L := qfu n) (B := tab) (cs := qbk n) (lo := qh4 n) (id := 1) rfl (qh qom qe) (fun _ _ => rfl) h
noncomputable def qh5 (n : Nat) : Nat → St → PT (DEx × St) := fun k st => match k with
  | 1 => (qfu n).go st
  | _ => .fail
abbrev qb3 : List It := [.v (.t 1) T3, .v (.t 2) T3, .v (.t 6) T3, .row (.t 0) true T3 3]
abbrev qdn : List (DEx × List It) := [(.exit 0, [.row (.t 0) true T3 3])]
noncomputable def qin (n : Nat) (rec : qc qb3 → Option (qf qdn)) (s : qc qb3) : Option (qf qdn) := (qj tab (qbk n) (qh5 n) (subC [true, false, false] (qa Try.f78)) 1 (mkS qb3 49 s)).run (Lp.leaf 49 qb3 qdn rec)
noncomputable def qfv (n : Nat) : Lp := ⟨49, qb3, qdn, qg n (qin n)⟩
theorem qon : qd (subC [true, false, false] (qa Try.f78)) 1 = [(1, .loop (subC [true, false, false, true, false, false, true, false, false] (qa Try.f78)))] := by kernel_rfl
theorem qna (n : Nat) (st : St) (r : DEx × St) (h : ((qfv n).go st).Is r) : DA Try.prog false (.loop (subC [true, false, false] (qa Try.f78))) st r := Lp.ok (L := qfv n) (B := tab) (cs := qbk n) (lo := qh5 n) (id := 0) rfl (qh qon (all_cons (fun st r h => qm9 n st r h) qe)) (fun _ _ => rfl) h
noncomputable def qio (n : Nat) : Nat → St → PT (DEx × St) := fun k st => match k with
  | 0 => (qfv n).go st
  | _ => .fail
theorem qoS : qd (qa Try.f78) 0 = [(0, .loop (subC [true, false, false] (qa Try.f78)))] := by kernel_rfl
theorem qoT : Try.f78.body = some (qa Try.f78) := by kernel_rfl
abbrev qfw : List It := [.v (.t 1) T3, .v (.t 2) T3, .row (.t 0) true T3 3]
abbrev qe8 : List (List It) := [[.row (.t 0) true T3 3]]
noncomputable def qiK (n : Nat) (x : qc qfw) : Option (qw qe8) := runW tab (qbk n) (qio n) (qa Try.f78) qfw 3 49 [] qe8 x
noncomputable def qoU (n : Nat) : Cw Try.prog := ⟨78, 3, qfw, 0, qe8, qiK n, fun _ _ h => q9 (B := tab) (cs := qbk n) (lo := qio n) (rs := []) Try.func78 (by kernel_rfl) qoT (by kernel_rfl) (by decide) (qh qoS (all_cons (fun st r h => qna n st r h) qe)) h⟩
noncomputable def qeA (n : Nat) : CL Try.prog := ⟨[qhE n], [], 0⟩
noncomputable def qjS (n : Nat) : Nat → St → PT (DEx × St) := fun _ _ => .fail
abbrev qcZ : List It := [.v (.t 2) T3, .v (.t 3) T3, .v (.t 8) T3, .row (.t 0) true T3 3]
abbrev qeB : List (DEx × List It) := [(.exit 0, [.row (.t 0) true T3 3]), (.ret, [.row (.t 0) true T3 3])]
noncomputable def qqR (n : Nat) (rec : qc qcZ → Option (qf qeB)) (s : qc qcZ) : Option (qf qeB) := (qj tab (qeA n) (qjS n) (subC [true, false, false] (qa Try.f99)) 1 (mkS qcZ 76 s)).run (Lp.leaf 76 qcZ qeB rec)
noncomputable def qgU (n : Nat) : Lp := ⟨76, qcZ, qeB, qg n (qqR n)⟩
theorem qqS : qd (subC [true, false, false] (qa Try.f99)) 1 = [] := by kernel_rfl
theorem qpk (n : Nat) (st : St) (r : DEx × St) (h : ((qgU n).go st).Is r) : DA Try.prog false (.loop (subC [true, false, false] (qa Try.f99))) st r := Lp.ok (L := qgU n) (B := tab) (cs := qeA n) (lo := qjS n) (id := 0) rfl (qh qqS qe) (fun _ _ => rfl) h
noncomputable def qki (n : Nat) : Nat → St → PT (DEx × St) := fun k st => match k with
  | 0 => (qgU n).go st
  | _ => .fail
theorem qrs : qd (qa Try.f99) 0 = [(0, .loop (subC [true, false, false] (qa Try.f99)))] := by kernel_rfl
theorem qrt : Try.f99.body = some (qa Try.f99) := by kernel_rfl
abbrev qgV : List It := [.v (.t 1) T3, .v (.t 2) T3, .v (.t 3) T3, .row (.t 0) true T3 3]
abbrev qgE : List (List It) := [[.row (.t 0) true T3 3]]
noncomputable def qru (n : Nat) (x : qc qgV) : Option (qw qgE) := runW tab (qeA n) (qki n) (qa Try.f99) qgV 4 76 [] qgE x
noncomputable def qrv (n : Nat) : Cw Try.prog := ⟨99, 4, qgV, 0, qgE, qru n, fun _ _ h => q9 (B := tab) (cs := qeA n) (lo := qki n) (rs := []) Try.func99 (by kernel_rfl) qrt (by kernel_rfl) (by decide) (qh qrs (all_cons (fun st r h => qpk n st r h) qe)) h⟩
noncomputable def qb4 (n : Nat) : CL Try.prog := ⟨[], [qrv n], 0⟩
noncomputable def qjT (n : Nat) : Nat → St → PT (DEx × St) := fun _ _ => .fail
abbrev qc0 : List It := [.v (.t 6) T3, .v (.t 7) T3, .v (.t 10) T3, .row (.t 0) true T3 3]
abbrev qeC : List (DEx × List It) := [(.exit 2, [.row (.t 0) true T3 3])]
noncomputable def qqT (n : Nat) (rec : qc qc0 → Option (qf qeC)) (s : qc qc0) : Option (qf qeC) := (qj tab (qb4 n) (qjT n) (subC [true, true, true, true, true, false, false] (qa Try.f79)) 2 (mkS qc0 56 s)).run (Lp.leaf 56 qc0 qeC rec)
noncomputable def qgW (n : Nat) : Lp := ⟨56, qc0, qeC, qg n (qqT n)⟩
theorem qqU : qd (subC [true, true, true, true, true, false, false] (qa Try.f79)) 2 = [] := by kernel_rfl
theorem qpl (n : Nat) (st : St) (r : DEx × St) (h : ((qgW n).go st).Is r) : DA Try.prog false (.loop (subC [true, true, true, true, true, false, false] (qa Try.f79))) st r := Lp.ok (L := qgW n) (B := tab) (cs := qb4 n) (lo := qjT n) (id := 1) rfl (qh qqU qe) (fun _ _ => rfl) h
noncomputable def qjU (n : Nat) : Nat → St → PT (DEx × St) := fun _ _ => .fail
abbrev qc1 : List It := [.v (.t 6) T3, .v (.t 7) T3, .v (.t 8) T3, .v (.t 9) T3, .row (.t 0) true T3 3]
abbrev qeD : List (DEx × List It) := [(.exit 0, [.v (.t 6) T3, .v (.t 7) T3, .v (.t 8) T3, .row (.t 0) true T3 3])]
noncomputable def qqV (n : Nat) (rec : qc qc1 → Option (qf qeD)) (s : qc qc1) : Option (qf qeD) := (qj tab (qb4 n) (qjU n) (subC [true, true, true, false, true, false, false] (qa Try.f79)) 1 (mkS qc1 56 s)).run (Lp.leaf 56 qc1 qeD rec)
noncomputable def qgX (n : Nat) : Lp := ⟨56, qc1, qeD, qg n (qqV n)⟩
theorem qqW : qd (subC [true, true, true, false, true, false, false] (qa Try.f79)) 1 = [] := by kernel_rfl
theorem qpm (n : Nat) (st : St) (r : DEx × St) (h : ((qgX n).go st).Is r) : DA Try.prog false (.loop (subC [true, true, true, false, true, false, false] (qa Try.f79))) st r := Lp.ok (L := qgX n) (B := tab) (cs := qb4 n) (lo := qjU n) (id := 0) rfl (qh qqW qe) (fun _ _ => rfl) h
noncomputable def qkj (n : Nat) : Nat → St → PT (DEx × St) := fun k st => match k with
  | 0 => (qgX n).go st
  | 1 => (qgW n).go st
  | _ => .fail
theorem qrw : qd (qa Try.f79) 0 = [(0, .loop (subC [true, true, true, false, true, false, false] (qa Try.f79))), (1, .loop (subC [true, true, true, true, true, false, false] (qa Try.f79)))] := by kernel_rfl
theorem qrx : Try.f79.body = some (qa Try.f79) := by kernel_rfl
abbrev qgY : List It := [.v (.t 1) T3, .v (.t 2) T3, .row (.t 0) true T3 3]
abbrev qgF : List (List It) := [[.row (.t 0) true T3 3]]
noncomputable def qk1 (n : Nat) (x : qc qgY) : Option (qw qgF) := runW tab (qb4 n) (qkj n) (qa Try.f79) qgY 3 56 [] qgF x
noncomputable def qry (n : Nat) : Cw Try.prog := ⟨79, 3, qgY, 0, qgF, qk1 n, fun _ _ h => q9 (B := tab) (cs := qb4 n) (lo := qkj n) (rs := []) Try.func79 (by kernel_rfl) qrx (by kernel_rfl) (by decide) (qh qrw (all_cons (fun st r h => qpm n st r h) (all_cons (fun st r h => qpl n st r h) qe))) h⟩
noncomputable def qdC (n : Nat) : CL Try.prog := ⟨[], [], 0⟩
noncomputable def qip (n : Nat) : Nat → St → PT (DEx × St) := fun _ _ => .fail
abbrev qci : List It := [.v (.t 6) T3, .v (.t 7) T3, .row (.t 0) true T3 3]
abbrev qdD : List (DEx × List It) := [(.exit 0, [.row (.t 0) true T3 3])]
noncomputable def qoV (n : Nat) (rec : qc qci → Option (qf qdD)) (s : qc qci) : Option (qf qdD) := (qj tab (qdC n) (qip n) (subC [true, true, false, false] (qa Try.f82)) 1 (mkS qci 32 s)).run (Lp.leaf 32 qci qdD rec)
noncomputable def qfK (n : Nat) : Lp := ⟨32, qci, qdD, qg n (qoV n)⟩
theorem qoW : qd (subC [true, true, false, false] (qa Try.f82)) 1 = [] := by kernel_rfl
theorem qnC (n : Nat) (st : St) (r : DEx × St) (h : ((qfK n).go st).Is r) : DA Try.prog false (.loop (subC [true, true, false, false] (qa Try.f82))) st r := Lp.ok (L := qfK n) (B := tab) (cs := qdC n) (lo := qip n) (id := 0) rfl (qh qoW qe) (fun _ _ => rfl) h
noncomputable def qiL (n : Nat) : Nat → St → PT (DEx × St) := fun k st => match k with
  | 0 => (qfK n).go st
  | _ => .fail
theorem qpn : qd (qa Try.f82) 0 = [(0, .loop (subC [true, true, false, false] (qa Try.f82)))] := by kernel_rfl
theorem qpo : Try.f82.body = some (qa Try.f82) := by kernel_rfl
abbrev qfL : List It := [.v (.t 1) T3, .v (.t 2) T3, .row (.t 0) true T3 3]
abbrev qfx : List (List It) := [[.row (.t 0) true T3 3]]
noncomputable def qpp (n : Nat) (x : qc qfL) : Option (qw qfx) := runW tab (qdC n) (qiL n) (qa Try.f82) qfL 3 32 [] qfx x
noncomputable def qpq (n : Nat) : Cw Try.prog := ⟨82, 3, qfL, 0, qfx, qpp n, fun _ _ h => q9 (B := tab) (cs := qdC n) (lo := qiL n) (rs := []) Try.func82 (by kernel_rfl) qpo (by kernel_rfl) (by decide) (qh qpn (all_cons (fun st r h => qnC n st r h) qe)) h⟩
noncomputable def qsI (n : Nat) : CL Try.prog := ⟨[], [], 0⟩
noncomputable def qsJ (n : Nat) : Nat → St → PT (DEx × St) := fun _ _ => .fail
theorem qzM : qd (qa Try.f88) 0 = [] := by kernel_rfl
theorem qzN : Try.f88.body = some (qa Try.f88) := by kernel_rfl
abbrev qoX : List Ar := [.d T129]
abbrev qoY : List Ty := [T3]
noncomputable def qtx (n : Nat) (x : qy qoX) : Option (qk qoY) := (qj tab (qsI n) (qsJ n) (qa Try.f88) 0 (qH qoX 25 x)).run (qbX tab [.tmp 2] qoY)
noncomputable def qzO (n : Nat) : Ct Try.prog := ⟨88, qoX, .ts qoY, qtx n, fun _ _ h => qb1 (B := tab) (cs := qsI n) (lo := qsJ n) (rs := [.tmp 2]) Try.func88 (by kernel_rfl) qzN (by kernel_rfl) (by decide) (qh qzM qe) h⟩
noncomputable def qlv (n : Nat) : CL Try.prog := ⟨[qhE n], [], 0⟩
noncomputable def qlw (n : Nat) : Nat → St → PT (DEx × St) := fun _ _ => .fail
theorem qsK : qd (qa Try.f114) 0 = [] := by kernel_rfl
theorem qsL : Try.f114.body = some (qa Try.f114) := by kernel_rfl
abbrev qhF : List It := [.v (.t 0) T32, .v (.t 1) T3, .v (.t 2) T3, .obj (.t 3) true 3 1, .v (.c 0 0) T3]
abbrev qhb : List (List It) := [[.v (.t 0) T3, .v (.t 1) T3, .obj (.t 2) true 3 1, .v (.c 0 0) T3]]
noncomputable def qsM (n : Nat) (x : qc qhF) : Option (qw qhb) := runW tab (qlv n) (qlw n) (qa Try.f114) qhF 4 28 [.tmp 8, .tmp 9] qhb x
noncomputable def qsN (n : Nat) : Cw Try.prog := ⟨114, 4, qhF, 2, qhb, qsM n, fun _ _ h => q9 (B := tab) (cs := qlv n) (lo := qlw n) (rs := [.tmp 8, .tmp 9]) Try.func114 (by kernel_rfl) qsL (by kernel_rfl) (by decide) (qh qsK qe) h⟩
noncomputable def qlx (n : Nat) : CL Try.prog := ⟨[], [qsN n], 0⟩
noncomputable def qly (n : Nat) : Nat → St → PT (DEx × St) := fun _ _ => .fail
theorem qsO : qd (qa Try.f103) 0 = [] := by kernel_rfl
theorem qsP : Try.f103.body = some (qa Try.f103) := by kernel_rfl
abbrev qhG : List It := [.v (.t 0) T32, .v (.t 1) T3, .v (.t 2) T3, .v (.t 3) T3, .obj (.t 4) true 3 1, .v (.c 0 0) T3]
abbrev qhc : List (List It) := [[.v (.t 0) T3, .obj (.t 1) true 3 1, .v (.c 0 0) T3]]
noncomputable def qsQ (n : Nat) (x : qc qhG) : Option (qw qhc) := runW tab (qlx n) (qly n) (qa Try.f103) qhG 5 36 [.tmp 10] qhc x
noncomputable def qmb (n : Nat) : Cw Try.prog := ⟨103, 5, qhG, 1, qhc, qsQ n, fun _ _ h => q9 (B := tab) (cs := qlx n) (lo := qly n) (rs := [.tmp 10]) Try.func103 (by kernel_rfl) qsP (by kernel_rfl) (by decide) (qh qsO qe) h⟩
noncomputable def qh6 (n : Nat) : CL Try.prog := ⟨[], [qmb n], 0⟩
noncomputable def qh7 (n : Nat) : Nat → St → PT (DEx × St) := fun _ _ => .fail
theorem qoo : qd (qa Try.f102) 0 = [] := by kernel_rfl
theorem qop : Try.f102.body = some (qa Try.f102) := by kernel_rfl
abbrev qe9 : List It := [.v (.t 0) T32, .v (.t 1) T3, .obj (.t 2) true 3 1, .v (.c 0 0) T3]
abbrev qeN : List (List It) := [[.v (.t 0) T3, .obj (.t 1) true 3 1, .v (.c 0 0) T3]]
noncomputable def qoq (n : Nat) (x : qc qe9) : Option (qw qeN) := runW tab (qh6 n) (qh7 n) (qa Try.f102) qe9 3 15 [.tmp 6] qeN x
noncomputable def qor (n : Nat) : Cw Try.prog := ⟨102, 3, qe9, 1, qeN, qoq n, fun _ _ h => q9 (B := tab) (cs := qh6 n) (lo := qh7 n) (rs := [.tmp 6]) Try.func102 (by kernel_rfl) qop (by kernel_rfl) (by decide) (qh qoo qe) h⟩
noncomputable def qi1 (n : Nat) : CL Try.prog := ⟨[], [qor n, qmb n], 0⟩
noncomputable def qi2 (n : Nat) : Nat → St → PT (DEx × St) := fun _ _ => .fail
theorem qpI : qd (qa Try.f81) 0 = [] := by kernel_rfl
theorem qpJ : Try.f81.body = some (qa Try.f81) := by kernel_rfl
abbrev qf2 : List It := [.v (.t 0) T32, .v (.t 1) T3, .v (.t 2) T3]
abbrev qfM : List (List It) := [[.v (.t 0) T3, .v (.t 1) T118]]
noncomputable def qpK (n : Nat) (x : qc qf2) : Option (qw qfM) := runW tab (qi1 n) (qi2 n) (qa Try.f81) qf2 3 57 [.tmp 6, .tmp 7] qfM x
noncomputable def qpL (n : Nat) : Cw Try.prog := ⟨81, 3, qf2, 2, qfM, qpK n, fun _ _ h => q9 (B := tab) (cs := qi1 n) (lo := qi2 n) (rs := [.tmp 6, .tmp 7]) Try.func81 (by kernel_rfl) qpJ (by kernel_rfl) (by decide) (qh qpI qe) h⟩
noncomputable def qn (n : Nat) : CL Try.prog := ⟨[qhE n], [], 0⟩
noncomputable def qgb (n : Nat) : Nat → St → PT (DEx × St) := fun _ _ => .fail
abbrev qbc : List It := [.v (.t 1) T3, .v (.t 2) T3, .v (.t 7) T3, .v (.t 8) T3, .v (.t 10) T3, .row (.t 0) true T3 3]
abbrev qb5 : List (DEx × List It) := [(.exit 6, [.v (.t 1) T3, .v (.t 2) T3, .v (.t 7) T3, .v (.t 8) T3, .row (.t 0) true T3 3])]
noncomputable def qlz (n : Nat) (rec : qc qbc → Option (qf qb5)) (s : qc qbc) : Option (qf qb5) := (qj tab (qn n) (qgb n) (subC [true, true, false, true, false, false, true, false, false, true, true, true, true, true, true, false, true, false, false] (qa Try.f83)) 4 (mkS qbc 133 s)).run (Lp.leaf 133 qbc qb5 rec)
noncomputable def qdG (n : Nat) : Lp := ⟨133, qbc, qb5, qg n (qlz n)⟩
theorem qlA : qd (subC [true, true, false, true, false, false, true, false, false, true, true, true, true, true, true, false, true, false, false] (qa Try.f83)) 4 = [] := by kernel_rfl
theorem qkk (n : Nat) (st : St) (r : DEx × St) (h : ((qdG n).go st).Is r) : DA Try.prog false (.loop (subC [true, true, false, true, false, false, true, false, false, true, true, true, true, true, true, false, true, false, false] (qa Try.f83))) st r := Lp.ok (L := qdG n) (B := tab) (cs := qn n) (lo := qgb n) (id := 3) rfl (qh qlA qe) (fun _ _ => rfl) h
noncomputable def qgc (n : Nat) : Nat → St → PT (DEx × St) := fun _ _ => .fail
abbrev qbd : List It := [.v (.t 1) T3, .v (.t 2) T3, .v (.t 7) T3, .v (.t 8) T3, .v (.t 9) T3, .row (.t 0) true T3 3]
abbrev qb6 : List (DEx × List It) := [(.exit 4, [.v (.t 1) T3, .v (.t 2) T3, .v (.t 7) T3, .v (.t 8) T3, .row (.t 0) true T3 3])]
noncomputable def qlB (n : Nat) (rec : qc qbd → Option (qf qb6)) (s : qc qbd) : Option (qf qb6) := (qj tab (qn n) (qgc n) (subC [true, true, false, true, false, false, true, false, false, true, true, true, true, false, true, false, true, false, false] (qa Try.f83)) 3 (mkS qbd 133 s)).run (Lp.leaf 133 qbd qb6 rec)
noncomputable def qdH (n : Nat) : Lp := ⟨133, qbd, qb6, qg n (qlB n)⟩
theorem qlC : qd (subC [true, true, false, true, false, false, true, false, false, true, true, true, true, false, true, false, true, false, false] (qa Try.f83)) 3 = [] := by kernel_rfl
theorem qkl (n : Nat) (st : St) (r : DEx × St) (h : ((qdH n).go st).Is r) : DA Try.prog false (.loop (subC [true, true, false, true, false, false, true, false, false, true, true, true, true, false, true, false, true, false, false] (qa Try.f83))) st r := Lp.ok (L := qdH n) (B := tab) (cs := qn n) (lo := qgc n) (id := 2) rfl (qh qlC qe) (fun _ _ => rfl) h
noncomputable def qgd (n : Nat) : Nat → St → PT (DEx × St) := fun _ _ => .fail
abbrev qbe : List It := [.v (.t 1) T3, .v (.t 2) T3, .v (.t 7) T3, .v (.t 8) T3, .row (.t 0) true T3 3]
abbrev qb7 : List (DEx × List It) := [(.exit 2, [.v (.t 1) T3, .v (.t 2) T3, .v (.t 7) T3, .v (.t 8) T3, .row (.t 0) true T3 3])]
noncomputable def qlD (n : Nat) (rec : qc qbe → Option (qf qb7)) (s : qc qbe) : Option (qf qb7) := (qj tab (qn n) (qgd n) (subC [true, true, false, true, false, false, true, false, false, false, false, false] (qa Try.f83)) 2 (mkS qbe 133 s)).run (Lp.leaf 133 qbe qb7 rec)
noncomputable def qdI (n : Nat) : Lp := ⟨133, qbe, qb7, qg n (qlD n)⟩
theorem qlE : qd (subC [true, true, false, true, false, false, true, false, false, false, false, false] (qa Try.f83)) 2 = [] := by kernel_rfl
theorem qkm (n : Nat) (st : St) (r : DEx × St) (h : ((qdI n).go st).Is r) : DA Try.prog false (.loop (subC [true, true, false, true, false, false, true, false, false, false, false, false] (qa Try.f83))) st r := Lp.ok (L := qdI n) (B := tab) (cs := qn n) (lo := qgd n) (id := 1) rfl (qh qlE qe) (fun _ _ => rfl) h
noncomputable def qge (n : Nat) : Nat → St → PT (DEx × St) := fun k st => match k with
  | 1 => (qdI n).go st
  | 2 => (qdH n).go st
  | 3 => (qdG n).go st
  | _ => .fail
abbrev qbf : List It := [.v (.t 1) T3, .v (.t 2) T3, .v (.t 7) T3, .v (.t 8) T3, .row (.t 0) true T3 3]
abbrev qb8 : List (DEx × List It) := [(.exit 0, [.row (.t 0) true T3 3]), (.ret, [.v (.t 6) T4, .row (.t 0) true T3 3])]
noncomputable def qlF (n : Nat) (rec : qc qbf → Option (qf qb8)) (s : qc qbf) : Option (qf qb8) := (qj tab (qn n) (qge n) (subC [true, true, false, true, false, false] (qa Try.f83)) 1 (mkS qbf 133 s)).run (Lp.leaf 133 qbf qb8 rec)
noncomputable def qdJ (n : Nat) : Lp := ⟨133, qbf, qb8, qg n (qlF n)⟩
theorem qlG : qd (subC [true, true, false, true, false, false] (qa Try.f83)) 1 = [(1, .loop (subC [true, true, false, true, false, false, true, false, false, false, false, false] (qa Try.f83))), (2, .loop (subC [true, true, false, true, false, false, true, false, false, true, true, true, true, false, true, false, true, false, false] (qa Try.f83))), (3, .loop (subC [true, true, false, true, false, false, true, false, false, true, true, true, true, true, true, false, true, false, false] (qa Try.f83)))] := by kernel_rfl
theorem qkn (n : Nat) (st : St) (r : DEx × St) (h : ((qdJ n).go st).Is r) : DA Try.prog false (.loop (subC [true, true, false, true, false, false] (qa Try.f83))) st r := Lp.ok (L := qdJ n) (B := tab) (cs := qn n) (lo := qge n) (id := 0) rfl (qh qlG (all_cons (fun st r h => qkm n st r h) (all_cons (fun st r h => qkl n st r h) (all_cons (fun st r h => qkk n st r h) qe)))) (fun _ _ => rfl) h
noncomputable def qgt (n : Nat) : Nat → St → PT (DEx × St) := fun k st => match k with
  | 0 => (qdJ n).go st
  | _ => .fail
theorem ql0 : qd (qa Try.f83) 0 = [(0, .loop (subC [true, true, false, true, false, false] (qa Try.f83)))] := by kernel_rfl
theorem ql1 : Try.f83.body = some (qa Try.f83) := by kernel_rfl
abbrev qdK : List It := [.v (.t 1) T3, .v (.t 2) T3, .row (.t 0) true T3 3]
abbrev qdq : List (List It) := [[.v (.t 0) T4, .row (.t 1) true T3 3]]
noncomputable def ql2 (n : Nat) (x : qc qdK) : Option (qw qdq) := runW tab (qn n) (qgt n) (qa Try.f83) qdK 3 133 [.tmp 6] qdq x
noncomputable def ql3 (n : Nat) : Cw Try.prog := ⟨83, 3, qdK, 1, qdq, ql2 n, fun _ _ h => q9 (B := tab) (cs := qn n) (lo := qgt n) (rs := [.tmp 6]) Try.func83 (by kernel_rfl) ql1 (by kernel_rfl) (by decide) (qh ql0 (all_cons (fun st r h => qkn n st r h) qe)) h⟩
noncomputable def qG (n : Nat) : CL Try.prog := ⟨[qhE n], [], 0⟩
noncomputable def qhN (n : Nat) : Nat → St → PT (DEx × St) := fun _ _ => .fail
abbrev qbQ : List It := [.v (.t 1) T3, .v (.t 9) T3, .v (.t 10) T3, .row (.t 0) true T3 3]
abbrev qc2 : List (DEx × List It) := [(.exit 4, [.v (.t 1) T3, .v (.t 9) T3, .v (.t 10) T3, .row (.t 0) true T3 3])]
noncomputable def qnN (n : Nat) (rec : qc qbQ → Option (qf qc2)) (s : qc qbQ) : Option (qf qc2) := (qj tab (qG n) (qhN n) (subC [true, true, true, false, false, false, false, true, false, false, false] (qa Try.f85)) 3 (mkS qbQ 84 s)).run (Lp.leaf 84 qbQ qc2 rec)
noncomputable def qfa (n : Nat) : Lp := ⟨84, qbQ, qc2, qg n (qnN n)⟩
theorem qnO : qd (subC [true, true, true, false, false, false, false, true, false, false, false] (qa Try.f85)) 3 = [] := by kernel_rfl
theorem qmY (n : Nat) (st : St) (r : DEx × St) (h : ((qfa n).go st).Is r) : DA Try.prog false (.loop (subC [true, true, true, false, false, false, false, true, false, false, false] (qa Try.f85))) st r := Lp.ok (L := qfa n) (B := tab) (cs := qG n) (lo := qhN n) (id := 2) rfl (qh qnO qe) (fun _ _ => rfl) h
noncomputable def qhO (n : Nat) : Nat → St → PT (DEx × St) := fun _ _ => .fail
abbrev qbR : List It := [.v (.t 1) T3, .v (.t 9) T3, .v (.t 10) T3, .row (.t 0) true T3 3]
abbrev qc3 : List (DEx × List It) := [(.exit 2, [.v (.t 1) T3, .v (.t 9) T3, .v (.t 10) T3, .row (.t 0) true T3 3])]
noncomputable def qnP (n : Nat) (rec : qc qbR → Option (qf qc3)) (s : qc qbR) : Option (qf qc3) := (qj tab (qG n) (qhO n) (subC [true, true, true, false, false, false, false, false, false, false] (qa Try.f85)) 2 (mkS qbR 84 s)).run (Lp.leaf 84 qbR qc3 rec)
noncomputable def qfb (n : Nat) : Lp := ⟨84, qbR, qc3, qg n (qnP n)⟩
theorem qnQ : qd (subC [true, true, true, false, false, false, false, false, false, false] (qa Try.f85)) 2 = [] := by kernel_rfl
theorem qmZ (n : Nat) (st : St) (r : DEx × St) (h : ((qfb n).go st).Is r) : DA Try.prog false (.loop (subC [true, true, true, false, false, false, false, false, false, false] (qa Try.f85))) st r := Lp.ok (L := qfb n) (B := tab) (cs := qG n) (lo := qhO n) (id := 1) rfl (qh qnQ qe) (fun _ _ => rfl) h
noncomputable def qhP (n : Nat) : Nat → St → PT (DEx × St) := fun k st => match k with
  | 1 => (qfb n).go st
  | 2 => (qfa n).go st
  | _ => .fail
abbrev qbS : List It := [.v (.t 1) T3, .v (.t 9) T3, .v (.t 10) T3, .row (.t 0) true T3 3]
abbrev qc4 : List (DEx × List It) := [(.exit 0, [.v (.t 9) T3, .row (.t 0) true T3 3])]
noncomputable def qnR (n : Nat) (rec : qc qbS → Option (qf qc4)) (s : qc qbS) : Option (qf qc4) := (qj tab (qG n) (qhP n) (subC [true, true, true, false, false, false] (qa Try.f85)) 1 (mkS qbS 84 s)).run (Lp.leaf 84 qbS qc4 rec)
noncomputable def qfc (n : Nat) : Lp := ⟨84, qbS, qc4, qg n (qnR n)⟩
theorem qnS : qd (subC [true, true, true, false, false, false] (qa Try.f85)) 1 = [(1, .loop (subC [true, true, true, false, false, false, false, false, false, false] (qa Try.f85))), (2, .loop (subC [true, true, true, false, false, false, false, true, false, false, false] (qa Try.f85)))] := by kernel_rfl
theorem qm0 (n : Nat) (st : St) (r : DEx × St) (h : ((qfc n).go st).Is r) : DA Try.prog false (.loop (subC [true, true, true, false, false, false] (qa Try.f85))) st r := Lp.ok (L := qfc n) (B := tab) (cs := qG n) (lo := qhP n) (id := 0) rfl (qh qnS (all_cons (fun st r h => qmZ n st r h) (all_cons (fun st r h => qmY n st r h) qe))) (fun _ _ => rfl) h
noncomputable def qh8 (n : Nat) : Nat → St → PT (DEx × St) := fun k st => match k with
  | 0 => (qfc n).go st
  | _ => .fail
theorem qos : qd (qa Try.f85) 0 = [(0, .loop (subC [true, true, true, false, false, false] (qa Try.f85)))] := by kernel_rfl
theorem qot : Try.f85.body = some (qa Try.f85) := by kernel_rfl
abbrev qfd : List It := [.v (.t 1) T3, .v (.t 2) T3, .v (.t 3) T3, .row (.t 0) true T3 3]
abbrev qeO : List (List It) := [[.v (.t 0) T3, .row (.t 1) true T3 3]]
noncomputable def qou (n : Nat) (x : qc qfd) : Option (qw qeO) := runW tab (qG n) (qh8 n) (qa Try.f85) qfd 4 84 [.tmp 8] qeO x
noncomputable def qov (n : Nat) : Cw Try.prog := ⟨85, 4, qfd, 1, qeO, qou n, fun _ _ h => q9 (B := tab) (cs := qG n) (lo := qh8 n) (rs := [.tmp 8]) Try.func85 (by kernel_rfl) qot (by kernel_rfl) (by decide) (qh qos (all_cons (fun st r h => qm0 n st r h) qe)) h⟩
noncomputable def qq (n : Nat) : CL Try.prog := ⟨[qhE n], [], 0⟩
noncomputable def qjf (n : Nat) : Nat → St → PT (DEx × St) := fun _ _ => .fail
abbrev qcO : List It := [.v (.t 1) T3, .v (.t 10) T3, .v (.t 11) T3, .row (.t 0) true T3 3]
abbrev qet : List (DEx × List It) := [(.exit 8, [.v (.t 1) T3, .v (.t 10) T3, .v (.t 11) T3, .row (.t 0) true T3 3])]
noncomputable def qqo (n : Nat) (rec : qc qcO → Option (qf qet)) (s : qc qcO) : Option (qf qet) := (qj tab (qq n) (qjf n) (subC [true, true, true, true, true, true, true, true, true, false, false, false, false, true, false, false, false] (qa Try.f86)) 5 (mkS qcO 168 s)).run (Lp.leaf 168 qcO qet rec)
noncomputable def qgG (n : Nat) : Lp := ⟨168, qcO, qet, qg n (qqo n)⟩
theorem qqp : qd (subC [true, true, true, true, true, true, true, true, true, false, false, false, false, true, false, false, false] (qa Try.f86)) 5 = [] := by kernel_rfl
theorem qoZ (n : Nat) (st : St) (r : DEx × St) (h : ((qgG n).go st).Is r) : DA Try.prog false (.loop (subC [true, true, true, true, true, true, true, true, true, false, false, false, false, true, false, false, false] (qa Try.f86))) st r := Lp.ok (L := qgG n) (B := tab) (cs := qq n) (lo := qjf n) (id := 4) rfl (qh qqp qe) (fun _ _ => rfl) h
noncomputable def qjg (n : Nat) : Nat → St → PT (DEx × St) := fun _ _ => .fail
abbrev qcP : List It := [.v (.t 1) T3, .v (.t 10) T3, .v (.t 11) T3, .row (.t 0) true T3 3]
abbrev qeu : List (DEx × List It) := [(.exit 6, [.v (.t 1) T3, .v (.t 10) T3, .v (.t 11) T3, .row (.t 0) true T3 3])]
noncomputable def qqq (n : Nat) (rec : qc qcP → Option (qf qeu)) (s : qc qcP) : Option (qf qeu) := (qj tab (qq n) (qjg n) (subC [true, true, true, true, true, true, true, true, true, false, false, false, false, false, false, false] (qa Try.f86)) 4 (mkS qcP 168 s)).run (Lp.leaf 168 qcP qeu rec)
noncomputable def qgH (n : Nat) : Lp := ⟨168, qcP, qeu, qg n (qqq n)⟩
theorem qqr : qd (subC [true, true, true, true, true, true, true, true, true, false, false, false, false, false, false, false] (qa Try.f86)) 4 = [] := by kernel_rfl
theorem qo0 (n : Nat) (st : St) (r : DEx × St) (h : ((qgH n).go st).Is r) : DA Try.prog false (.loop (subC [true, true, true, true, true, true, true, true, true, false, false, false, false, false, false, false] (qa Try.f86))) st r := Lp.ok (L := qgH n) (B := tab) (cs := qq n) (lo := qjg n) (id := 3) rfl (qh qqr qe) (fun _ _ => rfl) h
noncomputable def qjh (n : Nat) : Nat → St → PT (DEx × St) := fun k st => match k with
  | 3 => (qgH n).go st
  | 4 => (qgG n).go st
  | _ => .fail
abbrev qcQ : List It := [.v (.t 1) T3, .v (.t 10) T3, .v (.t 11) T3, .row (.t 0) true T3 3]
abbrev qev : List (DEx × List It) := [(.exit 4, [.v (.t 1) T3, .v (.t 11) T3, .row (.t 0) true T3 3])]
noncomputable def qqs (n : Nat) (rec : qc qcQ → Option (qf qev)) (s : qc qcQ) : Option (qf qev) := (qj tab (qq n) (qjh n) (subC [true, true, true, true, true, true, true, true, true, false, false, false] (qa Try.f86)) 3 (mkS qcQ 168 s)).run (Lp.leaf 168 qcQ qev rec)
noncomputable def qgI (n : Nat) : Lp := ⟨168, qcQ, qev, qg n (qqs n)⟩
theorem qqt : qd (subC [true, true, true, true, true, true, true, true, true, false, false, false] (qa Try.f86)) 3 = [(3, .loop (subC [true, true, true, true, true, true, true, true, true, false, false, false, false, false, false, false] (qa Try.f86))), (4, .loop (subC [true, true, true, true, true, true, true, true, true, false, false, false, false, true, false, false, false] (qa Try.f86)))] := by kernel_rfl
theorem qo1 (n : Nat) (st : St) (r : DEx × St) (h : ((qgI n).go st).Is r) : DA Try.prog false (.loop (subC [true, true, true, true, true, true, true, true, true, false, false, false] (qa Try.f86))) st r := Lp.ok (L := qgI n) (B := tab) (cs := qq n) (lo := qjh n) (id := 2) rfl (qh qqt (all_cons (fun st r h => qo0 n st r h) (all_cons (fun st r h => qoZ n st r h) qe))) (fun _ _ => rfl) h
noncomputable def qji (n : Nat) : Nat → St → PT (DEx × St) := fun _ _ => .fail
abbrev qcR : List It := [.v (.t 1) T3, .v (.t 10) T3, .v (.t 11) T3, .row (.t 0) true T3 3]
abbrev qew : List (DEx × List It) := [(.exit 2, [.v (.t 1) T3, .v (.t 10) T3, .v (.t 11) T3, .row (.t 0) true T3 3])]
noncomputable def qqu (n : Nat) (rec : qc qcR → Option (qf qew)) (s : qc qcR) : Option (qf qew) := (qj tab (qq n) (qji n) (subC [true, true, true, true, false, false, false] (qa Try.f86)) 2 (mkS qcR 168 s)).run (Lp.leaf 168 qcR qew rec)
noncomputable def qgJ (n : Nat) : Lp := ⟨168, qcR, qew, qg n (qqu n)⟩
theorem qqv : qd (subC [true, true, true, true, false, false, false] (qa Try.f86)) 2 = [] := by kernel_rfl
theorem qo2 (n : Nat) (st : St) (r : DEx × St) (h : ((qgJ n).go st).Is r) : DA Try.prog false (.loop (subC [true, true, true, true, false, false, false] (qa Try.f86))) st r := Lp.ok (L := qgJ n) (B := tab) (cs := qq n) (lo := qji n) (id := 1) rfl (qh qqv qe) (fun _ _ => rfl) h
noncomputable def qjj (n : Nat) : Nat → St → PT (DEx × St) := fun _ _ => .fail
abbrev qcS : List It := [.v (.t 1) T3, .v (.t 10) T3, .v (.t 11) T3, .row (.t 0) true T3 3]
abbrev qex : List (DEx × List It) := [(.exit 0, [.v (.t 1) T3, .v (.t 10) T3, .v (.t 11) T3, .row (.t 0) true T3 3])]
noncomputable def qqw (n : Nat) (rec : qc qcS → Option (qf qex)) (s : qc qcS) : Option (qf qex) := (qj tab (qq n) (qjj n) (subC [true, true, true, false, false, false] (qa Try.f86)) 1 (mkS qcS 168 s)).run (Lp.leaf 168 qcS qex rec)
noncomputable def qgK (n : Nat) : Lp := ⟨168, qcS, qex, qg n (qqw n)⟩
theorem qqx : qd (subC [true, true, true, false, false, false] (qa Try.f86)) 1 = [] := by kernel_rfl
theorem qo3 (n : Nat) (st : St) (r : DEx × St) (h : ((qgK n).go st).Is r) : DA Try.prog false (.loop (subC [true, true, true, false, false, false] (qa Try.f86))) st r := Lp.ok (L := qgK n) (B := tab) (cs := qq n) (lo := qjj n) (id := 0) rfl (qh qqx qe) (fun _ _ => rfl) h
noncomputable def qjV (n : Nat) : Nat → St → PT (DEx × St) := fun k st => match k with
  | 0 => (qgK n).go st
  | 1 => (qgJ n).go st
  | 2 => (qgI n).go st
  | _ => .fail
theorem qqX : qd (qa Try.f86) 0 = [(0, .loop (subC [true, true, true, false, false, false] (qa Try.f86))), (1, .loop (subC [true, true, true, true, false, false, false] (qa Try.f86))), (2, .loop (subC [true, true, true, true, true, true, true, true, true, false, false, false] (qa Try.f86)))] := by kernel_rfl
theorem qqY : Try.f86.body = some (qa Try.f86) := by kernel_rfl
abbrev qgL : List It := [.v (.t 1) T3, .v (.t 2) T3, .v (.t 3) T3, .row (.t 0) true T3 3]
abbrev qgn : List (List It) := [[.v (.t 0) T3, .v (.t 1) T4, .row (.t 2) true T3 3]]
noncomputable def qqZ (n : Nat) (x : qc qgL) : Option (qw qgn) := runW tab (qq n) (qjV n) (qa Try.f86) qgL 4 168 [.tmp 8, .tmp 9] qgn x
noncomputable def qq0 (n : Nat) : Cw Try.prog := ⟨86, 4, qgL, 2, qgn, qqZ n, fun _ _ h => q9 (B := tab) (cs := qq n) (lo := qjV n) (rs := [.tmp 8, .tmp 9]) Try.func86 (by kernel_rfl) qqY (by kernel_rfl) (by decide) (qh qqX (all_cons (fun st r h => qo3 n st r h) (all_cons (fun st r h => qo2 n st r h) (all_cons (fun st r h => qo1 n st r h) qe)))) h⟩
noncomputable def qvG (n : Nat) : CL Try.prog := ⟨[], [], 0⟩
noncomputable def qvH (n : Nat) : Nat → St → PT (DEx × St) := fun _ _ => .fail
theorem qB1 : qd (qa Try.f36) 0 = [] := by kernel_rfl
theorem qB2 : Try.f36.body = some (qa Try.f36) := by kernel_rfl
abbrev qr6 : List Ar := [.d T3, .d T3, .d T3]
abbrev qr7 : List Ty := [T4]
noncomputable def qwE (n : Nat) (x : qy qr6) : Option (qk qr7) := (qj tab (qvG n) (qvH n) (qa Try.f36) 0 (qH qr6 15 x)).run (qbX tab [.tmp 6] qr7)
noncomputable def qi6 (n : Nat) : Ct Try.prog := ⟨36, qr6, .ts qr7, qwE n, fun _ _ h => qb1 (B := tab) (cs := qvG n) (lo := qvH n) (rs := [.tmp 6]) Try.func36 (by kernel_rfl) qB2 (by kernel_rfl) (by decide) (qh qB1 qe) h⟩
noncomputable def qty (n : Nat) : CL Try.prog := ⟨[qi6 n], [], 0⟩
noncomputable def qtz (n : Nat) : Nat → St → PT (DEx × St) := fun _ _ => .fail
theorem qAB : qd (qa Try.f50) 0 = [] := by kernel_rfl
theorem qAC : Try.f50.body = some (qa Try.f50) := by kernel_rfl
abbrev qpM : List Ar := [.d T69, .d T3]
abbrev qpN : List Ty := [T4]
noncomputable def quw (n : Nat) (x : qy qpM) : Option (qk qpN) := (qj tab (qty n) (qtz n) (qa Try.f50) 0 (qH qpM 12 x)).run (qbX tab [.tmp 4] qpN)
noncomputable def qux (n : Nat) : Ct Try.prog := ⟨50, qpM, .ts qpN, quw n, fun _ _ h => qb1 (B := tab) (cs := qty n) (lo := qtz n) (rs := [.tmp 4]) Try.func50 (by kernel_rfl) qAC (by kernel_rfl) (by decide) (qh qAB qe) h⟩
noncomputable def qrG (n : Nat) : CL Try.prog := ⟨[qi6 n], [], 0⟩
noncomputable def qrH (n : Nat) : Nat → St → PT (DEx × St) := fun _ _ => .fail
theorem qyX : qd (qa Try.f51) 0 = [] := by kernel_rfl
theorem qyY : Try.f51.body = some (qa Try.f51) := by kernel_rfl
abbrev qnT : List Ar := [.d T69, .d T3]
abbrev qnU : List Ty := [T4]
noncomputable def qsR (n : Nat) (x : qy qnT) : Option (qk qnU) := (qj tab (qrG n) (qrH n) (qa Try.f51) 0 (qH qnT 11 x)).run (qbX tab [.tmp 4] qnU)
noncomputable def qsS (n : Nat) : Ct Try.prog := ⟨51, qnT, .ts qnU, qsR n, fun _ _ h => qb1 (B := tab) (cs := qrG n) (lo := qrH n) (rs := [.tmp 4]) Try.func51 (by kernel_rfl) qyY (by kernel_rfl) (by decide) (qh qyX qe) h⟩
noncomputable def qjG (n : Nat) : CL Try.prog := ⟨[qi6 n, qux n, qsS n], [], 0⟩
noncomputable def qq1 (n : Nat) : Nat → St → PT (DEx × St) := fun _ _ => .fail
abbrev qhu : List It := [.v (.t 5) T3, .v (.t 8) T28, .v (.t 9) T3, .v (.t 10) T3, .obj (.t 2) false 69 2, .v (.c 0 0) T69]
abbrev qjH : List (DEx × List It) := [(.exit 0, []), (.ret, [.v (.t 4) T4])]
noncomputable def qrI (n : Nat) (rec : qc qhu → Option (qf qjH)) (s : qc qhu) : Option (qf qjH) := (qj tab (qjG n) (qq1 n) (subC [true, true, false, true, false, false] (qa Try.f105)) 1 (mkS qhu 43 s)).run (Lp.leaf 43 qhu qjH rec)
noncomputable def qnb (n : Nat) : Lp := ⟨43, qhu, qjH, qg n (qrI n)⟩
theorem qyq : qd (subC [true, true, false, true, false, false] (qa Try.f105)) 1 = [] := by kernel_rfl
theorem qv3 (n : Nat) (st : St) (r : DEx × St) (h : ((qnb n).go st).Is r) : DA Try.prog false (.loop (subC [true, true, false, true, false, false] (qa Try.f105))) st r := Lp.ok (L := qnb n) (B := tab) (cs := qjG n) (lo := qq1 n) (id := 0) rfl (qh qyq qe) (fun _ _ => rfl) h
noncomputable def qrJ (n : Nat) : Nat → St → PT (DEx × St) := fun k st => match k with
  | 0 => (qnb n).go st
  | _ => .fail
theorem qyZ : qd (qa Try.f105) 0 = [(0, .loop (subC [true, true, false, true, false, false] (qa Try.f105)))] := by kernel_rfl
theorem qy0 : Try.f105.body = some (qa Try.f105) := by kernel_rfl
abbrev qnV : List Ar := [.d T69, .d T28]
abbrev qnW : List Ty := [T4]
noncomputable def qsT (n : Nat) (x : qy qnV) : Option (qk qnW) := (qj tab (qjG n) (qrJ n) (qa Try.f105) 0 (qH qnV 43 x)).run (qbX tab [.tmp 4] qnW)
noncomputable def qy1 (n : Nat) : Ct Try.prog := ⟨105, qnV, .ts qnW, qsT n, fun _ _ h => qb1 (B := tab) (cs := qjG n) (lo := qrJ n) (rs := [.tmp 4]) Try.func105 (by kernel_rfl) qy0 (by kernel_rfl) (by decide) (qh qyZ (all_cons (fun st r h => qv3 n st r h) qe)) h⟩
noncomputable def qqb (n : Nat) : CL Try.prog := ⟨[qi6 n, qy1 n], [], 0⟩
noncomputable def qqc (n : Nat) : Nat → St → PT (DEx × St) := fun _ _ => .fail
theorem qxI : qd (qa Try.f92) 0 = [] := by kernel_rfl
theorem qxJ : Try.f92.body = some (qa Try.f92) := by kernel_rfl
abbrev qmy : List Ar := [.d T69, .d T30]
abbrev qmz : List Ty := [T4]
noncomputable def qq2 (n : Nat) (x : qy qmy) : Option (qk qmz) := (qj tab (qqb n) (qqc n) (qa Try.f92) 0 (qH qmy 49 x)).run (qbX tab [.tmp 4] qmz)
noncomputable def qxK (n : Nat) : Ct Try.prog := ⟨92, qmy, .ts qmz, qq2 n, fun _ _ h => qb1 (B := tab) (cs := qqb n) (lo := qqc n) (rs := [.tmp 4]) Try.func92 (by kernel_rfl) qxJ (by kernel_rfl) (by decide) (qh qxI qe) h⟩
noncomputable def qpB (n : Nat) : CL Try.prog := ⟨[], [], 0⟩
noncomputable def qwF (n : Nat) : Nat → St → PT (DEx × St) := fun _ _ => .fail
abbrev qm1 : List It := [.v (.t 3) T3, .v (.t 6) T32, .v (.t 7) T3, .v (.t 8) T3]
abbrev qpC : List (DEx × List It) := [(.exit 0, [.v (.t 3) T3]), (.ret, [.v (.t 2) T3])]
noncomputable def qyb (n : Nat) (rec : qc qm1 → Option (qf qpC)) (s : qc qm1) : Option (qf qpC) := (qj tab (qpB n) (qwF n) (subC [true, true, false, true, false, false] (qa Try.f76)) 1 (mkS qm1 18 s)).run (Lp.leaf 18 qm1 qpC rec)
noncomputable def qti (n : Nat) : Lp := ⟨18, qm1, qpC, qg n (qyb n)⟩
theorem qCZ : qd (subC [true, true, false, true, false, false] (qa Try.f76)) 1 = [] := by kernel_rfl
theorem qAD (n : Nat) (st : St) (r : DEx × St) (h : ((qti n).go st).Is r) : DA Try.prog false (.loop (subC [true, true, false, true, false, false] (qa Try.f76))) st r := Lp.ok (L := qti n) (B := tab) (cs := qpB n) (lo := qwF n) (id := 0) rfl (qh qCZ qe) (fun _ _ => rfl) h
noncomputable def qyc (n : Nat) : Nat → St → PT (DEx × St) := fun k st => match k with
  | 0 => (qti n).go st
  | _ => .fail
theorem qDV : qd (qa Try.f76) 0 = [(0, .loop (subC [true, true, false, true, false, false] (qa Try.f76)))] := by kernel_rfl
theorem qDW : Try.f76.body = some (qa Try.f76) := by kernel_rfl
abbrev quy : List Ar := [.d T32]
abbrev quz : List Ty := [T3]
noncomputable def qy2 (n : Nat) (x : qy quy) : Option (qk quz) := (qj tab (qpB n) (qyc n) (qa Try.f76) 0 (qH quy 18 x)).run (qbX tab [.tmp 2] quz)
noncomputable def quA (n : Nat) : Ct Try.prog := ⟨76, quy, .ts quz, qy2 n, fun _ _ h => qb1 (B := tab) (cs := qpB n) (lo := qyc n) (rs := [.tmp 2]) Try.func76 (by kernel_rfl) qDW (by kernel_rfl) (by decide) (qh qDV (all_cons (fun st r h => qAD n st r h) qe)) h⟩
noncomputable def qpD (n : Nat) : CL Try.prog := ⟨[], [], 0⟩
noncomputable def qwG (n : Nat) : Nat → St → PT (DEx × St) := fun _ _ => .fail
abbrev qm2 : List It := [.v (.t 0) T25, .v (.t 5) T25, .v (.t 6) T3, .v (.t 7) T3]
abbrev qpE : List (DEx × List It) := [(.exit 0, []), (.ret, [.v (.t 2) T4])]
noncomputable def qyd (n : Nat) (rec : qc qm2 → Option (qf qpE)) (s : qc qm2) : Option (qf qpE) := (qj tab (qpD n) (qwG n) (subC [true, false, true, false, false] (qa Try.f40)) 1 (mkS qm2 37 s)).run (Lp.leaf 37 qm2 qpE rec)
noncomputable def qtj (n : Nat) : Lp := ⟨37, qm2, qpE, qg n (qyd n)⟩
theorem qC0 : qd (subC [true, false, true, false, false] (qa Try.f40)) 1 = [] := by kernel_rfl
theorem qAE (n : Nat) (st : St) (r : DEx × St) (h : ((qtj n).go st).Is r) : DA Try.prog false (.loop (subC [true, false, true, false, false] (qa Try.f40))) st r := Lp.ok (L := qtj n) (B := tab) (cs := qpD n) (lo := qwG n) (id := 0) rfl (qh qC0 qe) (fun _ _ => rfl) h
noncomputable def qye (n : Nat) : Nat → St → PT (DEx × St) := fun k st => match k with
  | 0 => (qtj n).go st
  | _ => .fail
theorem qDX : qd (qa Try.f40) 0 = [(0, .loop (subC [true, false, true, false, false] (qa Try.f40)))] := by kernel_rfl
theorem qDY : Try.f40.body = some (qa Try.f40) := by kernel_rfl
abbrev quB : List Ar := [.d T25]
abbrev quC : List Ty := [T4]
noncomputable def qy3 (n : Nat) (x : qy quB) : Option (qk quC) := (qj tab (qpD n) (qye n) (qa Try.f40) 0 (qH quB 37 x)).run (qbX tab [.tmp 2] quC)
noncomputable def qDZ (n : Nat) : Ct Try.prog := ⟨40, quB, .ts quC, qy3 n, fun _ _ h => qb1 (B := tab) (cs := qpD n) (lo := qye n) (rs := [.tmp 2]) Try.func40 (by kernel_rfl) qDY (by kernel_rfl) (by decide) (qh qDX (all_cons (fun st r h => qAE n st r h) qe)) h⟩
noncomputable def qhq (n : Nat) : CL Try.prog := ⟨[], [], 0⟩
noncomputable def qnX (n : Nat) : Nat → St → PT (DEx × St) := fun _ _ => .fail
abbrev qfD : List It := [.v (.t 1) T32, .v (.t 6) T3, .row (.t 5) false T30 30]
abbrev qhr : List (DEx × List It) := [(.exit 0, [.row (.t 5) false T30 30])]
noncomputable def qoE (n : Nat) (rec : qc qfD → Option (qf qhr)) (s : qc qfD) : Option (qf qhr) := (qj tab (qhq n) (qnX n) (subC [true, true, false, true, false, false] (qa Try.f11)) 1 (mkS qfD 25 s)).run (Lp.leaf 25 qfD qhr rec)
noncomputable def qj0 (n : Nat) : Lp := ⟨25, qfD, qhr, qg n (qoE n)⟩
theorem qu8 : qd (subC [true, true, false, true, false, false] (qa Try.f11)) 1 = [] := by kernel_rfl
theorem qtk (n : Nat) (st : St) (r : DEx × St) (h : ((qj0 n).go st).Is r) : DA Try.prog false (.loop (subC [true, true, false, true, false, false] (qa Try.f11))) st r := Lp.ok (L := qj0 n) (B := tab) (cs := qhq n) (lo := qnX n) (id := 0) rfl (qh qu8 qe) (fun _ _ => rfl) h
noncomputable def qoF (n : Nat) : Nat → St → PT (DEx × St) := fun k st => match k with
  | 0 => (qj0 n).go st
  | _ => .fail
theorem qv4 : qd (qa Try.f11) 0 = [(0, .loop (subC [true, true, false, true, false, false] (qa Try.f11)))] := by kernel_rfl
theorem qv5 : Try.f11.body = some (qa Try.f11) := by kernel_rfl
abbrev qkG : List Ar := [.d T25, .d T32]
abbrev qkH : List Ty := [T25]
noncomputable def qpr (n : Nat) (x : qy qkG) : Option (qk qkH) := (qj tab (qhq n) (qoF n) (qa Try.f11) 0 (qH qkG 25 x)).run (qbX tab [.tmp 4] qkH)
noncomputable def qv6 (n : Nat) : Ct Try.prog := ⟨11, qkG, .ts qkH, qpr n, fun _ _ h => qb1 (B := tab) (cs := qhq n) (lo := qoF n) (rs := [.tmp 4]) Try.func11 (by kernel_rfl) qv5 (by kernel_rfl) (by decide) (qh qv4 (all_cons (fun st r h => qtk n st r h) qe)) h⟩
noncomputable def qgZ (n : Nat) : CL Try.prog := ⟨[], [], 0⟩
noncomputable def qnt (n : Nat) : Nat → St → PT (DEx × St) := fun _ _ => .fail
abbrev qfe : List It := [.v (.t 0) T32, .v (.t 1) T3, .v (.t 5) T3]
abbrev qg0 : List (DEx × List It) := [(.exit 0, []), (.ret, [.v (.t 4) T4])]
noncomputable def qnY (n : Nat) (rec : qc qfe → Option (qf qg0)) (s : qc qfe) : Option (qf qg0) := (qj tab (qgZ n) (qnt n) (subC [true, false, true, false, false] (qa Try.f15)) 1 (mkS qfe 18 s)).run (Lp.leaf 18 qfe qg0 rec)
noncomputable def qjk (n : Nat) : Lp := ⟨18, qfe, qg0, qg n (qnY n)⟩
theorem quD : qd (subC [true, false, true, false, false] (qa Try.f15)) 1 = [] := by kernel_rfl
theorem qsU (n : Nat) (st : St) (r : DEx × St) (h : ((qjk n).go st).Is r) : DA Try.prog false (.loop (subC [true, false, true, false, false] (qa Try.f15))) st r := Lp.ok (L := qjk n) (B := tab) (cs := qgZ n) (lo := qnt n) (id := 0) rfl (qh quD qe) (fun _ _ => rfl) h
noncomputable def qnZ (n : Nat) : Nat → St → PT (DEx × St) := fun k st => match k with
  | 0 => (qjk n).go st
  | _ => .fail
theorem qu9 : qd (qa Try.f15) 0 = [(0, .loop (subC [true, false, true, false, false] (qa Try.f15)))] := by kernel_rfl
theorem qva : Try.f15.body = some (qa Try.f15) := by kernel_rfl
abbrev qj1 : List Ar := [.d T32, .d T3]
abbrev qj2 : List Ty := [T4]
noncomputable def qoG (n : Nat) (x : qy qj1) : Option (qk qj2) := (qj tab (qgZ n) (qnZ n) (qa Try.f15) 0 (qH qj1 18 x)).run (qbX tab [.tmp 4] qj2)
noncomputable def qvb (n : Nat) : Ct Try.prog := ⟨15, qj1, .ts qj2, qoG n, fun _ _ h => qb1 (B := tab) (cs := qgZ n) (lo := qnZ n) (rs := [.tmp 4]) Try.func15 (by kernel_rfl) qva (by kernel_rfl) (by decide) (qh qu9 (all_cons (fun st r h => qsU n st r h) qe)) h⟩
noncomputable def qg1 (n : Nat) : CL Try.prog := ⟨[], [], 0⟩
noncomputable def qnu (n : Nat) : Nat → St → PT (DEx × St) := fun _ _ => .fail
abbrev qff : List It := [.v (.t 0) T32, .v (.t 1) T32, .v (.t 5) T3]
abbrev qg2 : List (DEx × List It) := [(.exit 0, []), (.ret, [.v (.t 4) T4])]
noncomputable def qn0 (n : Nat) (rec : qc qff → Option (qf qg2)) (s : qc qff) : Option (qf qg2) := (qj tab (qg1 n) (qnu n) (subC [true, true, false, true, false, false] (qa Try.f14)) 1 (mkS qff 26 s)).run (Lp.leaf 26 qff qg2 rec)
noncomputable def qjl (n : Nat) : Lp := ⟨26, qff, qg2, qg n (qn0 n)⟩
theorem quE : qd (subC [true, true, false, true, false, false] (qa Try.f14)) 1 = [] := by kernel_rfl
theorem qsV (n : Nat) (st : St) (r : DEx × St) (h : ((qjl n).go st).Is r) : DA Try.prog false (.loop (subC [true, true, false, true, false, false] (qa Try.f14))) st r := Lp.ok (L := qjl n) (B := tab) (cs := qg1 n) (lo := qnu n) (id := 0) rfl (qh quE qe) (fun _ _ => rfl) h
noncomputable def qn1 (n : Nat) : Nat → St → PT (DEx × St) := fun k st => match k with
  | 0 => (qjl n).go st
  | _ => .fail
theorem qvc : qd (qa Try.f14) 0 = [(0, .loop (subC [true, true, false, true, false, false] (qa Try.f14)))] := by kernel_rfl
theorem qvd : Try.f14.body = some (qa Try.f14) := by kernel_rfl
abbrev qj3 : List Ar := [.d T32, .d T32]
abbrev qj4 : List Ty := [T4]
noncomputable def qoH (n : Nat) (x : qy qj3) : Option (qk qj4) := (qj tab (qg1 n) (qn1 n) (qa Try.f14) 0 (qH qj3 26 x)).run (qbX tab [.tmp 4] qj4)
noncomputable def qoI (n : Nat) : Ct Try.prog := ⟨14, qj3, .ts qj4, qoH n, fun _ _ h => qb1 (B := tab) (cs := qg1 n) (lo := qn1 n) (rs := [.tmp 4]) Try.func14 (by kernel_rfl) qvd (by kernel_rfl) (by decide) (qh qvc (all_cons (fun st r h => qsV n st r h) qe)) h⟩
noncomputable def qjI (n : Nat) : CL Try.prog := ⟨[], [], 0⟩
noncomputable def qq3 (n : Nat) : Nat → St → PT (DEx × St) := fun _ _ => .fail
abbrev qhv : List It := [.v (.t 1) T25, .v (.t 5) T3, .obj (.t 2) false 24 2, .v (.c 0 0) T24]
abbrev qjJ : List (DEx × List It) := [(.exit 0, [.v (.t 1) T25, .obj (.t 2) false 24 2, .v (.c 0 0) T24]), (.ret, [.v (.t 4) T4])]
noncomputable def qrK (n : Nat) (rec : qc qhv → Option (qf qjJ)) (s : qc qhv) : Option (qf qjJ) := (qj tab (qjI n) (qq3 n) (subC [true, false, true, false, false] (qa Try.f24)) 1 (mkS qhv 38 s)).run (Lp.leaf 38 qhv qjJ rec)
noncomputable def qnc (n : Nat) : Lp := ⟨38, qhv, qjJ, qg n (qrK n)⟩
theorem qyr : qd (subC [true, false, true, false, false] (qa Try.f24)) 1 = [] := by kernel_rfl
theorem qv7 (n : Nat) (st : St) (r : DEx × St) (h : ((qnc n).go st).Is r) : DA Try.prog false (.loop (subC [true, false, true, false, false] (qa Try.f24))) st r := Lp.ok (L := qnc n) (B := tab) (cs := qjI n) (lo := qq3 n) (id := 0) rfl (qh qyr qe) (fun _ _ => rfl) h
noncomputable def qrL (n : Nat) : Nat → St → PT (DEx × St) := fun k st => match k with
  | 0 => (qnc n).go st
  | _ => .fail
theorem qy4 : qd (qa Try.f24) 0 = [(0, .loop (subC [true, false, true, false, false] (qa Try.f24)))] := by kernel_rfl
theorem qy5 : Try.f24.body = some (qa Try.f24) := by kernel_rfl
abbrev qn2 : List Ar := [.d T24, .d T25]
abbrev qn3 : List Ty := [T4]
noncomputable def qsW (n : Nat) (x : qy qn2) : Option (qk qn3) := (qj tab (qjI n) (qrL n) (qa Try.f24) 0 (qH qn2 38 x)).run (qbX tab [.tmp 4] qn3)
noncomputable def qy6 (n : Nat) : Ct Try.prog := ⟨24, qn2, .ts qn3, qsW n, fun _ _ h => qb1 (B := tab) (cs := qjI n) (lo := qrL n) (rs := [.tmp 4]) Try.func24 (by kernel_rfl) qy5 (by kernel_rfl) (by decide) (qh qy4 (all_cons (fun st r h => qv7 n st r h) qe)) h⟩
noncomputable def qqd (n : Nat) : CL Try.prog := ⟨[qy6 n, qxH n], [], 0⟩
noncomputable def qqe (n : Nat) : Nat → St → PT (DEx × St) := fun _ _ => .fail
theorem qxL : qd (qa Try.f9) 0 = [] := by kernel_rfl
theorem qxM : Try.f9.body = some (qa Try.f9) := by kernel_rfl
abbrev qmA : List Ar := [.d T24, .d T25]
abbrev qmB : List Ty := [T4]
noncomputable def qq4 (n : Nat) (x : qy qmA) : Option (qk qmB) := (qj tab (qqd n) (qqe n) (qa Try.f9) 0 (qH qmA 20 x)).run (qbX tab [.tmp 4] qmB)
noncomputable def qxN (n : Nat) : Ct Try.prog := ⟨9, qmA, .ts qmB, qq4 n, fun _ _ h => qb1 (B := tab) (cs := qqd n) (lo := qqe n) (rs := [.tmp 4]) Try.func9 (by kernel_rfl) qxM (by kernel_rfl) (by decide) (qh qxL qe) h⟩
noncomputable def qoJ (n : Nat) : CL Try.prog := ⟨[], [], 0⟩
noncomputable def qoK (n : Nat) : Nat → St → PT (DEx × St) := fun _ _ => .fail
theorem qv8 : qd (qa Try.f30) 0 = [] := by kernel_rfl
theorem qv9 : Try.f30.body = some (qa Try.f30) := by kernel_rfl
abbrev qkI : List Ar := []
abbrev qkJ : List Ty := [T24, T25]
noncomputable def qps (n : Nat) (x : qy qkI) : Option (qk qkJ) := (qj tab (qoJ n) (qoK n) (qa Try.f30) 0 (qH qkI 27 x)).run (qbX tab [.cell 0 24, .tmp 1] qkJ)
noncomputable def qwa (n : Nat) : Ct Try.prog := ⟨30, qkI, .ts qkJ, qps n, fun _ _ h => qb1 (B := tab) (cs := qoJ n) (lo := qoK n) (rs := [.cell 0 24, .tmp 1]) Try.func30 (by kernel_rfl) qv9 (by kernel_rfl) (by decide) (qh qv8 qe) h⟩
end Go.Proofs.Ytcjgodgpaokbnaa
