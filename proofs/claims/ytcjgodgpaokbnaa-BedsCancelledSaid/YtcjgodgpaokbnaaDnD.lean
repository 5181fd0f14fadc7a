/- Printed: what functions of the program compute. -/
import Derived.Test.YtcjgodgpaokbnaaDnC
namespace Go.Proofs.Ytcjgodgpaokbnaa
set_option linter.constructorNameAsVariable false
set_option linter.unusedSimpArgs false
set_option linter.unusedVariables false
set_option linter.unusedSectionVars false
open Go Go.Proofs Go.RowKit
set_option maxRecDepth 20000
noncomputable def qkr (n : Nat) : CL Try.prog := ⟨[], [], 0⟩
noncomputable def qks (n : Nat) : Nat → St → PT (DEx × St) := fun _ _ => .fail
theorem qrz : qd (qa Try.f93) 0 = [] := by kernel_rfl
theorem qrA : Try.f93.body = some (qa Try.f93) := by kernel_rfl
abbrev qg3 : List It := [.raw (.t 0), .v (.t 1) T3]
abbrev qgM : List (List It) := [[.row (.t 0) false T30 30]]
noncomputable def qm (n : Nat) (x : qc qg3) : Option (qw qgM) := runW tab (qkr n) (qks n) (qa Try.f93) qg3 2 27 [.tmp 4] qgM x
noncomputable def qrB (n : Nat) : Cw Try.prog := ⟨93, 2, qg3, 1, qgM, qm n, fun _ _ h => q9 (B := tab) (cs := qkr n) (lo := qks n) (rs := [.tmp 4]) Try.func93 (by kernel_rfl) qrA (by kernel_rfl) (by decide) (qh qrz qe) h⟩
noncomputable def qct (n : Nat) : CL Try.prog := ⟨[], [qrB n], 1⟩
noncomputable def qk2 (n : Nat) : Nat → St → PT (DEx × St) := fun _ _ => .fail
abbrev qdQ : List It := [.v (.t 25) T83, .v (.t 26) T3, .v (.t 27) T3, .row (.t 6) false T30 30]
abbrev qfy : List (DEx × List It) := [(.exit 2, [.row (.t 6) false T30 30])]
noncomputable def qlI (n : Nat) (rec : qc qdQ → Option (qf qfy)) (s : qc qdQ) : Option (qf qfy) := (qj tab (qct n) (qk2 n) (subC [true, true, true, true, false, true, false, false] (qa Try.f58)) 2 (mkS qdQ 36 s)).run (Lp.leaf 36 qdQ qfy rec)
noncomputable def qhH (n : Nat) : Lp := ⟨36, qdQ, qfy, qg n (qlI n)⟩
theorem qsd : qd (subC [true, true, true, true, false, true, false, false] (qa Try.f58)) 2 = [] := by kernel_rfl
theorem qqy (n : Nat) (st : St) (r : DEx × St) (h : ((qhH n).go st).Is r) : DA Try.prog false (.loop (subC [true, true, true, true, false, true, false, false] (qa Try.f58))) st r := Lp.ok (L := qhH n) (B := tab) (cs := qct n) (lo := qk2 n) (id := 1) rfl (qh qsd qe) (fun _ _ => rfl) h
noncomputable def qk3 (n : Nat) : Nat → St → PT (DEx × St) := fun _ _ => .fail
abbrev qdR : List It := [.v (.t 0) T83, .v (.t 3) T3, .v (.t 9) T83, .v (.t 10) T3, .v (.t 11) T3]
abbrev qfz : List (DEx × List It) := [(.exit 0, [.v (.t 0) T83, .v (.t 3) T3])]
noncomputable def qlJ (n : Nat) (rec : qc qdR → Option (qf qfz)) (s : qc qdR) : Option (qf qfz) := (qj tab (qct n) (qk3 n) (subC [true, true, false, true, false, false] (qa Try.f58)) 1 (mkS qdR 36 s)).run (Lp.leaf 36 qdR qfz rec)
noncomputable def qhI (n : Nat) : Lp := ⟨36, qdR, qfz, qg n (qlJ n)⟩
theorem qse : qd (subC [true, true, false, true, false, false] (qa Try.f58)) 1 = [] := by kernel_rfl
theorem qqz (n : Nat) (st : St) (r : DEx × St) (h : ((qhI n).go st).Is r) : DA Try.prog false (.loop (subC [true, true, false, true, false, false] (qa Try.f58))) st r := Lp.ok (L := qhI n) (B := tab) (cs := qct n) (lo := qk3 n) (id := 0) rfl (qh qse qe) (fun _ _ => rfl) h
noncomputable def qlK (n : Nat) : Nat → St → PT (DEx × St) := fun k st => match k with
  | 0 => (qhI n).go st
  | 1 => (qhH n).go st
  | _ => .fail
theorem qs3 : qd (qa Try.f58) 0 = [(0, .loop (subC [true, true, false, true, false, false] (qa Try.f58))), (1, .loop (subC [true, true, true, true, false, true, false, false] (qa Try.f58)))] := by kernel_rfl
theorem qs4 : Try.f58.body = some (qa Try.f58) := by kernel_rfl
abbrev qhJ : List It := [.v (.t 0) T83]
abbrev qhh : List (List It) := [[.row (.t 0) false T30 30]]
noncomputable def qmc (n : Nat) (x : qc qhJ) : Option (qw qhh) := runW tab (qct n) (qlK n) (qa Try.f58) qhJ 1 36 [.tmp 2] qhh x
noncomputable def qs5 (n : Nat) : Cw Try.prog := ⟨58, 1, qhJ, 1, qhh, qmc n, fun _ _ h => q9 (B := tab) (cs := qct n) (lo := qlK n) (rs := [.tmp 2]) Try.func58 (by kernel_rfl) qs4 (by kernel_rfl) (by decide) (qh qs3 (all_cons (fun st r h => qqz n st r h) (all_cons (fun st r h => qqy n st r h) qe))) h⟩
noncomputable def quK (n : Nat) : CL Try.prog := ⟨[qzO n], [], 0⟩
noncomputable def quL (n : Nat) : Nat → St → PT (DEx × St) := fun _ _ => .fail
theorem qBr : qd (qa Try.f55) 0 = [] := by kernel_rfl
theorem qBs : Try.f55.body = some (qa Try.f55) := by kernel_rfl
abbrev qq7 : List Ar := [.d T100]
abbrev qq8 : List Ty := [T3]
noncomputable def qvP (n : Nat) (x : qy qq7) : Option (qk qq8) := (qj tab (quK n) (quL n) (qa Try.f55) 0 (qH qq7 8 x)).run (qbX tab [.tmp 2] qq8)
noncomputable def qq9 (n : Nat) : Ct Try.prog := ⟨55, qq7, .ts qq8, qvP n, fun _ _ h => qb1 (B := tab) (cs := quK n) (lo := quL n) (rs := [.tmp 2]) Try.func55 (by kernel_rfl) qBs (by kernel_rfl) (by decide) (qh qBr qe) h⟩
noncomputable def qbl (n : Nat) : CL Try.prog := ⟨[qow n], [qee n, qeg n], 0⟩
noncomputable def qeE (n : Nat) : Nat → St → PT (DEx × St) := fun _ _ => .fail
abbrev qL : List It := [.v (.t 1) T3, .v (.t 2) T3, .v (.t 3) T3, .fn (.t 4) 60 [] [], .v (.t 10) T4, .v (.t 11) T4, .row (.t 0) true T30 30]
abbrev qbm : List (DEx × List It) := [(.ret, [.row (.t 0) true T30 30])]
noncomputable def qeS (n : Nat) (rec : qc qL → Option (qf qbm)) (s : qc qL) : Option (qf qbm) := (qj tab (qbl n) (qeE n) (subC [true, true, false, false] (qa Try.f94)) 1 (mkS qL 148 s)).run (Lp.leaf 148 qL qbm rec)
noncomputable def qcu (n : Nat) : Lp := ⟨148, qL, qbm, qg n (qeS n)⟩
theorem qi8 : qd (subC [true, true, false, false] (qa Try.f94)) 1 = [] := by kernel_rfl
theorem qix (n : Nat) (st : St) (r : DEx × St) (h : ((qcu n).go st).Is r) : DA Try.prog false (.loop (subC [true, true, false, false] (qa Try.f94))) st r := Lp.ok (L := qcu n) (B := tab) (cs := qbl n) (lo := qeE n) (id := 0) rfl (qh qi8 qe) (fun _ _ => rfl) h
noncomputable def qeT (n : Nat) : Nat → St → PT (DEx × St) := fun k st => match k with
  | 0 => (qcu n).go st
  | _ => .fail
theorem qjo : qd (qa Try.f94) 0 = [(0, .loop (subC [true, true, false, false] (qa Try.f94)))] := by kernel_rfl
theorem qjp : Try.f94.body = some (qa Try.f94) := by kernel_rfl
abbrev qcv : List It := [.v (.t 1) T3, .v (.t 2) T3, .v (.t 3) T3, .fn (.t 4) 60 [] [], .row (.t 0) true T30 30]
abbrev qcm : List (List It) := [[.row (.t 0) true T30 30]]
noncomputable def qfi (n : Nat) (x : qc qcv) : Option (qw qcm) := runW tab (qbl n) (qeT n) (qa Try.f94) qcv 5 148 [] qcm x
noncomputable def qcF (n : Nat) : Cw Try.prog := ⟨94, 5, qcv, 0, qcm, qfi n, fun _ _ h => q9 (B := tab) (cs := qbl n) (lo := qeT n) (rs := []) Try.func94 (by kernel_rfl) qjp (by kernel_rfl) (by decide) (qh qjo (all_cons (fun st r h => qix n st r h) qe)) h⟩
noncomputable def qgh (n : Nat) : CL Try.prog := ⟨[qq9 n, qow n], [qcF n], 0⟩
noncomputable def qgi (n : Nat) : Nat → St → PT (DEx × St) := fun _ _ => .fail
theorem qlL : qd (qa Try.f59) 0 = [] := by kernel_rfl
theorem qlM : Try.f59.body = some (qa Try.f59) := by kernel_rfl
abbrev qdt : List It := [.fn (.t 1) 60 [] [], .row (.t 0) true T30 30]
abbrev qdh : List (List It) := [[.row (.t 0) true T30 30]]
noncomputable def qgw (n : Nat) (x : qc qdt) : Option (qw qdh) := runW tab (qgh n) (qgi n) (qa Try.f59) qdt 2 14 [] qdh x
noncomputable def qgx (n : Nat) : Cw Try.prog := ⟨59, 2, qdt, 0, qdh, qgw n, fun _ _ h => q9 (B := tab) (cs := qgh n) (lo := qgi n) (rs := []) Try.func59 (by kernel_rfl) qlM (by kernel_rfl) (by decide) (qh qlL qe) h⟩
noncomputable def qbn (n : Nat) : CL Try.prog := ⟨[qsa n], [qcF n, qee n, qeg n], 0⟩
noncomputable def qeF (n : Nat) : Nat → St → PT (DEx × St) := fun _ _ => .fail
abbrev qM : List It := [.v (.t 1) T3, .v (.t 2) T3, .v (.t 3) T3, .fn (.t 4) 75 [] [], .v (.t 10) T4, .v (.t 11) T4, .row (.t 0) true T30 30]
abbrev qbo : List (DEx × List It) := [(.ret, [.row (.t 0) true T30 30])]
noncomputable def qeU (n : Nat) (rec : qc qM → Option (qf qbo)) (s : qc qM) : Option (qf qbo) := (qj tab (qbn n) (qeF n) (subC [true, true, false, false] (qa Try.f94)) 1 (mkS qM 148 s)).run (Lp.leaf 148 qM qbo rec)
noncomputable def qcw (n : Nat) : Lp := ⟨148, qM, qbo, qg n (qeU n)⟩
theorem qi9 : qd (subC [true, true, false, false] (qa Try.f94)) 1 = [] := by kernel_rfl
theorem qiy (n : Nat) (st : St) (r : DEx × St) (h : ((qcw n).go st).Is r) : DA Try.prog false (.loop (subC [true, true, false, false] (qa Try.f94))) st r := Lp.ok (L := qcw n) (B := tab) (cs := qbn n) (lo := qeF n) (id := 0) rfl (qh qi9 qe) (fun _ _ => rfl) h
noncomputable def qeV (n : Nat) : Nat → St → PT (DEx × St) := fun k st => match k with
  | 0 => (qcw n).go st
  | _ => .fail
theorem qjq : qd (qa Try.f94) 0 = [(0, .loop (subC [true, true, false, false] (qa Try.f94)))] := by kernel_rfl
theorem qjr : Try.f94.body = some (qa Try.f94) := by kernel_rfl
abbrev qcx : List It := [.v (.t 1) T3, .v (.t 2) T3, .v (.t 3) T3, .fn (.t 4) 75 [] [], .row (.t 0) true T30 30]
abbrev qcn : List (List It) := [[.row (.t 0) true T30 30]]
noncomputable def qfj (n : Nat) (x : qc qcx) : Option (qw qcn) := runW tab (qbn n) (qeV n) (qa Try.f94) qcx 5 148 [] qcn x
noncomputable def qjs (n : Nat) : Cw Try.prog := ⟨94, 5, qcx, 0, qcn, qfj n, fun _ _ h => q9 (B := tab) (cs := qbn n) (lo := qeV n) (rs := []) Try.func94 (by kernel_rfl) qjr (by kernel_rfl) (by decide) (qh qjq (all_cons (fun st r h => qiy n st r h) qe)) h⟩
noncomputable def qgj (n : Nat) : CL Try.prog := ⟨[qq9 n, qsa n], [qcF n, qjs n], 0⟩
noncomputable def qgk (n : Nat) : Nat → St → PT (DEx × St) := fun _ _ => .fail
theorem qlN : qd (qa Try.f59) 0 = [] := by kernel_rfl
theorem qlO : Try.f59.body = some (qa Try.f59) := by kernel_rfl
abbrev qdu : List It := [.fn (.t 1) 75 [] [], .row (.t 0) true T30 30]
abbrev qdi : List (List It) := [[.row (.t 0) true T30 30]]
noncomputable def qgy (n : Nat) (x : qc qdu) : Option (qw qdi) := runW tab (qgj n) (qgk n) (qa Try.f59) qdu 2 14 [] qdi x
noncomputable def qgz (n : Nat) : Cw Try.prog := ⟨59, 2, qdu, 0, qdi, qgy n, fun _ _ h => q9 (B := tab) (cs := qgj n) (lo := qgk n) (rs := []) Try.func59 (by kernel_rfl) qlO (by kernel_rfl) (by decide) (qh qlN qe) h⟩
noncomputable def qz (n : Nat) : CL Try.prog := ⟨[qzV n], [], 0⟩
noncomputable def qeG (n : Nat) : Nat → St → PT (DEx × St) := fun _ _ => .fail
abbrev qN : List It := [.fn (.t 1) 62 [] [], .v (.t 5) T3, .v (.t 7) T3, .row (.t 0) true T30 30, .sub (.t 6) 0]
abbrev qbp : List (DEx × List It) := [(.exit 2, [.v (.t 5) T3, .row (.t 0) true T30 30])]
noncomputable def qeW (n : Nat) (rec : qc qN → Option (qf qbp)) (s : qc qN) : Option (qf qbp) := (qj tab (qz n) (qeG n) (subC [true, true, false, true, false, false, true, false, false, true, false, true, false, true, false, false] (qa Try.f61)) 2 (mkS qN 66 s)).run (Lp.leaf 66 qN qbp rec)
noncomputable def qcy (n : Nat) : Lp := ⟨66, qN, qbp, qg n (qeW n)⟩
theorem qja : qd (subC [true, true, false, true, false, false, true, false, false, true, false, true, false, true, false, false] (qa Try.f61)) 2 = [] := by kernel_rfl
theorem qiz (n : Nat) (st : St) (r : DEx × St) (h : ((qcy n).go st).Is r) : DA Try.prog false (.loop (subC [true, true, false, true, false, false, true, false, false, true, false, true, false, true, false, false] (qa Try.f61))) st r := Lp.ok (L := qcy n) (B := tab) (cs := qz n) (lo := qeG n) (id := 1) rfl (qh qja qe) (fun _ _ => rfl) h
noncomputable def qeH (n : Nat) : Nat → St → PT (DEx × St) := fun k st => match k with
  | 1 => (qcy n).go st
  | _ => .fail
abbrev qO : List It := [.fn (.t 1) 62 [] [], .v (.t 5) T3, .row (.t 0) true T30 30]
abbrev qbq : List (DEx × List It) := [(.exit 0, [.row (.t 0) true T30 30]), (.ret, [.row (.t 0) true T30 30, .sub (.t 4) 0])]
noncomputable def qeX (n : Nat) (rec : qc qO → Option (qf qbq)) (s : qc qO) : Option (qf qbq) := (qj tab (qz n) (qeH n) (subC [true, true, false, true, false, false] (qa Try.f61)) 1 (mkS qO 66 s)).run (Lp.leaf 66 qO qbq rec)
noncomputable def qcz (n : Nat) : Lp := ⟨66, qO, qbq, qg n (qeX n)⟩
theorem qjb : qd (subC [true, true, false, true, false, false] (qa Try.f61)) 1 = [(1, .loop (subC [true, true, false, true, false, false, true, false, false, true, false, true, false, true, false, false] (qa Try.f61)))] := by kernel_rfl
theorem qiA (n : Nat) (st : St) (r : DEx × St) (h : ((qcz n).go st).Is r) : DA Try.prog false (.loop (subC [true, true, false, true, false, false] (qa Try.f61))) st r := Lp.ok (L := qcz n) (B := tab) (cs := qz n) (lo := qeH n) (id := 0) rfl (qh qjb (all_cons (fun st r h => qiz n st r h) qe)) (fun _ _ => rfl) h
noncomputable def qeY (n : Nat) : Nat → St → PT (DEx × St) := fun k st => match k with
  | 0 => (qcz n).go st
  | _ => .fail
theorem qjt : qd (qa Try.f61) 0 = [(0, .loop (subC [true, true, false, true, false, false] (qa Try.f61)))] := by kernel_rfl
theorem qju : Try.f61.body = some (qa Try.f61) := by kernel_rfl
abbrev qcA : List It := [.fn (.t 1) 62 [] [], .row (.t 0) true T30 30]
abbrev qco : List (List It) := [[.row (.t 1) true T30 30, .sub (.t 0) 0]]
noncomputable def qfk (n : Nat) (x : qc qcA) : Option (qw qco) := runW tab (qz n) (qeY n) (qa Try.f61) qcA 2 66 [.tmp 4] qco x
noncomputable def qjv (n : Nat) : Cw Try.prog := ⟨61, 2, qcA, 1, qco, qfk n, fun _ _ h => q9 (B := tab) (cs := qz n) (lo := qeY n) (rs := [.tmp 4]) Try.func61 (by kernel_rfl) qju (by kernel_rfl) (by decide) (qh qjt (all_cons (fun st r h => qiA n st r h) qe)) h⟩
noncomputable def qbr (n : Nat) : CL Try.prog := ⟨[], [qvL n], 0⟩
noncomputable def qeZ (n : Nat) : Nat → St → PT (DEx × St) := fun _ _ => .fail
abbrev qQ : List It := [.v (.t 7) T3, .v (.t 8) T3, .row (.t 0) true T30 30, .fnc (.t 1) 72 [.box true 25 1], .v (.c 1 0) T25]
abbrev qbs : List (DEx × List It) := [(.exit 0, [.row (.t 0) true T30 30, .fnc (.t 1) 72 [.box true 25 1], .v (.c 1 0) T25]), (.ret, [.v (.t 4) T3, .row (.t 0) true T30 30, .fnc (.t 1) 72 [.box true 25 1], .v (.c 1 0) T25])]
noncomputable def qfl (n : Nat) (rec : qc qQ → Option (qf qbs)) (s : qc qQ) : Option (qf qbs) := (qj tab (qbr n) (qeZ n) (subC [true, false, true, false, false] (qa Try.f64)) 1 (mkS qQ 19 s)).run (Lp.leaf 19 qQ qbs rec)
noncomputable def qcG (n : Nat) : Lp := ⟨19, qQ, qbs, qg n (qfl n)⟩
theorem qjw : qd (subC [true, false, true, false, false] (qa Try.f64)) 1 = [] := by kernel_rfl
theorem qiM (n : Nat) (st : St) (r : DEx × St) (h : ((qcG n).go st).Is r) : DA Try.prog false (.loop (subC [true, false, true, false, false] (qa Try.f64))) st r := Lp.ok (L := qcG n) (B := tab) (cs := qbr n) (lo := qeZ n) (id := 0) rfl (qh qjw qe) (fun _ _ => rfl) h
noncomputable def qfm (n : Nat) : Nat → St → PT (DEx × St) := fun k st => match k with
  | 0 => (qcG n).go st
  | _ => .fail
theorem qjO : qd (qa Try.f64) 0 = [(0, .loop (subC [true, false, true, false, false] (qa Try.f64)))] := by kernel_rfl
theorem qjP : Try.f64.body = some (qa Try.f64) := by kernel_rfl
abbrev qcH : List It := [.row (.t 0) true T30 30, .fnc (.t 1) 72 [.box true 25 1], .v (.c 1 0) T25]
abbrev qcB : List (List It) := [[.v (.t 0) T3, .row (.t 1) true T30 30, .obj (.t 2) true 25 1, .v (.c 1 0) T25]]
noncomputable def qfr (n : Nat) (x : qc qcH) : Option (qw qcB) := runW tab (qbr n) (qfm n) (qa Try.f64) qcH 2 19 [.tmp 4] qcB x
noncomputable def qfs (n : Nat) : Cw Try.prog := ⟨64, 2, qcH, 1, qcB, qfr n, fun _ _ h => q9 (B := tab) (cs := qbr n) (lo := qfm n) (rs := [.tmp 4]) Try.func64 (by kernel_rfl) qjP (by kernel_rfl) (by decide) (qh qjO (all_cons (fun st r h => qiM n st r h) qe)) h⟩
noncomputable def qbB (n : Nat) : CL Try.prog := ⟨[], [qfs n, qc5 n, qvL n], 0⟩
noncomputable def qfG (n : Nat) : Nat → St → PT (DEx × St) := fun _ _ => .fail
abbrev qZ : List It := [.v (.t 5) T3, .v (.t 6) T3, .row (.t 0) true T30 30, .fnc (.t 1) 72 [.box true 25 1], .v (.c 1 0) T25]
abbrev qbC : List (DEx × List It) := [(.exit 0, [.v (.t 5) T3, .row (.t 0) true T30 30, .fnc (.t 1) 72 [.box true 25 1], .v (.c 1 0) T25])]
noncomputable def qfV (n : Nat) (rec : qc qZ → Option (qf qbC)) (s : qc qZ) : Option (qf qbC) := (qj tab (qbB n) (qfG n) (subC [true, true, true, false, true, false, false] (qa Try.f70)) 1 (mkS qZ 42 s)).run (Lp.leaf 42 qZ qbC rec)
noncomputable def qc6 (n : Nat) : Lp := ⟨42, qZ, qbC, qg n (qfV n)⟩
theorem qkt : qd (subC [true, true, true, false, true, false, false] (qa Try.f70)) 1 = [] := by kernel_rfl
theorem qjx (n : Nat) (st : St) (r : DEx × St) (h : ((qc6 n).go st).Is r) : DA Try.prog false (.loop (subC [true, true, true, false, true, false, false] (qa Try.f70))) st r := Lp.ok (L := qc6 n) (B := tab) (cs := qbB n) (lo := qfG n) (id := 0) rfl (qh qkt qe) (fun _ _ => rfl) h
noncomputable def qfW (n : Nat) : Nat → St → PT (DEx × St) := fun k st => match k with
  | 0 => (qc6 n).go st
  | _ => .fail
theorem qkO : qd (qa Try.f70) 0 = [(0, .loop (subC [true, true, true, false, true, false, false] (qa Try.f70)))] := by kernel_rfl
theorem qkP : Try.f70.body = some (qa Try.f70) := by kernel_rfl
abbrev qc7 : List It := [.row (.t 0) true T30 30, .fnc (.t 1) 72 [.box true 25 1], .v (.c 1 0) T25]
abbrev qcV : List (List It) := [[.row (.t 1) true T30 30, .obj (.t 2) true 25 1, .v (.c 1 0) T25, .sub (.t 0) 0]]
noncomputable def qf6 (n : Nat) (x : qc qc7) : Option (qw qcV) := runW tab (qbB n) (qfW n) (qa Try.f70) qc7 2 42 [.tmp 4] qcV x
noncomputable def qkQ (n : Nat) : Cw Try.prog := ⟨70, 2, qc7, 1, qcV, qf6 n, fun _ _ h => q9 (B := tab) (cs := qbB n) (lo := qfW n) (rs := [.tmp 4]) Try.func70 (by kernel_rfl) qkP (by kernel_rfl) (by decide) (qh qkO (all_cons (fun st r h => qjx n st r h) qe)) h⟩
noncomputable def qe2 (n : Nat) : CL Try.prog := ⟨[qhE n], [qoU n, qry n, qpL n, qpq n, ql3 n, qov n, qq0 n], 0⟩
noncomputable def qku (n : Nat) : Nat → St → PT (DEx × St) := fun _ _ => .fail
abbrev qdo : List It := [.v (.t 1) T3, .v (.t 2) T3, .v (.t 3) T3, .v (.t 8) T4, .v (.t 9) T4, .row (.t 0) true T3 3]
abbrev qe3 : List (DEx × List It) := [(.ret, [.row (.t 0) true T3 3])]
noncomputable def qk4 (n : Nat) (rec : qc qdo → Option (qf qe3)) (s : qc qdo) : Option (qf qe3) := (qj tab (qe2 n) (qku n) (subC [true, true, false, false] (qa Try.f54)) 1 (mkS qdo 134 s)).run (Lp.leaf 134 qdo qe3 rec)
noncomputable def qhi (n : Nat) : Lp := ⟨134, qdo, qe3, qg n (qk4 n)⟩
theorem qrC : qd (subC [true, true, false, false] (qa Try.f54)) 1 = [] := by kernel_rfl
theorem qpR (n : Nat) (st : St) (r : DEx × St) (h : ((qhi n).go st).Is r) : DA Try.prog false (.loop (subC [true, true, false, false] (qa Try.f54))) st r := Lp.ok (L := qhi n) (B := tab) (cs := qe2 n) (lo := qku n) (id := 0) rfl (qh qrC qe) (fun _ _ => rfl) h
noncomputable def qk5 (n : Nat) : Nat → St → PT (DEx × St) := fun k st => match k with
  | 0 => (qhi n).go st
  | _ => .fail
theorem qsf : qd (qa Try.f54) 0 = [(0, .loop (subC [true, true, false, false] (qa Try.f54)))] := by kernel_rfl
theorem qsg : Try.f54.body = some (qa Try.f54) := by kernel_rfl
abbrev qhj : List It := [.v (.t 1) T3, .v (.t 2) T3, .v (.t 3) T3, .row (.t 0) true T3 3]
abbrev qg4 : List (List It) := [[.row (.t 0) true T3 3]]
noncomputable def qlP (n : Nat) (x : qc qhj) : Option (qw qg4) := runW tab (qe2 n) (qk5 n) (qa Try.f54) qhj 4 134 [] qg4 x
noncomputable def qsh (n : Nat) : Cw Try.prog := ⟨54, 4, qhj, 0, qg4, qlP n, fun _ _ h => q9 (B := tab) (cs := qe2 n) (lo := qk5 n) (rs := []) Try.func54 (by kernel_rfl) qsg (by kernel_rfl) (by decide) (qh qsf (all_cons (fun st r h => qpR n st r h) qe)) h⟩
noncomputable def qrM (n : Nat) : CL Try.prog := ⟨[qq9 n], [qsh n], 0⟩
noncomputable def qrN (n : Nat) : Nat → St → PT (DEx × St) := fun _ _ => .fail
theorem qy7 : qd (qa Try.f33) 0 = [] := by kernel_rfl
theorem qy8 : Try.f33.body = some (qa Try.f33) := by kernel_rfl
abbrev qne : List It := [.row (.t 0) true T3 3]
abbrev qmC : List (List It) := [[.row (.t 0) true T3 3]]
noncomputable def qs6 (n : Nat) (x : qc qne) : Option (qw qmC) := runW tab (qrM n) (qrN n) (qa Try.f33) qne 1 11 [] qmC x
noncomputable def qy9 (n : Nat) : Cw Try.prog := ⟨33, 1, qne, 0, qmC, qs6 n, fun _ _ h => q9 (B := tab) (cs := qrM n) (lo := qrN n) (rs := []) Try.func33 (by kernel_rfl) qy8 (by kernel_rfl) (by decide) (qh qy7 qe) h⟩
noncomputable def qtH (n : Nat) : CL Try.prog := ⟨[], [qs5 n, qgx n, qgz n, qjv n], 1⟩
noncomputable def qtI (n : Nat) : Nat → St → PT (DEx × St) := fun _ _ => .fail
theorem qAI : qd (qa Try.f39) 0 = [] := by kernel_rfl
theorem qAJ : Try.f39.body = some (qa Try.f39) := by kernel_rfl
abbrev qo9 : List It := [.v (.t 0) T83]
abbrev qn5 : List (List It) := [[.row (.t 0) false T30 30]]
noncomputable def quM (n : Nat) (x : qc qo9) : Option (qw qn5) := runW tab (qtH n) (qtI n) (qa Try.f39) qo9 1 10 [.tmp 2] qn5 x
noncomputable def quN (n : Nat) : Cw Try.prog := ⟨39, 1, qo9, 1, qn5, quM n, fun _ _ h => q9 (B := tab) (cs := qtH n) (lo := qtI n) (rs := [.tmp 2]) Try.func39 (by kernel_rfl) qAJ (by kernel_rfl) (by decide) (qh qAI qe) h⟩
noncomputable def qnv (n : Nat) : CL Try.prog := ⟨[qxK n], [], 0⟩
noncomputable def qnw (n : Nat) : Nat → St → PT (DEx × St) := fun _ _ => .fail
theorem quO : qd (qa Try.f91) 0 = [] := by kernel_rfl
theorem quP : Try.f91.body = some (qa Try.f91) := by kernel_rfl
abbrev qiV : List It := [.v (.t 0) T30, .obj (.t 1) true 69 2, .v (.c 0 0) T69]
abbrev qiB : List (List It) := [[.v (.t 0) T4, .obj (.t 1) true 69 2, .v (.c 0 0) T69]]
noncomputable def qn6 (n : Nat) (x : qc qiV) : Option (qw qiB) := runW tab (qnv n) (qnw n) (qa Try.f91) qiV 2 8 [.tmp 3] qiB x
noncomputable def qn7 (n : Nat) : Cw Try.prog := ⟨91, 2, qiV, 1, qiB, qn6 n, fun _ _ h => q9 (B := tab) (cs := qnv n) (lo := qnw n) (rs := [.tmp 3]) Try.func91 (by kernel_rfl) quP (by kernel_rfl) (by decide) (qh quO qe) h⟩
noncomputable def q6 (n : Nat) : CL Try.prog := ⟨[], [qn7 n], 0⟩
noncomputable def qeh (n : Nat) : Nat → St → PT (DEx × St) := fun _ _ => .fail
abbrev qI : List It := [.v (.t 0) T25, .v (.t 7) T3, .v (.t 8) T3, .fnc (.t 1) 91 [.box true 69 2], .v (.c 0 0) T69]
abbrev q7 : List (DEx × List It) := [(.exit 0, [.fnc (.t 1) 91 [.box true 69 2], .v (.c 0 0) T69]), (.ret, [.v (.t 4) T3, .fnc (.t 1) 91 [.box true 69 2], .v (.c 0 0) T69])]
noncomputable def qek (n : Nat) (rec : qc qI → Option (qf q7)) (s : qc qI) : Option (qf q7) := (qj tab (q6 n) (qeh n) (subC [true, false, true, false, false] (qa Try.f64)) 1 (mkS qI 19 s)).run (Lp.leaf 19 qI q7 rec)
noncomputable def qbY (n : Nat) : Lp := ⟨19, qI, q7, qg n (qek n)⟩
theorem qif : qd (subC [true, false, true, false, false] (qa Try.f64)) 1 = [] := by kernel_rfl
theorem qhK (n : Nat) (st : St) (r : DEx × St) (h : ((qbY n).go st).Is r) : DA Try.prog false (.loop (subC [true, false, true, false, false] (qa Try.f64))) st r := Lp.ok (L := qbY n) (B := tab) (cs := q6 n) (lo := qeh n) (id := 0) rfl (qh qif qe) (fun _ _ => rfl) h
noncomputable def qel (n : Nat) : Nat → St → PT (DEx × St) := fun k st => match k with
  | 0 => (qbY n).go st
  | _ => .fail
theorem qiC : qd (qa Try.f64) 0 = [(0, .loop (subC [true, false, true, false, false] (qa Try.f64)))] := by kernel_rfl
theorem qiD : Try.f64.body = some (qa Try.f64) := by kernel_rfl
abbrev qbZ : List It := [.v (.t 0) T25, .fnc (.t 1) 91 [.box true 69 2], .v (.c 0 0) T69]
abbrev qbT : List (List It) := [[.v (.t 0) T3, .obj (.t 1) true 69 2, .v (.c 0 0) T69]]
noncomputable def qep (n : Nat) (x : qc qbZ) : Option (qw qbT) := runW tab (q6 n) (qel n) (qa Try.f64) qbZ 2 19 [.tmp 4] qbT x
noncomputable def qiE (n : Nat) : Cw Try.prog := ⟨64, 2, qbZ, 1, qbT, qep n, fun _ _ h => q9 (B := tab) (cs := q6 n) (lo := qel n) (rs := [.tmp 4]) Try.func64 (by kernel_rfl) qiD (by kernel_rfl) (by decide) (qh qiC (all_cons (fun st r h => qhK n st r h) qe)) h⟩
noncomputable def qdS (n : Nat) : CL Try.prog := ⟨[], [qfs n, qc5 n, qiE n, qn7 n], 0⟩
noncomputable def qdT (n : Nat) : Nat → St → PT (DEx × St) := fun _ _ => .fail
theorem qhU : qd (qa Try.f73) 0 = [] := by kernel_rfl
theorem qhV : Try.f73.body = some (qa Try.f73) := by kernel_rfl
abbrev qbF : List It := [.v (.t 0) T25, .fnc (.t 1) 91 [.box true 69 2], .v (.c 0 0) T69]
abbrev qbA : List (List It) := [[.v (.t 0) T4, .obj (.t 1) true 69 2, .v (.c 0 0) T69]]
noncomputable def qd7 (n : Nat) (x : qc qbF) : Option (qw qbA) := runW tab (qdS n) (qdT n) (qa Try.f73) qbF 2 9 [.tmp 4] qbA x
noncomputable def qhW (n : Nat) : Cw Try.prog := ⟨73, 2, qbF, 1, qbA, qd7 n, fun _ _ h => q9 (B := tab) (cs := qdS n) (lo := qdT n) (rs := [.tmp 4]) Try.func73 (by kernel_rfl) qhV (by kernel_rfl) (by decide) (qh qhU qe) h⟩
noncomputable def qpt (n : Nat) : CL Try.prog := ⟨[qDZ n], [quN n, qfh n, qhW n], 1⟩
noncomputable def qpu (n : Nat) : Nat → St → PT (DEx × St) := fun _ _ => .fail
theorem qwJ : qd (qa Try.f57) 0 = [] := by kernel_rfl
theorem qwK : Try.f57.body = some (qa Try.f57) := by kernel_rfl
abbrev qlQ : List Ar := [.d T69, .d T25]
abbrev qlR : List Ty := [T33]
noncomputable def qqf (n : Nat) (x : qy qlQ) : Option (qk qlR) := (qj tab (qpt n) (qpu n) (qa Try.f57) 0 (qH qlQ 19 x)).run (qbX tab [.tmp 4] qlR)
noncomputable def qwL (n : Nat) : Ct Try.prog := ⟨57, qlQ, .ts qlR, qqf n, fun _ _ h => qb1 (B := tab) (cs := qpt n) (lo := qpu n) (rs := [.tmp 4]) Try.func57 (by kernel_rfl) qwK (by kernel_rfl) (by decide) (qh qwJ qe) h⟩
noncomputable def qyf (n : Nat) : CL Try.prog := ⟨[qBq n, qwL n], [], 0⟩
noncomputable def qyg (n : Nat) : Nat → St → PT (DEx × St) := fun _ _ => .fail
theorem qD0 : qd (qa Try.f38) 0 = [] := by kernel_rfl
theorem qD1 : Try.f38.body = some (qa Try.f38) := by kernel_rfl
abbrev quQ : List Ar := [.d T24, .d T25]
abbrev quR : List Ty := [T33]
noncomputable def qza (n : Nat) (x : qy quQ) : Option (qk quR) := (qj tab (qyf n) (qyg n) (qa Try.f38) 0 (qH quQ 14 x)).run (qbX tab [.tmp 4] quR)
noncomputable def qD2 (n : Nat) : Ct Try.prog := ⟨38, quQ, .ts quR, qza n, fun _ _ h => qb1 (B := tab) (cs := qyf n) (lo := qyg n) (rs := [.tmp 4]) Try.func38 (by kernel_rfl) qD1 (by kernel_rfl) (by decide) (qh qD0 qe) h⟩
end Go.Proofs.Ytcjgodgpaokbnaa
