/- Printed: what functions of the program compute. -/
import Derived.Test.YtcjgodgpaokbnaaGreatDnT
namespace Go.Proofs.YtcjgodgpaokbnaaGreat
set_option linter.constructorNameAsVariable false
set_option linter.unusedSimpArgs false
set_option linter.unusedVariables false
set_option linter.unusedSectionVars false
open Go Go.Proofs Go.RowKit
set_option maxRecDepth 20000
noncomputable def qpr (n : Nat) : CL Tryz.prog := ⟨[], [], 0⟩
noncomputable def qps (n : Nat) : Nat → St → PT (DEx × St) := fun _ _ => .fail
theorem qxG : qd (qa Tryz.f64) 0 = [] := by kernel_rfl
theorem qxH : Tryz.f64.body = some (qa Tryz.f64) := by kernel_rfl
abbrev qlh : List Ar := [.d T3, .d T3, .d T3]
abbrev qli : List Ty := [T4]
noncomputable def qqi (n : Nat) (x : qp qlh) : Option (qi qli) := (qk tab (qpr n) (qps n) (qa Tryz.f64) 0 (qu qlh 15 x)).run (qU tab [.tmp 6] qli)
noncomputable def qfM (n : Nat) : Ct Tryz.prog := ⟨64, qlh, .ts qli, qqi n, fun _ _ h => q6 (B := tab) (cs := qpr n) (lo := qps n) (rs := [.tmp 6]) Tryz.func64 (by kernel_rfl) qxH (by kernel_rfl) (by decide) (qh qxG qe) h⟩
noncomputable def qgJ (n : Nat) : CL Tryz.prog := ⟨[qfM n], [], 0⟩
noncomputable def qn0 (n : Nat) : Nat → St → PT (DEx × St) := fun _ _ => .fail
abbrev qe1 : List It := [.v (.t 3) T3, .obj (.t 1) false 24 2, .v (.c 0 0) T24]
abbrev qgK : List (DEx × List It) := [(.exit 0, [.obj (.t 1) false 24 2, .v (.c 0 0) T24]), (.ret, [.v (.t 2) T4])]
noncomputable def qoP (n : Nat) (rec : qc qe1 → Option (qg qgK)) (s : qc qe1) : Option (qg qgK) := (qk tab (qgJ n) (qn0 n) (subC [true, false, true, false, false] (qa Tryz.f40)) 1 (mkS qe1 38 s)).run (Lp.leaf 38 qe1 qgK rec)
noncomputable def qjE (n : Nat) : Lp := ⟨38, qe1, qgK, qf n (qoP n)⟩
theorem qvW : qd (subC [true, false, true, false, false] (qa Tryz.f40)) 1 = [] := by kernel_rfl
theorem qtx (n : Nat) (st : St) (r : DEx × St) (h : ((qjE n).go st).Is r) : DA Tryz.prog false (.loop (subC [true, false, true, false, false] (qa Tryz.f40))) st r := Lp.ok (L := qjE n) (B := tab) (cs := qgJ n) (lo := qn0 n) (id := 0) rfl (qh qvW qe) (fun _ _ => rfl) h
noncomputable def qoQ (n : Nat) : Nat → St → PT (DEx × St) := fun k st => match k with
  | 0 => (qjE n).go st
  | _ => .fail
theorem qwZ : qd (qa Tryz.f40) 0 = [(0, .loop (subC [true, false, true, false, false] (qa Tryz.f40)))] := by kernel_rfl
theorem qw0 : Tryz.f40.body = some (qa Tryz.f40) := by kernel_rfl
abbrev qkl : List Ar := [.d T24]
abbrev qkm : List Ty := [T4]
noncomputable def qpt (n : Nat) (x : qp qkl) : Option (qi qkm) := (qk tab (qgJ n) (qoQ n) (qa Tryz.f40) 0 (qu qkl 38 x)).run (qU tab [.tmp 2] qkm)
noncomputable def qw1 (n : Nat) : Ct Tryz.prog := ⟨40, qkl, .ts qkm, qpt n, fun _ _ h => q6 (B := tab) (cs := qgJ n) (lo := qoQ n) (rs := [.tmp 2]) Tryz.func40 (by kernel_rfl) qw0 (by kernel_rfl) (by decide) (qh qwZ (all_cons (fun st r h => qtx n st r h) qe)) h⟩
noncomputable def qf3 (n : Nat) : CL Tryz.prog := ⟨[qfM n], [], 0⟩
noncomputable def qmO (n : Nat) : Nat → St → PT (DEx × St) := fun _ _ => .fail
abbrev qd5 : List It := [.v (.t 5) T3, .v (.t 6) T3, .obj (.t 2) false 24 2, .v (.c 0 0) T24, .obj (.t 3) false 59 5, .v (.c 1 0) T59]
abbrev qf4 : List (DEx × List It) := [(.exit 0, []), (.ret, [.v (.t 4) T4])]
noncomputable def qnu (n : Nat) (rec : qc qd5 → Option (qg qf4)) (s : qc qd5) : Option (qg qf4) := (qk tab (qf3 n) (qmO n) (subC [true, true, true, false, true, false, false] (qa Tryz.f81)) 1 (mkS qd5 77 s)).run (Lp.leaf 77 qd5 qf4 rec)
noncomputable def qim (n : Nat) : Lp := ⟨77, qd5, qf4, qf n (qnu n)⟩
theorem quk : qd (subC [true, true, true, false, true, false, false] (qa Tryz.f81)) 1 = [] := by kernel_rfl
theorem qsd (n : Nat) (st : St) (r : DEx × St) (h : ((qim n).go st).Is r) : DA Tryz.prog false (.loop (subC [true, true, true, false, true, false, false] (qa Tryz.f81))) st r := Lp.ok (L := qim n) (B := tab) (cs := qf3 n) (lo := qmO n) (id := 0) rfl (qh quk qe) (fun _ _ => rfl) h
noncomputable def qnv (n : Nat) : Nat → St → PT (DEx × St) := fun k st => match k with
  | 0 => (qim n).go st
  | _ => .fail
theorem quT : qd (qa Tryz.f81) 0 = [(0, .loop (subC [true, true, true, false, true, false, false] (qa Tryz.f81)))] := by kernel_rfl
theorem quU : Tryz.f81.body = some (qa Tryz.f81) := by kernel_rfl
abbrev qiP : List Ar := [.d T24, .d T59]
abbrev qiQ : List Ty := [T4]
noncomputable def qn1 (n : Nat) (x : qp qiP) : Option (qi qiQ) := (qk tab (qf3 n) (qnv n) (qa Tryz.f81) 0 (qu qiP 77 x)).run (qU tab [.tmp 4] qiQ)
noncomputable def quV (n : Nat) : Ct Tryz.prog := ⟨81, qiP, .ts qiQ, qn1 n, fun _ _ h => q6 (B := tab) (cs := qf3 n) (lo := qnv n) (rs := [.tmp 4]) Tryz.func81 (by kernel_rfl) quU (by kernel_rfl) (by decide) (qh quT (all_cons (fun st r h => qsd n st r h) qe)) h⟩
noncomputable def qfa (n : Nat) : CL Tryz.prog := ⟨[qfM n, quV n], [], 0⟩
noncomputable def qlj (n : Nat) : Nat → St → PT (DEx × St) := fun _ _ => .fail
abbrev qdM : List It := [.v (.t 1) T25, .v (.t 5) T3, .obj (.t 2) false 24 2, .v (.c 0 0) T24]
abbrev qfb : List (DEx × List It) := [(.exit 0, [.v (.t 1) T25]), (.ret, [.v (.t 4) T4])]
noncomputable def qlY (n : Nat) (rec : qc qdM → Option (qg qfb)) (s : qc qdM) : Option (qg qfb) := (qk tab (qfa n) (qlj n) (subC [true, false, true, false, false] (qa Tryz.f41)) 1 (mkS qdM 54 s)).run (Lp.leaf 54 qdM qfb rec)
noncomputable def qhm (n : Nat) : Lp := ⟨54, qdM, qfb, qf n (qlY n)⟩
theorem qsS : qd (subC [true, false, true, false, false] (qa Tryz.f41)) 1 = [] := by kernel_rfl
theorem qqW (n : Nat) (st : St) (r : DEx × St) (h : ((qhm n).go st).Is r) : DA Tryz.prog false (.loop (subC [true, false, true, false, false] (qa Tryz.f41))) st r := Lp.ok (L := qhm n) (B := tab) (cs := qfa n) (lo := qlj n) (id := 0) rfl (qh qsS qe) (fun _ _ => rfl) h
noncomputable def qlZ (n : Nat) : Nat → St → PT (DEx × St) := fun k st => match k with
  | 0 => (qhm n).go st
  | _ => .fail
theorem qty : qd (qa Tryz.f41) 0 = [(0, .loop (subC [true, false, true, false, false] (qa Tryz.f41)))] := by kernel_rfl
theorem qtz : Tryz.f41.body = some (qa Tryz.f41) := by kernel_rfl
abbrev qhV : List Ar := [.d T24, .d T25]
abbrev qhW : List Ty := [T4]
noncomputable def qmP (n : Nat) (x : qp qhV) : Option (qi qhW) := (qk tab (qfa n) (qlZ n) (qa Tryz.f41) 0 (qu qhV 54 x)).run (qU tab [.tmp 4] qhW)
noncomputable def qtA (n : Nat) : Ct Tryz.prog := ⟨41, qhV, .ts qhW, qmP n, fun _ _ h => q6 (B := tab) (cs := qfa n) (lo := qlZ n) (rs := [.tmp 4]) Tryz.func41 (by kernel_rfl) qtz (by kernel_rfl) (by decide) (qh qty (all_cons (fun st r h => qqW n st r h) qe)) h⟩
noncomputable def qhB (n : Nat) : CL Tryz.prog := ⟨[], [], 0⟩
noncomputable def qpu (n : Nat) : Nat → St → PT (DEx × St) := fun _ _ => .fail
abbrev qfN : List It := [.v (.t 5) T3, .obj (.t 2) false 59 5, .v (.c 0 0) T59, .obj (.t 3) false 59 5, .v (.c 1 0) T59]
abbrev qhC : List (DEx × List It) := [(.exit 0, []), (.ret, [.v (.t 4) T4])]
noncomputable def qqj (n : Nat) (rec : qc qfN → Option (qg qhC)) (s : qc qfN) : Option (qg qhC) := (qk tab (qhB n) (qpu n) (subC [true, true, false, true, false, false] (qa Tryz.f50)) 1 (mkS qfN 59 s)).run (Lp.leaf 59 qfN qhC rec)
noncomputable def qlk (n : Nat) : Lp := ⟨59, qfN, qhC, qf n (qqj n)⟩
theorem qxI : qd (subC [true, true, false, true, false, false] (qa Tryz.f50)) 1 = [] := by kernel_rfl
theorem quW (n : Nat) (st : St) (r : DEx × St) (h : ((qlk n).go st).Is r) : DA Tryz.prog false (.loop (subC [true, true, false, true, false, false] (qa Tryz.f50))) st r := Lp.ok (L := qlk n) (B := tab) (cs := qhB n) (lo := qpu n) (id := 0) rfl (qh qxI qe) (fun _ _ => rfl) h
noncomputable def qqk (n : Nat) : Nat → St → PT (DEx × St) := fun k st => match k with
  | 0 => (qlk n).go st
  | _ => .fail
theorem qyQ : qd (qa Tryz.f50) 0 = [(0, .loop (subC [true, true, false, true, false, false] (qa Tryz.f50)))] := by kernel_rfl
theorem qyR : Tryz.f50.body = some (qa Tryz.f50) := by kernel_rfl
abbrev qmj : List Ar := [.d T59, .d T59]
abbrev qmk : List Ty := [T4]
noncomputable def qqX (n : Nat) (x : qp qmj) : Option (qi qmk) := (qk tab (qhB n) (qqk n) (qa Tryz.f50) 0 (qu qmj 59 x)).run (qU tab [.tmp 4] qmk)
noncomputable def qqY (n : Nat) : Ct Tryz.prog := ⟨50, qmj, .ts qmk, qqX n, fun _ _ h => q6 (B := tab) (cs := qhB n) (lo := qqk n) (rs := [.tmp 4]) Tryz.func50 (by kernel_rfl) qyR (by kernel_rfl) (by decide) (qh qyQ (all_cons (fun st r h => quW n st r h) qe)) h⟩
noncomputable def qeg (n : Nat) : CL Tryz.prog := ⟨[qqY n], [], 0⟩
noncomputable def qpv (n : Nat) : Nat → St → PT (DEx × St) := fun _ _ => .fail
abbrev qfO : List It := [.v (.t 0) T25, .v (.t 3) T3, .v (.t 4) T3]
abbrev qhD : List (DEx × List It) := [(.exit 2, [.v (.t 0) T25, .v (.t 3) T3]), (.ret, [.v (.t 2) T4])]
noncomputable def qql (n : Nat) (rec : qc qfO → Option (qg qhD)) (s : qc qfO) : Option (qg qhD) := (qk tab (qeg n) (qpv n) (subC [true, false, true, false, false, true, false, false, true, false, false] (qa Tryz.f42)) 2 (mkS qfO 52 s)).run (Lp.leaf 52 qfO qhD rec)
noncomputable def qll (n : Nat) : Lp := ⟨52, qfO, qhD, qf n (qql n)⟩
theorem qxJ : qd (subC [true, false, true, false, false, true, false, false, true, false, false] (qa Tryz.f42)) 2 = [] := by kernel_rfl
theorem quX (n : Nat) (st : St) (r : DEx × St) (h : ((qll n).go st).Is r) : DA Tryz.prog false (.loop (subC [true, false, true, false, false, true, false, false, true, false, false] (qa Tryz.f42))) st r := Lp.ok (L := qll n) (B := tab) (cs := qeg n) (lo := qpv n) (id := 1) rfl (qh qxJ qe) (fun _ _ => rfl) h
noncomputable def qpw (n : Nat) : Nat → St → PT (DEx × St) := fun k st => match k with
  | 1 => (qll n).go st
  | _ => .fail
abbrev qfP : List It := [.v (.t 0) T25, .v (.t 3) T3]
abbrev qhE : List (DEx × List It) := [(.exit 0, []), (.ret, [.v (.t 2) T4])]
noncomputable def qqm (n : Nat) (rec : qc qfP → Option (qg qhE)) (s : qc qfP) : Option (qg qhE) := (qk tab (qeg n) (qpw n) (subC [true, false, true, false, false] (qa Tryz.f42)) 1 (mkS qfP 52 s)).run (Lp.leaf 52 qfP qhE rec)
noncomputable def qlm (n : Nat) : Lp := ⟨52, qfP, qhE, qf n (qqm n)⟩
theorem qxK : qd (subC [true, false, true, false, false] (qa Tryz.f42)) 1 = [(1, .loop (subC [true, false, true, false, false, true, false, false, true, false, false] (qa Tryz.f42)))] := by kernel_rfl
theorem quY (n : Nat) (st : St) (r : DEx × St) (h : ((qlm n).go st).Is r) : DA Tryz.prog false (.loop (subC [true, false, true, false, false] (qa Tryz.f42))) st r := Lp.ok (L := qlm n) (B := tab) (cs := qeg n) (lo := qpw n) (id := 0) rfl (qh qxK (all_cons (fun st r h => quX n st r h) qe)) (fun _ _ => rfl) h
noncomputable def qqn (n : Nat) : Nat → St → PT (DEx × St) := fun k st => match k with
  | 0 => (qlm n).go st
  | _ => .fail
theorem qyS : qd (qa Tryz.f42) 0 = [(0, .loop (subC [true, false, true, false, false] (qa Tryz.f42)))] := by kernel_rfl
theorem qyT : Tryz.f42.body = some (qa Tryz.f42) := by kernel_rfl
abbrev qml : List Ar := [.d T25]
abbrev qmm : List Ty := [T4]
noncomputable def qqZ (n : Nat) (x : qp qml) : Option (qi qmm) := (qk tab (qeg n) (qqn n) (qa Tryz.f42) 0 (qu qml 52 x)).run (qU tab [.tmp 2] qmm)
noncomputable def qyU (n : Nat) : Ct Tryz.prog := ⟨42, qml, .ts qmm, qqZ n, fun _ _ h => q6 (B := tab) (cs := qeg n) (lo := qqn n) (rs := [.tmp 2]) Tryz.func42 (by kernel_rfl) qyT (by kernel_rfl) (by decide) (qh qyS (all_cons (fun st r h => quY n st r h) qe)) h⟩
noncomputable def qqo (n : Nat) : CL Tryz.prog := ⟨[qw1 n, qtA n, qyU n], [], 0⟩
noncomputable def qqp (n : Nat) : Nat → St → PT (DEx × St) := fun _ _ => .fail
theorem qyV : qd (qa Tryz.f12) 0 = [] := by kernel_rfl
theorem qyW : Tryz.f12.body = some (qa Tryz.f12) := by kernel_rfl
abbrev qmn : List Ar := [.d T24, .d T25]
abbrev qmo : List Ty := [T32]
noncomputable def qq0 (n : Nat) (x : qp qmn) : Option (qi qmo) := (qk tab (qqo n) (qqp n) (qa Tryz.f12) 0 (qu qmn 14 x)).run (qU tab [.tmp 4] qmo)
noncomputable def qin (n : Nat) : Ct Tryz.prog := ⟨12, qmn, .ts qmo, qq0 n, fun _ _ h => q6 (B := tab) (cs := qqo n) (lo := qqp n) (rs := [.tmp 4]) Tryz.func12 (by kernel_rfl) qyW (by kernel_rfl) (by decide) (qh qyV qe) h⟩
noncomputable def qbQ (n : Nat) : CL Tryz.prog := ⟨[], [], 0⟩
noncomputable def qnw (n : Nat) : Nat → St → PT (DEx × St) := fun _ _ => .fail
abbrev qez : List It := [.v (.t 0) T25, .v (.t 4) T3, .v (.t 5) T3, .v (.t 6) T3, .row (.t 3) false T59 59]
abbrev qgh : List (DEx × List It) := [(.exit 4, [.v (.t 0) T25, .v (.t 4) T3, .v (.t 5) T3, .row (.t 3) false T59 59])]
noncomputable def qn2 (n : Nat) (rec : qc qez → Option (qg qgh)) (s : qc qez) : Option (qg qgh) := (qk tab (qbQ n) (qnw n) (subC [true, true, false, true, false, false, true, false, false, true, false, false, true, false, false, true, false, false] (qa Tryz.f73)) 3 (mkS qez 45 s)).run (Lp.leaf 45 qez qgh rec)
noncomputable def qiR (n : Nat) : Lp := ⟨45, qez, qgh, qf n (qn2 n)⟩
theorem quZ : qd (subC [true, true, false, true, false, false, true, false, false, true, false, false, true, false, false, true, false, false] (qa Tryz.f73)) 3 = [] := by kernel_rfl
theorem qsT (n : Nat) (st : St) (r : DEx × St) (h : ((qiR n).go st).Is r) : DA Tryz.prog false (.loop (subC [true, true, false, true, false, false, true, false, false, true, false, false, true, false, false, true, false, false] (qa Tryz.f73))) st r := Lp.ok (L := qiR n) (B := tab) (cs := qbQ n) (lo := qnw n) (id := 2) rfl (qh quZ qe) (fun _ _ => rfl) h
noncomputable def qnx (n : Nat) : Nat → St → PT (DEx × St) := fun k st => match k with
  | 2 => (qiR n).go st
  | _ => .fail
abbrev qeA : List It := [.v (.t 0) T25, .v (.t 4) T3, .v (.t 5) T3, .row (.t 3) false T59 59]
abbrev qgi : List (DEx × List It) := [(.exit 2, [.v (.t 0) T25, .v (.t 4) T3, .row (.t 3) false T59 59])]
noncomputable def qn3 (n : Nat) (rec : qc qeA → Option (qg qgi)) (s : qc qeA) : Option (qg qgi) := (qk tab (qbQ n) (qnx n) (subC [true, true, false, true, false, false, true, false, false, true, false, false] (qa Tryz.f73)) 2 (mkS qeA 45 s)).run (Lp.leaf 45 qeA qgi rec)
noncomputable def qiS (n : Nat) : Lp := ⟨45, qeA, qgi, qf n (qn3 n)⟩
theorem qu0 : qd (subC [true, true, false, true, false, false, true, false, false, true, false, false] (qa Tryz.f73)) 2 = [(2, .loop (subC [true, true, false, true, false, false, true, false, false, true, false, false, true, false, false, true, false, false] (qa Tryz.f73)))] := by kernel_rfl
theorem qsU (n : Nat) (st : St) (r : DEx × St) (h : ((qiS n).go st).Is r) : DA Tryz.prog false (.loop (subC [true, true, false, true, false, false, true, false, false, true, false, false] (qa Tryz.f73))) st r := Lp.ok (L := qiS n) (B := tab) (cs := qbQ n) (lo := qnx n) (id := 1) rfl (qh qu0 (all_cons (fun st r h => qsT n st r h) qe)) (fun _ _ => rfl) h
noncomputable def qny (n : Nat) : Nat → St → PT (DEx × St) := fun k st => match k with
  | 1 => (qiS n).go st
  | _ => .fail
abbrev qeB : List It := [.v (.t 0) T25, .v (.t 4) T3, .row (.t 3) false T59 59]
abbrev qgj : List (DEx × List It) := [(.exit 0, [.row (.t 3) false T59 59])]
noncomputable def qn4 (n : Nat) (rec : qc qeB → Option (qg qgj)) (s : qc qeB) : Option (qg qgj) := (qk tab (qbQ n) (qny n) (subC [true, true, false, true, false, false] (qa Tryz.f73)) 1 (mkS qeB 45 s)).run (Lp.leaf 45 qeB qgj rec)
noncomputable def qiT (n : Nat) : Lp := ⟨45, qeB, qgj, qf n (qn4 n)⟩
theorem qu1 : qd (subC [true, true, false, true, false, false] (qa Tryz.f73)) 1 = [(1, .loop (subC [true, true, false, true, false, false, true, false, false, true, false, false] (qa Tryz.f73)))] := by kernel_rfl
theorem qsV (n : Nat) (st : St) (r : DEx × St) (h : ((qiT n).go st).Is r) : DA Tryz.prog false (.loop (subC [true, true, false, true, false, false] (qa Tryz.f73))) st r := Lp.ok (L := qiT n) (B := tab) (cs := qbQ n) (lo := qny n) (id := 0) rfl (qh qu1 (all_cons (fun st r h => qsU n st r h) qe)) (fun _ _ => rfl) h
noncomputable def qn5 (n : Nat) : Nat → St → PT (DEx × St) := fun k st => match k with
  | 0 => (qiT n).go st
  | _ => .fail
theorem qvX : qd (qa Tryz.f73) 0 = [(0, .loop (subC [true, true, false, true, false, false] (qa Tryz.f73)))] := by kernel_rfl
theorem qvY : Tryz.f73.body = some (qa Tryz.f73) := by kernel_rfl
abbrev qjF : List Ar := [.d T25]
abbrev qjG : List Ty := [T25]
noncomputable def qoR (n : Nat) (x : qp qjF) : Option (qi qjG) := (qk tab (qbQ n) (qn5 n) (qa Tryz.f73) 0 (qu qjF 45 x)).run (qU tab [.tmp 2] qjG)
noncomputable def qvZ (n : Nat) : Ct Tryz.prog := ⟨73, qjF, .ts qjG, qoR n, fun _ _ h => q6 (B := tab) (cs := qbQ n) (lo := qn5 n) (rs := [.tmp 2]) Tryz.func73 (by kernel_rfl) qvY (by kernel_rfl) (by decide) (qh qvX (all_cons (fun st r h => qsV n st r h) qe)) h⟩
noncomputable def qeh (n : Nat) : CL Tryz.prog := ⟨[qvZ n], [], 0⟩
noncomputable def qpx (n : Nat) : Nat → St → PT (DEx × St) := fun _ _ => .fail
abbrev qfQ : List It := [.v (.t 3) T25, .v (.t 5) T3, .v (.t 7) T3, .obj (.t 6) false 59 5, .v (.c 0 0) T59, .row (.t 4) false T59 59]
abbrev qhF : List (DEx × List It) := [(.exit 2, [.v (.t 3) T25, .v (.t 5) T3, .v (.t 7) T3, .obj (.t 6) false 59 5, .v (.c 0 0) T59, .row (.t 4) false T59 59])]
noncomputable def qqq (n : Nat) (rec : qc qfQ → Option (qg qhF)) (s : qc qfQ) : Option (qg qhF) := (qk tab (qeh n) (qpx n) (subC [true, true, true, false, true, false, false, true, false, false, true, true, true, false, false, false] (qa Tryz.f35)) 2 (mkS qfQ 88 s)).run (Lp.leaf 88 qfQ qhF rec)
noncomputable def qln (n : Nat) : Lp := ⟨88, qfQ, qhF, qf n (qqq n)⟩
theorem qxL : qd (subC [true, true, true, false, true, false, false, true, false, false, true, true, true, false, false, false] (qa Tryz.f35)) 2 = [] := by kernel_rfl
theorem qu2 (n : Nat) (st : St) (r : DEx × St) (h : ((qln n).go st).Is r) : DA Tryz.prog false (.loop (subC [true, true, true, false, true, false, false, true, false, false, true, true, true, false, false, false] (qa Tryz.f35))) st r := Lp.ok (L := qln n) (B := tab) (cs := qeh n) (lo := qpx n) (id := 1) rfl (qh qxL qe) (fun _ _ => rfl) h
noncomputable def qpy (n : Nat) : Nat → St → PT (DEx × St) := fun k st => match k with
  | 1 => (qln n).go st
  | _ => .fail
abbrev qfR : List It := [.v (.t 3) T25, .v (.t 5) T3, .row (.t 4) false T59 59]
abbrev qhG : List (DEx × List It) := [(.exit 0, [.row (.t 4) false T59 59])]
noncomputable def qqr (n : Nat) (rec : qc qfR → Option (qg qhG)) (s : qc qfR) : Option (qg qhG) := (qk tab (qeh n) (qpy n) (subC [true, true, true, false, true, false, false] (qa Tryz.f35)) 1 (mkS qfR 88 s)).run (Lp.leaf 88 qfR qhG rec)
noncomputable def qlp (n : Nat) : Lp := ⟨88, qfR, qhG, qf n (qqr n)⟩
theorem qxM : qd (subC [true, true, true, false, true, false, false] (qa Tryz.f35)) 1 = [(1, .loop (subC [true, true, true, false, true, false, false, true, false, false, true, true, true, false, false, false] (qa Tryz.f35)))] := by kernel_rfl
theorem qu3 (n : Nat) (st : St) (r : DEx × St) (h : ((qlp n).go st).Is r) : DA Tryz.prog false (.loop (subC [true, true, true, false, true, false, false] (qa Tryz.f35))) st r := Lp.ok (L := qlp n) (B := tab) (cs := qeh n) (lo := qpy n) (id := 0) rfl (qh qxM (all_cons (fun st r h => qu2 n st r h) qe)) (fun _ _ => rfl) h
noncomputable def qqs (n : Nat) : Nat → St → PT (DEx × St) := fun k st => match k with
  | 0 => (qlp n).go st
  | _ => .fail
theorem qyX : qd (qa Tryz.f35) 0 = [(0, .loop (subC [true, true, true, false, true, false, false] (qa Tryz.f35)))] := by kernel_rfl
theorem qyY : Tryz.f35.body = some (qa Tryz.f35) := by kernel_rfl
abbrev qmp : List Ar := [.d T25]
abbrev qmq : List Ty := [T25]
noncomputable def qq1 (n : Nat) (x : qp qmp) : Option (qi qmq) := (qk tab (qeh n) (qqs n) (qa Tryz.f35) 0 (qu qmp 88 x)).run (qU tab [.tmp 2] qmq)
noncomputable def qmr (n : Nat) : Ct Tryz.prog := ⟨35, qmp, .ts qmq, qq1 n, fun _ _ h => q6 (B := tab) (cs := qeh n) (lo := qqs n) (rs := [.tmp 2]) Tryz.func35 (by kernel_rfl) qyY (by kernel_rfl) (by decide) (qh qyX (all_cons (fun st r h => qu3 n st r h) qe)) h⟩
noncomputable def qd3 (n : Nat) : CL Tryz.prog := ⟨[qfM n], [], 0⟩
noncomputable def qoS (n : Nat) : Nat → St → PT (DEx × St) := fun _ _ => .fail
abbrev qfm : List It := [.v (.t 0) T25, .v (.t 1) T3, .v (.t 2) T3, .v (.t 7) T3, .v (.t 8) T3, .v (.t 9) T3]
abbrev qg6 : List (DEx × List It) := [(.exit 2, [.v (.t 0) T25, .v (.t 1) T3, .v (.t 2) T3, .v (.t 7) T3, .v (.t 8) T3])]
noncomputable def qpz (n : Nat) (rec : qc qfm → Option (qg qg6)) (s : qc qfm) : Option (qg qg6) := (qk tab (qd3 n) (qoS n) (subC [true, true, false, true, false, false, true, false, false, true, false, false] (qa Tryz.f36)) 2 (mkS qfm 57 s)).run (Lp.leaf 57 qfm qg6 rec)
noncomputable def qkn (n : Nat) : Lp := ⟨57, qfm, qg6, qf n (qpz n)⟩
theorem qw2 : qd (subC [true, true, false, true, false, false, true, false, false, true, false, false] (qa Tryz.f36)) 2 = [] := by kernel_rfl
theorem qul (n : Nat) (st : St) (r : DEx × St) (h : ((qkn n).go st).Is r) : DA Tryz.prog false (.loop (subC [true, true, false, true, false, false, true, false, false, true, false, false] (qa Tryz.f36))) st r := Lp.ok (L := qkn n) (B := tab) (cs := qd3 n) (lo := qoS n) (id := 1) rfl (qh qw2 qe) (fun _ _ => rfl) h
noncomputable def qoT (n : Nat) : Nat → St → PT (DEx × St) := fun k st => match k with
  | 1 => (qkn n).go st
  | _ => .fail
abbrev qfn : List It := [.v (.t 0) T25, .v (.t 1) T3, .v (.t 2) T3, .v (.t 7) T3, .v (.t 8) T3]
abbrev qg7 : List (DEx × List It) := [(.exit 0, [.v (.t 7) T3])]
noncomputable def qpA (n : Nat) (rec : qc qfn → Option (qg qg7)) (s : qc qfn) : Option (qg qg7) := (qk tab (qd3 n) (qoT n) (subC [true, true, false, true, false, false] (qa Tryz.f36)) 1 (mkS qfn 57 s)).run (Lp.leaf 57 qfn qg7 rec)
noncomputable def qko (n : Nat) : Lp := ⟨57, qfn, qg7, qf n (qpA n)⟩
theorem qw3 : qd (subC [true, true, false, true, false, false] (qa Tryz.f36)) 1 = [(1, .loop (subC [true, true, false, true, false, false, true, false, false, true, false, false] (qa Tryz.f36)))] := by kernel_rfl
theorem qum (n : Nat) (st : St) (r : DEx × St) (h : ((qko n).go st).Is r) : DA Tryz.prog false (.loop (subC [true, true, false, true, false, false] (qa Tryz.f36))) st r := Lp.ok (L := qko n) (B := tab) (cs := qd3 n) (lo := qoT n) (id := 0) rfl (qh qw3 (all_cons (fun st r h => qul n st r h) qe)) (fun _ _ => rfl) h
noncomputable def qpB (n : Nat) : Nat → St → PT (DEx × St) := fun k st => match k with
  | 0 => (qko n).go st
  | _ => .fail
theorem qxN : qd (qa Tryz.f36) 0 = [(0, .loop (subC [true, true, false, true, false, false] (qa Tryz.f36)))] := by kernel_rfl
theorem qxO : Tryz.f36.body = some (qa Tryz.f36) := by kernel_rfl
abbrev qlq : List Ar := [.d T25, .d T3, .d T3]
abbrev qlr : List Ty := [T3]
noncomputable def qqt (n : Nat) (x : qp qlq) : Option (qi qlr) := (qk tab (qd3 n) (qpB n) (qa Tryz.f36) 0 (qu qlq 57 x)).run (qU tab [.tmp 6] qlr)
noncomputable def qqu (n : Nat) : Ct Tryz.prog := ⟨36, qlq, .ts qlr, qqt n, fun _ _ h => q6 (B := tab) (cs := qd3 n) (lo := qpB n) (rs := [.tmp 6]) Tryz.func36 (by kernel_rfl) qxO (by kernel_rfl) (by decide) (qh qxN (all_cons (fun st r h => qum n st r h) qe)) h⟩
end Go.Proofs.YtcjgodgpaokbnaaGreat
