/- Printed: what functions of the program compute. -/
import Derived.Test.YtcjgodgpaokbnaaDnB
namespace Go.Proofs.Ytcjgodgpaokbnaa
set_option linter.constructorNameAsVariable false
set_option linter.unusedSimpArgs false
set_option linter.unusedVariables false
set_option linter.unusedSectionVars false
open Go Go.Proofs Go.RowKit
set_option maxRecDepth 20000
noncomputable def qxG (n : Nat) : CL Try.prog := ⟨[qwl n, qqf n], [], 0⟩
noncomputable def qxH (n : Nat) : Nat → St → PT (DEx × St) := fun _ _ => .fail
theorem qEl : qd (qa Try.f75) 0 = [] := by kernel_rfl
theorem qEm : Try.f75.body = some (qa Try.f75) := by kernel_rfl
abbrev qtE : List Ar := [.d T30, .d T30]
abbrev qtF : List Ty := [T3]
noncomputable def qyO (n : Nat) (x : qy qtE) : Option (qk qtF) := (qi tab (qxG n) (qxH n) (qa Try.f75) 0 (qC qtE 17 x)).run (qbA tab [.tmp 4] qtF)
noncomputable def qtG (n : Nat) : Ct Try.prog := ⟨75, qtE, .ts qtF, qyO n, fun _ _ h => qbF (B := tab) (cs := qxG n) (lo := qxH n) (rs := [.tmp 4]) Try.func75 (by kernel_rfl) qEm (by kernel_rfl) (by decide) (qh qEl qe) h⟩
noncomputable def quy (n : Nat) : CL Try.prog := ⟨[], [], 0⟩
noncomputable def quz (n : Nat) : Nat → St → PT (DEx × St) := fun _ _ => .fail
theorem qB1 : qd (qa Try.f74) 0 = [] := by kernel_rfl
theorem qB2 : Try.f74.body = some (qa Try.f74) := by kernel_rfl
abbrev qpm : List It := [.v (.t 0) T30, .obj (.t 1) true 30 5, .v (.c 0 0) T30]
abbrev qoh : List (List It) := [[.v (.t 0) T4, .obj (.t 1) true 30 5, .v (.c 0 0) T30]]
noncomputable def qvc (n : Nat) (x : qb qpm) : Option (qx qoh) := runW tab (quy n) (quz n) (qa Try.f74) qpm 2 14 [.tmp 3] qoh x
noncomputable def qvd (n : Nat) : Cw Try.prog := ⟨74, 2, qpm, 1, qoh, qvc n, fun _ _ h => qbb (B := tab) (cs := quy n) (lo := quz n) (rs := [.tmp 3]) Try.func74 (by kernel_rfl) qB2 (by kernel_rfl) (by decide) (qh qB1 qe) h⟩
noncomputable def qbB (n : Nat) : CL Try.prog := ⟨[], [qvd n], 0⟩
noncomputable def qfA (n : Nat) : Nat → St → PT (DEx × St) := fun _ _ => .fail
abbrev qU : List It := [.v (.t 0) T25, .v (.t 7) T3, .v (.t 8) T3, .fnc (.t 1) 74 [.box true 30 5], .v (.c 0 0) T30]
abbrev qbC : List (DEx × List It) := [(.exit 0, [.fnc (.t 1) 74 [.box true 30 5], .v (.c 0 0) T30]), (.ret, [.v (.t 4) T3, .fnc (.t 1) 74 [.box true 30 5], .v (.c 0 0) T30])]
noncomputable def qfN (n : Nat) (rec : qb qU → Option (qf qbC)) (s : qb qU) : Option (qf qbC) := (qi tab (qbB n) (qfA n) (subC [true, false, true, false, false] (qa Try.f64)) 1 (mkS qU 19 s)).run (Lp.leaf 19 qU qbC rec)
noncomputable def qc0 (n : Nat) : Lp := ⟨19, qU, qbC, qg n (qfN n)⟩
theorem qkM : qd (subC [true, false, true, false, false] (qa Try.f64)) 1 = [] := by kernel_rfl
theorem qjH (n : Nat) (st : St) (r : DEx × St) (h : ((qc0 n).go st).Is r) : DA Try.prog false (.loop (subC [true, false, true, false, false] (qa Try.f64))) st r := Lp.ok (L := qc0 n) (B := tab) (cs := qbB n) (lo := qfA n) (id := 0) rfl (qh qkM qe) (fun _ _ => rfl) h
noncomputable def qfO (n : Nat) : Nat → St → PT (DEx × St) := fun k st => match k with
  | 0 => (qc0 n).go st
  | _ => .fail
theorem qk7 : qd (qa Try.f64) 0 = [(0, .loop (subC [true, false, true, false, false] (qa Try.f64)))] := by kernel_rfl
theorem qk8 : Try.f64.body = some (qa Try.f64) := by kernel_rfl
abbrev qc1 : List It := [.v (.t 0) T25, .fnc (.t 1) 74 [.box true 30 5], .v (.c 0 0) T30]
abbrev qcT : List (List It) := [[.v (.t 0) T3, .obj (.t 1) true 30 5, .v (.c 0 0) T30]]
noncomputable def qfZ (n : Nat) (x : qb qc1) : Option (qx qcT) := runW tab (qbB n) (qfO n) (qa Try.f64) qc1 2 19 [.tmp 4] qcT x
noncomputable def qdb (n : Nat) : Cw Try.prog := ⟨64, 2, qc1, 1, qcT, qfZ n, fun _ _ h => qbb (B := tab) (cs := qbB n) (lo := qfO n) (rs := [.tmp 4]) Try.func64 (by kernel_rfl) qk8 (by kernel_rfl) (by decide) (qh qk7 (all_cons (fun st r h => qjH n st r h) qe)) h⟩
noncomputable def qeW (n : Nat) : CL Try.prog := ⟨[], [qdb n, qvd n], 0⟩
noncomputable def qeX (n : Nat) : Nat → St → PT (DEx × St) := fun _ _ => .fail
theorem qj2 : qd (qa Try.f73) 0 = [] := by kernel_rfl
theorem qj3 : Try.f73.body = some (qa Try.f73) := by kernel_rfl
abbrev qcz : List It := [.v (.t 0) T25, .fnc (.t 1) 74 [.box true 30 5], .v (.c 0 0) T30]
abbrev qcr : List (List It) := [[.v (.t 0) T4, .obj (.t 1) true 30 5, .v (.c 0 0) T30]]
noncomputable def qfo (n : Nat) (x : qb qcz) : Option (qx qcr) := runW tab (qeW n) (qeX n) (qa Try.f73) qcz 2 9 [.tmp 4] qcr x
noncomputable def qfp (n : Nat) : Cw Try.prog := ⟨73, 2, qcz, 1, qcr, qfo n, fun _ _ h => qbb (B := tab) (cs := qeW n) (lo := qeX n) (rs := [.tmp 4]) Try.func73 (by kernel_rfl) qj3 (by kernel_rfl) (by decide) (qh qj2 qe) h⟩
noncomputable def qwq (n : Nat) : CL Try.prog := ⟨[], [qfp n], 0⟩
noncomputable def qwr (n : Nat) : Nat → St → PT (DEx × St) := fun _ _ => .fail
theorem qDE : qd (qa Try.f72) 0 = [] := by kernel_rfl
theorem qDF : Try.f72.body = some (qa Try.f72) := by kernel_rfl
abbrev qrj : List It := [.v (.t 0) T30, .obj (.t 1) true 25 1, .v (.c 0 0) T25]
abbrev qqs : List (List It) := [[.v (.t 0) T4, .obj (.t 1) true 25 1, .v (.c 0 0) T25]]
noncomputable def qxI (n : Nat) (x : qb qrj) : Option (qx qqs) := runW tab (qwq n) (qwr n) (qa Try.f72) qrj 2 12 [.tmp 3] qqs x
noncomputable def qxJ (n : Nat) : Cw Try.prog := ⟨72, 2, qrj, 1, qqs, qxI n, fun _ _ h => qbb (B := tab) (cs := qwq n) (lo := qwr n) (rs := [.tmp 3]) Try.func72 (by kernel_rfl) qDF (by kernel_rfl) (by decide) (qh qDE qe) h⟩
noncomputable def qu (n : Nat) : CL Try.prog := ⟨[qtG n], [], 0⟩
noncomputable def qdQ (n : Nat) : Nat → St → PT (DEx × St) := fun _ _ => .fail
abbrev qG : List It := [.v (.t 1) T3, .v (.t 2) T3, .fn (.t 3) 75 [] [], .v (.t 8) T3, .v (.t 9) T3, .row (.t 0) true T30 30]
abbrev qW : List (DEx × List It) := [(.exit 2, [.v (.t 1) T3, .v (.t 2) T3, .fn (.t 3) 75 [] [], .v (.t 8) T3, .row (.t 0) true T30 30])]
noncomputable def qd4 (n : Nat) (rec : qb qG → Option (qf qW)) (s : qb qG) : Option (qf qW) := (qi tab (qu n) (qdQ n) (subC [true, false, false, true, false, false, true, false, false] (qa Try.f106)) 2 (mkS qG 53 s)).run (Lp.leaf 53 qG qW rec)
noncomputable def qbM (n : Nat) : Lp := ⟨53, qG, qW, qg n (qd4 n)⟩
theorem qih : qd (subC [true, false, false, true, false, false, true, false, false] (qa Try.f106)) 2 = [] := by kernel_rfl
theorem qhB (n : Nat) (st : St) (r : DEx × St) (h : ((qbM n).go st).Is r) : DA Try.prog false (.loop (subC [true, false, false, true, false, false, true, false, false] (qa Try.f106))) st r := Lp.ok (L := qbM n) (B := tab) (cs := qu n) (lo := qdQ n) (id := 1) rfl (qh qih qe) (fun _ _ => rfl) h
noncomputable def qdR (n : Nat) : Nat → St → PT (DEx × St) := fun k st => match k with
  | 1 => (qbM n).go st
  | _ => .fail
abbrev qH : List It := [.v (.t 1) T3, .v (.t 2) T3, .fn (.t 3) 75 [] [], .v (.t 8) T3, .row (.t 0) true T30 30]
abbrev qX : List (DEx × List It) := [(.exit 0, [.row (.t 0) true T30 30])]
noncomputable def qd5 (n : Nat) (rec : qb qH → Option (qf qX)) (s : qb qH) : Option (qf qX) := (qi tab (qu n) (qdR n) (subC [true, false, false] (qa Try.f106)) 1 (mkS qH 53 s)).run (Lp.leaf 53 qH qX rec)
noncomputable def qbN (n : Nat) : Lp := ⟨53, qH, qX, qg n (qd5 n)⟩
theorem qii : qd (subC [true, false, false] (qa Try.f106)) 1 = [(1, .loop (subC [true, false, false, true, false, false, true, false, false] (qa Try.f106)))] := by kernel_rfl
theorem qhC (n : Nat) (st : St) (r : DEx × St) (h : ((qbN n).go st).Is r) : DA Try.prog false (.loop (subC [true, false, false] (qa Try.f106))) st r := Lp.ok (L := qbN n) (B := tab) (cs := qu n) (lo := qdR n) (id := 0) rfl (qh qii (all_cons (fun st r h => qhB n st r h) qe)) (fun _ _ => rfl) h
noncomputable def qd6 (n : Nat) : Nat → St → PT (DEx × St) := fun k st => match k with
  | 0 => (qbN n).go st
  | _ => .fail
theorem qiB : qd (qa Try.f106) 0 = [(0, .loop (subC [true, false, false] (qa Try.f106)))] := by kernel_rfl
theorem qiC : Try.f106.body = some (qa Try.f106) := by kernel_rfl
abbrev qbO : List It := [.v (.t 1) T3, .v (.t 2) T3, .fn (.t 3) 75 [] [], .row (.t 0) true T30 30]
abbrev qbJ : List (List It) := [[.row (.t 0) true T30 30]]
noncomputable def qeg (n : Nat) (x : qb qbO) : Option (qx qbJ) := runW tab (qu n) (qd6 n) (qa Try.f106) qbO 4 53 [] qbJ x
noncomputable def qeh (n : Nat) : Cw Try.prog := ⟨106, 4, qbO, 0, qbJ, qeg n, fun _ _ h => qbb (B := tab) (cs := qu n) (lo := qd6 n) (rs := []) Try.func106 (by kernel_rfl) qiC (by kernel_rfl) (by decide) (qh qiB (all_cons (fun st r h => qhC n st r h) qe)) h⟩
noncomputable def qve (n : Nat) : CL Try.prog := ⟨[qwl n, qqf n], [], 0⟩
noncomputable def qvf (n : Nat) : Nat → St → PT (DEx × St) := fun _ _ => .fail
theorem qCW : qd (qa Try.f96) 0 = [] := by kernel_rfl
theorem qCX : Try.f96.body = some (qa Try.f96) := by kernel_rfl
abbrev qrk : List Ar := [.d T77, .d T77]
abbrev qrl : List Ty := [T3]
noncomputable def qws (n : Nat) (x : qy qrk) : Option (qk qrl) := (qi tab (qve n) (qvf n) (qa Try.f96) 0 (qC qrk 26 x)).run (qbA tab [.tmp 4] qrl)
noncomputable def qCY (n : Nat) : Ct Try.prog := ⟨96, qrk, .ts qrl, qws n, fun _ _ h => qbF (B := tab) (cs := qve n) (lo := qvf n) (rs := [.tmp 4]) Try.func96 (by kernel_rfl) qCX (by kernel_rfl) (by decide) (qh qCW qe) h⟩
noncomputable def qbP (n : Nat) : CL Try.prog := ⟨[qCY n], [], 0⟩
noncomputable def qf0 (n : Nat) : Nat → St → PT (DEx × St) := fun _ _ => .fail
abbrev qba : List It := [.v (.t 0) T28, .v (.t 1) T28, .fn (.t 2) 96 [] [], .v (.t 11) T28, .v (.t 12) T3, .v (.t 13) T3]
abbrev qbQ : List (DEx × List It) := [(.exit 0, [.v (.t 0) T28, .v (.t 1) T28]), (.ret, [.v (.t 6) T3])]
noncomputable def qgc (n : Nat) (rec : qb qba → Option (qf qbQ)) (s : qb qba) : Option (qf qbQ) := (qi tab (qbP n) (qf0 n) (subC [true, false, true, false, false] (qa Try.f95)) 1 (mkS qba 39 s)).run (Lp.leaf 39 qba qbQ rec)
noncomputable def qdj (n : Nat) : Lp := ⟨39, qba, qbQ, qg n (qgc n)⟩
theorem qlz : qd (subC [true, false, true, false, false] (qa Try.f95)) 1 = [] := by kernel_rfl
theorem qks (n : Nat) (st : St) (r : DEx × St) (h : ((qdj n).go st).Is r) : DA Try.prog false (.loop (subC [true, false, true, false, false] (qa Try.f95))) st r := Lp.ok (L := qdj n) (B := tab) (cs := qbP n) (lo := qf0 n) (id := 0) rfl (qh qlz qe) (fun _ _ => rfl) h
noncomputable def qgd (n : Nat) : Nat → St → PT (DEx × St) := fun k st => match k with
  | 0 => (qdj n).go st
  | _ => .fail
theorem ql1 : qd (qa Try.f95) 0 = [(0, .loop (subC [true, false, true, false, false] (qa Try.f95)))] := by kernel_rfl
theorem ql2 : Try.f95.body = some (qa Try.f95) := by kernel_rfl
abbrev qdw : List Ar := [.d T28, .d T28, .fn 96 [] []]
abbrev qdx : List Ty := [T3]
noncomputable def qgs (n : Nat) (x : qy qdw) : Option (qk qdx) := (qi tab (qbP n) (qgd n) (qa Try.f95) 0 (qC qdw 39 x)).run (qbA tab [.tmp 6] qdx)
noncomputable def ql3 (n : Nat) : Ct Try.prog := ⟨95, qdw, .ts qdx, qgs n, fun _ _ h => qbF (B := tab) (cs := qbP n) (lo := qgd n) (rs := [.tmp 6]) Try.func95 (by kernel_rfl) ql2 (by kernel_rfl) (by decide) (qh ql1 (all_cons (fun st r h => qks n st r h) qe)) h⟩
noncomputable def qxK (n : Nat) : CL Try.prog := ⟨[qwl n, qqf n, ql3 n], [], 0⟩
noncomputable def qxL (n : Nat) : Nat → St → PT (DEx × St) := fun _ _ => .fail
theorem qEn : qd (qa Try.f60) 0 = [] := by kernel_rfl
theorem qEo : Try.f60.body = some (qa Try.f60) := by kernel_rfl
abbrev qtH : List Ar := [.d T30, .d T30]
abbrev qtI : List Ty := [T3]
noncomputable def qyP (n : Nat) (x : qy qtH) : Option (qk qtI) := (qi tab (qxK n) (qxL n) (qa Try.f60) 0 (qC qtH 32 x)).run (qbA tab [.tmp 4] qtI)
noncomputable def qpP (n : Nat) : Ct Try.prog := ⟨60, qtH, .ts qtI, qyP n, fun _ _ h => qbF (B := tab) (cs := qxK n) (lo := qxL n) (rs := [.tmp 4]) Try.func60 (by kernel_rfl) qEo (by kernel_rfl) (by decide) (qh qEn qe) h⟩
noncomputable def qv (n : Nat) : CL Try.prog := ⟨[qpP n], [], 0⟩
noncomputable def qdS (n : Nat) : Nat → St → PT (DEx × St) := fun _ _ => .fail
abbrev qI : List It := [.v (.t 1) T3, .v (.t 2) T3, .fn (.t 3) 60 [] [], .v (.t 8) T3, .v (.t 9) T3, .row (.t 0) true T30 30]
abbrev qY : List (DEx × List It) := [(.exit 2, [.v (.t 1) T3, .v (.t 2) T3, .fn (.t 3) 60 [] [], .v (.t 8) T3, .row (.t 0) true T30 30])]
noncomputable def qd7 (n : Nat) (rec : qb qI → Option (qf qY)) (s : qb qI) : Option (qf qY) := (qi tab (qv n) (qdS n) (subC [true, false, false, true, false, false, true, false, false] (qa Try.f106)) 2 (mkS qI 53 s)).run (Lp.leaf 53 qI qY rec)
noncomputable def qbR (n : Nat) : Lp := ⟨53, qI, qY, qg n (qd7 n)⟩
theorem qij : qd (subC [true, false, false, true, false, false, true, false, false] (qa Try.f106)) 2 = [] := by kernel_rfl
theorem qhD (n : Nat) (st : St) (r : DEx × St) (h : ((qbR n).go st).Is r) : DA Try.prog false (.loop (subC [true, false, false, true, false, false, true, false, false] (qa Try.f106))) st r := Lp.ok (L := qbR n) (B := tab) (cs := qv n) (lo := qdS n) (id := 1) rfl (qh qij qe) (fun _ _ => rfl) h
noncomputable def qdT (n : Nat) : Nat → St → PT (DEx × St) := fun k st => match k with
  | 1 => (qbR n).go st
  | _ => .fail
abbrev qJ : List It := [.v (.t 1) T3, .v (.t 2) T3, .fn (.t 3) 60 [] [], .v (.t 8) T3, .row (.t 0) true T30 30]
abbrev qZ : List (DEx × List It) := [(.exit 0, [.row (.t 0) true T30 30])]
noncomputable def qd8 (n : Nat) (rec : qb qJ → Option (qf qZ)) (s : qb qJ) : Option (qf qZ) := (qi tab (qv n) (qdT n) (subC [true, false, false] (qa Try.f106)) 1 (mkS qJ 53 s)).run (Lp.leaf 53 qJ qZ rec)
noncomputable def qbS (n : Nat) : Lp := ⟨53, qJ, qZ, qg n (qd8 n)⟩
theorem qik : qd (subC [true, false, false] (qa Try.f106)) 1 = [(1, .loop (subC [true, false, false, true, false, false, true, false, false] (qa Try.f106)))] := by kernel_rfl
theorem qhE (n : Nat) (st : St) (r : DEx × St) (h : ((qbS n).go st).Is r) : DA Try.prog false (.loop (subC [true, false, false] (qa Try.f106))) st r := Lp.ok (L := qbS n) (B := tab) (cs := qv n) (lo := qdT n) (id := 0) rfl (qh qik (all_cons (fun st r h => qhD n st r h) qe)) (fun _ _ => rfl) h
noncomputable def qd9 (n : Nat) : Nat → St → PT (DEx × St) := fun k st => match k with
  | 0 => (qbS n).go st
  | _ => .fail
theorem qiD : qd (qa Try.f106) 0 = [(0, .loop (subC [true, false, false] (qa Try.f106)))] := by kernel_rfl
theorem qiE : Try.f106.body = some (qa Try.f106) := by kernel_rfl
abbrev qbT : List It := [.v (.t 1) T3, .v (.t 2) T3, .fn (.t 3) 60 [] [], .row (.t 0) true T30 30]
abbrev qbK : List (List It) := [[.row (.t 0) true T30 30]]
noncomputable def qei (n : Nat) (x : qb qbT) : Option (qx qbK) := runW tab (qv n) (qd9 n) (qa Try.f106) qbT 4 53 [] qbK x
noncomputable def qej (n : Nat) : Cw Try.prog := ⟨106, 4, qbT, 0, qbK, qei n, fun _ _ h => qbb (B := tab) (cs := qv n) (lo := qd9 n) (rs := []) Try.func106 (by kernel_rfl) qiE (by kernel_rfl) (by decide) (qh qiD (all_cons (fun st r h => qhE n st r h) qe)) h⟩
noncomputable def quA (n : Nat) : CL Try.prog := ⟨[qjG n], [], 0⟩
noncomputable def quB (n : Nat) : Nat → St → PT (DEx × St) := fun _ _ => .fail
theorem qB3 : qd (qa Try.f90) 0 = [] := by kernel_rfl
theorem qB4 : Try.f90.body = some (qa Try.f90) := by kernel_rfl
abbrev qqt : List Ar := [.d T49]
abbrev qqu : List Ty := [T4]
noncomputable def qvg (n : Nat) (x : qy qqt) : Option (qk qqu) := (qi tab (quA n) (quB n) (qa Try.f90) 0 (qC qqt 13 x)).run (qbA tab [.tmp 2] qqu)
noncomputable def qvh (n : Nat) : Ct Try.prog := ⟨90, qqt, .ts qqu, qvg n, fun _ _ h => qbF (B := tab) (cs := quA n) (lo := quB n) (rs := [.tmp 2]) Try.func90 (by kernel_rfl) qB4 (by kernel_rfl) (by decide) (qh qB3 qe) h⟩
noncomputable def qcf (n : Nat) : CL Try.prog := ⟨[qvh n], [], 0⟩
noncomputable def qgt (n : Nat) : Nat → St → PT (DEx × St) := fun _ _ => .fail
abbrev qbi : List It := [.v (.t 0) T22, .fn (.t 1) 90 [] [], .v (.t 7) T3, .v (.t 8) T3]
abbrev qcg : List (DEx × List It) := [(.exit 0, []), (.ret, [.v (.t 4) T3])]
noncomputable def qgK (n : Nat) (rec : qb qbi → Option (qf qcg)) (s : qb qbi) : Option (qf qcg) := (qi tab (qcf n) (qgt n) (subC [true, false, true, false, false] (qa Try.f104)) 1 (mkS qbi 19 s)).run (Lp.leaf 19 qbi qcg rec)
noncomputable def qdU (n : Nat) : Lp := ⟨19, qbi, qcg, qg n (qgK n)⟩
theorem qmB : qd (subC [true, false, true, false, false] (qa Try.f104)) 1 = [] := by kernel_rfl
theorem qk9 (n : Nat) (st : St) (r : DEx × St) (h : ((qdU n).go st).Is r) : DA Try.prog false (.loop (subC [true, false, true, false, false] (qa Try.f104))) st r := Lp.ok (L := qdU n) (B := tab) (cs := qcf n) (lo := qgt n) (id := 0) rfl (qh qmB qe) (fun _ _ => rfl) h
noncomputable def qgL (n : Nat) : Nat → St → PT (DEx × St) := fun k st => match k with
  | 0 => (qdU n).go st
  | _ => .fail
theorem qm0 : qd (qa Try.f104) 0 = [(0, .loop (subC [true, false, true, false, false] (qa Try.f104)))] := by kernel_rfl
theorem qm1 : Try.f104.body = some (qa Try.f104) := by kernel_rfl
abbrev qeb : List Ar := [.d T22, .fn 90 [] []]
abbrev qec : List Ty := [T3]
noncomputable def qg8 (n : Nat) (x : qy qeb) : Option (qk qec) := (qi tab (qcf n) (qgL n) (qa Try.f104) 0 (qC qeb 19 x)).run (qbA tab [.tmp 4] qec)
noncomputable def qm2 (n : Nat) : Ct Try.prog := ⟨104, qeb, .ts qec, qg8 n, fun _ _ h => qbF (B := tab) (cs := qcf n) (lo := qgL n) (rs := [.tmp 4]) Try.func104 (by kernel_rfl) qm1 (by kernel_rfl) (by decide) (qh qm0 (all_cons (fun st r h => qk9 n st r h) qe)) h⟩
noncomputable def qf1 (n : Nat) : CL Try.prog := ⟨[qvh n, qm2 n], [], 0⟩
noncomputable def qf2 (n : Nat) : Nat → St → PT (DEx × St) := fun _ _ => .fail
theorem qlA : qd (qa Try.f89) 0 = [] := by kernel_rfl
theorem qlB : Try.f89.body = some (qa Try.f89) := by kernel_rfl
abbrev qdk : List Ar := [.d T22, .fn 90 [] []]
abbrev qdl : List Ty := [T4]
noncomputable def qge (n : Nat) (x : qy qdk) : Option (qk qdl) := (qi tab (qf1 n) (qf2 n) (qa Try.f89) 0 (qC qdk 9 x)).run (qbA tab [.tmp 4] qdl)
noncomputable def qlC (n : Nat) : Ct Try.prog := ⟨89, qdk, .ts qdl, qge n, fun _ _ h => qbF (B := tab) (cs := qf1 n) (lo := qf2 n) (rs := [.tmp 4]) Try.func89 (by kernel_rfl) qlB (by kernel_rfl) (by decide) (qh qlA qe) h⟩
noncomputable def qwt (n : Nat) : CL Try.prog := ⟨[qjG n, qlC n], [], 0⟩
noncomputable def qwu (n : Nat) : Nat → St → PT (DEx × St) := fun _ _ => .fail
theorem qDG : qd (qa Try.f56) 0 = [] := by kernel_rfl
theorem qDH : Try.f56.body = some (qa Try.f56) := by kernel_rfl
abbrev qsD : List Ar := [.d T69]
abbrev qsE : List Ty := [T4]
noncomputable def qxM (n : Nat) (x : qy qsD) : Option (qk qsE) := (qi tab (qwt n) (qwu n) (qa Try.f56) 0 (qC qsD 21 x)).run (qbA tab [.tmp 2] qsE)
noncomputable def qDI (n : Nat) : Ct Try.prog := ⟨56, qsD, .ts qsE, qxM n, fun _ _ h => qbF (B := tab) (cs := qwt n) (lo := qwu n) (rs := [.tmp 2]) Try.func56 (by kernel_rfl) qDH (by kernel_rfl) (by decide) (qh qDG qe) h⟩
noncomputable def quC (n : Nat) : CL Try.prog := ⟨[qpP n], [], 0⟩
noncomputable def quD (n : Nat) : Nat → St → PT (DEx × St) := fun _ _ => .fail
theorem qB5 : qd (qa Try.f62) 0 = [] := by kernel_rfl
theorem qB6 : Try.f62.body = some (qa Try.f62) := by kernel_rfl
abbrev qqv : List Ar := [.d T30, .d T30]
abbrev qqw : List Ty := [T4]
noncomputable def qvi (n : Nat) (x : qy qqv) : Option (qk qqw) := (qi tab (quC n) (quD n) (qa Try.f62) 0 (qC qqv 9 x)).run (qbA tab [.tmp 4] qqw)
noncomputable def qB7 (n : Nat) : Ct Try.prog := ⟨62, qqv, .ts qqw, qvi n, fun _ _ h => qbF (B := tab) (cs := quC n) (lo := quD n) (rs := [.tmp 4]) Try.func62 (by kernel_rfl) qB6 (by kernel_rfl) (by decide) (qh qB5 qe) h⟩
end Go.Proofs.Ytcjgodgpaokbnaa
