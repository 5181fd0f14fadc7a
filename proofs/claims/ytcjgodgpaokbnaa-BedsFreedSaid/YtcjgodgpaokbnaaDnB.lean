/- Printed: what functions of the program compute. -/
import Derived.Test.YtcjgodgpaokbnaaDnA
namespace Go.Proofs.Ytcjgodgpaokbnaa
set_option linter.constructorNameAsVariable false
set_option linter.unusedSimpArgs false
set_option linter.unusedVariables false
set_option linter.unusedSectionVars false
open Go Go.Proofs Go.RowKit
set_option maxRecDepth 20000
noncomputable def qwd (n : Nat) : CL Try.prog := ⟨[], [], 0⟩
noncomputable def qwe (n : Nat) : Nat → St → PT (DEx × St) := fun _ _ => .fail
theorem qDB : qd (qa Try.f98) 0 = [] := by kernel_rfl
theorem qDC : Try.f98.body = some (qa Try.f98) := by kernel_rfl
abbrev qsl : List Ar := [.d T3]
abbrev qsm : List Ty := [T4]
noncomputable def qxA (n : Nat) (x : qy qsl) : Option (qk qsm) := (qi tab (qwd n) (qwe n) (qa Try.f98) 0 (qC qsl 6 x)).run (qbA tab [.tmp 2] qsm)
noncomputable def qxB (n : Nat) : Ct Try.prog := ⟨98, qsl, .ts qsm, qxA n, fun _ _ h => qbF (B := tab) (cs := qwd n) (lo := qwe n) (rs := [.tmp 2]) Try.func98 (by kernel_rfl) qDC (by kernel_rfl) (by decide) (qh qDB qe) h⟩
noncomputable def qxC (n : Nat) : CL Try.prog := ⟨[qxB n], [], 0⟩
noncomputable def qxD (n : Nat) : Nat → St → PT (DEx × St) := fun _ _ => .fail
theorem qEh : qd (qa Try.f84) 0 = [] := by kernel_rfl
theorem qEi : Try.f84.body = some (qa Try.f84) := by kernel_rfl
abbrev qtA : List Ar := [.d T3, .d T3]
abbrev qtB : List Ty := [T4]
noncomputable def qyK (n : Nat) (x : qy qtA) : Option (qk qtB) := (qi tab (qxC n) (qxD n) (qa Try.f84) 0 (qC qtA 17 x)).run (qbA tab [.tmp 4] qtB)
noncomputable def qh3 (n : Nat) : Ct Try.prog := ⟨84, qtA, .ts qtB, qyK n, fun _ _ h => qbF (B := tab) (cs := qxC n) (lo := qxD n) (rs := [.tmp 4]) Try.func84 (by kernel_rfl) qEi (by kernel_rfl) (by decide) (qh qEh qe) h⟩
noncomputable def qug (n : Nat) : CL Try.prog := ⟨[qxB n], [], 0⟩
noncomputable def quh (n : Nat) : Nat → St → PT (DEx × St) := fun _ _ => .fail
theorem qBW : qd (qa Try.f77) 0 = [] := by kernel_rfl
theorem qBX : Try.f77.body = some (qa Try.f77) := by kernel_rfl
abbrev qqd : List Ar := [.d T3, .d T3]
abbrev qqe : List Ty := [T3]
noncomputable def qu8 (n : Nat) (x : qy qqd) : Option (qk qqe) := (qi tab (qug n) (quh n) (qa Try.f77) 0 (qC qqd 20 x)).run (qbA tab [.tmp 4] qqe)
noncomputable def qqf (n : Nat) : Ct Try.prog := ⟨77, qqd, .ts qqe, qu8 n, fun _ _ h => qbF (B := tab) (cs := qug n) (lo := quh n) (rs := [.tmp 4]) Try.func77 (by kernel_rfl) qBX (by kernel_rfl) (by decide) (qh qBW qe) h⟩
noncomputable def qsn (n : Nat) : CL Try.prog := ⟨[], [], 0⟩
noncomputable def qAk (n : Nat) : Nat → St → PT (DEx × St) := fun _ _ => .fail
abbrev qo4 : List It := [.v (.t 6) T25, .v (.t 7) T3, .v (.t 8) T3, .row (.t 3) false T3 3]
abbrev qso : List (DEx × List It) := [(.exit 0, [.row (.t 3) false T3 3])]
noncomputable def qA4 (n : Nat) (rec : qb qo4 → Option (qf qso)) (s : qb qo4) : Option (qf qso) := (qi tab (qsn n) (qAk n) (subC [true, true, false, true, false, false] (qa Try.f32)) 1 (mkS qo4 19 s)).run (Lp.leaf 19 qo4 qso rec)
noncomputable def qwf (n : Nat) : Lp := ⟨19, qo4, qso, qg n (qA4 n)⟩
theorem qGk : qd (subC [true, true, false, true, false, false] (qa Try.f32)) 1 = [] := by kernel_rfl
theorem qDD (n : Nat) (st : St) (r : DEx × St) (h : ((qwf n).go st).Is r) : DA Try.prog false (.loop (subC [true, true, false, true, false, false] (qa Try.f32))) st r := Lp.ok (L := qwf n) (B := tab) (cs := qsn n) (lo := qAk n) (id := 0) rfl (qh qGk qe) (fun _ _ => rfl) h
noncomputable def qA5 (n : Nat) : Nat → St → PT (DEx × St) := fun k st => match k with
  | 0 => (qwf n).go st
  | _ => .fail
theorem qG2 : qd (qa Try.f32) 0 = [(0, .loop (subC [true, true, false, true, false, false] (qa Try.f32)))] := by kernel_rfl
theorem qG3 : Try.f32.body = some (qa Try.f32) := by kernel_rfl
abbrev qwg : List It := [.v (.t 0) T25]
abbrev quS : List (List It) := [[.row (.t 0) false T3 3]]
noncomputable def qCq (n : Nat) (x : qb qwg) : Option (qx quS) := runW tab (qsn n) (qA5 n) (qa Try.f32) qwg 1 19 [.tmp 2] quS x
noncomputable def qCr (n : Nat) : Cw Try.prog := ⟨32, 1, qwg, 1, quS, qCq n, fun _ _ h => qbb (B := tab) (cs := qsn n) (lo := qA5 n) (rs := [.tmp 2]) Try.func32 (by kernel_rfl) qG3 (by kernel_rfl) (by decide) (qh qG2 (all_cons (fun st r h => qDD n st r h) qe)) h⟩
noncomputable def qbl (n : Nat) : CL Try.prog := ⟨[qh3 n], [], 0⟩
noncomputable def qiw (n : Nat) : Nat → St → PT (DEx × St) := fun _ _ => .fail
abbrev qb8 : List It := [.v (.t 1) T3, .v (.t 2) T3, .v (.t 6) T3, .v (.t 7) T3, .row (.t 0) true T3 3]
abbrev qdr : List (DEx × List It) := [(.exit 2, [.v (.t 1) T3, .v (.t 2) T3, .v (.t 6) T3, .row (.t 0) true T3 3])]
noncomputable def qiR (n : Nat) (rec : qb qb8 → Option (qf qdr)) (s : qb qb8) : Option (qf qdr) := (qi tab (qbl n) (qiw n) (subC [true, false, false, true, false, false, true, false, false] (qa Try.f78)) 2 (mkS qb8 49 s)).run (Lp.leaf 49 qb8 qdr rec)
noncomputable def qfE (n : Nat) : Lp := ⟨49, qb8, qdr, qg n (qiR n)⟩
theorem qpF : qd (subC [true, false, false, true, false, false, true, false, false] (qa Try.f78)) 2 = [] := by kernel_rfl
theorem qod (n : Nat) (st : St) (r : DEx × St) (h : ((qfE n).go st).Is r) : DA Try.prog false (.loop (subC [true, false, false, true, false, false, true, false, false] (qa Try.f78))) st r := Lp.ok (L := qfE n) (B := tab) (cs := qbl n) (lo := qiw n) (id := 1) rfl (qh qpF qe) (fun _ _ => rfl) h
noncomputable def qix (n : Nat) : Nat → St → PT (DEx × St) := fun k st => match k with
  | 1 => (qfE n).go st
  | _ => .fail
abbrev qb9 : List It := [.v (.t 1) T3, .v (.t 2) T3, .v (.t 6) T3, .row (.t 0) true T3 3]
abbrev qds : List (DEx × List It) := [(.exit 0, [.row (.t 0) true T3 3])]
noncomputable def qiS (n : Nat) (rec : qb qb9 → Option (qf qds)) (s : qb qb9) : Option (qf qds) := (qi tab (qbl n) (qix n) (subC [true, false, false] (qa Try.f78)) 1 (mkS qb9 49 s)).run (Lp.leaf 49 qb9 qds rec)
noncomputable def qfF (n : Nat) : Lp := ⟨49, qb9, qds, qg n (qiS n)⟩
theorem qpG : qd (subC [true, false, false] (qa Try.f78)) 1 = [(1, .loop (subC [true, false, false, true, false, false, true, false, false] (qa Try.f78)))] := by kernel_rfl
theorem qoe (n : Nat) (st : St) (r : DEx × St) (h : ((qfF n).go st).Is r) : DA Try.prog false (.loop (subC [true, false, false] (qa Try.f78))) st r := Lp.ok (L := qfF n) (B := tab) (cs := qbl n) (lo := qix n) (id := 0) rfl (qh qpG (all_cons (fun st r h => qod n st r h) qe)) (fun _ _ => rfl) h
noncomputable def qiT (n : Nat) : Nat → St → PT (DEx × St) := fun k st => match k with
  | 0 => (qfF n).go st
  | _ => .fail
theorem qqg : qd (qa Try.f78) 0 = [(0, .loop (subC [true, false, false] (qa Try.f78)))] := by kernel_rfl
theorem qqh : Try.f78.body = some (qa Try.f78) := by kernel_rfl
abbrev qfG : List It := [.v (.t 1) T3, .v (.t 2) T3, .row (.t 0) true T3 3]
abbrev qfg : List (List It) := [[.row (.t 0) true T3 3]]
noncomputable def qjh (n : Nat) (x : qb qfG) : Option (qx qfg) := runW tab (qbl n) (qiT n) (qa Try.f78) qfG 3 49 [] qfg x
noncomputable def qqi (n : Nat) : Cw Try.prog := ⟨78, 3, qfG, 0, qfg, qjh n, fun _ _ h => qbb (B := tab) (cs := qbl n) (lo := qiT n) (rs := []) Try.func78 (by kernel_rfl) qqh (by kernel_rfl) (by decide) (qh qqg (all_cons (fun st r h => qoe n st r h) qe)) h⟩
noncomputable def qeC (n : Nat) : CL Try.prog := ⟨[qh3 n], [], 0⟩
noncomputable def qkx (n : Nat) : Nat → St → PT (DEx × St) := fun _ _ => .fail
abbrev qc5 : List It := [.v (.t 2) T3, .v (.t 3) T3, .v (.t 8) T3, .row (.t 0) true T3 3]
abbrev qeD : List (DEx × List It) := [(.exit 0, [.row (.t 0) true T3 3]), (.ret, [.row (.t 0) true T3 3])]
noncomputable def qsp (n : Nat) (rec : qb qc5 → Option (qf qeD)) (s : qb qc5) : Option (qf qeD) := (qi tab (qeC n) (qkx n) (subC [true, false, false] (qa Try.f99)) 1 (mkS qc5 76 s)).run (Lp.leaf 76 qc5 qeD rec)
noncomputable def qhh (n : Nat) : Lp := ⟨76, qc5, qeD, qg n (qsp n)⟩
theorem qsq : qd (subC [true, false, false] (qa Try.f99)) 1 = [] := by kernel_rfl
theorem qqN (n : Nat) (st : St) (r : DEx × St) (h : ((qhh n).go st).Is r) : DA Try.prog false (.loop (subC [true, false, false] (qa Try.f99))) st r := Lp.ok (L := qhh n) (B := tab) (cs := qeC n) (lo := qkx n) (id := 0) rfl (qh qsq qe) (fun _ _ => rfl) h
noncomputable def qk1 (n : Nat) : Nat → St → PT (DEx × St) := fun k st => match k with
  | 0 => (qhh n).go st
  | _ => .fail
theorem qsZ : qd (qa Try.f99) 0 = [(0, .loop (subC [true, false, false] (qa Try.f99)))] := by kernel_rfl
theorem qs0 : Try.f99.body = some (qa Try.f99) := by kernel_rfl
abbrev qhi : List It := [.v (.t 1) T3, .v (.t 2) T3, .v (.t 3) T3, .row (.t 0) true T3 3]
abbrev qgY : List (List It) := [[.row (.t 0) true T3 3]]
noncomputable def qs1 (n : Nat) (x : qb qhi) : Option (qx qgY) := runW tab (qeC n) (qk1 n) (qa Try.f99) qhi 4 76 [] qgY x
noncomputable def qs2 (n : Nat) : Cw Try.prog := ⟨99, 4, qhi, 0, qgY, qs1 n, fun _ _ h => qbb (B := tab) (cs := qeC n) (lo := qk1 n) (rs := []) Try.func99 (by kernel_rfl) qs0 (by kernel_rfl) (by decide) (qh qsZ (all_cons (fun st r h => qqN n st r h) qe)) h⟩
noncomputable def qca (n : Nat) : CL Try.prog := ⟨[], [qs2 n], 0⟩
noncomputable def qky (n : Nat) : Nat → St → PT (DEx × St) := fun _ _ => .fail
abbrev qc6 : List It := [.v (.t 6) T3, .v (.t 7) T3, .v (.t 10) T3, .row (.t 0) true T3 3]
abbrev qeE : List (DEx × List It) := [(.exit 2, [.row (.t 0) true T3 3])]
noncomputable def qsr (n : Nat) (rec : qb qc6 → Option (qf qeE)) (s : qb qc6) : Option (qf qeE) := (qi tab (qca n) (qky n) (subC [true, true, true, true, true, false, false] (qa Try.f79)) 2 (mkS qc6 56 s)).run (Lp.leaf 56 qc6 qeE rec)
noncomputable def qhj (n : Nat) : Lp := ⟨56, qc6, qeE, qg n (qsr n)⟩
theorem qss : qd (subC [true, true, true, true, true, false, false] (qa Try.f79)) 2 = [] := by kernel_rfl
theorem qqO (n : Nat) (st : St) (r : DEx × St) (h : ((qhj n).go st).Is r) : DA Try.prog false (.loop (subC [true, true, true, true, true, false, false] (qa Try.f79))) st r := Lp.ok (L := qhj n) (B := tab) (cs := qca n) (lo := qky n) (id := 1) rfl (qh qss qe) (fun _ _ => rfl) h
noncomputable def qkz (n : Nat) : Nat → St → PT (DEx × St) := fun _ _ => .fail
abbrev qc7 : List It := [.v (.t 6) T3, .v (.t 7) T3, .v (.t 8) T3, .v (.t 9) T3, .row (.t 0) true T3 3]
abbrev qeF : List (DEx × List It) := [(.exit 0, [.v (.t 6) T3, .v (.t 7) T3, .v (.t 8) T3, .row (.t 0) true T3 3])]
noncomputable def qst (n : Nat) (rec : qb qc7 → Option (qf qeF)) (s : qb qc7) : Option (qf qeF) := (qi tab (qca n) (qkz n) (subC [true, true, true, false, true, false, false] (qa Try.f79)) 1 (mkS qc7 56 s)).run (Lp.leaf 56 qc7 qeF rec)
noncomputable def qhk (n : Nat) : Lp := ⟨56, qc7, qeF, qg n (qst n)⟩
theorem qsu : qd (subC [true, true, true, false, true, false, false] (qa Try.f79)) 1 = [] := by kernel_rfl
theorem qqP (n : Nat) (st : St) (r : DEx × St) (h : ((qhk n).go st).Is r) : DA Try.prog false (.loop (subC [true, true, true, false, true, false, false] (qa Try.f79))) st r := Lp.ok (L := qhk n) (B := tab) (cs := qca n) (lo := qkz n) (id := 0) rfl (qh qsu qe) (fun _ _ => rfl) h
noncomputable def qk2 (n : Nat) : Nat → St → PT (DEx × St) := fun k st => match k with
  | 0 => (qhk n).go st
  | 1 => (qhj n).go st
  | _ => .fail
theorem qs3 : qd (qa Try.f79) 0 = [(0, .loop (subC [true, true, true, false, true, false, false] (qa Try.f79))), (1, .loop (subC [true, true, true, true, true, false, false] (qa Try.f79)))] := by kernel_rfl
theorem qs4 : Try.f79.body = some (qa Try.f79) := by kernel_rfl
abbrev qhl : List It := [.v (.t 1) T3, .v (.t 2) T3, .row (.t 0) true T3 3]
abbrev qgZ : List (List It) := [[.row (.t 0) true T3 3]]
noncomputable def qlQ (n : Nat) (x : qb qhl) : Option (qx qgZ) := runW tab (qca n) (qk2 n) (qa Try.f79) qhl 3 56 [] qgZ x
noncomputable def qs5 (n : Nat) : Cw Try.prog := ⟨79, 3, qhl, 0, qgZ, qlQ n, fun _ _ h => qbb (B := tab) (cs := qca n) (lo := qk2 n) (rs := []) Try.func79 (by kernel_rfl) qs4 (by kernel_rfl) (by decide) (qh qs3 (all_cons (fun st r h => qqP n st r h) (all_cons (fun st r h => qqO n st r h) qe))) h⟩
noncomputable def qdH (n : Nat) : CL Try.prog := ⟨[], [], 0⟩
noncomputable def qiU (n : Nat) : Nat → St → PT (DEx × St) := fun _ _ => .fail
abbrev qco : List It := [.v (.t 6) T3, .v (.t 7) T3, .row (.t 0) true T3 3]
abbrev qdI : List (DEx × List It) := [(.exit 0, [.row (.t 0) true T3 3])]
noncomputable def qqj (n : Nat) (rec : qb qco → Option (qf qdI)) (s : qb qco) : Option (qf qdI) := (qi tab (qdH n) (qiU n) (subC [true, true, false, false] (qa Try.f82)) 1 (mkS qco 32 s)).run (Lp.leaf 32 qco qdI rec)
noncomputable def qfS (n : Nat) : Lp := ⟨32, qco, qdI, qg n (qqj n)⟩
theorem qqk : qd (subC [true, true, false, false] (qa Try.f82)) 1 = [] := by kernel_rfl
theorem qoQ (n : Nat) (st : St) (r : DEx × St) (h : ((qfS n).go st).Is r) : DA Try.prog false (.loop (subC [true, true, false, false] (qa Try.f82))) st r := Lp.ok (L := qfS n) (B := tab) (cs := qdH n) (lo := qiU n) (id := 0) rfl (qh qqk qe) (fun _ _ => rfl) h
noncomputable def qji (n : Nat) : Nat → St → PT (DEx × St) := fun k st => match k with
  | 0 => (qfS n).go st
  | _ => .fail
theorem qqQ : qd (qa Try.f82) 0 = [(0, .loop (subC [true, true, false, false] (qa Try.f82)))] := by kernel_rfl
theorem qqR : Try.f82.body = some (qa Try.f82) := by kernel_rfl
abbrev qfT : List It := [.v (.t 1) T3, .v (.t 2) T3, .row (.t 0) true T3 3]
abbrev qfH : List (List It) := [[.row (.t 0) true T3 3]]
noncomputable def qqS (n : Nat) (x : qb qfT) : Option (qx qfH) := runW tab (qdH n) (qji n) (qa Try.f82) qfT 3 32 [] qfH x
noncomputable def qqT (n : Nat) : Cw Try.prog := ⟨82, 3, qfT, 0, qfH, qqS n, fun _ _ h => qbb (B := tab) (cs := qdH n) (lo := qji n) (rs := []) Try.func82 (by kernel_rfl) qqR (by kernel_rfl) (by decide) (qh qqQ (all_cons (fun st r h => qoQ n st r h) qe)) h⟩
noncomputable def qui (n : Nat) : CL Try.prog := ⟨[], [], 0⟩
noncomputable def quj (n : Nat) : Nat → St → PT (DEx × St) := fun _ _ => .fail
theorem qBY : qd (qa Try.f88) 0 = [] := by kernel_rfl
theorem qBZ : Try.f88.body = some (qa Try.f88) := by kernel_rfl
abbrev qql : List Ar := [.d T129]
abbrev qqm : List Ty := [T3]
noncomputable def qu9 (n : Nat) (x : qy qql) : Option (qk qqm) := (qi tab (qui n) (quj n) (qa Try.f88) 0 (qC qql 25 x)).run (qbA tab [.tmp 2] qqm)
noncomputable def qB0 (n : Nat) : Ct Try.prog := ⟨88, qql, .ts qqm, qu9 n, fun _ _ h => qbF (B := tab) (cs := qui n) (lo := quj n) (rs := [.tmp 2]) Try.func88 (by kernel_rfl) qBZ (by kernel_rfl) (by decide) (qh qBY qe) h⟩
noncomputable def qmp (n : Nat) : CL Try.prog := ⟨[qh3 n], [], 0⟩
noncomputable def qmq (n : Nat) : Nat → St → PT (DEx × St) := fun _ _ => .fail
theorem quk : qd (qa Try.f114) 0 = [] := by kernel_rfl
theorem qul : Try.f114.body = some (qa Try.f114) := by kernel_rfl
abbrev qh4 : List It := [.v (.t 0) T32, .v (.t 1) T3, .v (.t 2) T3, .obj (.t 3) true 3 1, .v (.c 0 0) T3]
abbrev qhz : List (List It) := [[.v (.t 0) T3, .v (.t 1) T3, .obj (.t 2) true 3 1, .v (.c 0 0) T3]]
noncomputable def qum (n : Nat) (x : qb qh4) : Option (qx qhz) := runW tab (qmp n) (qmq n) (qa Try.f114) qh4 4 28 [.tmp 8, .tmp 9] qhz x
noncomputable def qun (n : Nat) : Cw Try.prog := ⟨114, 4, qh4, 2, qhz, qum n, fun _ _ h => qbb (B := tab) (cs := qmp n) (lo := qmq n) (rs := [.tmp 8, .tmp 9]) Try.func114 (by kernel_rfl) qul (by kernel_rfl) (by decide) (qh quk qe) h⟩
noncomputable def qmr (n : Nat) : CL Try.prog := ⟨[], [qun n], 0⟩
noncomputable def qms (n : Nat) : Nat → St → PT (DEx × St) := fun _ _ => .fail
theorem qup : qd (qa Try.f103) 0 = [] := by kernel_rfl
theorem quq : Try.f103.body = some (qa Try.f103) := by kernel_rfl
abbrev qh5 : List It := [.v (.t 0) T32, .v (.t 1) T3, .v (.t 2) T3, .v (.t 3) T3, .obj (.t 4) true 3 1, .v (.c 0 0) T3]
abbrev qhA : List (List It) := [[.v (.t 0) T3, .obj (.t 1) true 3 1, .v (.c 0 0) T3]]
noncomputable def qur (n : Nat) (x : qb qh5) : Option (qx qhA) := runW tab (qmr n) (qms n) (qa Try.f103) qh5 5 36 [.tmp 10] qhA x
noncomputable def qm7 (n : Nat) : Cw Try.prog := ⟨103, 5, qh5, 1, qhA, qur n, fun _ _ h => qbb (B := tab) (cs := qmr n) (lo := qms n) (rs := [.tmp 10]) Try.func103 (by kernel_rfl) quq (by kernel_rfl) (by decide) (qh qup qe) h⟩
noncomputable def qiy (n : Nat) : CL Try.prog := ⟨[], [qm7 n], 0⟩
noncomputable def qiz (n : Nat) : Nat → St → PT (DEx × St) := fun _ _ => .fail
theorem qpH : qd (qa Try.f102) 0 = [] := by kernel_rfl
theorem qpI : Try.f102.body = some (qa Try.f102) := by kernel_rfl
abbrev qfh : List It := [.v (.t 0) T32, .v (.t 1) T3, .obj (.t 2) true 3 1, .v (.c 0 0) T3]
abbrev qeS : List (List It) := [[.v (.t 0) T3, .obj (.t 1) true 3 1, .v (.c 0 0) T3]]
noncomputable def qpJ (n : Nat) (x : qb qfh) : Option (qx qeS) := runW tab (qiy n) (qiz n) (qa Try.f102) qfh 3 15 [.tmp 6] qeS x
noncomputable def qpK (n : Nat) : Cw Try.prog := ⟨102, 3, qfh, 1, qeS, qpJ n, fun _ _ h => qbb (B := tab) (cs := qiy n) (lo := qiz n) (rs := [.tmp 6]) Try.func102 (by kernel_rfl) qpI (by kernel_rfl) (by decide) (qh qpH qe) h⟩
noncomputable def qjC (n : Nat) : CL Try.prog := ⟨[], [qpK n, qm7 n], 0⟩
noncomputable def qjD (n : Nat) : Nat → St → PT (DEx × St) := fun _ _ => .fail
theorem qrd : qd (qa Try.f81) 0 = [] := by kernel_rfl
theorem qre : Try.f81.body = some (qa Try.f81) := by kernel_rfl
abbrev qgb : List It := [.v (.t 0) T32, .v (.t 1) T3, .v (.t 2) T3]
abbrev qfU : List (List It) := [[.v (.t 0) T3, .v (.t 1) T118]]
noncomputable def qrf (n : Nat) (x : qb qgb) : Option (qx qfU) := runW tab (qjC n) (qjD n) (qa Try.f81) qgb 3 57 [.tmp 6, .tmp 7] qfU x
noncomputable def qrg (n : Nat) : Cw Try.prog := ⟨81, 3, qgb, 2, qfU, qrf n, fun _ _ h => qbb (B := tab) (cs := qjC n) (lo := qjD n) (rs := [.tmp 6, .tmp 7]) Try.func81 (by kernel_rfl) qre (by kernel_rfl) (by decide) (qh qrd qe) h⟩
noncomputable def qn (n : Nat) : CL Try.prog := ⟨[qh3 n], [], 0⟩
noncomputable def qgo (n : Nat) : Nat → St → PT (DEx × St) := fun _ _ => .fail
abbrev qbe : List It := [.v (.t 1) T3, .v (.t 2) T3, .v (.t 7) T3, .v (.t 8) T3, .v (.t 10) T3, .row (.t 0) true T3 3]
abbrev qcb : List (DEx × List It) := [(.exit 6, [.v (.t 1) T3, .v (.t 2) T3, .v (.t 7) T3, .v (.t 8) T3, .row (.t 0) true T3 3])]
noncomputable def qmt (n : Nat) (rec : qb qbe → Option (qf qcb)) (s : qb qbe) : Option (qf qcb) := (qi tab (qn n) (qgo n) (subC [true, true, false, true, false, false, true, false, false, true, true, true, true, true, true, false, true, false, false] (qa Try.f83)) 4 (mkS qbe 133 s)).run (Lp.leaf 133 qbe qcb rec)
noncomputable def qdL (n : Nat) : Lp := ⟨133, qbe, qcb, qg n (qmt n)⟩
theorem qmu : qd (subC [true, true, false, true, false, false, true, false, false, true, true, true, true, true, true, false, true, false, false] (qa Try.f83)) 4 = [] := by kernel_rfl
theorem qk3 (n : Nat) (st : St) (r : DEx × St) (h : ((qdL n).go st).Is r) : DA Try.prog false (.loop (subC [true, true, false, true, false, false, true, false, false, true, true, true, true, true, true, false, true, false, false] (qa Try.f83))) st r := Lp.ok (L := qdL n) (B := tab) (cs := qn n) (lo := qgo n) (id := 3) rfl (qh qmu qe) (fun _ _ => rfl) h
noncomputable def qgp (n : Nat) : Nat → St → PT (DEx × St) := fun _ _ => .fail
abbrev qbf : List It := [.v (.t 1) T3, .v (.t 2) T3, .v (.t 7) T3, .v (.t 8) T3, .v (.t 9) T3, .row (.t 0) true T3 3]
abbrev qcc : List (DEx × List It) := [(.exit 4, [.v (.t 1) T3, .v (.t 2) T3, .v (.t 7) T3, .v (.t 8) T3, .row (.t 0) true T3 3])]
noncomputable def qmv (n : Nat) (rec : qb qbf → Option (qf qcc)) (s : qb qbf) : Option (qf qcc) := (qi tab (qn n) (qgp n) (subC [true, true, false, true, false, false, true, false, false, true, true, true, true, false, true, false, true, false, false] (qa Try.f83)) 3 (mkS qbf 133 s)).run (Lp.leaf 133 qbf qcc rec)
noncomputable def qdM (n : Nat) : Lp := ⟨133, qbf, qcc, qg n (qmv n)⟩
theorem qmw : qd (subC [true, true, false, true, false, false, true, false, false, true, true, true, true, false, true, false, true, false, false] (qa Try.f83)) 3 = [] := by kernel_rfl
theorem qk4 (n : Nat) (st : St) (r : DEx × St) (h : ((qdM n).go st).Is r) : DA Try.prog false (.loop (subC [true, true, false, true, false, false, true, false, false, true, true, true, true, false, true, false, true, false, false] (qa Try.f83))) st r := Lp.ok (L := qdM n) (B := tab) (cs := qn n) (lo := qgp n) (id := 2) rfl (qh qmw qe) (fun _ _ => rfl) h
noncomputable def qgq (n : Nat) : Nat → St → PT (DEx × St) := fun _ _ => .fail
abbrev qbg : List It := [.v (.t 1) T3, .v (.t 2) T3, .v (.t 7) T3, .v (.t 8) T3, .row (.t 0) true T3 3]
abbrev qcd : List (DEx × List It) := [(.exit 2, [.v (.t 1) T3, .v (.t 2) T3, .v (.t 7) T3, .v (.t 8) T3, .row (.t 0) true T3 3])]
noncomputable def qmx (n : Nat) (rec : qb qbg → Option (qf qcd)) (s : qb qbg) : Option (qf qcd) := (qi tab (qn n) (qgq n) (subC [true, true, false, true, false, false, true, false, false, false, false, false] (qa Try.f83)) 2 (mkS qbg 133 s)).run (Lp.leaf 133 qbg qcd rec)
noncomputable def qdN (n : Nat) : Lp := ⟨133, qbg, qcd, qg n (qmx n)⟩
theorem qmy : qd (subC [true, true, false, true, false, false, true, false, false, false, false, false] (qa Try.f83)) 2 = [] := by kernel_rfl
theorem qk5 (n : Nat) (st : St) (r : DEx × St) (h : ((qdN n).go st).Is r) : DA Try.prog false (.loop (subC [true, true, false, true, false, false, true, false, false, false, false, false] (qa Try.f83))) st r := Lp.ok (L := qdN n) (B := tab) (cs := qn n) (lo := qgq n) (id := 1) rfl (qh qmy qe) (fun _ _ => rfl) h
noncomputable def qgr (n : Nat) : Nat → St → PT (DEx × St) := fun k st => match k with
  | 1 => (qdN n).go st
  | 2 => (qdM n).go st
  | 3 => (qdL n).go st
  | _ => .fail
abbrev qbh : List It := [.v (.t 1) T3, .v (.t 2) T3, .v (.t 7) T3, .v (.t 8) T3, .row (.t 0) true T3 3]
abbrev qce : List (DEx × List It) := [(.exit 0, [.row (.t 0) true T3 3]), (.ret, [.v (.t 6) T4, .row (.t 0) true T3 3])]
noncomputable def qmz (n : Nat) (rec : qb qbh → Option (qf qce)) (s : qb qbh) : Option (qf qce) := (qi tab (qn n) (qgr n) (subC [true, true, false, true, false, false] (qa Try.f83)) 1 (mkS qbh 133 s)).run (Lp.leaf 133 qbh qce rec)
noncomputable def qdO (n : Nat) : Lp := ⟨133, qbh, qce, qg n (qmz n)⟩
theorem qmA : qd (subC [true, true, false, true, false, false] (qa Try.f83)) 1 = [(1, .loop (subC [true, true, false, true, false, false, true, false, false, false, false, false] (qa Try.f83))), (2, .loop (subC [true, true, false, true, false, false, true, false, false, true, true, true, true, false, true, false, true, false, false] (qa Try.f83))), (3, .loop (subC [true, true, false, true, false, false, true, false, false, true, true, true, true, true, true, false, true, false, false] (qa Try.f83)))] := by kernel_rfl
theorem qk6 (n : Nat) (st : St) (r : DEx × St) (h : ((qdO n).go st).Is r) : DA Try.prog false (.loop (subC [true, true, false, true, false, false] (qa Try.f83))) st r := Lp.ok (L := qdO n) (B := tab) (cs := qn n) (lo := qgr n) (id := 0) rfl (qh qmA (all_cons (fun st r h => qk5 n st r h) (all_cons (fun st r h => qk4 n st r h) (all_cons (fun st r h => qk3 n st r h) qe)))) (fun _ _ => rfl) h
noncomputable def qgJ (n : Nat) : Nat → St → PT (DEx × St) := fun k st => match k with
  | 0 => (qdO n).go st
  | _ => .fail
theorem qmW : qd (qa Try.f83) 0 = [(0, .loop (subC [true, true, false, true, false, false] (qa Try.f83)))] := by kernel_rfl
theorem qmX : Try.f83.body = some (qa Try.f83) := by kernel_rfl
abbrev qdP : List It := [.v (.t 1) T3, .v (.t 2) T3, .row (.t 0) true T3 3]
abbrev qdv : List (List It) := [[.v (.t 0) T4, .row (.t 1) true T3 3]]
noncomputable def qmY (n : Nat) (x : qb qdP) : Option (qx qdv) := runW tab (qn n) (qgJ n) (qa Try.f83) qdP 3 133 [.tmp 6] qdv x
noncomputable def qmZ (n : Nat) : Cw Try.prog := ⟨83, 3, qdP, 1, qdv, qmY n, fun _ _ h => qbb (B := tab) (cs := qn n) (lo := qgJ n) (rs := [.tmp 6]) Try.func83 (by kernel_rfl) qmX (by kernel_rfl) (by decide) (qh qmW (all_cons (fun st r h => qk6 n st r h) qe)) h⟩
noncomputable def qK (n : Nat) : CL Try.prog := ⟨[qh3 n], [], 0⟩
noncomputable def qic (n : Nat) : Nat → St → PT (DEx × St) := fun _ _ => .fail
abbrev qbY : List It := [.v (.t 1) T3, .v (.t 9) T3, .v (.t 10) T3, .row (.t 0) true T3 3]
abbrev qc8 : List (DEx × List It) := [(.exit 4, [.v (.t 1) T3, .v (.t 9) T3, .v (.t 10) T3, .row (.t 0) true T3 3])]
noncomputable def qo5 (n : Nat) (rec : qb qbY → Option (qf qc8)) (s : qb qbY) : Option (qf qc8) := (qi tab (qK n) (qic n) (subC [true, true, true, false, false, false, false, true, false, false, false] (qa Try.f85)) 3 (mkS qbY 84 s)).run (Lp.leaf 84 qbY qc8 rec)
noncomputable def qfi (n : Nat) : Lp := ⟨84, qbY, qc8, qg n (qo5 n)⟩
theorem qo6 : qd (subC [true, true, true, false, false, false, false, true, false, false, false] (qa Try.f85)) 3 = [] := by kernel_rfl
theorem qnX (n : Nat) (st : St) (r : DEx × St) (h : ((qfi n).go st).Is r) : DA Try.prog false (.loop (subC [true, true, true, false, false, false, false, true, false, false, false] (qa Try.f85))) st r := Lp.ok (L := qfi n) (B := tab) (cs := qK n) (lo := qic n) (id := 2) rfl (qh qo6 qe) (fun _ _ => rfl) h
noncomputable def qid (n : Nat) : Nat → St → PT (DEx × St) := fun _ _ => .fail
abbrev qbZ : List It := [.v (.t 1) T3, .v (.t 9) T3, .v (.t 10) T3, .row (.t 0) true T3 3]
abbrev qc9 : List (DEx × List It) := [(.exit 2, [.v (.t 1) T3, .v (.t 9) T3, .v (.t 10) T3, .row (.t 0) true T3 3])]
noncomputable def qo7 (n : Nat) (rec : qb qbZ → Option (qf qc9)) (s : qb qbZ) : Option (qf qc9) := (qi tab (qK n) (qid n) (subC [true, true, true, false, false, false, false, false, false, false] (qa Try.f85)) 2 (mkS qbZ 84 s)).run (Lp.leaf 84 qbZ qc9 rec)
noncomputable def qfj (n : Nat) : Lp := ⟨84, qbZ, qc9, qg n (qo7 n)⟩
theorem qo8 : qd (subC [true, true, true, false, false, false, false, false, false, false] (qa Try.f85)) 2 = [] := by kernel_rfl
theorem qnY (n : Nat) (st : St) (r : DEx × St) (h : ((qfj n).go st).Is r) : DA Try.prog false (.loop (subC [true, true, true, false, false, false, false, false, false, false] (qa Try.f85))) st r := Lp.ok (L := qfj n) (B := tab) (cs := qK n) (lo := qid n) (id := 1) rfl (qh qo8 qe) (fun _ _ => rfl) h
noncomputable def qie (n : Nat) : Nat → St → PT (DEx × St) := fun k st => match k with
  | 1 => (qfj n).go st
  | 2 => (qfi n).go st
  | _ => .fail
abbrev qb0 : List It := [.v (.t 1) T3, .v (.t 9) T3, .v (.t 10) T3, .row (.t 0) true T3 3]
abbrev qda : List (DEx × List It) := [(.exit 0, [.v (.t 9) T3, .row (.t 0) true T3 3])]
noncomputable def qo9 (n : Nat) (rec : qb qb0 → Option (qf qda)) (s : qb qb0) : Option (qf qda) := (qi tab (qK n) (qie n) (subC [true, true, true, false, false, false] (qa Try.f85)) 1 (mkS qb0 84 s)).run (Lp.leaf 84 qb0 qda rec)
noncomputable def qfk (n : Nat) : Lp := ⟨84, qb0, qda, qg n (qo9 n)⟩
theorem qpa : qd (subC [true, true, true, false, false, false] (qa Try.f85)) 1 = [(1, .loop (subC [true, true, true, false, false, false, false, false, false, false] (qa Try.f85))), (2, .loop (subC [true, true, true, false, false, false, false, true, false, false, false] (qa Try.f85)))] := by kernel_rfl
theorem qnZ (n : Nat) (st : St) (r : DEx × St) (h : ((qfk n).go st).Is r) : DA Try.prog false (.loop (subC [true, true, true, false, false, false] (qa Try.f85))) st r := Lp.ok (L := qfk n) (B := tab) (cs := qK n) (lo := qie n) (id := 0) rfl (qh qpa (all_cons (fun st r h => qnY n st r h) (all_cons (fun st r h => qnX n st r h) qe))) (fun _ _ => rfl) h
noncomputable def qiA (n : Nat) : Nat → St → PT (DEx × St) := fun k st => match k with
  | 0 => (qfk n).go st
  | _ => .fail
theorem qpL : qd (qa Try.f85) 0 = [(0, .loop (subC [true, true, true, false, false, false] (qa Try.f85)))] := by kernel_rfl
theorem qpM : Try.f85.body = some (qa Try.f85) := by kernel_rfl
abbrev qfl : List It := [.v (.t 1) T3, .v (.t 2) T3, .v (.t 3) T3, .row (.t 0) true T3 3]
abbrev qeT : List (List It) := [[.v (.t 0) T3, .row (.t 1) true T3 3]]
noncomputable def qpN (n : Nat) (x : qb qfl) : Option (qx qeT) := runW tab (qK n) (qiA n) (qa Try.f85) qfl 4 84 [.tmp 8] qeT x
noncomputable def qpO (n : Nat) : Cw Try.prog := ⟨85, 4, qfl, 1, qeT, qpN n, fun _ _ h => qbb (B := tab) (cs := qK n) (lo := qiA n) (rs := [.tmp 8]) Try.func85 (by kernel_rfl) qpM (by kernel_rfl) (by decide) (qh qpL (all_cons (fun st r h => qnZ n st r h) qe)) h⟩
noncomputable def qq (n : Nat) : CL Try.prog := ⟨[qh3 n], [], 0⟩
noncomputable def qjV (n : Nat) : Nat → St → PT (DEx × St) := fun _ _ => .fail
abbrev qcV : List It := [.v (.t 1) T3, .v (.t 10) T3, .v (.t 11) T3, .row (.t 0) true T3 3]
abbrev qet : List (DEx × List It) := [(.exit 8, [.v (.t 1) T3, .v (.t 10) T3, .v (.t 11) T3, .row (.t 0) true T3 3])]
noncomputable def qrW (n : Nat) (rec : qb qcV → Option (qf qet)) (s : qb qcV) : Option (qf qet) := (qi tab (qq n) (qjV n) (subC [true, true, true, true, true, true, true, true, true, false, false, false, false, true, false, false, false] (qa Try.f86)) 5 (mkS qcV 168 s)).run (Lp.leaf 168 qcV qet rec)
noncomputable def qg0 (n : Nat) : Lp := ⟨168, qcV, qet, qg n (qrW n)⟩
theorem qrX : qd (subC [true, true, true, true, true, true, true, true, true, false, false, false, false, true, false, false, false] (qa Try.f86)) 5 = [] := by kernel_rfl
theorem qqn (n : Nat) (st : St) (r : DEx × St) (h : ((qg0 n).go st).Is r) : DA Try.prog false (.loop (subC [true, true, true, true, true, true, true, true, true, false, false, false, false, true, false, false, false] (qa Try.f86))) st r := Lp.ok (L := qg0 n) (B := tab) (cs := qq n) (lo := qjV n) (id := 4) rfl (qh qrX qe) (fun _ _ => rfl) h
noncomputable def qjW (n : Nat) : Nat → St → PT (DEx × St) := fun _ _ => .fail
abbrev qcW : List It := [.v (.t 1) T3, .v (.t 10) T3, .v (.t 11) T3, .row (.t 0) true T3 3]
abbrev qeu : List (DEx × List It) := [(.exit 6, [.v (.t 1) T3, .v (.t 10) T3, .v (.t 11) T3, .row (.t 0) true T3 3])]
noncomputable def qrY (n : Nat) (rec : qb qcW → Option (qf qeu)) (s : qb qcW) : Option (qf qeu) := (qi tab (qq n) (qjW n) (subC [true, true, true, true, true, true, true, true, true, false, false, false, false, false, false, false] (qa Try.f86)) 4 (mkS qcW 168 s)).run (Lp.leaf 168 qcW qeu rec)
noncomputable def qg1 (n : Nat) : Lp := ⟨168, qcW, qeu, qg n (qrY n)⟩
theorem qrZ : qd (subC [true, true, true, true, true, true, true, true, true, false, false, false, false, false, false, false] (qa Try.f86)) 4 = [] := by kernel_rfl
theorem qqo (n : Nat) (st : St) (r : DEx × St) (h : ((qg1 n).go st).Is r) : DA Try.prog false (.loop (subC [true, true, true, true, true, true, true, true, true, false, false, false, false, false, false, false] (qa Try.f86))) st r := Lp.ok (L := qg1 n) (B := tab) (cs := qq n) (lo := qjW n) (id := 3) rfl (qh qrZ qe) (fun _ _ => rfl) h
noncomputable def qjX (n : Nat) : Nat → St → PT (DEx × St) := fun k st => match k with
  | 3 => (qg1 n).go st
  | 4 => (qg0 n).go st
  | _ => .fail
abbrev qcX : List It := [.v (.t 1) T3, .v (.t 10) T3, .v (.t 11) T3, .row (.t 0) true T3 3]
abbrev qev : List (DEx × List It) := [(.exit 4, [.v (.t 1) T3, .v (.t 11) T3, .row (.t 0) true T3 3])]
noncomputable def qr0 (n : Nat) (rec : qb qcX → Option (qf qev)) (s : qb qcX) : Option (qf qev) := (qi tab (qq n) (qjX n) (subC [true, true, true, true, true, true, true, true, true, false, false, false] (qa Try.f86)) 3 (mkS qcX 168 s)).run (Lp.leaf 168 qcX qev rec)
noncomputable def qg2 (n : Nat) : Lp := ⟨168, qcX, qev, qg n (qr0 n)⟩
theorem qr1 : qd (subC [true, true, true, true, true, true, true, true, true, false, false, false] (qa Try.f86)) 3 = [(3, .loop (subC [true, true, true, true, true, true, true, true, true, false, false, false, false, false, false, false] (qa Try.f86))), (4, .loop (subC [true, true, true, true, true, true, true, true, true, false, false, false, false, true, false, false, false] (qa Try.f86)))] := by kernel_rfl
theorem qqp (n : Nat) (st : St) (r : DEx × St) (h : ((qg2 n).go st).Is r) : DA Try.prog false (.loop (subC [true, true, true, true, true, true, true, true, true, false, false, false] (qa Try.f86))) st r := Lp.ok (L := qg2 n) (B := tab) (cs := qq n) (lo := qjX n) (id := 2) rfl (qh qr1 (all_cons (fun st r h => qqo n st r h) (all_cons (fun st r h => qqn n st r h) qe))) (fun _ _ => rfl) h
noncomputable def qjY (n : Nat) : Nat → St → PT (DEx × St) := fun _ _ => .fail
abbrev qcY : List It := [.v (.t 1) T3, .v (.t 10) T3, .v (.t 11) T3, .row (.t 0) true T3 3]
abbrev qew : List (DEx × List It) := [(.exit 2, [.v (.t 1) T3, .v (.t 10) T3, .v (.t 11) T3, .row (.t 0) true T3 3])]
noncomputable def qr2 (n : Nat) (rec : qb qcY → Option (qf qew)) (s : qb qcY) : Option (qf qew) := (qi tab (qq n) (qjY n) (subC [true, true, true, true, false, false, false] (qa Try.f86)) 2 (mkS qcY 168 s)).run (Lp.leaf 168 qcY qew rec)
noncomputable def qg3 (n : Nat) : Lp := ⟨168, qcY, qew, qg n (qr2 n)⟩
theorem qr3 : qd (subC [true, true, true, true, false, false, false] (qa Try.f86)) 2 = [] := by kernel_rfl
theorem qqq (n : Nat) (st : St) (r : DEx × St) (h : ((qg3 n).go st).Is r) : DA Try.prog false (.loop (subC [true, true, true, true, false, false, false] (qa Try.f86))) st r := Lp.ok (L := qg3 n) (B := tab) (cs := qq n) (lo := qjY n) (id := 1) rfl (qh qr3 qe) (fun _ _ => rfl) h
noncomputable def qjZ (n : Nat) : Nat → St → PT (DEx × St) := fun _ _ => .fail
abbrev qcZ : List It := [.v (.t 1) T3, .v (.t 10) T3, .v (.t 11) T3, .row (.t 0) true T3 3]
abbrev qex : List (DEx × List It) := [(.exit 0, [.v (.t 1) T3, .v (.t 10) T3, .v (.t 11) T3, .row (.t 0) true T3 3])]
noncomputable def qr4 (n : Nat) (rec : qb qcZ → Option (qf qex)) (s : qb qcZ) : Option (qf qex) := (qi tab (qq n) (qjZ n) (subC [true, true, true, false, false, false] (qa Try.f86)) 1 (mkS qcZ 168 s)).run (Lp.leaf 168 qcZ qex rec)
noncomputable def qg4 (n : Nat) : Lp := ⟨168, qcZ, qex, qg n (qr4 n)⟩
theorem qr5 : qd (subC [true, true, true, false, false, false] (qa Try.f86)) 1 = [] := by kernel_rfl
theorem qqr (n : Nat) (st : St) (r : DEx × St) (h : ((qg4 n).go st).Is r) : DA Try.prog false (.loop (subC [true, true, true, false, false, false] (qa Try.f86))) st r := Lp.ok (L := qg4 n) (B := tab) (cs := qq n) (lo := qjZ n) (id := 0) rfl (qh qr5 qe) (fun _ _ => rfl) h
noncomputable def qkA (n : Nat) : Nat → St → PT (DEx × St) := fun k st => match k with
  | 0 => (qg4 n).go st
  | 1 => (qg3 n).go st
  | 2 => (qg2 n).go st
  | _ => .fail
theorem qsv : qd (qa Try.f86) 0 = [(0, .loop (subC [true, true, true, false, false, false] (qa Try.f86))), (1, .loop (subC [true, true, true, true, false, false, false] (qa Try.f86))), (2, .loop (subC [true, true, true, true, true, true, true, true, true, false, false, false] (qa Try.f86)))] := by kernel_rfl
theorem qsw : Try.f86.body = some (qa Try.f86) := by kernel_rfl
abbrev qg5 : List It := [.v (.t 1) T3, .v (.t 2) T3, .v (.t 3) T3, .row (.t 0) true T3 3]
abbrev qgA : List (List It) := [[.v (.t 0) T3, .v (.t 1) T4, .row (.t 2) true T3 3]]
noncomputable def qsx (n : Nat) (x : qb qg5) : Option (qx qgA) := runW tab (qq n) (qkA n) (qa Try.f86) qg5 4 168 [.tmp 8, .tmp 9] qgA x
noncomputable def qsy (n : Nat) : Cw Try.prog := ⟨86, 4, qg5, 2, qgA, qsx n, fun _ _ h => qbb (B := tab) (cs := qq n) (lo := qkA n) (rs := [.tmp 8, .tmp 9]) Try.func86 (by kernel_rfl) qsw (by kernel_rfl) (by decide) (qh qsv (all_cons (fun st r h => qqr n st r h) (all_cons (fun st r h => qqq n st r h) (all_cons (fun st r h => qqp n st r h) qe)))) h⟩
noncomputable def qxE (n : Nat) : CL Try.prog := ⟨[], [], 0⟩
noncomputable def qxF (n : Nat) : Nat → St → PT (DEx × St) := fun _ _ => .fail
theorem qEj : qd (qa Try.f36) 0 = [] := by kernel_rfl
theorem qEk : Try.f36.body = some (qa Try.f36) := by kernel_rfl
abbrev qtC : List Ar := [.d T3, .d T3, .d T3]
abbrev qtD : List Ty := [T4]
noncomputable def qyL (n : Nat) (x : qy qtC) : Option (qk qtD) := (qi tab (qxE n) (qxF n) (qa Try.f36) 0 (qC qtC 15 x)).run (qbA tab [.tmp 6] qtD)
noncomputable def qjG (n : Nat) : Ct Try.prog := ⟨36, qtC, .ts qtD, qyL n, fun _ _ h => qbF (B := tab) (cs := qxE n) (lo := qxF n) (rs := [.tmp 6]) Try.func36 (by kernel_rfl) qEk (by kernel_rfl) (by decide) (qh qEj qe) h⟩
noncomputable def qva (n : Nat) : CL Try.prog := ⟨[qjG n], [], 0⟩
noncomputable def qvb (n : Nat) : Nat → St → PT (DEx × St) := fun _ _ => .fail
theorem qCS : qd (qa Try.f50) 0 = [] := by kernel_rfl
theorem qCT : Try.f50.body = some (qa Try.f50) := by kernel_rfl
abbrev qrh : List Ar := [.d T69, .d T3]
abbrev qri : List Ty := [T4]
noncomputable def qwh (n : Nat) (x : qy qrh) : Option (qk qri) := (qi tab (qva n) (qvb n) (qa Try.f50) 0 (qC qrh 12 x)).run (qbA tab [.tmp 4] qri)
noncomputable def qwi (n : Nat) : Ct Try.prog := ⟨50, qrh, .ts qri, qwh n, fun _ _ h => qbF (B := tab) (cs := qva n) (lo := qvb n) (rs := [.tmp 4]) Try.func50 (by kernel_rfl) qCT (by kernel_rfl) (by decide) (qh qCS qe) h⟩
noncomputable def qtc (n : Nat) : CL Try.prog := ⟨[qjG n], [], 0⟩
noncomputable def qtd (n : Nat) : Nat → St → PT (DEx × St) := fun _ _ => .fail
theorem qA6 : qd (qa Try.f51) 0 = [] := by kernel_rfl
theorem qA7 : Try.f51.body = some (qa Try.f51) := by kernel_rfl
abbrev qpb : List Ar := [.d T69, .d T3]
abbrev qpc : List Ty := [T4]
noncomputable def qus (n : Nat) (x : qy qpb) : Option (qk qpc) := (qi tab (qtc n) (qtd n) (qa Try.f51) 0 (qC qpb 11 x)).run (qbA tab [.tmp 4] qpc)
noncomputable def qut (n : Nat) : Ct Try.prog := ⟨51, qpb, .ts qpc, qus n, fun _ _ h => qbF (B := tab) (cs := qtc n) (lo := qtd n) (rs := [.tmp 4]) Try.func51 (by kernel_rfl) qA7 (by kernel_rfl) (by decide) (qh qA6 qe) h⟩
noncomputable def qkl (n : Nat) : CL Try.prog := ⟨[qjG n, qwi n, qut n], [], 0⟩
noncomputable def qsz (n : Nat) : Nat → St → PT (DEx × St) := fun _ _ => .fail
abbrev qhT : List It := [.v (.t 5) T3, .v (.t 8) T28, .v (.t 9) T3, .v (.t 10) T3, .obj (.t 2) false 69 2, .v (.c 0 0) T69]
abbrev qkm : List (DEx × List It) := [(.exit 0, []), (.ret, [.v (.t 4) T4])]
noncomputable def qte (n : Nat) (rec : qb qhT → Option (qf qkm)) (s : qb qhT) : Option (qf qkm) := (qi tab (qkl n) (qsz n) (subC [true, true, false, true, false, false] (qa Try.f105)) 1 (mkS qhT 43 s)).run (Lp.leaf 43 qhT qkm rec)
noncomputable def qof (n : Nat) : Lp := ⟨43, qhT, qkm, qg n (qte n)⟩
theorem qAz : qd (subC [true, true, false, true, false, false] (qa Try.f105)) 1 = [] := by kernel_rfl
theorem qx6 (n : Nat) (st : St) (r : DEx × St) (h : ((qof n).go st).Is r) : DA Try.prog false (.loop (subC [true, true, false, true, false, false] (qa Try.f105))) st r := Lp.ok (L := qof n) (B := tab) (cs := qkl n) (lo := qsz n) (id := 0) rfl (qh qAz qe) (fun _ _ => rfl) h
noncomputable def qtf (n : Nat) : Nat → St → PT (DEx × St) := fun k st => match k with
  | 0 => (qof n).go st
  | _ => .fail
theorem qA8 : qd (qa Try.f105) 0 = [(0, .loop (subC [true, true, false, true, false, false] (qa Try.f105)))] := by kernel_rfl
theorem qA9 : Try.f105.body = some (qa Try.f105) := by kernel_rfl
abbrev qpd : List Ar := [.d T69, .d T28]
abbrev qpe : List Ty := [T4]
noncomputable def quu (n : Nat) (x : qy qpd) : Option (qk qpe) := (qi tab (qkl n) (qtf n) (qa Try.f105) 0 (qC qpd 43 x)).run (qbA tab [.tmp 4] qpe)
noncomputable def qBa (n : Nat) : Ct Try.prog := ⟨105, qpd, .ts qpe, quu n, fun _ _ h => qbF (B := tab) (cs := qkl n) (lo := qtf n) (rs := [.tmp 4]) Try.func105 (by kernel_rfl) qA9 (by kernel_rfl) (by decide) (qh qA8 (all_cons (fun st r h => qx6 n st r h) qe)) h⟩
noncomputable def qrK (n : Nat) : CL Try.prog := ⟨[qjG n, qBa n], [], 0⟩
noncomputable def qrL (n : Nat) : Nat → St → PT (DEx × St) := fun _ _ => .fail
theorem qzR : qd (qa Try.f92) 0 = [] := by kernel_rfl
theorem qzS : Try.f92.body = some (qa Try.f92) := by kernel_rfl
abbrev qnx : List Ar := [.d T69, .d T30]
abbrev qny : List Ty := [T4]
noncomputable def qsA (n : Nat) (x : qy qnx) : Option (qk qny) := (qi tab (qrK n) (qrL n) (qa Try.f92) 0 (qC qnx 49 x)).run (qbA tab [.tmp 4] qny)
noncomputable def qzT (n : Nat) : Ct Try.prog := ⟨92, qnx, .ts qny, qsA n, fun _ _ h => qbF (B := tab) (cs := qrK n) (lo := qrL n) (rs := [.tmp 4]) Try.func92 (by kernel_rfl) qzS (by kernel_rfl) (by decide) (qh qzR qe) h⟩
noncomputable def qq4 (n : Nat) : CL Try.prog := ⟨[], [], 0⟩
noncomputable def qyM (n : Nat) : Nat → St → PT (DEx × St) := fun _ _ => .fail
abbrev qn0 : List It := [.v (.t 3) T3, .v (.t 6) T32, .v (.t 7) T3, .v (.t 8) T3]
abbrev qq5 : List (DEx × List It) := [(.exit 0, [.v (.t 3) T3]), (.ret, [.v (.t 2) T3])]
noncomputable def qAl (n : Nat) (rec : qb qn0 → Option (qf qq5)) (s : qb qn0) : Option (qf qq5) := (qi tab (qq4 n) (qyM n) (subC [true, true, false, true, false, false] (qa Try.f76)) 1 (mkS qn0 18 s)).run (Lp.leaf 18 qn0 qq5 rec)
noncomputable def quT (n : Nat) : Lp := ⟨18, qn0, qq5, qg n (qAl n)⟩
theorem qFo : qd (subC [true, true, false, true, false, false] (qa Try.f76)) 1 = [] := by kernel_rfl
theorem qCU (n : Nat) (st : St) (r : DEx × St) (h : ((quT n).go st).Is r) : DA Try.prog false (.loop (subC [true, true, false, true, false, false] (qa Try.f76))) st r := Lp.ok (L := quT n) (B := tab) (cs := qq4 n) (lo := qyM n) (id := 0) rfl (qh qFo qe) (fun _ _ => rfl) h
noncomputable def qAm (n : Nat) : Nat → St → PT (DEx × St) := fun k st => match k with
  | 0 => (quT n).go st
  | _ => .fail
theorem qGl : qd (qa Try.f76) 0 = [(0, .loop (subC [true, true, false, true, false, false] (qa Try.f76)))] := by kernel_rfl
theorem qGm : Try.f76.body = some (qa Try.f76) := by kernel_rfl
abbrev qwj : List Ar := [.d T32]
abbrev qwk : List Ty := [T3]
noncomputable def qBb (n : Nat) (x : qy qwj) : Option (qk qwk) := (qi tab (qq4 n) (qAm n) (qa Try.f76) 0 (qC qwj 18 x)).run (qbA tab [.tmp 2] qwk)
noncomputable def qwl (n : Nat) : Ct Try.prog := ⟨76, qwj, .ts qwk, qBb n, fun _ _ h => qbF (B := tab) (cs := qq4 n) (lo := qAm n) (rs := [.tmp 2]) Try.func76 (by kernel_rfl) qGm (by kernel_rfl) (by decide) (qh qGl (all_cons (fun st r h => qCU n st r h) qe)) h⟩
noncomputable def qq6 (n : Nat) : CL Try.prog := ⟨[], [], 0⟩
noncomputable def qyN (n : Nat) : Nat → St → PT (DEx × St) := fun _ _ => .fail
abbrev qn1 : List It := [.v (.t 0) T25, .v (.t 5) T25, .v (.t 6) T3, .v (.t 7) T3]
abbrev qq7 : List (DEx × List It) := [(.exit 0, []), (.ret, [.v (.t 2) T4])]
noncomputable def qAn (n : Nat) (rec : qb qn1 → Option (qf qq7)) (s : qb qn1) : Option (qf qq7) := (qi tab (qq6 n) (qyN n) (subC [true, false, true, false, false] (qa Try.f40)) 1 (mkS qn1 37 s)).run (Lp.leaf 37 qn1 qq7 rec)
noncomputable def quU (n : Nat) : Lp := ⟨37, qn1, qq7, qg n (qAn n)⟩
theorem qFp : qd (subC [true, false, true, false, false] (qa Try.f40)) 1 = [] := by kernel_rfl
theorem qCV (n : Nat) (st : St) (r : DEx × St) (h : ((quU n).go st).Is r) : DA Try.prog false (.loop (subC [true, false, true, false, false] (qa Try.f40))) st r := Lp.ok (L := quU n) (B := tab) (cs := qq6 n) (lo := qyN n) (id := 0) rfl (qh qFp qe) (fun _ _ => rfl) h
noncomputable def qAo (n : Nat) : Nat → St → PT (DEx × St) := fun k st => match k with
  | 0 => (quU n).go st
  | _ => .fail
theorem qGn : qd (qa Try.f40) 0 = [(0, .loop (subC [true, false, true, false, false] (qa Try.f40)))] := by kernel_rfl
theorem qGo : Try.f40.body = some (qa Try.f40) := by kernel_rfl
abbrev qwm : List Ar := [.d T25]
abbrev qwn : List Ty := [T4]
noncomputable def qBc (n : Nat) (x : qy qwm) : Option (qk qwn) := (qi tab (qq6 n) (qAo n) (qa Try.f40) 0 (qC qwm 37 x)).run (qbA tab [.tmp 2] qwn)
noncomputable def qGp (n : Nat) : Ct Try.prog := ⟨40, qwm, .ts qwn, qBc n, fun _ _ h => qbF (B := tab) (cs := qq6 n) (lo := qAo n) (rs := [.tmp 2]) Try.func40 (by kernel_rfl) qGo (by kernel_rfl) (by decide) (qh qGn (all_cons (fun st r h => qCV n st r h) qe)) h⟩
noncomputable def qhN (n : Nat) : CL Try.prog := ⟨[], [], 0⟩
noncomputable def qpf (n : Nat) : Nat → St → PT (DEx × St) := fun _ _ => .fail
abbrev qfM : List It := [.v (.t 1) T32, .v (.t 6) T3, .row (.t 5) false T30 30]
abbrev qhO : List (DEx × List It) := [(.exit 0, [.row (.t 5) false T30 30])]
noncomputable def qp3 (n : Nat) (rec : qb qfM → Option (qf qhO)) (s : qb qfM) : Option (qf qhO) := (qi tab (qhN n) (qpf n) (subC [true, true, false, true, false, false] (qa Try.f11)) 1 (mkS qfM 25 s)).run (Lp.leaf 25 qfM qhO rec)
noncomputable def qkH (n : Nat) : Lp := ⟨25, qfM, qhO, qg n (qp3 n)⟩
theorem qw4 : qd (subC [true, true, false, true, false, false] (qa Try.f11)) 1 = [] := by kernel_rfl
theorem quV (n : Nat) (st : St) (r : DEx × St) (h : ((qkH n).go st).Is r) : DA Try.prog false (.loop (subC [true, true, false, true, false, false] (qa Try.f11))) st r := Lp.ok (L := qkH n) (B := tab) (cs := qhN n) (lo := qpf n) (id := 0) rfl (qh qw4 qe) (fun _ _ => rfl) h
noncomputable def qp4 (n : Nat) : Nat → St → PT (DEx × St) := fun k st => match k with
  | 0 => (qkH n).go st
  | _ => .fail
theorem qx7 : qd (qa Try.f11) 0 = [(0, .loop (subC [true, true, false, true, false, false] (qa Try.f11)))] := by kernel_rfl
theorem qx8 : Try.f11.body = some (qa Try.f11) := by kernel_rfl
abbrev qlv : List Ar := [.d T25, .d T32]
abbrev qlw : List Ty := [T25]
noncomputable def qqU (n : Nat) (x : qy qlv) : Option (qk qlw) := (qi tab (qhN n) (qp4 n) (qa Try.f11) 0 (qC qlv 25 x)).run (qbA tab [.tmp 4] qlw)
noncomputable def qx9 (n : Nat) : Ct Try.prog := ⟨11, qlv, .ts qlw, qqU n, fun _ _ h => qbF (B := tab) (cs := qhN n) (lo := qp4 n) (rs := [.tmp 4]) Try.func11 (by kernel_rfl) qx8 (by kernel_rfl) (by decide) (qh qx7 (all_cons (fun st r h => quV n st r h) qe)) h⟩
noncomputable def qhm (n : Nat) : CL Try.prog := ⟨[], [], 0⟩
noncomputable def qoA (n : Nat) : Nat → St → PT (DEx × St) := fun _ _ => .fail
abbrev qfm : List It := [.v (.t 0) T32, .v (.t 1) T3, .v (.t 5) T3]
abbrev qhn : List (DEx × List It) := [(.exit 0, []), (.ret, [.v (.t 4) T4])]
noncomputable def qpg (n : Nat) (rec : qb qfm → Option (qf qhn)) (s : qb qfm) : Option (qf qhn) := (qi tab (qhm n) (qoA n) (subC [true, false, true, false, false] (qa Try.f15)) 1 (mkS qfm 18 s)).run (Lp.leaf 18 qfm qhn rec)
noncomputable def qj0 (n : Nat) : Lp := ⟨18, qfm, qhn, qg n (qpg n)⟩
theorem qwo : qd (subC [true, false, true, false, false] (qa Try.f15)) 1 = [] := by kernel_rfl
theorem quv (n : Nat) (st : St) (r : DEx × St) (h : ((qj0 n).go st).Is r) : DA Try.prog false (.loop (subC [true, false, true, false, false] (qa Try.f15))) st r := Lp.ok (L := qj0 n) (B := tab) (cs := qhm n) (lo := qoA n) (id := 0) rfl (qh qwo qe) (fun _ _ => rfl) h
noncomputable def qph (n : Nat) : Nat → St → PT (DEx × St) := fun k st => match k with
  | 0 => (qj0 n).go st
  | _ => .fail
theorem qw5 : qd (qa Try.f15) 0 = [(0, .loop (subC [true, false, true, false, false] (qa Try.f15)))] := by kernel_rfl
theorem qw6 : Try.f15.body = some (qa Try.f15) := by kernel_rfl
abbrev qkI : List Ar := [.d T32, .d T3]
abbrev qkJ : List Ty := [T4]
noncomputable def qp5 (n : Nat) (x : qy qkI) : Option (qk qkJ) := (qi tab (qhm n) (qph n) (qa Try.f15) 0 (qC qkI 18 x)).run (qbA tab [.tmp 4] qkJ)
noncomputable def qw7 (n : Nat) : Ct Try.prog := ⟨15, qkI, .ts qkJ, qp5 n, fun _ _ h => qbF (B := tab) (cs := qhm n) (lo := qph n) (rs := [.tmp 4]) Try.func15 (by kernel_rfl) qw6 (by kernel_rfl) (by decide) (qh qw5 (all_cons (fun st r h => quv n st r h) qe)) h⟩
noncomputable def qho (n : Nat) : CL Try.prog := ⟨[], [], 0⟩
noncomputable def qoB (n : Nat) : Nat → St → PT (DEx × St) := fun _ _ => .fail
abbrev qfn : List It := [.v (.t 0) T32, .v (.t 1) T32, .v (.t 5) T3]
abbrev qhp : List (DEx × List It) := [(.exit 0, []), (.ret, [.v (.t 4) T4])]
noncomputable def qpi (n : Nat) (rec : qb qfn → Option (qf qhp)) (s : qb qfn) : Option (qf qhp) := (qi tab (qho n) (qoB n) (subC [true, true, false, true, false, false] (qa Try.f14)) 1 (mkS qfn 26 s)).run (Lp.leaf 26 qfn qhp rec)
noncomputable def qj1 (n : Nat) : Lp := ⟨26, qfn, qhp, qg n (qpi n)⟩
theorem qwp : qd (subC [true, true, false, true, false, false] (qa Try.f14)) 1 = [] := by kernel_rfl
theorem quw (n : Nat) (st : St) (r : DEx × St) (h : ((qj1 n).go st).Is r) : DA Try.prog false (.loop (subC [true, true, false, true, false, false] (qa Try.f14))) st r := Lp.ok (L := qj1 n) (B := tab) (cs := qho n) (lo := qoB n) (id := 0) rfl (qh qwp qe) (fun _ _ => rfl) h
noncomputable def qpj (n : Nat) : Nat → St → PT (DEx × St) := fun k st => match k with
  | 0 => (qj1 n).go st
  | _ => .fail
theorem qw8 : qd (qa Try.f14) 0 = [(0, .loop (subC [true, true, false, true, false, false] (qa Try.f14)))] := by kernel_rfl
theorem qw9 : Try.f14.body = some (qa Try.f14) := by kernel_rfl
abbrev qkK : List Ar := [.d T32, .d T32]
abbrev qkL : List Ty := [T4]
noncomputable def qp6 (n : Nat) (x : qy qkK) : Option (qk qkL) := (qi tab (qho n) (qpj n) (qa Try.f14) 0 (qC qkK 26 x)).run (qbA tab [.tmp 4] qkL)
noncomputable def qxa (n : Nat) : Ct Try.prog := ⟨14, qkK, .ts qkL, qp6 n, fun _ _ h => qbF (B := tab) (cs := qho n) (lo := qpj n) (rs := [.tmp 4]) Try.func14 (by kernel_rfl) qw9 (by kernel_rfl) (by decide) (qh qw8 (all_cons (fun st r h => quw n st r h) qe)) h⟩
noncomputable def qkn (n : Nat) : CL Try.prog := ⟨[], [], 0⟩
noncomputable def qsB (n : Nat) : Nat → St → PT (DEx × St) := fun _ _ => .fail
abbrev qhU : List It := [.v (.t 1) T25, .v (.t 5) T3, .obj (.t 2) false 24 2, .v (.c 0 0) T24]
abbrev qko : List (DEx × List It) := [(.exit 0, [.v (.t 1) T25, .obj (.t 2) false 24 2, .v (.c 0 0) T24]), (.ret, [.v (.t 4) T4])]
noncomputable def qtg (n : Nat) (rec : qb qhU → Option (qf qko)) (s : qb qhU) : Option (qf qko) := (qi tab (qkn n) (qsB n) (subC [true, false, true, false, false] (qa Try.f24)) 1 (mkS qhU 38 s)).run (Lp.leaf 38 qhU qko rec)
noncomputable def qog (n : Nat) : Lp := ⟨38, qhU, qko, qg n (qtg n)⟩
theorem qAA : qd (subC [true, false, true, false, false] (qa Try.f24)) 1 = [] := by kernel_rfl
theorem qya (n : Nat) (st : St) (r : DEx × St) (h : ((qog n).go st).Is r) : DA Try.prog false (.loop (subC [true, false, true, false, false] (qa Try.f24))) st r := Lp.ok (L := qog n) (B := tab) (cs := qkn n) (lo := qsB n) (id := 0) rfl (qh qAA qe) (fun _ _ => rfl) h
noncomputable def qth (n : Nat) : Nat → St → PT (DEx × St) := fun k st => match k with
  | 0 => (qog n).go st
  | _ => .fail
theorem qBd : qd (qa Try.f24) 0 = [(0, .loop (subC [true, false, true, false, false] (qa Try.f24)))] := by kernel_rfl
theorem qBe : Try.f24.body = some (qa Try.f24) := by kernel_rfl
abbrev qpk : List Ar := [.d T24, .d T25]
abbrev qpl : List Ty := [T4]
noncomputable def qux (n : Nat) (x : qy qpk) : Option (qk qpl) := (qi tab (qkn n) (qth n) (qa Try.f24) 0 (qC qpk 38 x)).run (qbA tab [.tmp 4] qpl)
noncomputable def qBf (n : Nat) : Ct Try.prog := ⟨24, qpk, .ts qpl, qux n, fun _ _ h => qbF (B := tab) (cs := qkn n) (lo := qth n) (rs := [.tmp 4]) Try.func24 (by kernel_rfl) qBe (by kernel_rfl) (by decide) (qh qBd (all_cons (fun st r h => qya n st r h) qe)) h⟩
noncomputable def qrM (n : Nat) : CL Try.prog := ⟨[qBf n, qzN n], [], 0⟩
noncomputable def qrN (n : Nat) : Nat → St → PT (DEx × St) := fun _ _ => .fail
theorem qzU : qd (qa Try.f9) 0 = [] := by kernel_rfl
theorem qzV : Try.f9.body = some (qa Try.f9) := by kernel_rfl
abbrev qnz : List Ar := [.d T24, .d T25]
abbrev qnA : List Ty := [T4]
noncomputable def qsC (n : Nat) (x : qy qnz) : Option (qk qnA) := (qi tab (qrM n) (qrN n) (qa Try.f9) 0 (qC qnz 20 x)).run (qbA tab [.tmp 4] qnA)
noncomputable def qzW (n : Nat) : Ct Try.prog := ⟨9, qnz, .ts qnA, qsC n, fun _ _ h => qbF (B := tab) (cs := qrM n) (lo := qrN n) (rs := [.tmp 4]) Try.func9 (by kernel_rfl) qzV (by kernel_rfl) (by decide) (qh qzU qe) h⟩
noncomputable def qp7 (n : Nat) : CL Try.prog := ⟨[], [], 0⟩
noncomputable def qp8 (n : Nat) : Nat → St → PT (DEx × St) := fun _ _ => .fail
theorem qyb : qd (qa Try.f30) 0 = [] := by kernel_rfl
theorem qyc : Try.f30.body = some (qa Try.f30) := by kernel_rfl
abbrev qlx : List Ar := []
abbrev qly : List Ty := [T24, T25]
noncomputable def qqV (n : Nat) (x : qy qlx) : Option (qk qly) := (qi tab (qp7 n) (qp8 n) (qa Try.f30) 0 (qC qlx 27 x)).run (qbA tab [.cell 0 24, .tmp 1] qly)
noncomputable def qyd (n : Nat) : Ct Try.prog := ⟨30, qlx, .ts qly, qqV n, fun _ _ h => qbF (B := tab) (cs := qp7 n) (lo := qp8 n) (rs := [.cell 0 24, .tmp 1]) Try.func30 (by kernel_rfl) qyc (by kernel_rfl) (by decide) (qh qyb qe) h⟩
end Go.Proofs.Ytcjgodgpaokbnaa
