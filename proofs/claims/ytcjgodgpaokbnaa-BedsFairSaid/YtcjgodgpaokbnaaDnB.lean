/- Printed: what functions of the program compute. -/
import Derived.Test.YtcjgodgpaokbnaaDnA
namespace Go.Proofs.Ytcjgodgpaokbnaa
set_option linter.constructorNameAsVariable false
set_option linter.unusedSimpArgs false
set_option linter.unusedVariables false
set_option linter.unusedSectionVars false
open Go Go.Proofs Go.RowKit
set_option maxRecDepth 20000
noncomputable def qxh (n : Nat) : CL Try.prog := ⟨[], [], 0⟩
noncomputable def qxi (n : Nat) : Nat → St → PT (DEx × St) := fun _ _ => .fail
theorem qE1 : qd (qa Try.f98) 0 = [] := by kernel_rfl
theorem qE2 : Try.f98.body = some (qa Try.f98) := by kernel_rfl
abbrev qtd : List Ar := [.d T3]
abbrev qte : List Ty := [T4]
noncomputable def qyH (n : Nat) (x : qz qtd) : Option (qk qte) := (qi tab (qxh n) (qxi n) (qa Try.f98) 0 (qB qtd 6 x)).run (qbz tab [.tmp 2] qte)
noncomputable def qyI (n : Nat) : Ct Try.prog := ⟨98, qtd, .ts qte, qyH n, fun _ _ h => qbF (B := tab) (cs := qxh n) (lo := qxi n) (rs := [.tmp 2]) Try.func98 (by kernel_rfl) qE2 (by kernel_rfl) (by decide) (qh qE1 qe) h⟩
noncomputable def qyJ (n : Nat) : CL Try.prog := ⟨[qyI n], [], 0⟩
noncomputable def qyK (n : Nat) : Nat → St → PT (DEx × St) := fun _ _ => .fail
theorem qFN : qd (qa Try.f84) 0 = [] := by kernel_rfl
theorem qFO : Try.f84.body = some (qa Try.f84) := by kernel_rfl
abbrev quB : List Ar := [.d T3, .d T3]
abbrev quC : List Ty := [T4]
noncomputable def qzS (n : Nat) (x : qz quB) : Option (qk quC) := (qi tab (qyJ n) (qyK n) (qa Try.f84) 0 (qB quB 17 x)).run (qbz tab [.tmp 4] quC)
noncomputable def qip (n : Nat) : Ct Try.prog := ⟨84, quB, .ts quC, qzS n, fun _ _ h => qbF (B := tab) (cs := qyJ n) (lo := qyK n) (rs := [.tmp 4]) Try.func84 (by kernel_rfl) qFO (by kernel_rfl) (by decide) (qh qFN qe) h⟩
noncomputable def qvh (n : Nat) : CL Try.prog := ⟨[qyI n], [], 0⟩
noncomputable def qvi (n : Nat) : Nat → St → PT (DEx × St) := fun _ _ => .fail
theorem qDj : qd (qa Try.f77) 0 = [] := by kernel_rfl
theorem qDk : Try.f77.body = some (qa Try.f77) := by kernel_rfl
abbrev qqV : List Ar := [.d T3, .d T3]
abbrev qqW : List Ty := [T3]
noncomputable def qwh (n : Nat) (x : qz qqV) : Option (qk qqW) := (qi tab (qvh n) (qvi n) (qa Try.f77) 0 (qB qqV 20 x)).run (qbz tab [.tmp 4] qqW)
noncomputable def qqX (n : Nat) : Ct Try.prog := ⟨77, qqV, .ts qqW, qwh n, fun _ _ h => qbF (B := tab) (cs := qvh n) (lo := qvi n) (rs := [.tmp 4]) Try.func77 (by kernel_rfl) qDk (by kernel_rfl) (by decide) (qh qDj qe) h⟩
noncomputable def qtf (n : Nat) : CL Try.prog := ⟨[], [], 0⟩
noncomputable def qBz (n : Nat) : Nat → St → PT (DEx × St) := fun _ _ => .fail
abbrev qpK : List It := [.v (.t 6) T25, .v (.t 7) T3, .v (.t 8) T3, .row (.t 3) false T3 3]
abbrev qtg : List (DEx × List It) := [(.exit 0, [.row (.t 3) false T3 3])]
noncomputable def qCq (n : Nat) (rec : qb qpK → Option (qf qtg)) (s : qb qpK) : Option (qf qtg) := (qi tab (qtf n) (qBz n) (subC [true, true, false, true, false, false] (qa Try.f32)) 1 (mkS qpK 19 s)).run (Lp.leaf 19 qpK qtg rec)
noncomputable def qxj (n : Nat) : Lp := ⟨19, qpK, qtg, qg n (qCq n)⟩
theorem qHU : qd (subC [true, true, false, true, false, false] (qa Try.f32)) 1 = [] := by kernel_rfl
theorem qE3 (n : Nat) (st : St) (r : DEx × St) (h : ((qxj n).go st).Is r) : DA Try.prog false (.loop (subC [true, true, false, true, false, false] (qa Try.f32))) st r := Lp.ok (L := qxj n) (B := tab) (cs := qtf n) (lo := qBz n) (id := 0) rfl (qh qHU qe) (fun _ _ => rfl) h
noncomputable def qCr (n : Nat) : Nat → St → PT (DEx × St) := fun k st => match k with
  | 0 => (qxj n).go st
  | _ => .fail
theorem qID : qd (qa Try.f32) 0 = [(0, .loop (subC [true, true, false, true, false, false] (qa Try.f32)))] := by kernel_rfl
theorem qIE : Try.f32.body = some (qa Try.f32) := by kernel_rfl
abbrev qxk : List It := [.v (.t 0) T25]
abbrev qv1 : List (List It) := [[.row (.t 0) false T3 3]]
noncomputable def qDN (n : Nat) (x : qb qxk) : Option (qq qv1) := runW tab (qtf n) (qCr n) (qa Try.f32) qxk 1 19 [.tmp 2] qv1 x
noncomputable def qDO (n : Nat) : Cw Try.prog := ⟨32, 1, qxk, 1, qv1, qDN n, fun _ _ h => qP (B := tab) (cs := qtf n) (lo := qCr n) (rs := [.tmp 2]) Try.func32 (by kernel_rfl) qIE (by kernel_rfl) (by decide) (qh qID (all_cons (fun st r h => qE3 n st r h) qe)) h⟩
noncomputable def qbs (n : Nat) : CL Try.prog := ⟨[qip n], [], 0⟩
noncomputable def qiY (n : Nat) : Nat → St → PT (DEx × St) := fun _ _ => .fail
abbrev qcg : List It := [.v (.t 1) T3, .v (.t 2) T3, .v (.t 6) T3, .v (.t 7) T3, .row (.t 0) true T3 3]
abbrev qdC : List (DEx × List It) := [(.exit 2, [.v (.t 1) T3, .v (.t 2) T3, .v (.t 6) T3, .row (.t 0) true T3 3])]
noncomputable def qjk (n : Nat) (rec : qb qcg → Option (qf qdC)) (s : qb qcg) : Option (qf qdC) := (qi tab (qbs n) (qiY n) (subC [true, false, false, true, false, false, true, false, false] (qa Try.f78)) 2 (mkS qcg 49 s)).run (Lp.leaf 49 qcg qdC rec)
noncomputable def qfV (n : Nat) : Lp := ⟨49, qcg, qdC, qg n (qjk n)⟩
theorem qqn : qd (subC [true, false, false, true, false, false, true, false, false] (qa Try.f78)) 2 = [] := by kernel_rfl
theorem qoR (n : Nat) (st : St) (r : DEx × St) (h : ((qfV n).go st).Is r) : DA Try.prog false (.loop (subC [true, false, false, true, false, false, true, false, false] (qa Try.f78))) st r := Lp.ok (L := qfV n) (B := tab) (cs := qbs n) (lo := qiY n) (id := 1) rfl (qh qqn qe) (fun _ _ => rfl) h
noncomputable def qiZ (n : Nat) : Nat → St → PT (DEx × St) := fun k st => match k with
  | 1 => (qfV n).go st
  | _ => .fail
abbrev qch : List It := [.v (.t 1) T3, .v (.t 2) T3, .v (.t 6) T3, .row (.t 0) true T3 3]
abbrev qdD : List (DEx × List It) := [(.exit 0, [.row (.t 0) true T3 3])]
noncomputable def qjl (n : Nat) (rec : qb qch → Option (qf qdD)) (s : qb qch) : Option (qf qdD) := (qi tab (qbs n) (qiZ n) (subC [true, false, false] (qa Try.f78)) 1 (mkS qch 49 s)).run (Lp.leaf 49 qch qdD rec)
noncomputable def qfW (n : Nat) : Lp := ⟨49, qch, qdD, qg n (qjl n)⟩
theorem qqo : qd (subC [true, false, false] (qa Try.f78)) 1 = [(1, .loop (subC [true, false, false, true, false, false, true, false, false] (qa Try.f78)))] := by kernel_rfl
theorem qoS (n : Nat) (st : St) (r : DEx × St) (h : ((qfW n).go st).Is r) : DA Try.prog false (.loop (subC [true, false, false] (qa Try.f78))) st r := Lp.ok (L := qfW n) (B := tab) (cs := qbs n) (lo := qiZ n) (id := 0) rfl (qh qqo (all_cons (fun st r h => qoR n st r h) qe)) (fun _ _ => rfl) h
noncomputable def qjm (n : Nat) : Nat → St → PT (DEx × St) := fun k st => match k with
  | 0 => (qfW n).go st
  | _ => .fail
theorem qqY : qd (qa Try.f78) 0 = [(0, .loop (subC [true, false, false] (qa Try.f78)))] := by kernel_rfl
theorem qqZ : Try.f78.body = some (qa Try.f78) := by kernel_rfl
abbrev qfX : List It := [.v (.t 1) T3, .v (.t 2) T3, .row (.t 0) true T3 3]
abbrev qfw : List (List It) := [[.row (.t 0) true T3 3]]
noncomputable def qjH (n : Nat) (x : qb qfX) : Option (qq qfw) := runW tab (qbs n) (qjm n) (qa Try.f78) qfX 3 49 [] qfw x
noncomputable def qq0 (n : Nat) : Cw Try.prog := ⟨78, 3, qfX, 0, qfw, qjH n, fun _ _ h => qP (B := tab) (cs := qbs n) (lo := qjm n) (rs := []) Try.func78 (by kernel_rfl) qqZ (by kernel_rfl) (by decide) (qh qqY (all_cons (fun st r h => qoS n st r h) qe)) h⟩
noncomputable def qeV (n : Nat) : CL Try.prog := ⟨[qip n], [], 0⟩
noncomputable def qk1 (n : Nat) : Nat → St → PT (DEx × St) := fun _ _ => .fail
abbrev qdd : List It := [.v (.t 2) T3, .v (.t 3) T3, .v (.t 8) T3, .row (.t 0) true T3 3]
abbrev qeW : List (DEx × List It) := [(.exit 0, [.row (.t 0) true T3 3]), (.ret, [.row (.t 0) true T3 3])]
noncomputable def qth (n : Nat) (rec : qb qdd → Option (qf qeW)) (s : qb qdd) : Option (qf qeW) := (qi tab (qeV n) (qk1 n) (subC [true, false, false] (qa Try.f99)) 1 (mkS qdd 76 s)).run (Lp.leaf 76 qdd qeW rec)
noncomputable def qhD (n : Nat) : Lp := ⟨76, qdd, qeW, qg n (qth n)⟩
theorem qti : qd (subC [true, false, false] (qa Try.f99)) 1 = [] := by kernel_rfl
theorem qrx (n : Nat) (st : St) (r : DEx × St) (h : ((qhD n).go st).Is r) : DA Try.prog false (.loop (subC [true, false, false] (qa Try.f99))) st r := Lp.ok (L := qhD n) (B := tab) (cs := qeV n) (lo := qk1 n) (id := 0) rfl (qh qti qe) (fun _ _ => rfl) h
noncomputable def qlz (n : Nat) : Nat → St → PT (DEx × St) := fun k st => match k with
  | 0 => (qhD n).go st
  | _ => .fail
theorem qtY : qd (qa Try.f99) 0 = [(0, .loop (subC [true, false, false] (qa Try.f99)))] := by kernel_rfl
theorem qtZ : Try.f99.body = some (qa Try.f99) := by kernel_rfl
abbrev qhE : List It := [.v (.t 1) T3, .v (.t 2) T3, .v (.t 3) T3, .row (.t 0) true T3 3]
abbrev qhk : List (List It) := [[.row (.t 0) true T3 3]]
noncomputable def qt0 (n : Nat) (x : qb qhE) : Option (qq qhk) := runW tab (qeV n) (qlz n) (qa Try.f99) qhE 4 76 [] qhk x
noncomputable def qt1 (n : Nat) : Cw Try.prog := ⟨99, 4, qhE, 0, qhk, qt0 n, fun _ _ h => qP (B := tab) (cs := qeV n) (lo := qlz n) (rs := []) Try.func99 (by kernel_rfl) qtZ (by kernel_rfl) (by decide) (qh qtY (all_cons (fun st r h => qrx n st r h) qe)) h⟩
noncomputable def qci (n : Nat) : CL Try.prog := ⟨[], [qt1 n], 0⟩
noncomputable def qk2 (n : Nat) : Nat → St → PT (DEx × St) := fun _ _ => .fail
abbrev qde : List It := [.v (.t 6) T3, .v (.t 7) T3, .v (.t 10) T3, .row (.t 0) true T3 3]
abbrev qeX : List (DEx × List It) := [(.exit 2, [.row (.t 0) true T3 3])]
noncomputable def qtj (n : Nat) (rec : qb qde → Option (qf qeX)) (s : qb qde) : Option (qf qeX) := (qi tab (qci n) (qk2 n) (subC [true, true, true, true, true, false, false] (qa Try.f79)) 2 (mkS qde 56 s)).run (Lp.leaf 56 qde qeX rec)
noncomputable def qhF (n : Nat) : Lp := ⟨56, qde, qeX, qg n (qtj n)⟩
theorem qtk : qd (subC [true, true, true, true, true, false, false] (qa Try.f79)) 2 = [] := by kernel_rfl
theorem qry (n : Nat) (st : St) (r : DEx × St) (h : ((qhF n).go st).Is r) : DA Try.prog false (.loop (subC [true, true, true, true, true, false, false] (qa Try.f79))) st r := Lp.ok (L := qhF n) (B := tab) (cs := qci n) (lo := qk2 n) (id := 1) rfl (qh qtk qe) (fun _ _ => rfl) h
noncomputable def qk3 (n : Nat) : Nat → St → PT (DEx × St) := fun _ _ => .fail
abbrev qdf : List It := [.v (.t 6) T3, .v (.t 7) T3, .v (.t 8) T3, .v (.t 9) T3, .row (.t 0) true T3 3]
abbrev qeY : List (DEx × List It) := [(.exit 0, [.v (.t 6) T3, .v (.t 7) T3, .v (.t 8) T3, .row (.t 0) true T3 3])]
noncomputable def qtl (n : Nat) (rec : qb qdf → Option (qf qeY)) (s : qb qdf) : Option (qf qeY) := (qi tab (qci n) (qk3 n) (subC [true, true, true, false, true, false, false] (qa Try.f79)) 1 (mkS qdf 56 s)).run (Lp.leaf 56 qdf qeY rec)
noncomputable def qhG (n : Nat) : Lp := ⟨56, qdf, qeY, qg n (qtl n)⟩
theorem qtm : qd (subC [true, true, true, false, true, false, false] (qa Try.f79)) 1 = [] := by kernel_rfl
theorem qrz (n : Nat) (st : St) (r : DEx × St) (h : ((qhG n).go st).Is r) : DA Try.prog false (.loop (subC [true, true, true, false, true, false, false] (qa Try.f79))) st r := Lp.ok (L := qhG n) (B := tab) (cs := qci n) (lo := qk3 n) (id := 0) rfl (qh qtm qe) (fun _ _ => rfl) h
noncomputable def qlA (n : Nat) : Nat → St → PT (DEx × St) := fun k st => match k with
  | 0 => (qhG n).go st
  | 1 => (qhF n).go st
  | _ => .fail
theorem qt2 : qd (qa Try.f79) 0 = [(0, .loop (subC [true, true, true, false, true, false, false] (qa Try.f79))), (1, .loop (subC [true, true, true, true, true, false, false] (qa Try.f79)))] := by kernel_rfl
theorem qt3 : Try.f79.body = some (qa Try.f79) := by kernel_rfl
abbrev qhH : List It := [.v (.t 1) T3, .v (.t 2) T3, .row (.t 0) true T3 3]
abbrev qhl : List (List It) := [[.row (.t 0) true T3 3]]
noncomputable def qmm (n : Nat) (x : qb qhH) : Option (qq qhl) := runW tab (qci n) (qlA n) (qa Try.f79) qhH 3 56 [] qhl x
noncomputable def qt4 (n : Nat) : Cw Try.prog := ⟨79, 3, qhH, 0, qhl, qmm n, fun _ _ h => qP (B := tab) (cs := qci n) (lo := qlA n) (rs := []) Try.func79 (by kernel_rfl) qt3 (by kernel_rfl) (by decide) (qh qt2 (all_cons (fun st r h => qrz n st r h) (all_cons (fun st r h => qry n st r h) qe))) h⟩
noncomputable def qdS (n : Nat) : CL Try.prog := ⟨[], [], 0⟩
noncomputable def qjn (n : Nat) : Nat → St → PT (DEx × St) := fun _ _ => .fail
abbrev qcw : List It := [.v (.t 6) T3, .v (.t 7) T3, .row (.t 0) true T3 3]
abbrev qdT : List (DEx × List It) := [(.exit 0, [.row (.t 0) true T3 3])]
noncomputable def qq1 (n : Nat) (rec : qb qcw → Option (qf qdT)) (s : qb qcw) : Option (qf qdT) := (qi tab (qdS n) (qjn n) (subC [true, true, false, false] (qa Try.f82)) 1 (mkS qcw 32 s)).run (Lp.leaf 32 qcw qdT rec)
noncomputable def qgd (n : Nat) : Lp := ⟨32, qcw, qdT, qg n (qq1 n)⟩
theorem qq2 : qd (subC [true, true, false, false] (qa Try.f82)) 1 = [] := by kernel_rfl
theorem qpw (n : Nat) (st : St) (r : DEx × St) (h : ((qgd n).go st).Is r) : DA Try.prog false (.loop (subC [true, true, false, false] (qa Try.f82))) st r := Lp.ok (L := qgd n) (B := tab) (cs := qdS n) (lo := qjn n) (id := 0) rfl (qh qq2 qe) (fun _ _ => rfl) h
noncomputable def qjI (n : Nat) : Nat → St → PT (DEx × St) := fun k st => match k with
  | 0 => (qgd n).go st
  | _ => .fail
theorem qrA : qd (qa Try.f82) 0 = [(0, .loop (subC [true, true, false, false] (qa Try.f82)))] := by kernel_rfl
theorem qrB : Try.f82.body = some (qa Try.f82) := by kernel_rfl
abbrev qge : List It := [.v (.t 1) T3, .v (.t 2) T3, .row (.t 0) true T3 3]
abbrev qfY : List (List It) := [[.row (.t 0) true T3 3]]
noncomputable def qrC (n : Nat) (x : qb qge) : Option (qq qfY) := runW tab (qdS n) (qjI n) (qa Try.f82) qge 3 32 [] qfY x
noncomputable def qrD (n : Nat) : Cw Try.prog := ⟨82, 3, qge, 0, qfY, qrC n, fun _ _ h => qP (B := tab) (cs := qdS n) (lo := qjI n) (rs := []) Try.func82 (by kernel_rfl) qrB (by kernel_rfl) (by decide) (qh qrA (all_cons (fun st r h => qpw n st r h) qe)) h⟩
noncomputable def qvj (n : Nat) : CL Try.prog := ⟨[], [], 0⟩
noncomputable def qvk (n : Nat) : Nat → St → PT (DEx × St) := fun _ _ => .fail
theorem qDl : qd (qa Try.f88) 0 = [] := by kernel_rfl
theorem qDm : Try.f88.body = some (qa Try.f88) := by kernel_rfl
abbrev qq3 : List Ar := [.d T129]
abbrev qq4 : List Ty := [T3]
noncomputable def qwi (n : Nat) (x : qz qq3) : Option (qk qq4) := (qi tab (qvj n) (qvk n) (qa Try.f88) 0 (qB qq3 25 x)).run (qbz tab [.tmp 2] qq4)
noncomputable def qDn (n : Nat) : Ct Try.prog := ⟨88, qq3, .ts qq4, qwi n, fun _ _ h => qbF (B := tab) (cs := qvj n) (lo := qvk n) (rs := [.tmp 2]) Try.func88 (by kernel_rfl) qDm (by kernel_rfl) (by decide) (qh qDl qe) h⟩
noncomputable def qmY (n : Nat) : CL Try.prog := ⟨[qip n], [], 0⟩
noncomputable def qmZ (n : Nat) : Nat → St → PT (DEx × St) := fun _ _ => .fail
theorem qvl : qd (qa Try.f114) 0 = [] := by kernel_rfl
theorem qvm : Try.f114.body = some (qa Try.f114) := by kernel_rfl
abbrev qiq : List It := [.v (.t 0) T32, .v (.t 1) T3, .v (.t 2) T3, .obj (.t 3) true 3 1, .v (.c 0 0) T3]
abbrev qhX : List (List It) := [[.v (.t 0) T3, .v (.t 1) T3, .obj (.t 2) true 3 1, .v (.c 0 0) T3]]
noncomputable def qvn (n : Nat) (x : qb qiq) : Option (qq qhX) := runW tab (qmY n) (qmZ n) (qa Try.f114) qiq 4 28 [.tmp 8, .tmp 9] qhX x
noncomputable def qvo (n : Nat) : Cw Try.prog := ⟨114, 4, qiq, 2, qhX, qvn n, fun _ _ h => qP (B := tab) (cs := qmY n) (lo := qmZ n) (rs := [.tmp 8, .tmp 9]) Try.func114 (by kernel_rfl) qvm (by kernel_rfl) (by decide) (qh qvl qe) h⟩
noncomputable def qm0 (n : Nat) : CL Try.prog := ⟨[], [qvo n], 0⟩
noncomputable def qm1 (n : Nat) : Nat → St → PT (DEx × St) := fun _ _ => .fail
theorem qvp : qd (qa Try.f103) 0 = [] := by kernel_rfl
theorem qvq : Try.f103.body = some (qa Try.f103) := by kernel_rfl
abbrev qir : List It := [.v (.t 0) T32, .v (.t 1) T3, .v (.t 2) T3, .v (.t 3) T3, .obj (.t 4) true 3 1, .v (.c 0 0) T3]
abbrev qhY : List (List It) := [[.v (.t 0) T3, .obj (.t 1) true 3 1, .v (.c 0 0) T3]]
noncomputable def qvr (n : Nat) (x : qb qir) : Option (qq qhY) := runW tab (qm0 n) (qm1 n) (qa Try.f103) qir 5 36 [.tmp 10] qhY x
noncomputable def qnP (n : Nat) : Cw Try.prog := ⟨103, 5, qir, 1, qhY, qvr n, fun _ _ h => qP (B := tab) (cs := qm0 n) (lo := qm1 n) (rs := [.tmp 10]) Try.func103 (by kernel_rfl) qvq (by kernel_rfl) (by decide) (qh qvp qe) h⟩
noncomputable def qi0 (n : Nat) : CL Try.prog := ⟨[], [qnP n], 0⟩
noncomputable def qi1 (n : Nat) : Nat → St → PT (DEx × St) := fun _ _ => .fail
theorem qqp : qd (qa Try.f102) 0 = [] := by kernel_rfl
theorem qqq : Try.f102.body = some (qa Try.f102) := by kernel_rfl
abbrev qfx : List It := [.v (.t 0) T32, .v (.t 1) T3, .obj (.t 2) true 3 1, .v (.c 0 0) T3]
abbrev qe7 : List (List It) := [[.v (.t 0) T3, .obj (.t 1) true 3 1, .v (.c 0 0) T3]]
noncomputable def qqr (n : Nat) (x : qb qfx) : Option (qq qe7) := runW tab (qi0 n) (qi1 n) (qa Try.f102) qfx 3 15 [.tmp 6] qe7 x
noncomputable def qqs (n : Nat) : Cw Try.prog := ⟨102, 3, qfx, 1, qe7, qqr n, fun _ _ h => qP (B := tab) (cs := qi0 n) (lo := qi1 n) (rs := [.tmp 6]) Try.func102 (by kernel_rfl) qqq (by kernel_rfl) (by decide) (qh qqp qe) h⟩
noncomputable def qj5 (n : Nat) : CL Try.prog := ⟨[], [qqs n, qnP n], 0⟩
noncomputable def qj6 (n : Nat) : Nat → St → PT (DEx × St) := fun _ _ => .fail
theorem qrV : qd (qa Try.f81) 0 = [] := by kernel_rfl
theorem qrW : Try.f81.body = some (qa Try.f81) := by kernel_rfl
abbrev qgx : List It := [.v (.t 0) T32, .v (.t 1) T3, .v (.t 2) T3]
abbrev qgf : List (List It) := [[.v (.t 0) T3, .v (.t 1) T118]]
noncomputable def qrX (n : Nat) (x : qb qgx) : Option (qq qgf) := runW tab (qj5 n) (qj6 n) (qa Try.f81) qgx 3 57 [.tmp 6, .tmp 7] qgf x
noncomputable def qrY (n : Nat) : Cw Try.prog := ⟨81, 3, qgx, 2, qgf, qrX n, fun _ _ h => qP (B := tab) (cs := qj5 n) (lo := qj6 n) (rs := [.tmp 6, .tmp 7]) Try.func81 (by kernel_rfl) qrW (by kernel_rfl) (by decide) (qh qrV qe) h⟩
noncomputable def qo (n : Nat) : CL Try.prog := ⟨[qip n], [], 0⟩
noncomputable def qgM (n : Nat) : Nat → St → PT (DEx × St) := fun _ _ => .fail
abbrev qbj : List It := [.v (.t 1) T3, .v (.t 2) T3, .v (.t 7) T3, .v (.t 8) T3, .v (.t 10) T3, .row (.t 0) true T3 3]
abbrev qcj : List (DEx × List It) := [(.exit 6, [.v (.t 1) T3, .v (.t 2) T3, .v (.t 7) T3, .v (.t 8) T3, .row (.t 0) true T3 3])]
noncomputable def qm2 (n : Nat) (rec : qb qbj → Option (qf qcj)) (s : qb qbj) : Option (qf qcj) := (qi tab (qo n) (qgM n) (subC [true, true, false, true, false, false, true, false, false, true, true, true, true, true, true, false, true, false, false] (qa Try.f83)) 4 (mkS qbj 133 s)).run (Lp.leaf 133 qbj qcj rec)
noncomputable def qdX (n : Nat) : Lp := ⟨133, qbj, qcj, qg n (qm2 n)⟩
theorem qm3 : qd (subC [true, true, false, true, false, false, true, false, false, true, true, true, true, true, true, false, true, false, false] (qa Try.f83)) 4 = [] := by kernel_rfl
theorem qlB (n : Nat) (st : St) (r : DEx × St) (h : ((qdX n).go st).Is r) : DA Try.prog false (.loop (subC [true, true, false, true, false, false, true, false, false, true, true, true, true, true, true, false, true, false, false] (qa Try.f83))) st r := Lp.ok (L := qdX n) (B := tab) (cs := qo n) (lo := qgM n) (id := 3) rfl (qh qm3 qe) (fun _ _ => rfl) h
noncomputable def qgN (n : Nat) : Nat → St → PT (DEx × St) := fun _ _ => .fail
abbrev qbk : List It := [.v (.t 1) T3, .v (.t 2) T3, .v (.t 7) T3, .v (.t 8) T3, .v (.t 9) T3, .row (.t 0) true T3 3]
abbrev qck : List (DEx × List It) := [(.exit 4, [.v (.t 1) T3, .v (.t 2) T3, .v (.t 7) T3, .v (.t 8) T3, .row (.t 0) true T3 3])]
noncomputable def qm4 (n : Nat) (rec : qb qbk → Option (qf qck)) (s : qb qbk) : Option (qf qck) := (qi tab (qo n) (qgN n) (subC [true, true, false, true, false, false, true, false, false, true, true, true, true, false, true, false, true, false, false] (qa Try.f83)) 3 (mkS qbk 133 s)).run (Lp.leaf 133 qbk qck rec)
noncomputable def qdY (n : Nat) : Lp := ⟨133, qbk, qck, qg n (qm4 n)⟩
theorem qm5 : qd (subC [true, true, false, true, false, false, true, false, false, true, true, true, true, false, true, false, true, false, false] (qa Try.f83)) 3 = [] := by kernel_rfl
theorem qlC (n : Nat) (st : St) (r : DEx × St) (h : ((qdY n).go st).Is r) : DA Try.prog false (.loop (subC [true, true, false, true, false, false, true, false, false, true, true, true, true, false, true, false, true, false, false] (qa Try.f83))) st r := Lp.ok (L := qdY n) (B := tab) (cs := qo n) (lo := qgN n) (id := 2) rfl (qh qm5 qe) (fun _ _ => rfl) h
noncomputable def qgO (n : Nat) : Nat → St → PT (DEx × St) := fun _ _ => .fail
abbrev qbl : List It := [.v (.t 1) T3, .v (.t 2) T3, .v (.t 7) T3, .v (.t 8) T3, .row (.t 0) true T3 3]
abbrev qcl : List (DEx × List It) := [(.exit 2, [.v (.t 1) T3, .v (.t 2) T3, .v (.t 7) T3, .v (.t 8) T3, .row (.t 0) true T3 3])]
noncomputable def qm6 (n : Nat) (rec : qb qbl → Option (qf qcl)) (s : qb qbl) : Option (qf qcl) := (qi tab (qo n) (qgO n) (subC [true, true, false, true, false, false, true, false, false, false, false, false] (qa Try.f83)) 2 (mkS qbl 133 s)).run (Lp.leaf 133 qbl qcl rec)
noncomputable def qdZ (n : Nat) : Lp := ⟨133, qbl, qcl, qg n (qm6 n)⟩
theorem qm7 : qd (subC [true, true, false, true, false, false, true, false, false, false, false, false] (qa Try.f83)) 2 = [] := by kernel_rfl
theorem qlD (n : Nat) (st : St) (r : DEx × St) (h : ((qdZ n).go st).Is r) : DA Try.prog false (.loop (subC [true, true, false, true, false, false, true, false, false, false, false, false] (qa Try.f83))) st r := Lp.ok (L := qdZ n) (B := tab) (cs := qo n) (lo := qgO n) (id := 1) rfl (qh qm7 qe) (fun _ _ => rfl) h
noncomputable def qgP (n : Nat) : Nat → St → PT (DEx × St) := fun k st => match k with
  | 1 => (qdZ n).go st
  | 2 => (qdY n).go st
  | 3 => (qdX n).go st
  | _ => .fail
abbrev qbm : List It := [.v (.t 1) T3, .v (.t 2) T3, .v (.t 7) T3, .v (.t 8) T3, .row (.t 0) true T3 3]
abbrev qcm : List (DEx × List It) := [(.exit 0, [.row (.t 0) true T3 3]), (.ret, [.v (.t 6) T4, .row (.t 0) true T3 3])]
noncomputable def qm8 (n : Nat) (rec : qb qbm → Option (qf qcm)) (s : qb qbm) : Option (qf qcm) := (qi tab (qo n) (qgP n) (subC [true, true, false, true, false, false] (qa Try.f83)) 1 (mkS qbm 133 s)).run (Lp.leaf 133 qbm qcm rec)
noncomputable def qd0 (n : Nat) : Lp := ⟨133, qbm, qcm, qg n (qm8 n)⟩
theorem qm9 : qd (subC [true, true, false, true, false, false] (qa Try.f83)) 1 = [(1, .loop (subC [true, true, false, true, false, false, true, false, false, false, false, false] (qa Try.f83))), (2, .loop (subC [true, true, false, true, false, false, true, false, false, true, true, true, true, false, true, false, true, false, false] (qa Try.f83))), (3, .loop (subC [true, true, false, true, false, false, true, false, false, true, true, true, true, true, true, false, true, false, false] (qa Try.f83)))] := by kernel_rfl
theorem qlE (n : Nat) (st : St) (r : DEx × St) (h : ((qd0 n).go st).Is r) : DA Try.prog false (.loop (subC [true, true, false, true, false, false] (qa Try.f83))) st r := Lp.ok (L := qd0 n) (B := tab) (cs := qo n) (lo := qgP n) (id := 0) rfl (qh qm9 (all_cons (fun st r h => qlD n st r h) (all_cons (fun st r h => qlC n st r h) (all_cons (fun st r h => qlB n st r h) qe)))) (fun _ _ => rfl) h
noncomputable def qg7 (n : Nat) : Nat → St → PT (DEx × St) := fun k st => match k with
  | 0 => (qd0 n).go st
  | _ => .fail
theorem qnE : qd (qa Try.f83) 0 = [(0, .loop (subC [true, true, false, true, false, false] (qa Try.f83)))] := by kernel_rfl
theorem qnF : Try.f83.body = some (qa Try.f83) := by kernel_rfl
abbrev qd1 : List It := [.v (.t 1) T3, .v (.t 2) T3, .row (.t 0) true T3 3]
abbrev qdG : List (List It) := [[.v (.t 0) T4, .row (.t 1) true T3 3]]
noncomputable def qnG (n : Nat) (x : qb qd1) : Option (qq qdG) := runW tab (qo n) (qg7 n) (qa Try.f83) qd1 3 133 [.tmp 6] qdG x
noncomputable def qnH (n : Nat) : Cw Try.prog := ⟨83, 3, qd1, 1, qdG, qnG n, fun _ _ h => qP (B := tab) (cs := qo n) (lo := qg7 n) (rs := [.tmp 6]) Try.func83 (by kernel_rfl) qnF (by kernel_rfl) (by decide) (qh qnE (all_cons (fun st r h => qlE n st r h) qe)) h⟩
noncomputable def qL (n : Nat) : CL Try.prog := ⟨[qip n], [], 0⟩
noncomputable def qiB (n : Nat) : Nat → St → PT (DEx × St) := fun _ _ => .fail
abbrev qb5 : List It := [.v (.t 1) T3, .v (.t 9) T3, .v (.t 10) T3, .row (.t 0) true T3 3]
abbrev qdg : List (DEx × List It) := [(.exit 4, [.v (.t 1) T3, .v (.t 9) T3, .v (.t 10) T3, .row (.t 0) true T3 3])]
noncomputable def qpL (n : Nat) (rec : qb qb5 → Option (qf qdg)) (s : qb qb5) : Option (qf qdg) := (qi tab (qL n) (qiB n) (subC [true, true, true, false, false, false, false, true, false, false, false] (qa Try.f85)) 3 (mkS qb5 84 s)).run (Lp.leaf 84 qb5 qdg rec)
noncomputable def qfy (n : Nat) : Lp := ⟨84, qb5, qdg, qg n (qpL n)⟩
theorem qpM : qd (subC [true, true, true, false, false, false, false, true, false, false, false] (qa Try.f85)) 3 = [] := by kernel_rfl
theorem qoD (n : Nat) (st : St) (r : DEx × St) (h : ((qfy n).go st).Is r) : DA Try.prog false (.loop (subC [true, true, true, false, false, false, false, true, false, false, false] (qa Try.f85))) st r := Lp.ok (L := qfy n) (B := tab) (cs := qL n) (lo := qiB n) (id := 2) rfl (qh qpM qe) (fun _ _ => rfl) h
noncomputable def qiC (n : Nat) : Nat → St → PT (DEx × St) := fun _ _ => .fail
abbrev qb6 : List It := [.v (.t 1) T3, .v (.t 9) T3, .v (.t 10) T3, .row (.t 0) true T3 3]
abbrev qdh : List (DEx × List It) := [(.exit 2, [.v (.t 1) T3, .v (.t 9) T3, .v (.t 10) T3, .row (.t 0) true T3 3])]
noncomputable def qpN (n : Nat) (rec : qb qb6 → Option (qf qdh)) (s : qb qb6) : Option (qf qdh) := (qi tab (qL n) (qiC n) (subC [true, true, true, false, false, false, false, false, false, false] (qa Try.f85)) 2 (mkS qb6 84 s)).run (Lp.leaf 84 qb6 qdh rec)
noncomputable def qfz (n : Nat) : Lp := ⟨84, qb6, qdh, qg n (qpN n)⟩
theorem qpO : qd (subC [true, true, true, false, false, false, false, false, false, false] (qa Try.f85)) 2 = [] := by kernel_rfl
theorem qoE (n : Nat) (st : St) (r : DEx × St) (h : ((qfz n).go st).Is r) : DA Try.prog false (.loop (subC [true, true, true, false, false, false, false, false, false, false] (qa Try.f85))) st r := Lp.ok (L := qfz n) (B := tab) (cs := qL n) (lo := qiC n) (id := 1) rfl (qh qpO qe) (fun _ _ => rfl) h
noncomputable def qiD (n : Nat) : Nat → St → PT (DEx × St) := fun k st => match k with
  | 1 => (qfz n).go st
  | 2 => (qfy n).go st
  | _ => .fail
abbrev qb7 : List It := [.v (.t 1) T3, .v (.t 9) T3, .v (.t 10) T3, .row (.t 0) true T3 3]
abbrev qdi : List (DEx × List It) := [(.exit 0, [.v (.t 9) T3, .row (.t 0) true T3 3])]
noncomputable def qpP (n : Nat) (rec : qb qb7 → Option (qf qdi)) (s : qb qb7) : Option (qf qdi) := (qi tab (qL n) (qiD n) (subC [true, true, true, false, false, false] (qa Try.f85)) 1 (mkS qb7 84 s)).run (Lp.leaf 84 qb7 qdi rec)
noncomputable def qfA (n : Nat) : Lp := ⟨84, qb7, qdi, qg n (qpP n)⟩
theorem qpQ : qd (subC [true, true, true, false, false, false] (qa Try.f85)) 1 = [(1, .loop (subC [true, true, true, false, false, false, false, false, false, false] (qa Try.f85))), (2, .loop (subC [true, true, true, false, false, false, false, true, false, false, false] (qa Try.f85)))] := by kernel_rfl
theorem qoF (n : Nat) (st : St) (r : DEx × St) (h : ((qfA n).go st).Is r) : DA Try.prog false (.loop (subC [true, true, true, false, false, false] (qa Try.f85))) st r := Lp.ok (L := qfA n) (B := tab) (cs := qL n) (lo := qiD n) (id := 0) rfl (qh qpQ (all_cons (fun st r h => qoE n st r h) (all_cons (fun st r h => qoD n st r h) qe))) (fun _ _ => rfl) h
noncomputable def qi2 (n : Nat) : Nat → St → PT (DEx × St) := fun k st => match k with
  | 0 => (qfA n).go st
  | _ => .fail
theorem qqt : qd (qa Try.f85) 0 = [(0, .loop (subC [true, true, true, false, false, false] (qa Try.f85)))] := by kernel_rfl
theorem qqu : Try.f85.body = some (qa Try.f85) := by kernel_rfl
abbrev qfB : List It := [.v (.t 1) T3, .v (.t 2) T3, .v (.t 3) T3, .row (.t 0) true T3 3]
abbrev qe8 : List (List It) := [[.v (.t 0) T3, .row (.t 1) true T3 3]]
noncomputable def qqv (n : Nat) (x : qb qfB) : Option (qq qe8) := runW tab (qL n) (qi2 n) (qa Try.f85) qfB 4 84 [.tmp 8] qe8 x
noncomputable def qqw (n : Nat) : Cw Try.prog := ⟨85, 4, qfB, 1, qe8, qqv n, fun _ _ h => qP (B := tab) (cs := qL n) (lo := qi2 n) (rs := [.tmp 8]) Try.func85 (by kernel_rfl) qqu (by kernel_rfl) (by decide) (qh qqt (all_cons (fun st r h => qoF n st r h) qe)) h⟩
noncomputable def qt (n : Nat) : CL Try.prog := ⟨[qip n], [], 0⟩
noncomputable def qkm (n : Nat) : Nat → St → PT (DEx × St) := fun _ _ => .fail
abbrev qc3 : List It := [.v (.t 1) T3, .v (.t 10) T3, .v (.t 11) T3, .row (.t 0) true T3 3]
abbrev qeL : List (DEx × List It) := [(.exit 8, [.v (.t 1) T3, .v (.t 10) T3, .v (.t 11) T3, .row (.t 0) true T3 3])]
noncomputable def qsM (n : Nat) (rec : qb qc3 → Option (qf qeL)) (s : qb qc3) : Option (qf qeL) := (qi tab (qt n) (qkm n) (subC [true, true, true, true, true, true, true, true, true, false, false, false, false, true, false, false, false] (qa Try.f86)) 5 (mkS qc3 168 s)).run (Lp.leaf 168 qc3 qeL rec)
noncomputable def qhm (n : Nat) : Lp := ⟨168, qc3, qeL, qg n (qsM n)⟩
theorem qsN : qd (subC [true, true, true, true, true, true, true, true, true, false, false, false, false, true, false, false, false] (qa Try.f86)) 5 = [] := by kernel_rfl
theorem qq5 (n : Nat) (st : St) (r : DEx × St) (h : ((qhm n).go st).Is r) : DA Try.prog false (.loop (subC [true, true, true, true, true, true, true, true, true, false, false, false, false, true, false, false, false] (qa Try.f86))) st r := Lp.ok (L := qhm n) (B := tab) (cs := qt n) (lo := qkm n) (id := 4) rfl (qh qsN qe) (fun _ _ => rfl) h
noncomputable def qkn (n : Nat) : Nat → St → PT (DEx × St) := fun _ _ => .fail
abbrev qc4 : List It := [.v (.t 1) T3, .v (.t 10) T3, .v (.t 11) T3, .row (.t 0) true T3 3]
abbrev qeM : List (DEx × List It) := [(.exit 6, [.v (.t 1) T3, .v (.t 10) T3, .v (.t 11) T3, .row (.t 0) true T3 3])]
noncomputable def qsO (n : Nat) (rec : qb qc4 → Option (qf qeM)) (s : qb qc4) : Option (qf qeM) := (qi tab (qt n) (qkn n) (subC [true, true, true, true, true, true, true, true, true, false, false, false, false, false, false, false] (qa Try.f86)) 4 (mkS qc4 168 s)).run (Lp.leaf 168 qc4 qeM rec)
noncomputable def qhn (n : Nat) : Lp := ⟨168, qc4, qeM, qg n (qsO n)⟩
theorem qsP : qd (subC [true, true, true, true, true, true, true, true, true, false, false, false, false, false, false, false] (qa Try.f86)) 4 = [] := by kernel_rfl
theorem qq6 (n : Nat) (st : St) (r : DEx × St) (h : ((qhn n).go st).Is r) : DA Try.prog false (.loop (subC [true, true, true, true, true, true, true, true, true, false, false, false, false, false, false, false] (qa Try.f86))) st r := Lp.ok (L := qhn n) (B := tab) (cs := qt n) (lo := qkn n) (id := 3) rfl (qh qsP qe) (fun _ _ => rfl) h
noncomputable def qko (n : Nat) : Nat → St → PT (DEx × St) := fun k st => match k with
  | 3 => (qhn n).go st
  | 4 => (qhm n).go st
  | _ => .fail
abbrev qc5 : List It := [.v (.t 1) T3, .v (.t 10) T3, .v (.t 11) T3, .row (.t 0) true T3 3]
abbrev qeN : List (DEx × List It) := [(.exit 4, [.v (.t 1) T3, .v (.t 11) T3, .row (.t 0) true T3 3])]
noncomputable def qsQ (n : Nat) (rec : qb qc5 → Option (qf qeN)) (s : qb qc5) : Option (qf qeN) := (qi tab (qt n) (qko n) (subC [true, true, true, true, true, true, true, true, true, false, false, false] (qa Try.f86)) 3 (mkS qc5 168 s)).run (Lp.leaf 168 qc5 qeN rec)
noncomputable def qho (n : Nat) : Lp := ⟨168, qc5, qeN, qg n (qsQ n)⟩
theorem qsR : qd (subC [true, true, true, true, true, true, true, true, true, false, false, false] (qa Try.f86)) 3 = [(3, .loop (subC [true, true, true, true, true, true, true, true, true, false, false, false, false, false, false, false] (qa Try.f86))), (4, .loop (subC [true, true, true, true, true, true, true, true, true, false, false, false, false, true, false, false, false] (qa Try.f86)))] := by kernel_rfl
theorem qq7 (n : Nat) (st : St) (r : DEx × St) (h : ((qho n).go st).Is r) : DA Try.prog false (.loop (subC [true, true, true, true, true, true, true, true, true, false, false, false] (qa Try.f86))) st r := Lp.ok (L := qho n) (B := tab) (cs := qt n) (lo := qko n) (id := 2) rfl (qh qsR (all_cons (fun st r h => qq6 n st r h) (all_cons (fun st r h => qq5 n st r h) qe))) (fun _ _ => rfl) h
noncomputable def qkp (n : Nat) : Nat → St → PT (DEx × St) := fun _ _ => .fail
abbrev qc6 : List It := [.v (.t 1) T3, .v (.t 10) T3, .v (.t 11) T3, .row (.t 0) true T3 3]
abbrev qeO : List (DEx × List It) := [(.exit 2, [.v (.t 1) T3, .v (.t 10) T3, .v (.t 11) T3, .row (.t 0) true T3 3])]
noncomputable def qsS (n : Nat) (rec : qb qc6 → Option (qf qeO)) (s : qb qc6) : Option (qf qeO) := (qi tab (qt n) (qkp n) (subC [true, true, true, true, false, false, false] (qa Try.f86)) 2 (mkS qc6 168 s)).run (Lp.leaf 168 qc6 qeO rec)
noncomputable def qhp (n : Nat) : Lp := ⟨168, qc6, qeO, qg n (qsS n)⟩
theorem qsT : qd (subC [true, true, true, true, false, false, false] (qa Try.f86)) 2 = [] := by kernel_rfl
theorem qq8 (n : Nat) (st : St) (r : DEx × St) (h : ((qhp n).go st).Is r) : DA Try.prog false (.loop (subC [true, true, true, true, false, false, false] (qa Try.f86))) st r := Lp.ok (L := qhp n) (B := tab) (cs := qt n) (lo := qkp n) (id := 1) rfl (qh qsT qe) (fun _ _ => rfl) h
noncomputable def qkq (n : Nat) : Nat → St → PT (DEx × St) := fun _ _ => .fail
abbrev qc7 : List It := [.v (.t 1) T3, .v (.t 10) T3, .v (.t 11) T3, .row (.t 0) true T3 3]
abbrev qeP : List (DEx × List It) := [(.exit 0, [.v (.t 1) T3, .v (.t 10) T3, .v (.t 11) T3, .row (.t 0) true T3 3])]
noncomputable def qsU (n : Nat) (rec : qb qc7 → Option (qf qeP)) (s : qb qc7) : Option (qf qeP) := (qi tab (qt n) (qkq n) (subC [true, true, true, false, false, false] (qa Try.f86)) 1 (mkS qc7 168 s)).run (Lp.leaf 168 qc7 qeP rec)
noncomputable def qhq (n : Nat) : Lp := ⟨168, qc7, qeP, qg n (qsU n)⟩
theorem qsV : qd (subC [true, true, true, false, false, false] (qa Try.f86)) 1 = [] := by kernel_rfl
theorem qq9 (n : Nat) (st : St) (r : DEx × St) (h : ((qhq n).go st).Is r) : DA Try.prog false (.loop (subC [true, true, true, false, false, false] (qa Try.f86))) st r := Lp.ok (L := qhq n) (B := tab) (cs := qt n) (lo := qkq n) (id := 0) rfl (qh qsV qe) (fun _ _ => rfl) h
noncomputable def qk4 (n : Nat) : Nat → St → PT (DEx × St) := fun k st => match k with
  | 0 => (qhq n).go st
  | 1 => (qhp n).go st
  | 2 => (qho n).go st
  | _ => .fail
theorem qtn : qd (qa Try.f86) 0 = [(0, .loop (subC [true, true, true, false, false, false] (qa Try.f86))), (1, .loop (subC [true, true, true, true, false, false, false] (qa Try.f86))), (2, .loop (subC [true, true, true, true, true, true, true, true, true, false, false, false] (qa Try.f86)))] := by kernel_rfl
theorem qto : Try.f86.body = some (qa Try.f86) := by kernel_rfl
abbrev qhr : List It := [.v (.t 1) T3, .v (.t 2) T3, .v (.t 3) T3, .row (.t 0) true T3 3]
abbrev qgZ : List (List It) := [[.v (.t 0) T3, .v (.t 1) T4, .row (.t 2) true T3 3]]
noncomputable def qtp (n : Nat) (x : qb qhr) : Option (qq qgZ) := runW tab (qt n) (qk4 n) (qa Try.f86) qhr 4 168 [.tmp 8, .tmp 9] qgZ x
noncomputable def qtq (n : Nat) : Cw Try.prog := ⟨86, 4, qhr, 2, qgZ, qtp n, fun _ _ h => qP (B := tab) (cs := qt n) (lo := qk4 n) (rs := [.tmp 8, .tmp 9]) Try.func86 (by kernel_rfl) qto (by kernel_rfl) (by decide) (qh qtn (all_cons (fun st r h => qq9 n st r h) (all_cons (fun st r h => qq8 n st r h) (all_cons (fun st r h => qq7 n st r h) qe)))) h⟩
noncomputable def qyL (n : Nat) : CL Try.prog := ⟨[], [], 0⟩
noncomputable def qyM (n : Nat) : Nat → St → PT (DEx × St) := fun _ _ => .fail
theorem qFP : qd (qa Try.f36) 0 = [] := by kernel_rfl
theorem qFQ : Try.f36.body = some (qa Try.f36) := by kernel_rfl
abbrev quD : List Ar := [.d T3, .d T3, .d T3]
abbrev quE : List Ty := [T4]
noncomputable def qzT (n : Nat) (x : qz quD) : Option (qk quE) := (qi tab (qyL n) (qyM n) (qa Try.f36) 0 (qB quD 15 x)).run (qbz tab [.tmp 6] quE)
noncomputable def qj9 (n : Nat) : Ct Try.prog := ⟨36, quD, .ts quE, qzT n, fun _ _ h => qbF (B := tab) (cs := qyL n) (lo := qyM n) (rs := [.tmp 6]) Try.func36 (by kernel_rfl) qFQ (by kernel_rfl) (by decide) (qh qFP qe) h⟩
noncomputable def qwj (n : Nat) : CL Try.prog := ⟨[qj9 n], [], 0⟩
noncomputable def qwk (n : Nat) : Nat → St → PT (DEx × St) := fun _ _ => .fail
theorem qEg : qd (qa Try.f50) 0 = [] := by kernel_rfl
theorem qEh : Try.f50.body = some (qa Try.f50) := by kernel_rfl
abbrev qrZ : List Ar := [.d T69, .d T3]
abbrev qr0 : List Ty := [T4]
noncomputable def qxl (n : Nat) (x : qz qrZ) : Option (qk qr0) := (qi tab (qwj n) (qwk n) (qa Try.f50) 0 (qB qrZ 12 x)).run (qbz tab [.tmp 4] qr0)
noncomputable def qxm (n : Nat) : Ct Try.prog := ⟨50, qrZ, .ts qr0, qxl n, fun _ _ h => qbF (B := tab) (cs := qwj n) (lo := qwk n) (rs := [.tmp 4]) Try.func50 (by kernel_rfl) qEh (by kernel_rfl) (by decide) (qh qEg qe) h⟩
noncomputable def quc (n : Nat) : CL Try.prog := ⟨[qj9 n], [], 0⟩
noncomputable def qud (n : Nat) : Nat → St → PT (DEx × St) := fun _ _ => .fail
theorem qCs : qd (qa Try.f51) 0 = [] := by kernel_rfl
theorem qCt : Try.f51.body = some (qa Try.f51) := by kernel_rfl
abbrev qpR : List Ar := [.d T69, .d T3]
abbrev qpS : List Ty := [T4]
noncomputable def qvs (n : Nat) (x : qz qpR) : Option (qk qpS) := (qi tab (quc n) (qud n) (qa Try.f51) 0 (qB qpR 11 x)).run (qbz tab [.tmp 4] qpS)
noncomputable def qvt (n : Nat) : Ct Try.prog := ⟨51, qpR, .ts qpS, qvs n, fun _ _ h => qbF (B := tab) (cs := quc n) (lo := qud n) (rs := [.tmp 4]) Try.func51 (by kernel_rfl) qCt (by kernel_rfl) (by decide) (qh qCs qe) h⟩
noncomputable def qkO (n : Nat) : CL Try.prog := ⟨[qj9 n, qxm n, qvt n], [], 0⟩
noncomputable def qtr (n : Nat) : Nat → St → PT (DEx × St) := fun _ _ => .fail
abbrev qif : List It := [.v (.t 5) T3, .v (.t 8) T28, .v (.t 9) T3, .v (.t 10) T3, .obj (.t 2) false 69 2, .v (.c 0 0) T69]
abbrev qkP : List (DEx × List It) := [(.exit 0, []), (.ret, [.v (.t 4) T4])]
noncomputable def que (n : Nat) (rec : qb qif → Option (qf qkP)) (s : qb qif) : Option (qf qkP) := (qi tab (qkO n) (qtr n) (subC [true, true, false, true, false, false] (qa Try.f105)) 1 (mkS qif 43 s)).run (Lp.leaf 43 qif qkP rec)
noncomputable def qoT (n : Nat) : Lp := ⟨43, qif, qkP, qg n (que n)⟩
theorem qBP : qd (subC [true, true, false, true, false, false] (qa Try.f105)) 1 = [] := by kernel_rfl
theorem qze (n : Nat) (st : St) (r : DEx × St) (h : ((qoT n).go st).Is r) : DA Try.prog false (.loop (subC [true, true, false, true, false, false] (qa Try.f105))) st r := Lp.ok (L := qoT n) (B := tab) (cs := qkO n) (lo := qtr n) (id := 0) rfl (qh qBP qe) (fun _ _ => rfl) h
noncomputable def quf (n : Nat) : Nat → St → PT (DEx × St) := fun k st => match k with
  | 0 => (qoT n).go st
  | _ => .fail
theorem qCu : qd (qa Try.f105) 0 = [(0, .loop (subC [true, true, false, true, false, false] (qa Try.f105)))] := by kernel_rfl
theorem qCv : Try.f105.body = some (qa Try.f105) := by kernel_rfl
abbrev qpT : List Ar := [.d T69, .d T28]
abbrev qpU : List Ty := [T4]
noncomputable def qvu (n : Nat) (x : qz qpT) : Option (qk qpU) := (qi tab (qkO n) (quf n) (qa Try.f105) 0 (qB qpT 43 x)).run (qbz tab [.tmp 4] qpU)
noncomputable def qCw (n : Nat) : Ct Try.prog := ⟨105, qpT, .ts qpU, qvu n, fun _ _ h => qbF (B := tab) (cs := qkO n) (lo := quf n) (rs := [.tmp 4]) Try.func105 (by kernel_rfl) qCv (by kernel_rfl) (by decide) (qh qCu (all_cons (fun st r h => qze n st r h) qe)) h⟩
noncomputable def qsw (n : Nat) : CL Try.prog := ⟨[qj9 n, qCw n], [], 0⟩
noncomputable def qsx (n : Nat) : Nat → St → PT (DEx × St) := fun _ _ => .fail
theorem qA1 : qd (qa Try.f92) 0 = [] := by kernel_rfl
theorem qA2 : Try.f92.body = some (qa Try.f92) := by kernel_rfl
abbrev qoc : List Ar := [.d T69, .d T30]
abbrev qod : List Ty := [T4]
noncomputable def qts (n : Nat) (x : qz qoc) : Option (qk qod) := (qi tab (qsw n) (qsx n) (qa Try.f92) 0 (qB qoc 49 x)).run (qbz tab [.tmp 4] qod)
noncomputable def qA3 (n : Nat) : Ct Try.prog := ⟨92, qoc, .ts qod, qts n, fun _ _ h => qbF (B := tab) (cs := qsw n) (lo := qsx n) (rs := [.tmp 4]) Try.func92 (by kernel_rfl) qA2 (by kernel_rfl) (by decide) (qh qA1 qe) h⟩
noncomputable def qrO (n : Nat) : CL Try.prog := ⟨[], [], 0⟩
noncomputable def qzU (n : Nat) : Nat → St → PT (DEx × St) := fun _ _ => .fail
abbrev qoG : List It := [.v (.t 3) T3, .v (.t 6) T32, .v (.t 7) T3, .v (.t 8) T3]
abbrev qrP : List (DEx × List It) := [(.exit 0, [.v (.t 3) T3]), (.ret, [.v (.t 2) T3])]
noncomputable def qBA (n : Nat) (rec : qb qoG → Option (qf qrP)) (s : qb qoG) : Option (qf qrP) := (qi tab (qrO n) (qzU n) (subC [true, true, false, true, false, false] (qa Try.f76)) 1 (mkS qoG 18 s)).run (Lp.leaf 18 qoG qrP rec)
noncomputable def qv2 (n : Nat) : Lp := ⟨18, qoG, qrP, qg n (qBA n)⟩
theorem qGX : qd (subC [true, true, false, true, false, false] (qa Try.f76)) 1 = [] := by kernel_rfl
theorem qEi (n : Nat) (st : St) (r : DEx × St) (h : ((qv2 n).go st).Is r) : DA Try.prog false (.loop (subC [true, true, false, true, false, false] (qa Try.f76))) st r := Lp.ok (L := qv2 n) (B := tab) (cs := qrO n) (lo := qzU n) (id := 0) rfl (qh qGX qe) (fun _ _ => rfl) h
noncomputable def qBB (n : Nat) : Nat → St → PT (DEx × St) := fun k st => match k with
  | 0 => (qv2 n).go st
  | _ => .fail
theorem qHV : qd (qa Try.f76) 0 = [(0, .loop (subC [true, true, false, true, false, false] (qa Try.f76)))] := by kernel_rfl
theorem qHW : Try.f76.body = some (qa Try.f76) := by kernel_rfl
abbrev qxn : List Ar := [.d T32]
abbrev qxo : List Ty := [T3]
noncomputable def qCx (n : Nat) (x : qz qxn) : Option (qk qxo) := (qi tab (qrO n) (qBB n) (qa Try.f76) 0 (qB qxn 18 x)).run (qbz tab [.tmp 2] qxo)
noncomputable def qxp (n : Nat) : Ct Try.prog := ⟨76, qxn, .ts qxo, qCx n, fun _ _ h => qbF (B := tab) (cs := qrO n) (lo := qBB n) (rs := [.tmp 2]) Try.func76 (by kernel_rfl) qHW (by kernel_rfl) (by decide) (qh qHV (all_cons (fun st r h => qEi n st r h) qe)) h⟩
noncomputable def qrQ (n : Nat) : CL Try.prog := ⟨[], [], 0⟩
noncomputable def qzV (n : Nat) : Nat → St → PT (DEx × St) := fun _ _ => .fail
abbrev qoH : List It := [.v (.t 0) T25, .v (.t 5) T25, .v (.t 6) T3, .v (.t 7) T3]
abbrev qrR : List (DEx × List It) := [(.exit 0, []), (.ret, [.v (.t 2) T4])]
noncomputable def qBC (n : Nat) (rec : qb qoH → Option (qf qrR)) (s : qb qoH) : Option (qf qrR) := (qi tab (qrQ n) (qzV n) (subC [true, false, true, false, false] (qa Try.f40)) 1 (mkS qoH 37 s)).run (Lp.leaf 37 qoH qrR rec)
noncomputable def qv3 (n : Nat) : Lp := ⟨37, qoH, qrR, qg n (qBC n)⟩
theorem qGY : qd (subC [true, false, true, false, false] (qa Try.f40)) 1 = [] := by kernel_rfl
theorem qEj (n : Nat) (st : St) (r : DEx × St) (h : ((qv3 n).go st).Is r) : DA Try.prog false (.loop (subC [true, false, true, false, false] (qa Try.f40))) st r := Lp.ok (L := qv3 n) (B := tab) (cs := qrQ n) (lo := qzV n) (id := 0) rfl (qh qGY qe) (fun _ _ => rfl) h
noncomputable def qBD (n : Nat) : Nat → St → PT (DEx × St) := fun k st => match k with
  | 0 => (qv3 n).go st
  | _ => .fail
theorem qHX : qd (qa Try.f40) 0 = [(0, .loop (subC [true, false, true, false, false] (qa Try.f40)))] := by kernel_rfl
theorem qHY : Try.f40.body = some (qa Try.f40) := by kernel_rfl
abbrev qxq : List Ar := [.d T25]
abbrev qxr : List Ty := [T4]
noncomputable def qCy (n : Nat) (x : qz qxq) : Option (qk qxr) := (qi tab (qrQ n) (qBD n) (qa Try.f40) 0 (qB qxq 37 x)).run (qbz tab [.tmp 2] qxr)
noncomputable def qHZ (n : Nat) : Ct Try.prog := ⟨40, qxq, .ts qxr, qCy n, fun _ _ h => qbF (B := tab) (cs := qrQ n) (lo := qBD n) (rs := [.tmp 2]) Try.func40 (by kernel_rfl) qHY (by kernel_rfl) (by decide) (qh qHX (all_cons (fun st r h => qEj n st r h) qe)) h⟩
noncomputable def qjT (n : Nat) : CL Try.prog := ⟨[], [], 0⟩
noncomputable def qsy (n : Nat) : Nat → St → PT (DEx × St) := fun _ _ => .fail
abbrev qhI : List It := [.v (.t 0) T25, .v (.t 4) T3, .row (.t 3) false T30 30]
abbrev qjU : List (DEx × List It) := [(.exit 0, [.row (.t 3) false T30 30])]
noncomputable def qA4 (n : Nat) (rec : qb qhI → Option (qf qjU)) (s : qb qhI) : Option (qf qjU) := (qi tab (qjT n) (qsy n) (subC [true, true, false, true, false, false] (qa Try.f26)) 1 (mkS qhI 26 s)).run (Lp.leaf 26 qhI qjU rec)
noncomputable def qoe (n : Nat) : Lp := ⟨26, qhI, qjU, qg n (qA4 n)⟩
theorem qA5 : qd (subC [true, true, false, true, false, false] (qa Try.f26)) 1 = [] := by kernel_rfl
theorem qx8 (n : Nat) (st : St) (r : DEx × St) (h : ((qoe n).go st).Is r) : DA Try.prog false (.loop (subC [true, true, false, true, false, false] (qa Try.f26))) st r := Lp.ok (L := qoe n) (B := tab) (cs := qjT n) (lo := qsy n) (id := 0) rfl (qh qA5 qe) (fun _ _ => rfl) h
noncomputable def qtt (n : Nat) : Nat → St → PT (DEx × St) := fun k st => match k with
  | 0 => (qoe n).go st
  | _ => .fail
theorem qBQ : qd (qa Try.f26) 0 = [(0, .loop (subC [true, true, false, true, false, false] (qa Try.f26)))] := by kernel_rfl
theorem qBR : Try.f26.body = some (qa Try.f26) := by kernel_rfl
abbrev qoU : List Ar := [.d T25]
abbrev qoV : List Ty := [T25]
noncomputable def qBS (n : Nat) (x : qz qoU) : Option (qk qoV) := (qi tab (qjT n) (qtt n) (qa Try.f26) 0 (qB qoU 26 x)).run (qbz tab [.tmp 2] qoV)
noncomputable def qBT (n : Nat) : Ct Try.prog := ⟨26, qoU, .ts qoV, qBS n, fun _ _ h => qbF (B := tab) (cs := qjT n) (lo := qtt n) (rs := [.tmp 2]) Try.func26 (by kernel_rfl) qBR (by kernel_rfl) (by decide) (qh qBQ (all_cons (fun st r h => qx8 n st r h) qe)) h⟩
noncomputable def qhJ (n : Nat) : CL Try.prog := ⟨[], [], 0⟩
noncomputable def qpg (n : Nat) : Nat → St → PT (DEx × St) := fun _ _ => .fail
abbrev qfC : List It := [.v (.t 0) T32, .v (.t 1) T3, .v (.t 5) T3]
abbrev qhK : List (DEx × List It) := [(.exit 0, []), (.ret, [.v (.t 4) T4])]
noncomputable def qpV (n : Nat) (rec : qb qfC → Option (qf qhK)) (s : qb qfC) : Option (qf qhK) := (qi tab (qhJ n) (qpg n) (subC [true, false, true, false, false] (qa Try.f15)) 1 (mkS qfC 18 s)).run (Lp.leaf 18 qfC qhK rec)
noncomputable def qkr (n : Nat) : Lp := ⟨18, qfC, qhK, qg n (qpV n)⟩
theorem qxs : qd (subC [true, false, true, false, false] (qa Try.f15)) 1 = [] := by kernel_rfl
theorem qvv (n : Nat) (st : St) (r : DEx × St) (h : ((qkr n).go st).Is r) : DA Try.prog false (.loop (subC [true, false, true, false, false] (qa Try.f15))) st r := Lp.ok (L := qkr n) (B := tab) (cs := qhJ n) (lo := qpg n) (id := 0) rfl (qh qxs qe) (fun _ _ => rfl) h
noncomputable def qpW (n : Nat) : Nat → St → PT (DEx × St) := fun k st => match k with
  | 0 => (qkr n).go st
  | _ => .fail
theorem qx9 : qd (qa Try.f15) 0 = [(0, .loop (subC [true, false, true, false, false] (qa Try.f15)))] := by kernel_rfl
theorem qya : Try.f15.body = some (qa Try.f15) := by kernel_rfl
abbrev qlb : List Ar := [.d T32, .d T3]
abbrev qlc : List Ty := [T4]
noncomputable def qqL (n : Nat) (x : qz qlb) : Option (qk qlc) := (qi tab (qhJ n) (qpW n) (qa Try.f15) 0 (qB qlb 18 x)).run (qbz tab [.tmp 4] qlc)
noncomputable def qyb (n : Nat) : Ct Try.prog := ⟨15, qlb, .ts qlc, qqL n, fun _ _ h => qbF (B := tab) (cs := qhJ n) (lo := qpW n) (rs := [.tmp 4]) Try.func15 (by kernel_rfl) qya (by kernel_rfl) (by decide) (qh qx9 (all_cons (fun st r h => qvv n st r h) qe)) h⟩
noncomputable def qhL (n : Nat) : CL Try.prog := ⟨[], [], 0⟩
noncomputable def qph (n : Nat) : Nat → St → PT (DEx × St) := fun _ _ => .fail
abbrev qfD : List It := [.v (.t 0) T32, .v (.t 1) T32, .v (.t 5) T3]
abbrev qhM : List (DEx × List It) := [(.exit 0, []), (.ret, [.v (.t 4) T4])]
noncomputable def qpX (n : Nat) (rec : qb qfD → Option (qf qhM)) (s : qb qfD) : Option (qf qhM) := (qi tab (qhL n) (qph n) (subC [true, true, false, true, false, false] (qa Try.f14)) 1 (mkS qfD 26 s)).run (Lp.leaf 26 qfD qhM rec)
noncomputable def qks (n : Nat) : Lp := ⟨26, qfD, qhM, qg n (qpX n)⟩
theorem qxt : qd (subC [true, true, false, true, false, false] (qa Try.f14)) 1 = [] := by kernel_rfl
theorem qvw (n : Nat) (st : St) (r : DEx × St) (h : ((qks n).go st).Is r) : DA Try.prog false (.loop (subC [true, true, false, true, false, false] (qa Try.f14))) st r := Lp.ok (L := qks n) (B := tab) (cs := qhL n) (lo := qph n) (id := 0) rfl (qh qxt qe) (fun _ _ => rfl) h
noncomputable def qpY (n : Nat) : Nat → St → PT (DEx × St) := fun k st => match k with
  | 0 => (qks n).go st
  | _ => .fail
theorem qyc : qd (qa Try.f14) 0 = [(0, .loop (subC [true, true, false, true, false, false] (qa Try.f14)))] := by kernel_rfl
theorem qyd : Try.f14.body = some (qa Try.f14) := by kernel_rfl
abbrev qld : List Ar := [.d T32, .d T32]
abbrev qle : List Ty := [T4]
noncomputable def qqM (n : Nat) (x : qz qld) : Option (qk qle) := (qi tab (qhL n) (qpY n) (qa Try.f14) 0 (qB qld 26 x)).run (qbz tab [.tmp 4] qle)
noncomputable def qye (n : Nat) : Ct Try.prog := ⟨14, qld, .ts qle, qqM n, fun _ _ h => qbF (B := tab) (cs := qhL n) (lo := qpY n) (rs := [.tmp 4]) Try.func14 (by kernel_rfl) qyd (by kernel_rfl) (by decide) (qh qyc (all_cons (fun st r h => qvw n st r h) qe)) h⟩
noncomputable def qkQ (n : Nat) : CL Try.prog := ⟨[], [], 0⟩
noncomputable def qtu (n : Nat) : Nat → St → PT (DEx × St) := fun _ _ => .fail
abbrev qig : List It := [.v (.t 1) T25, .v (.t 5) T3, .obj (.t 2) false 24 2, .v (.c 0 0) T24]
abbrev qkR : List (DEx × List It) := [(.exit 0, [.v (.t 1) T25, .obj (.t 2) false 24 2, .v (.c 0 0) T24]), (.ret, [.v (.t 4) T4])]
noncomputable def qug (n : Nat) (rec : qb qig → Option (qf qkR)) (s : qb qig) : Option (qf qkR) := (qi tab (qkQ n) (qtu n) (subC [true, false, true, false, false] (qa Try.f24)) 1 (mkS qig 38 s)).run (Lp.leaf 38 qig qkR rec)
noncomputable def qoW (n : Nat) : Lp := ⟨38, qig, qkR, qg n (qug n)⟩
theorem qBU : qd (subC [true, false, true, false, false] (qa Try.f24)) 1 = [] := by kernel_rfl
theorem qzf (n : Nat) (st : St) (r : DEx × St) (h : ((qoW n).go st).Is r) : DA Try.prog false (.loop (subC [true, false, true, false, false] (qa Try.f24))) st r := Lp.ok (L := qoW n) (B := tab) (cs := qkQ n) (lo := qtu n) (id := 0) rfl (qh qBU qe) (fun _ _ => rfl) h
noncomputable def quh (n : Nat) : Nat → St → PT (DEx × St) := fun k st => match k with
  | 0 => (qoW n).go st
  | _ => .fail
theorem qCz : qd (qa Try.f24) 0 = [(0, .loop (subC [true, false, true, false, false] (qa Try.f24)))] := by kernel_rfl
theorem qCA : Try.f24.body = some (qa Try.f24) := by kernel_rfl
abbrev qpZ : List Ar := [.d T24, .d T25]
abbrev qp0 : List Ty := [T4]
noncomputable def qvx (n : Nat) (x : qz qpZ) : Option (qk qp0) := (qi tab (qkQ n) (quh n) (qa Try.f24) 0 (qB qpZ 38 x)).run (qbz tab [.tmp 4] qp0)
noncomputable def qCB (n : Nat) : Ct Try.prog := ⟨24, qpZ, .ts qp0, qvx n, fun _ _ h => qbF (B := tab) (cs := qkQ n) (lo := quh n) (rs := [.tmp 4]) Try.func24 (by kernel_rfl) qCA (by kernel_rfl) (by decide) (qh qCz (all_cons (fun st r h => qzf n st r h) qe)) h⟩
noncomputable def qsz (n : Nat) : CL Try.prog := ⟨[qCB n, qAX n], [], 0⟩
noncomputable def qsA (n : Nat) : Nat → St → PT (DEx × St) := fun _ _ => .fail
theorem qA6 : qd (qa Try.f9) 0 = [] := by kernel_rfl
theorem qA7 : Try.f9.body = some (qa Try.f9) := by kernel_rfl
abbrev qof : List Ar := [.d T24, .d T25]
abbrev qog : List Ty := [T4]
noncomputable def qtv (n : Nat) (x : qz qof) : Option (qk qog) := (qi tab (qsz n) (qsA n) (qa Try.f9) 0 (qB qof 20 x)).run (qbz tab [.tmp 4] qog)
noncomputable def qA8 (n : Nat) : Ct Try.prog := ⟨9, qof, .ts qog, qtv n, fun _ _ h => qbF (B := tab) (cs := qsz n) (lo := qsA n) (rs := [.tmp 4]) Try.func9 (by kernel_rfl) qA7 (by kernel_rfl) (by decide) (qh qA6 qe) h⟩
noncomputable def qqN (n : Nat) : CL Try.prog := ⟨[], [], 0⟩
noncomputable def qqO (n : Nat) : Nat → St → PT (DEx × St) := fun _ _ => .fail
theorem qzg : qd (qa Try.f30) 0 = [] := by kernel_rfl
theorem qzh : Try.f30.body = some (qa Try.f30) := by kernel_rfl
abbrev ql1 : List Ar := []
abbrev ql2 : List Ty := [T24, T25]
noncomputable def qrE (n : Nat) (x : qz ql1) : Option (qk ql2) := (qi tab (qqN n) (qqO n) (qa Try.f30) 0 (qB ql1 27 x)).run (qbz tab [.cell 0 24, .tmp 1] ql2)
noncomputable def qzi (n : Nat) : Ct Try.prog := ⟨30, ql1, .ts ql2, qrE n, fun _ _ h => qbF (B := tab) (cs := qqN n) (lo := qqO n) (rs := [.cell 0 24, .tmp 1]) Try.func30 (by kernel_rfl) qzh (by kernel_rfl) (by decide) (qh qzg qe) h⟩
end Go.Proofs.Ytcjgodgpaokbnaa
