/- Printed: what functions of the program compute. -/
import Derived.Test.YtcjgodgpaokbnaaGreatDnA
namespace Go.Proofs.YtcjgodgpaokbnaaGreat
set_option linter.constructorNameAsVariable false
set_option linter.unusedSimpArgs false
set_option linter.unusedVariables false
set_option linter.unusedSectionVars false
open Go Go.Proofs Go.RowKit
set_option maxRecDepth 20000
noncomputable def qu4 (n : Nat) : CL Tryz.prog := ⟨[], [], 0⟩
noncomputable def qu5 (n : Nat) : Nat → St → PT (DEx × St) := fun _ _ => .fail
theorem qCY : qd (qa Tryz.f100) 0 = [] := by kernel_rfl
theorem qCZ : Tryz.f100.body = some (qa Tryz.f100) := by kernel_rfl
abbrev qq2 : List Ar := [.d T3]
abbrev qq3 : List Ty := [T4]
noncomputable def qwx (n : Nat) (x : qp qq2) : Option (qi qq3) := (qk tab (qu4 n) (qu5 n) (qa Tryz.f100) 0 (qu qq2 6 x)).run (qU tab [.tmp 2] qq3)
noncomputable def qwy (n : Nat) : Ct Tryz.prog := ⟨100, qq2, .ts qq3, qwx n, fun _ _ h => q6 (B := tab) (cs := qu4 n) (lo := qu5 n) (rs := [.tmp 2]) Tryz.func100 (by kernel_rfl) qCZ (by kernel_rfl) (by decide) (qh qCY qe) h⟩
noncomputable def qwz (n : Nat) : CL Tryz.prog := ⟨[qwy n], [], 0⟩
noncomputable def qwA (n : Nat) : Nat → St → PT (DEx × St) := fun _ _ => .fail
theorem qDD : qd (qa Tryz.f115) 0 = [] := by kernel_rfl
theorem qDE : Tryz.f115.body = some (qa Tryz.f115) := by kernel_rfl
abbrev qse : List Ar := [.d T3, .d T3]
abbrev qsf : List Ty := [T4]
noncomputable def qxP (n : Nat) (x : qp qse) : Option (qi qsf) := (qk tab (qwz n) (qwA n) (qa Tryz.f115) 0 (qu qse 17 x)).run (qU tab [.tmp 4] qsf)
noncomputable def qxQ (n : Nat) : Ct Tryz.prog := ⟨115, qse, .ts qsf, qxP n, fun _ _ h => q6 (B := tab) (cs := qwz n) (lo := qwA n) (rs := [.tmp 4]) Tryz.func115 (by kernel_rfl) qDE (by kernel_rfl) (by decide) (qh qDD qe) h⟩
noncomputable def qsW (n : Nat) : CL Tryz.prog := ⟨[qwy n], [], 0⟩
noncomputable def qsX (n : Nat) : Nat → St → PT (DEx × St) := fun _ _ => .fail
theorem qBh : qd (qa Tryz.f67) 0 = [] := by kernel_rfl
theorem qBi : Tryz.f67.body = some (qa Tryz.f67) := by kernel_rfl
abbrev qo8 : List Ar := [.d T3, .d T3]
abbrev qo9 : List Ty := [T3]
noncomputable def qtU (n : Nat) (x : qp qo8) : Option (qi qo9) := (qk tab (qsW n) (qsX n) (qa Tryz.f67) 0 (qu qo8 20 x)).run (qU tab [.tmp 4] qo9)
noncomputable def qpa (n : Nat) : Ct Tryz.prog := ⟨67, qo8, .ts qo9, qtU n, fun _ _ h => q6 (B := tab) (cs := qsW n) (lo := qsX n) (rs := [.tmp 4]) Tryz.func67 (by kernel_rfl) qBi (by kernel_rfl) (by decide) (qh qBh qe) h⟩
noncomputable def qq4 (n : Nat) : CL Tryz.prog := ⟨[], [], 0⟩
noncomputable def qzt (n : Nat) : Nat → St → PT (DEx × St) := fun _ _ => .fail
abbrev qn6 : List It := [.v (.t 6) T25, .v (.t 7) T3, .v (.t 8) T3, .row (.t 3) false T3 3]
abbrev qq5 : List (DEx × List It) := [(.exit 0, [.row (.t 3) false T3 3])]
noncomputable def qAm (n : Nat) (rec : qc qn6 → Option (qg qq5)) (s : qc qn6) : Option (qg qq5) := (qk tab (qq4 n) (qzt n) (subC [true, true, false, true, false, false] (qa Tryz.f44)) 1 (mkS qn6 19 s)).run (Lp.leaf 19 qn6 qq5 rec)
noncomputable def qu6 (n : Nat) : Lp := ⟨19, qn6, qq5, qf n (qAm n)⟩
theorem qFO : qd (subC [true, true, false, true, false, false] (qa Tryz.f44)) 1 = [] := by kernel_rfl
theorem qC0 (n : Nat) (st : St) (r : DEx × St) (h : ((qu6 n).go st).Is r) : DA Tryz.prog false (.loop (subC [true, true, false, true, false, false] (qa Tryz.f44))) st r := Lp.ok (L := qu6 n) (B := tab) (cs := qq4 n) (lo := qzt n) (id := 0) rfl (qh qFO qe) (fun _ _ => rfl) h
noncomputable def qAn (n : Nat) : Nat → St → PT (DEx × St) := fun k st => match k with
  | 0 => (qu6 n).go st
  | _ => .fail
theorem qGA : qd (qa Tryz.f44) 0 = [(0, .loop (subC [true, true, false, true, false, false] (qa Tryz.f44)))] := by kernel_rfl
theorem qGB : Tryz.f44.body = some (qa Tryz.f44) := by kernel_rfl
abbrev qu7 : List It := [.v (.t 0) T25]
abbrev qtB : List (List It) := [[.row (.t 0) false T3 3]]
noncomputable def qBK (n : Nat) (x : qc qu7) : Option (qD qtB) := runW tab (qq4 n) (qAn n) (qa Tryz.f44) qu7 1 19 [.tmp 2] qtB x
noncomputable def qBL (n : Nat) : Cw Tryz.prog := ⟨44, 1, qu7, 1, qtB, qBK n, fun _ _ h => qbY (B := tab) (cs := qq4 n) (lo := qAn n) (rs := [.tmp 2]) Tryz.func44 (by kernel_rfl) qGB (by kernel_rfl) (by decide) (qh qGA (all_cons (fun st r h => qC0 n st r h) qe)) h⟩
noncomputable def qbj (n : Nat) : CL Tryz.prog := ⟨[qxQ n], [], 0⟩
noncomputable def qhn (n : Nat) : Nat → St → PT (DEx × St) := fun _ _ => .fail
abbrev qbZ : List It := [.v (.t 1) T3, .v (.t 2) T3, .v (.t 6) T3, .v (.t 7) T3, .row (.t 0) true T3 3]
abbrev qc3 : List (DEx × List It) := [(.exit 2, [.v (.t 1) T3, .v (.t 2) T3, .v (.t 6) T3, .row (.t 0) true T3 3])]
noncomputable def qhH (n : Nat) (rec : qc qbZ → Option (qg qc3)) (s : qc qbZ) : Option (qg qc3) := (qk tab (qbj n) (qhn n) (subC [true, false, false, true, false, false, true, false, false] (qa Tryz.f109)) 2 (mkS qbZ 49 s)).run (Lp.leaf 49 qbZ qc3 rec)
noncomputable def qeS (n : Nat) : Lp := ⟨49, qbZ, qc3, qf n (qhH n)⟩
theorem qoG : qd (subC [true, false, false, true, false, false, true, false, false] (qa Tryz.f109)) 2 = [] := by kernel_rfl
theorem qm6 (n : Nat) (st : St) (r : DEx × St) (h : ((qeS n).go st).Is r) : DA Tryz.prog false (.loop (subC [true, false, false, true, false, false, true, false, false] (qa Tryz.f109))) st r := Lp.ok (L := qeS n) (B := tab) (cs := qbj n) (lo := qhn n) (id := 1) rfl (qh qoG qe) (fun _ _ => rfl) h
noncomputable def qho (n : Nat) : Nat → St → PT (DEx × St) := fun k st => match k with
  | 1 => (qeS n).go st
  | _ => .fail
abbrev qb0 : List It := [.v (.t 1) T3, .v (.t 2) T3, .v (.t 6) T3, .row (.t 0) true T3 3]
abbrev qc4 : List (DEx × List It) := [(.exit 0, [.row (.t 0) true T3 3])]
noncomputable def qhI (n : Nat) (rec : qc qb0 → Option (qg qc4)) (s : qc qb0) : Option (qg qc4) := (qk tab (qbj n) (qho n) (subC [true, false, false] (qa Tryz.f109)) 1 (mkS qb0 49 s)).run (Lp.leaf 49 qb0 qc4 rec)
noncomputable def qeT (n : Nat) : Lp := ⟨49, qb0, qc4, qf n (qhI n)⟩
theorem qoH : qd (subC [true, false, false] (qa Tryz.f109)) 1 = [(1, .loop (subC [true, false, false, true, false, false, true, false, false] (qa Tryz.f109)))] := by kernel_rfl
theorem qm7 (n : Nat) (st : St) (r : DEx × St) (h : ((qeT n).go st).Is r) : DA Tryz.prog false (.loop (subC [true, false, false] (qa Tryz.f109))) st r := Lp.ok (L := qeT n) (B := tab) (cs := qbj n) (lo := qho n) (id := 0) rfl (qh qoH (all_cons (fun st r h => qm6 n st r h) qe)) (fun _ _ => rfl) h
noncomputable def qhJ (n : Nat) : Nat → St → PT (DEx × St) := fun k st => match k with
  | 0 => (qeT n).go st
  | _ => .fail
theorem qpb : qd (qa Tryz.f109) 0 = [(0, .loop (subC [true, false, false] (qa Tryz.f109)))] := by kernel_rfl
theorem qpc : Tryz.f109.body = some (qa Tryz.f109) := by kernel_rfl
abbrev qeU : List It := [.v (.t 1) T3, .v (.t 2) T3, .row (.t 0) true T3 3]
abbrev qeC : List (List It) := [[.row (.t 0) true T3 3]]
noncomputable def qid (n : Nat) (x : qc qeU) : Option (qD qeC) := runW tab (qbj n) (qhJ n) (qa Tryz.f109) qeU 3 49 [] qeC x
noncomputable def qpd (n : Nat) : Cw Tryz.prog := ⟨109, 3, qeU, 0, qeC, qid n, fun _ _ h => qbY (B := tab) (cs := qbj n) (lo := qhJ n) (rs := []) Tryz.func109 (by kernel_rfl) qpc (by kernel_rfl) (by decide) (qh qpb (all_cons (fun st r h => qm7 n st r h) qe)) h⟩
noncomputable def qsY (n : Nat) : CL Tryz.prog := ⟨[], [], 0⟩
noncomputable def qsZ (n : Nat) : Nat → St → PT (DEx × St) := fun _ _ => .fail
theorem qBj : qd (qa Tryz.f119) 0 = [] := by kernel_rfl
theorem qBk : Tryz.f119.body = some (qa Tryz.f119) := by kernel_rfl
abbrev qpe : List Ar := [.d T152]
abbrev qpf : List Ty := [T3]
noncomputable def qtV (n : Nat) (x : qp qpe) : Option (qi qpf) := (qk tab (qsY n) (qsZ n) (qa Tryz.f119) 0 (qu qpe 25 x)).run (qU tab [.tmp 2] qpf)
noncomputable def qBl (n : Nat) : Ct Tryz.prog := ⟨119, qpe, .ts qpf, qtV n, fun _ _ h => q6 (B := tab) (cs := qsY n) (lo := qsZ n) (rs := [.tmp 2]) Tryz.func119 (by kernel_rfl) qBk (by kernel_rfl) (by decide) (qh qBj qe) h⟩
noncomputable def qwB (n : Nat) : CL Tryz.prog := ⟨[], [], 0⟩
noncomputable def qwC (n : Nat) : Nat → St → PT (DEx × St) := fun _ _ => .fail
theorem qDF : qd (qa Tryz.f63) 0 = [] := by kernel_rfl
theorem qDG : Tryz.f63.body = some (qa Tryz.f63) := by kernel_rfl
abbrev qsg : List Ar := [.d T3, .d T3, .d T3]
abbrev qsh : List Ty := [T4]
noncomputable def qxR (n : Nat) (x : qp qsg) : Option (qi qsh) := (qk tab (qwB n) (qwC n) (qa Tryz.f63) 0 (qu qsg 15 x)).run (qU tab [.tmp 6] qsh)
noncomputable def qiH (n : Nat) : Ct Tryz.prog := ⟨63, qsg, .ts qsh, qxR n, fun _ _ h => q6 (B := tab) (cs := qwB n) (lo := qwC n) (rs := [.tmp 6]) Tryz.func63 (by kernel_rfl) qDG (by kernel_rfl) (by decide) (qh qDF qe) h⟩
noncomputable def qtW (n : Nat) : CL Tryz.prog := ⟨[qiH n], [], 0⟩
noncomputable def qtX (n : Nat) : Nat → St → PT (DEx × St) := fun _ _ => .fail
theorem qCd : qd (qa Tryz.f84) 0 = [] := by kernel_rfl
theorem qCe : Tryz.f84.body = some (qa Tryz.f84) := by kernel_rfl
abbrev qpZ : List Ar := [.d T66, .d T3]
abbrev qp0 : List Ty := [T4]
noncomputable def qu8 (n : Nat) (x : qp qpZ) : Option (qi qp0) := (qk tab (qtW n) (qtX n) (qa Tryz.f84) 0 (qu qpZ 12 x)).run (qU tab [.tmp 4] qp0)
noncomputable def qu9 (n : Nat) : Ct Tryz.prog := ⟨84, qpZ, .ts qp0, qu8 n, fun _ _ h => q6 (B := tab) (cs := qtW n) (lo := qtX n) (rs := [.tmp 4]) Tryz.func84 (by kernel_rfl) qCe (by kernel_rfl) (by decide) (qh qCd qe) h⟩
noncomputable def qrN (n : Nat) : CL Tryz.prog := ⟨[qiH n], [], 0⟩
noncomputable def qrO (n : Nat) : Nat → St → PT (DEx × St) := fun _ _ => .fail
theorem qAo : qd (qa Tryz.f85) 0 = [] := by kernel_rfl
theorem qAp : Tryz.f85.body = some (qa Tryz.f85) := by kernel_rfl
abbrev qn7 : List Ar := [.d T66, .d T3]
abbrev qn8 : List Ty := [T4]
noncomputable def qs0 (n : Nat) (x : qp qn7) : Option (qi qn8) := (qk tab (qrN n) (qrO n) (qa Tryz.f85) 0 (qu qn7 11 x)).run (qU tab [.tmp 4] qn8)
noncomputable def qs1 (n : Nat) : Ct Tryz.prog := ⟨85, qn7, .ts qn8, qs0 n, fun _ _ h => q6 (B := tab) (cs := qrN n) (lo := qrO n) (rs := [.tmp 4]) Tryz.func85 (by kernel_rfl) qAp (by kernel_rfl) (by decide) (qh qAo qe) h⟩
noncomputable def qjm (n : Nat) : CL Tryz.prog := ⟨[qiH n, qu9 n, qs1 n], [], 0⟩
noncomputable def qq6 (n : Nat) : Nat → St → PT (DEx × St) := fun _ _ => .fail
abbrev qgO : List It := [.v (.t 5) T3, .v (.t 8) T57, .v (.t 9) T3, .v (.t 10) T3, .obj (.t 2) false 66 2, .v (.c 0 0) T66]
abbrev qjn : List (DEx × List It) := [(.exit 0, []), (.ret, [.v (.t 4) T4])]
noncomputable def qrP (n : Nat) (rec : qc qgO → Option (qg qjn)) (s : qc qgO) : Option (qg qjn) := (qk tab (qjm n) (qq6 n) (subC [true, true, false, true, false, false] (qa Tryz.f103)) 1 (mkS qgO 43 s)).run (Lp.leaf 43 qgO qjn rec)
noncomputable def qm8 (n : Nat) : Lp := ⟨43, qgO, qjn, qf n (qrP n)⟩
theorem qzI : qd (subC [true, true, false, true, false, false] (qa Tryz.f103)) 1 = [] := by kernel_rfl
theorem qw4 (n : Nat) (st : St) (r : DEx × St) (h : ((qm8 n).go st).Is r) : DA Tryz.prog false (.loop (subC [true, true, false, true, false, false] (qa Tryz.f103))) st r := Lp.ok (L := qm8 n) (B := tab) (cs := qjm n) (lo := qq6 n) (id := 0) rfl (qh qzI qe) (fun _ _ => rfl) h
noncomputable def qrQ (n : Nat) : Nat → St → PT (DEx × St) := fun k st => match k with
  | 0 => (qm8 n).go st
  | _ => .fail
theorem qAq : qd (qa Tryz.f103) 0 = [(0, .loop (subC [true, true, false, true, false, false] (qa Tryz.f103)))] := by kernel_rfl
theorem qAr : Tryz.f103.body = some (qa Tryz.f103) := by kernel_rfl
abbrev qn9 : List Ar := [.d T66, .d T57]
abbrev qoa : List Ty := [T4]
noncomputable def qs2 (n : Nat) (x : qp qn9) : Option (qi qoa) := (qk tab (qjm n) (qrQ n) (qa Tryz.f103) 0 (qu qn9 43 x)).run (qU tab [.tmp 4] qoa)
noncomputable def qAs (n : Nat) : Ct Tryz.prog := ⟨103, qn9, .ts qoa, qs2 n, fun _ _ h => q6 (B := tab) (cs := qjm n) (lo := qrQ n) (rs := [.tmp 4]) Tryz.func103 (by kernel_rfl) qAr (by kernel_rfl) (by decide) (qh qAq (all_cons (fun st r h => qw4 n st r h) qe)) h⟩
noncomputable def qqv (n : Nat) : CL Tryz.prog := ⟨[qiH n, qAs n], [], 0⟩
noncomputable def qqw (n : Nat) : Nat → St → PT (DEx × St) := fun _ _ => .fail
theorem qyZ : qd (qa Tryz.f78) 0 = [] := by kernel_rfl
theorem qy0 : Tryz.f78.body = some (qa Tryz.f78) := by kernel_rfl
abbrev qms : List Ar := [.d T66, .d T59]
abbrev qmt : List Ty := [T4]
noncomputable def qq7 (n : Nat) (x : qp qms) : Option (qi qmt) := (qk tab (qqv n) (qqw n) (qa Tryz.f78) 0 (qu qms 49 x)).run (qU tab [.tmp 4] qmt)
noncomputable def qy1 (n : Nat) : Ct Tryz.prog := ⟨78, qms, .ts qmt, qq7 n, fun _ _ h => q6 (B := tab) (cs := qqv n) (lo := qqw n) (rs := [.tmp 4]) Tryz.func78 (by kernel_rfl) qy0 (by kernel_rfl) (by decide) (qh qyZ qe) h⟩
noncomputable def qpT (n : Nat) : CL Tryz.prog := ⟨[], [], 0⟩
noncomputable def qxS (n : Nat) : Nat → St → PT (DEx × St) := fun _ _ => .fail
abbrev qmQ : List It := [.v (.t 3) T3, .v (.t 6) T34, .v (.t 7) T3, .v (.t 8) T3]
abbrev qpU : List (DEx × List It) := [(.exit 0, [.v (.t 3) T3]), (.ret, [.v (.t 2) T3])]
noncomputable def qzu (n : Nat) (rec : qc qmQ → Option (qg qpU)) (s : qc qmQ) : Option (qg qpU) := (qk tab (qpT n) (qxS n) (subC [true, true, false, true, false, false] (qa Tryz.f70)) 1 (mkS qmQ 18 s)).run (Lp.leaf 18 qmQ qpU rec)
noncomputable def qtC (n : Nat) : Lp := ⟨18, qmQ, qpU, qf n (qzu n)⟩
theorem qEQ : qd (subC [true, true, false, true, false, false] (qa Tryz.f70)) 1 = [] := by kernel_rfl
theorem qCf (n : Nat) (st : St) (r : DEx × St) (h : ((qtC n).go st).Is r) : DA Tryz.prog false (.loop (subC [true, true, false, true, false, false] (qa Tryz.f70))) st r := Lp.ok (L := qtC n) (B := tab) (cs := qpT n) (lo := qxS n) (id := 0) rfl (qh qEQ qe) (fun _ _ => rfl) h
noncomputable def qzv (n : Nat) : Nat → St → PT (DEx × St) := fun k st => match k with
  | 0 => (qtC n).go st
  | _ => .fail
theorem qFP : qd (qa Tryz.f70) 0 = [(0, .loop (subC [true, true, false, true, false, false] (qa Tryz.f70)))] := by kernel_rfl
theorem qFQ : Tryz.f70.body = some (qa Tryz.f70) := by kernel_rfl
abbrev qva : List Ar := [.d T34]
abbrev qvb : List Ty := [T3]
noncomputable def qAt (n : Nat) (x : qp qva) : Option (qi qvb) := (qk tab (qpT n) (qzv n) (qa Tryz.f70) 0 (qu qva 18 x)).run (qU tab [.tmp 2] qvb)
noncomputable def qvc (n : Nat) : Ct Tryz.prog := ⟨70, qva, .ts qvb, qAt n, fun _ _ h => q6 (B := tab) (cs := qpT n) (lo := qzv n) (rs := [.tmp 2]) Tryz.func70 (by kernel_rfl) qFQ (by kernel_rfl) (by decide) (qh qFP (all_cons (fun st r h => qCf n st r h) qe)) h⟩
noncomputable def qpV (n : Nat) : CL Tryz.prog := ⟨[], [], 0⟩
noncomputable def qxT (n : Nat) : Nat → St → PT (DEx × St) := fun _ _ => .fail
abbrev qmR : List It := [.v (.t 0) T25, .v (.t 5) T25, .v (.t 6) T3, .v (.t 7) T3]
abbrev qpW : List (DEx × List It) := [(.exit 0, []), (.ret, [.v (.t 2) T4])]
noncomputable def qzw (n : Nat) (rec : qc qmR → Option (qg qpW)) (s : qc qmR) : Option (qg qpW) := (qk tab (qpV n) (qxT n) (subC [true, false, true, false, false] (qa Tryz.f79)) 1 (mkS qmR 37 s)).run (Lp.leaf 37 qmR qpW rec)
noncomputable def qtD (n : Nat) : Lp := ⟨37, qmR, qpW, qf n (qzw n)⟩
theorem qER : qd (subC [true, false, true, false, false] (qa Tryz.f79)) 1 = [] := by kernel_rfl
theorem qCg (n : Nat) (st : St) (r : DEx × St) (h : ((qtD n).go st).Is r) : DA Tryz.prog false (.loop (subC [true, false, true, false, false] (qa Tryz.f79))) st r := Lp.ok (L := qtD n) (B := tab) (cs := qpV n) (lo := qxT n) (id := 0) rfl (qh qER qe) (fun _ _ => rfl) h
noncomputable def qzx (n : Nat) : Nat → St → PT (DEx × St) := fun k st => match k with
  | 0 => (qtD n).go st
  | _ => .fail
theorem qFR : qd (qa Tryz.f79) 0 = [(0, .loop (subC [true, false, true, false, false] (qa Tryz.f79)))] := by kernel_rfl
theorem qFS : Tryz.f79.body = some (qa Tryz.f79) := by kernel_rfl
abbrev qvd : List Ar := [.d T25]
abbrev qve : List Ty := [T4]
noncomputable def qAu (n : Nat) (x : qp qvd) : Option (qi qve) := (qk tab (qpV n) (qzx n) (qa Tryz.f79) 0 (qu qvd 37 x)).run (qU tab [.tmp 2] qve)
noncomputable def qFT (n : Nat) : Ct Tryz.prog := ⟨79, qvd, .ts qve, qAu n, fun _ _ h => q6 (B := tab) (cs := qpV n) (lo := qzx n) (rs := [.tmp 2]) Tryz.func79 (by kernel_rfl) qFS (by kernel_rfl) (by decide) (qh qFR (all_cons (fun st r h => qCg n st r h) qe)) h⟩
noncomputable def qmS (n : Nat) : CL Tryz.prog := ⟨[qin n, qfM n], [], 0⟩
noncomputable def qmT (n : Nat) : Nat → St → PT (DEx × St) := fun _ _ => .fail
theorem qun : qd (qa Tryz.f32) 0 = [] := by kernel_rfl
theorem qup : Tryz.f32.body = some (qa Tryz.f32) := by kernel_rfl
abbrev qio : List Ar := [.d T24, .d T25, .d T3, .d T3]
abbrev qip : List Ty := [T32]
noncomputable def qnz (n : Nat) (x : qp qio) : Option (qi qip) := (qk tab (qmS n) (qmT n) (qa Tryz.f32) 0 (qu qio 31 x)).run (qU tab [.tmp 8] qip)
noncomputable def quq (n : Nat) : Ct Tryz.prog := ⟨32, qio, .ts qip, qnz n, fun _ _ h => q6 (B := tab) (cs := qmS n) (lo := qmT n) (rs := [.tmp 8]) Tryz.func32 (by kernel_rfl) qup (by kernel_rfl) (by decide) (qh qun qe) h⟩
noncomputable def qiq (n : Nat) : CL Tryz.prog := ⟨[], [], 0⟩
noncomputable def qqx (n : Nat) : Nat → St → PT (DEx × St) := fun _ _ => .fail
abbrev qgk : List It := [.v (.t 0) T25, .v (.t 4) T3, .row (.t 3) false T59 59]
abbrev qir : List (DEx × List It) := [(.exit 0, [.row (.t 3) false T59 59])]
noncomputable def qy2 (n : Nat) (rec : qc qgk → Option (qg qir)) (s : qc qgk) : Option (qg qir) := (qk tab (qiq n) (qqx n) (subC [true, true, false, true, false, false] (qa Tryz.f10)) 1 (mkS qgk 26 s)).run (Lp.leaf 26 qgk qir rec)
noncomputable def qmu (n : Nat) : Lp := ⟨26, qgk, qir, qf n (qy2 n)⟩
theorem qy3 : qd (subC [true, true, false, true, false, false] (qa Tryz.f10)) 1 = [] := by kernel_rfl
theorem qv0 (n : Nat) (st : St) (r : DEx × St) (h : ((qmu n).go st).Is r) : DA Tryz.prog false (.loop (subC [true, true, false, true, false, false] (qa Tryz.f10))) st r := Lp.ok (L := qmu n) (B := tab) (cs := qiq n) (lo := qqx n) (id := 0) rfl (qh qy3 qe) (fun _ _ => rfl) h
noncomputable def qq8 (n : Nat) : Nat → St → PT (DEx × St) := fun k st => match k with
  | 0 => (qmu n).go st
  | _ => .fail
theorem qzJ : qd (qa Tryz.f10) 0 = [(0, .loop (subC [true, true, false, true, false, false] (qa Tryz.f10)))] := by kernel_rfl
theorem qzK : Tryz.f10.body = some (qa Tryz.f10) := by kernel_rfl
abbrev qm9 : List Ar := [.d T25]
abbrev qna : List Ty := [T25]
noncomputable def qzL (n : Nat) (x : qp qm9) : Option (qi qna) := (qk tab (qiq n) (qq8 n) (qa Tryz.f10) 0 (qu qm9 26 x)).run (qU tab [.tmp 2] qna)
noncomputable def qzM (n : Nat) : Ct Tryz.prog := ⟨10, qm9, .ts qna, qzL n, fun _ _ h => q6 (B := tab) (cs := qiq n) (lo := qq8 n) (rs := [.tmp 2]) Tryz.func10 (by kernel_rfl) qzK (by kernel_rfl) (by decide) (qh qzJ (all_cons (fun st r h => qv0 n st r h) qe)) h⟩
noncomputable def qnA (n : Nat) : CL Tryz.prog := ⟨[], [], 0⟩
noncomputable def qnB (n : Nat) : Nat → St → PT (DEx × St) := fun _ _ => .fail
theorem qvf : qd (qa Tryz.f9) 0 = [] := by kernel_rfl
theorem qvg : Tryz.f9.body = some (qa Tryz.f9) := by kernel_rfl
abbrev qiU : List Ar := [.d T24]
abbrev qiV : List Ty := [T24]
noncomputable def qob (n : Nat) (x : qp qiU) : Option (qi qiV) := (qk tab (qnA n) (qnB n) (qa Tryz.f9) 0 (qu qiU 10 x)).run (qU tab [.cell 2 24] qiV)
noncomputable def qvh (n : Nat) : Ct Tryz.prog := ⟨9, qiU, .ts qiV, qob n, fun _ _ h => q6 (B := tab) (cs := qnA n) (lo := qnB n) (rs := [.cell 2 24]) Tryz.func9 (by kernel_rfl) qvg (by kernel_rfl) (by decide) (qh qvf qe) h⟩
noncomputable def qgl (n : Nat) : CL Tryz.prog := ⟨[], [], 0⟩
noncomputable def qnC (n : Nat) : Nat → St → PT (DEx × St) := fun _ _ => .fail
abbrev qeD : List It := [.v (.t 0) T34, .v (.t 1) T34, .v (.t 5) T3]
abbrev qgm : List (DEx × List It) := [(.exit 0, []), (.ret, [.v (.t 4) T4])]
noncomputable def qoc (n : Nat) (rec : qc qeD → Option (qg qgm)) (s : qc qeD) : Option (qg qgm) := (qk tab (qgl n) (qnC n) (subC [true, true, false, true, false, false] (qa Tryz.f15)) 1 (mkS qeD 26 s)).run (Lp.leaf 26 qeD qgm rec)
noncomputable def qiW (n : Nat) : Lp := ⟨26, qeD, qgm, qf n (qoc n)⟩
theorem qvi : qd (subC [true, true, false, true, false, false] (qa Tryz.f15)) 1 = [] := by kernel_rfl
theorem qs3 (n : Nat) (st : St) (r : DEx × St) (h : ((qiW n).go st).Is r) : DA Tryz.prog false (.loop (subC [true, true, false, true, false, false] (qa Tryz.f15))) st r := Lp.ok (L := qiW n) (B := tab) (cs := qgl n) (lo := qnC n) (id := 0) rfl (qh qvi qe) (fun _ _ => rfl) h
noncomputable def qod (n : Nat) : Nat → St → PT (DEx × St) := fun k st => match k with
  | 0 => (qiW n).go st
  | _ => .fail
theorem qv1 : qd (qa Tryz.f15) 0 = [(0, .loop (subC [true, true, false, true, false, false] (qa Tryz.f15)))] := by kernel_rfl
theorem qv2 : Tryz.f15.body = some (qa Tryz.f15) := by kernel_rfl
abbrev qjH : List Ar := [.d T34, .d T34]
abbrev qjI : List Ty := [T4]
noncomputable def qoU (n : Nat) (x : qp qjH) : Option (qi qjI) := (qk tab (qgl n) (qod n) (qa Tryz.f15) 0 (qu qjH 26 x)).run (qU tab [.tmp 4] qjI)
noncomputable def qoV (n : Nat) : Ct Tryz.prog := ⟨15, qjH, .ts qjI, qoU n, fun _ _ h => q6 (B := tab) (cs := qgl n) (lo := qod n) (rs := [.tmp 4]) Tryz.func15 (by kernel_rfl) qv2 (by kernel_rfl) (by decide) (qh qv1 (all_cons (fun st r h => qs3 n st r h) qe)) h⟩
noncomputable def qeV (n : Nat) : CL Tryz.prog := ⟨[qqY n], [], 0⟩
noncomputable def qkU (n : Nat) : Nat → St → PT (DEx × St) := fun _ _ => .fail
abbrev qdk : List It := [.v (.t 0) T25, .v (.t 1) T25, .v (.t 5) T3]
abbrev qeW : List (DEx × List It) := [(.exit 0, []), (.ret, [.v (.t 4) T4])]
noncomputable def qls (n : Nat) (rec : qc qdk → Option (qg qeW)) (s : qc qdk) : Option (qg qeW) := (qk tab (qeV n) (qkU n) (subC [true, true, false, true, false, false] (qa Tryz.f20)) 1 (mkS qdk 27 s)).run (Lp.leaf 27 qdk qeW rec)
noncomputable def qgZ (n : Nat) : Lp := ⟨27, qdk, qeW, qf n (qls n)⟩
theorem qsi : qd (subC [true, true, false, true, false, false] (qa Tryz.f20)) 1 = [] := by kernel_rfl
theorem qqL (n : Nat) (st : St) (r : DEx × St) (h : ((qgZ n).go st).Is r) : DA Tryz.prog false (.loop (subC [true, true, false, true, false, false] (qa Tryz.f20))) st r := Lp.ok (L := qgZ n) (B := tab) (cs := qeV n) (lo := qkU n) (id := 0) rfl (qh qsi qe) (fun _ _ => rfl) h
noncomputable def qlu (n : Nat) : Nat → St → PT (DEx × St) := fun k st => match k with
  | 0 => (qgZ n).go st
  | _ => .fail
theorem qs4 : qd (qa Tryz.f20) 0 = [(0, .loop (subC [true, true, false, true, false, false] (qa Tryz.f20)))] := by kernel_rfl
theorem qs5 : Tryz.f20.body = some (qa Tryz.f20) := by kernel_rfl
abbrev qhp : List Ar := [.d T25, .d T25]
abbrev qhq : List Ty := [T4]
noncomputable def ql0 (n : Nat) (x : qp qhp) : Option (qi qhq) := (qk tab (qeV n) (qlu n) (qa Tryz.f20) 0 (qu qhp 27 x)).run (qU tab [.tmp 4] qhq)
noncomputable def qs6 (n : Nat) : Ct Tryz.prog := ⟨20, qhp, .ts qhq, ql0 n, fun _ _ h => q6 (B := tab) (cs := qeV n) (lo := qlu n) (rs := [.tmp 4]) Tryz.func20 (by kernel_rfl) qs5 (by kernel_rfl) (by decide) (qh qs4 (all_cons (fun st r h => qqL n st r h) qe)) h⟩
noncomputable def qjo (n : Nat) : CL Tryz.prog := ⟨[], [], 0⟩
noncomputable def qq9 (n : Nat) : Nat → St → PT (DEx × St) := fun _ _ => .fail
abbrev qgP : List It := [.v (.t 1) T25, .v (.t 5) T3, .obj (.t 2) false 24 2, .v (.c 0 0) T24]
abbrev qjp : List (DEx × List It) := [(.exit 0, [.v (.t 1) T25, .obj (.t 2) false 24 2, .v (.c 0 0) T24]), (.ret, [.v (.t 4) T4])]
noncomputable def qrR (n : Nat) (rec : qc qgP → Option (qg qjp)) (s : qc qgP) : Option (qg qjp) := (qk tab (qjo n) (qq9 n) (subC [true, false, true, false, false] (qa Tryz.f7)) 1 (mkS qgP 38 s)).run (Lp.leaf 38 qgP qjp rec)
noncomputable def qnb (n : Nat) : Lp := ⟨38, qgP, qjp, qf n (qrR n)⟩
theorem qzN : qd (subC [true, false, true, false, false] (qa Tryz.f7)) 1 = [] := by kernel_rfl
theorem qw5 (n : Nat) (st : St) (r : DEx × St) (h : ((qnb n).go st).Is r) : DA Tryz.prog false (.loop (subC [true, false, true, false, false] (qa Tryz.f7))) st r := Lp.ok (L := qnb n) (B := tab) (cs := qjo n) (lo := qq9 n) (id := 0) rfl (qh qzN qe) (fun _ _ => rfl) h
noncomputable def qrS (n : Nat) : Nat → St → PT (DEx × St) := fun k st => match k with
  | 0 => (qnb n).go st
  | _ => .fail
theorem qAv : qd (qa Tryz.f7) 0 = [(0, .loop (subC [true, false, true, false, false] (qa Tryz.f7)))] := by kernel_rfl
theorem qAw : Tryz.f7.body = some (qa Tryz.f7) := by kernel_rfl
abbrev qoe : List Ar := [.d T24, .d T25]
abbrev qof : List Ty := [T4]
noncomputable def qs7 (n : Nat) (x : qp qoe) : Option (qi qof) := (qk tab (qjo n) (qrS n) (qa Tryz.f7) 0 (qu qoe 38 x)).run (qU tab [.tmp 4] qof)
noncomputable def qAx (n : Nat) : Ct Tryz.prog := ⟨7, qoe, .ts qof, qs7 n, fun _ _ h => q6 (B := tab) (cs := qjo n) (lo := qrS n) (rs := [.tmp 4]) Tryz.func7 (by kernel_rfl) qAw (by kernel_rfl) (by decide) (qh qAv (all_cons (fun st r h => qw5 n st r h) qe)) h⟩
noncomputable def qoW (n : Nat) : CL Tryz.prog := ⟨[], [], 0⟩
noncomputable def qoX (n : Nat) : Nat → St → PT (DEx × St) := fun _ _ => .fail
theorem qw6 : qd (qa Tryz.f37) 0 = [] := by kernel_rfl
theorem qw7 : Tryz.f37.body = some (qa Tryz.f37) := by kernel_rfl
abbrev qkp : List Ar := []
abbrev qkq : List Ty := [T24, T25]
noncomputable def qpC (n : Nat) (x : qp qkp) : Option (qi qkq) := (qk tab (qoW n) (qoX n) (qa Tryz.f37) 0 (qu qkp 27 x)).run (qU tab [.cell 0 24, .tmp 1] qkq)
noncomputable def qw8 (n : Nat) : Ct Tryz.prog := ⟨37, qkp, .ts qkq, qpC n, fun _ _ h => q6 (B := tab) (cs := qoW n) (lo := qoX n) (rs := [.cell 0 24, .tmp 1]) Tryz.func37 (by kernel_rfl) qw7 (by kernel_rfl) (by decide) (qh qw6 qe) h⟩
end Go.Proofs.YtcjgodgpaokbnaaGreat
