/- Printed: what functions of the program compute. -/
import Derived.Test.YtcjgodgpaokbnaaDnT
namespace Go.Proofs.Ytcjgodgpaokbnaa
set_option linter.constructorNameAsVariable false
set_option linter.unusedSimpArgs false
set_option linter.unusedVariables false
set_option linter.unusedSectionVars false
open Go Go.Proofs Go.RowKit
set_option maxRecDepth 20000
noncomputable def qrm (n : Nat) : CL Try.prog := ⟨[], [], 0⟩
noncomputable def qrn (n : Nat) : Nat → St → PT (DEx × St) := fun _ _ => .fail
theorem qzI : qd (qa Try.f35) 0 = [] := by kernel_rfl
theorem qzJ : Try.f35.body = some (qa Try.f35) := by kernel_rfl
abbrev qmO : List Ar := [.d T3, .d T3, .d T3]
abbrev qmP : List Ty := [T4]
noncomputable def qsk (n : Nat) (x : qz qmO) : Option (qk qmP) := (qi tab (qrm n) (qrn n) (qa Try.f35) 0 (qB qmO 15 x)).run (qbz tab [.tmp 6] qmP)
noncomputable def qjd (n : Nat) : Ct Try.prog := ⟨35, qmO, .ts qmP, qsk n, fun _ _ h => qbF (B := tab) (cs := qrm n) (lo := qrn n) (rs := [.tmp 6]) Try.func35 (by kernel_rfl) qzJ (by kernel_rfl) (by decide) (qh qzI qe) h⟩
noncomputable def qib (n : Nat) : CL Try.prog := ⟨[qjd n], [], 0⟩
noncomputable def qpE (n : Nat) : Nat → St → PT (DEx × St) := fun _ _ => .fail
abbrev qf6 : List It := [.v (.t 3) T3, .obj (.t 1) false 24 2, .v (.c 0 0) T24]
abbrev qic : List (DEx × List It) := [(.exit 0, [.obj (.t 1) false 24 2, .v (.c 0 0) T24]), (.ret, [.v (.t 2) T4])]
noncomputable def qqG (n : Nat) (rec : qb qf6 → Option (qf qic)) (s : qb qf6) : Option (qf qic) := (qi tab (qib n) (qpE n) (subC [true, false, true, false, false] (qa Try.f46)) 1 (mkS qf6 38 s)).run (Lp.leaf 38 qf6 qic rec)
noncomputable def qk8 (n : Nat) : Lp := ⟨38, qf6, qic, qg n (qqG n)⟩
theorem qx4 : qd (subC [true, false, true, false, false] (qa Try.f46)) 1 = [] := by kernel_rfl
theorem qvX (n : Nat) (st : St) (r : DEx × St) (h : ((qk8 n).go st).Is r) : DA Try.prog false (.loop (subC [true, false, true, false, false] (qa Try.f46))) st r := Lp.ok (L := qk8 n) (B := tab) (cs := qib n) (lo := qpE n) (id := 0) rfl (qh qx4 qe) (fun _ _ => rfl) h
noncomputable def qqH (n : Nat) : Nat → St → PT (DEx × St) := fun k st => match k with
  | 0 => (qk8 n).go st
  | _ => .fail
theorem qy9 : qd (qa Try.f46) 0 = [(0, .loop (subC [true, false, true, false, false] (qa Try.f46)))] := by kernel_rfl
theorem qza : Try.f46.body = some (qa Try.f46) := by kernel_rfl
abbrev qlX : List Ar := [.d T24]
abbrev qlY : List Ty := [T4]
noncomputable def qro (n : Nat) (x : qz qlX) : Option (qk qlY) := (qi tab (qib n) (qqH n) (qa Try.f46) 0 (qB qlX 38 x)).run (qbz tab [.tmp 2] qlY)
noncomputable def qzb (n : Nat) : Ct Try.prog := ⟨46, qlX, .ts qlY, qro n, fun _ _ h => qbF (B := tab) (cs := qib n) (lo := qqH n) (rs := [.tmp 2]) Try.func46 (by kernel_rfl) qza (by kernel_rfl) (by decide) (qh qy9 (all_cons (fun st r h => qvX n st r h) qe)) h⟩
noncomputable def qhh (n : Nat) : CL Try.prog := ⟨[qjd n], [], 0⟩
noncomputable def qoB (n : Nat) : Nat → St → PT (DEx × St) := fun _ _ => .fail
abbrev qeU : List It := [.v (.t 5) T3, .v (.t 6) T3, .obj (.t 2) false 24 2, .v (.c 0 0) T24, .obj (.t 3) false 30 5, .v (.c 1 0) T30]
abbrev qhi : List (DEx × List It) := [(.exit 0, []), (.ret, [.v (.t 4) T4])]
noncomputable def qpb (n : Nat) (rec : qb qeU → Option (qf qhi)) (s : qb qeU) : Option (qf qhi) := (qi tab (qhh n) (qoB n) (subC [true, true, true, false, true, false, false] (qa Try.f68)) 1 (mkS qeU 77 s)).run (Lp.leaf 77 qeU qhi rec)
noncomputable def qjS (n : Nat) : Lp := ⟨77, qeU, qhi, qg n (qpb n)⟩
theorem qwH : qd (subC [true, true, true, false, true, false, false] (qa Try.f68)) 1 = [] := by kernel_rfl
theorem quA (n : Nat) (st : St) (r : DEx × St) (h : ((qjS n).go st).Is r) : DA Try.prog false (.loop (subC [true, true, true, false, true, false, false] (qa Try.f68))) st r := Lp.ok (L := qjS n) (B := tab) (cs := qhh n) (lo := qoB n) (id := 0) rfl (qh qwH qe) (fun _ _ => rfl) h
noncomputable def qpc (n : Nat) : Nat → St → PT (DEx × St) := fun k st => match k with
  | 0 => (qjS n).go st
  | _ => .fail
theorem qw6 : qd (qa Try.f68) 0 = [(0, .loop (subC [true, true, true, false, true, false, false] (qa Try.f68)))] := by kernel_rfl
theorem qw7 : Try.f68.body = some (qa Try.f68) := by kernel_rfl
abbrev qkh : List Ar := [.d T24, .d T30]
abbrev qki : List Ty := [T4]
noncomputable def qpF (n : Nat) (x : qz qkh) : Option (qk qki) := (qi tab (qhh n) (qpc n) (qa Try.f68) 0 (qB qkh 77 x)).run (qbz tab [.tmp 4] qki)
noncomputable def qw8 (n : Nat) : Ct Try.prog := ⟨68, qkh, .ts qki, qpF n, fun _ _ h => qbF (B := tab) (cs := qhh n) (lo := qpc n) (rs := [.tmp 4]) Try.func68 (by kernel_rfl) qw7 (by kernel_rfl) (by decide) (qh qw6 (all_cons (fun st r h => quA n st r h) qe)) h⟩
noncomputable def qgi (n : Nat) : CL Try.prog := ⟨[qjd n, qw8 n], [], 0⟩
noncomputable def qmQ (n : Nat) : Nat → St → PT (DEx × St) := fun _ _ => .fail
abbrev qeu : List It := [.v (.t 1) T25, .v (.t 5) T3, .obj (.t 2) false 24 2, .v (.c 0 0) T24]
abbrev qgj : List (DEx × List It) := [(.exit 0, [.v (.t 1) T25]), (.ret, [.v (.t 4) T4])]
noncomputable def qnN (n : Nat) (rec : qb qeu → Option (qf qgj)) (s : qb qeu) : Option (qf qgj) := (qi tab (qgi n) (qmQ n) (subC [true, false, true, false, false] (qa Try.f47)) 1 (mkS qeu 54 s)).run (Lp.leaf 54 qeu qgj rec)
noncomputable def qiX (n : Nat) : Lp := ⟨54, qeu, qgj, qg n (qnN n)⟩
theorem qvd : qd (subC [true, false, true, false, false] (qa Try.f47)) 1 = [] := by kernel_rfl
theorem qs8 (n : Nat) (st : St) (r : DEx × St) (h : ((qiX n).go st).Is r) : DA Try.prog false (.loop (subC [true, false, true, false, false] (qa Try.f47))) st r := Lp.ok (L := qiX n) (B := tab) (cs := qgi n) (lo := qmQ n) (id := 0) rfl (qh qvd qe) (fun _ _ => rfl) h
noncomputable def qnO (n : Nat) : Nat → St → PT (DEx × St) := fun k st => match k with
  | 0 => (qiX n).go st
  | _ => .fail
theorem qvY : qd (qa Try.f47) 0 = [(0, .loop (subC [true, false, true, false, false] (qa Try.f47)))] := by kernel_rfl
theorem qvZ : Try.f47.body = some (qa Try.f47) := by kernel_rfl
abbrev qju : List Ar := [.d T24, .d T25]
abbrev qjv : List Ty := [T4]
noncomputable def qoC (n : Nat) (x : qz qju) : Option (qk qjv) := (qi tab (qgi n) (qnO n) (qa Try.f47) 0 (qB qju 54 x)).run (qbz tab [.tmp 4] qjv)
noncomputable def qv0 (n : Nat) : Ct Try.prog := ⟨47, qju, .ts qjv, qoC n, fun _ _ h => qbF (B := tab) (cs := qgi n) (lo := qnO n) (rs := [.tmp 4]) Try.func47 (by kernel_rfl) qvZ (by kernel_rfl) (by decide) (qh qvY (all_cons (fun st r h => qs8 n st r h) qe)) h⟩
noncomputable def qje (n : Nat) : CL Try.prog := ⟨[], [], 0⟩
noncomputable def qrp (n : Nat) : Nat → St → PT (DEx × St) := fun _ _ => .fail
abbrev qg2 : List It := [.v (.t 5) T3, .obj (.t 2) false 30 5, .v (.c 0 0) T30, .obj (.t 3) false 30 5, .v (.c 1 0) T30]
abbrev qjf : List (DEx × List It) := [(.exit 0, []), (.ret, [.v (.t 4) T4])]
noncomputable def qsl (n : Nat) (rec : qb qg2 → Option (qf qjf)) (s : qb qg2) : Option (qf qjf) := (qi tab (qje n) (qrp n) (subC [true, true, false, true, false, false] (qa Try.f42)) 1 (mkS qg2 59 s)).run (Lp.leaf 59 qg2 qjf rec)
noncomputable def qmR (n : Nat) : Lp := ⟨59, qg2, qjf, qg n (qsl n)⟩
theorem qzK : qd (subC [true, true, false, true, false, false] (qa Try.f42)) 1 = [] := by kernel_rfl
theorem qw9 (n : Nat) (st : St) (r : DEx × St) (h : ((qmR n).go st).Is r) : DA Try.prog false (.loop (subC [true, true, false, true, false, false] (qa Try.f42))) st r := Lp.ok (L := qmR n) (B := tab) (cs := qje n) (lo := qrp n) (id := 0) rfl (qh qzK qe) (fun _ _ => rfl) h
noncomputable def qsm (n : Nat) : Nat → St → PT (DEx × St) := fun k st => match k with
  | 0 => (qmR n).go st
  | _ => .fail
theorem qAP : qd (qa Try.f42) 0 = [(0, .loop (subC [true, true, false, true, false, false] (qa Try.f42)))] := by kernel_rfl
theorem qAQ : Try.f42.body = some (qa Try.f42) := by kernel_rfl
abbrev qn4 : List Ar := [.d T30, .d T30]
abbrev qn5 : List Ty := [T4]
noncomputable def qs9 (n : Nat) (x : qz qn4) : Option (qk qn5) := (qi tab (qje n) (qsm n) (qa Try.f42) 0 (qB qn4 59 x)).run (qbz tab [.tmp 4] qn5)
noncomputable def qAR (n : Nat) : Ct Try.prog := ⟨42, qn4, .ts qn5, qs9 n, fun _ _ h => qbF (B := tab) (cs := qje n) (lo := qsm n) (rs := [.tmp 4]) Try.func42 (by kernel_rfl) qAQ (by kernel_rfl) (by decide) (qh qAP (all_cons (fun st r h => qw9 n st r h) qe)) h⟩
noncomputable def qe9 (n : Nat) : CL Try.prog := ⟨[qAR n], [], 0⟩
noncomputable def qrq (n : Nat) : Nat → St → PT (DEx × St) := fun _ _ => .fail
abbrev qg3 : List It := [.v (.t 0) T25, .v (.t 3) T3, .v (.t 4) T3]
abbrev qjg : List (DEx × List It) := [(.exit 2, [.v (.t 0) T25, .v (.t 3) T3]), (.ret, [.v (.t 2) T4])]
noncomputable def qsn (n : Nat) (rec : qb qg3 → Option (qf qjg)) (s : qb qg3) : Option (qf qjg) := (qi tab (qe9 n) (qrq n) (subC [true, false, true, false, false, true, false, false, true, false, false] (qa Try.f43)) 2 (mkS qg3 52 s)).run (Lp.leaf 52 qg3 qjg rec)
noncomputable def qmS (n : Nat) : Lp := ⟨52, qg3, qjg, qg n (qsn n)⟩
theorem qzL : qd (subC [true, false, true, false, false, true, false, false, true, false, false] (qa Try.f43)) 2 = [] := by kernel_rfl
theorem qxa (n : Nat) (st : St) (r : DEx × St) (h : ((qmS n).go st).Is r) : DA Try.prog false (.loop (subC [true, false, true, false, false, true, false, false, true, false, false] (qa Try.f43))) st r := Lp.ok (L := qmS n) (B := tab) (cs := qe9 n) (lo := qrq n) (id := 1) rfl (qh qzL qe) (fun _ _ => rfl) h
noncomputable def qrr (n : Nat) : Nat → St → PT (DEx × St) := fun k st => match k with
  | 1 => (qmS n).go st
  | _ => .fail
abbrev qg4 : List It := [.v (.t 0) T25, .v (.t 3) T3]
abbrev qjh : List (DEx × List It) := [(.exit 0, []), (.ret, [.v (.t 2) T4])]
noncomputable def qso (n : Nat) (rec : qb qg4 → Option (qf qjh)) (s : qb qg4) : Option (qf qjh) := (qi tab (qe9 n) (qrr n) (subC [true, false, true, false, false] (qa Try.f43)) 1 (mkS qg4 52 s)).run (Lp.leaf 52 qg4 qjh rec)
noncomputable def qmT (n : Nat) : Lp := ⟨52, qg4, qjh, qg n (qso n)⟩
theorem qzM : qd (subC [true, false, true, false, false] (qa Try.f43)) 1 = [(1, .loop (subC [true, false, true, false, false, true, false, false, true, false, false] (qa Try.f43)))] := by kernel_rfl
theorem qxb (n : Nat) (st : St) (r : DEx × St) (h : ((qmT n).go st).Is r) : DA Try.prog false (.loop (subC [true, false, true, false, false] (qa Try.f43))) st r := Lp.ok (L := qmT n) (B := tab) (cs := qe9 n) (lo := qrr n) (id := 0) rfl (qh qzM (all_cons (fun st r h => qxa n st r h) qe)) (fun _ _ => rfl) h
noncomputable def qsp (n : Nat) : Nat → St → PT (DEx × St) := fun k st => match k with
  | 0 => (qmT n).go st
  | _ => .fail
theorem qAS : qd (qa Try.f43) 0 = [(0, .loop (subC [true, false, true, false, false] (qa Try.f43)))] := by kernel_rfl
theorem qAT : Try.f43.body = some (qa Try.f43) := by kernel_rfl
abbrev qn6 : List Ar := [.d T25]
abbrev qn7 : List Ty := [T4]
noncomputable def qta (n : Nat) (x : qz qn6) : Option (qk qn7) := (qi tab (qe9 n) (qsp n) (qa Try.f43) 0 (qB qn6 52 x)).run (qbz tab [.tmp 2] qn7)
noncomputable def qAU (n : Nat) : Ct Try.prog := ⟨43, qn6, .ts qn7, qta n, fun _ _ h => qbF (B := tab) (cs := qe9 n) (lo := qsp n) (rs := [.tmp 2]) Try.func43 (by kernel_rfl) qAT (by kernel_rfl) (by decide) (qh qAS (all_cons (fun st r h => qxb n st r h) qe)) h⟩
noncomputable def qsq (n : Nat) : CL Try.prog := ⟨[qAU n, qzb n, qv0 n], [], 0⟩
noncomputable def qsr (n : Nat) : Nat → St → PT (DEx × St) := fun _ _ => .fail
theorem qAV : qd (qa Try.f29) 0 = [] := by kernel_rfl
theorem qAW : Try.f29.body = some (qa Try.f29) := by kernel_rfl
abbrev qn8 : List Ar := [.d T24, .d T25]
abbrev qn9 : List Ty := [T33]
noncomputable def qtb (n : Nat) (x : qz qn8) : Option (qk qn9) := (qi tab (qsq n) (qsr n) (qa Try.f29) 0 (qB qn8 14 x)).run (qbz tab [.tmp 4] qn9)
noncomputable def qAX (n : Nat) : Ct Try.prog := ⟨29, qn8, .ts qn9, qtb n, fun _ _ h => qbF (B := tab) (cs := qsq n) (lo := qsr n) (rs := [.tmp 4]) Try.func29 (by kernel_rfl) qAW (by kernel_rfl) (by decide) (qh qAV qe) h⟩
noncomputable def qb4 (n : Nat) : CL Try.prog := ⟨[], [], 0⟩
noncomputable def qpd (n : Nat) : Nat → St → PT (DEx × St) := fun _ _ => .fail
abbrev qft : List It := [.v (.t 0) T25, .v (.t 4) T3, .v (.t 5) T3, .v (.t 6) T3, .row (.t 3) false T30 30]
abbrev qhA : List (DEx × List It) := [(.exit 4, [.v (.t 0) T25, .v (.t 4) T3, .v (.t 5) T3, .row (.t 3) false T30 30])]
noncomputable def qpG (n : Nat) (rec : qb qft → Option (qf qhA)) (s : qb qft) : Option (qf qhA) := (qi tab (qb4 n) (qpd n) (subC [true, true, false, true, false, false, true, false, false, true, false, false, true, false, false, true, false, false] (qa Try.f34)) 3 (mkS qft 45 s)).run (Lp.leaf 45 qft qhA rec)
noncomputable def qkj (n : Nat) : Lp := ⟨45, qft, qhA, qg n (qpG n)⟩
theorem qxc : qd (subC [true, true, false, true, false, false, true, false, false, true, false, false, true, false, false, true, false, false] (qa Try.f34)) 3 = [] := by kernel_rfl
theorem qve (n : Nat) (st : St) (r : DEx × St) (h : ((qkj n).go st).Is r) : DA Try.prog false (.loop (subC [true, true, false, true, false, false, true, false, false, true, false, false, true, false, false, true, false, false] (qa Try.f34))) st r := Lp.ok (L := qkj n) (B := tab) (cs := qb4 n) (lo := qpd n) (id := 2) rfl (qh qxc qe) (fun _ _ => rfl) h
noncomputable def qpe (n : Nat) : Nat → St → PT (DEx × St) := fun k st => match k with
  | 2 => (qkj n).go st
  | _ => .fail
abbrev qfu : List It := [.v (.t 0) T25, .v (.t 4) T3, .v (.t 5) T3, .row (.t 3) false T30 30]
abbrev qhB : List (DEx × List It) := [(.exit 2, [.v (.t 0) T25, .v (.t 4) T3, .row (.t 3) false T30 30])]
noncomputable def qpH (n : Nat) (rec : qb qfu → Option (qf qhB)) (s : qb qfu) : Option (qf qhB) := (qi tab (qb4 n) (qpe n) (subC [true, true, false, true, false, false, true, false, false, true, false, false] (qa Try.f34)) 2 (mkS qfu 45 s)).run (Lp.leaf 45 qfu qhB rec)
noncomputable def qkk (n : Nat) : Lp := ⟨45, qfu, qhB, qg n (qpH n)⟩
theorem qxd : qd (subC [true, true, false, true, false, false, true, false, false, true, false, false] (qa Try.f34)) 2 = [(2, .loop (subC [true, true, false, true, false, false, true, false, false, true, false, false, true, false, false, true, false, false] (qa Try.f34)))] := by kernel_rfl
theorem qvf (n : Nat) (st : St) (r : DEx × St) (h : ((qkk n).go st).Is r) : DA Try.prog false (.loop (subC [true, true, false, true, false, false, true, false, false, true, false, false] (qa Try.f34))) st r := Lp.ok (L := qkk n) (B := tab) (cs := qb4 n) (lo := qpe n) (id := 1) rfl (qh qxd (all_cons (fun st r h => qve n st r h) qe)) (fun _ _ => rfl) h
noncomputable def qpf (n : Nat) : Nat → St → PT (DEx × St) := fun k st => match k with
  | 1 => (qkk n).go st
  | _ => .fail
abbrev qfv : List It := [.v (.t 0) T25, .v (.t 4) T3, .row (.t 3) false T30 30]
abbrev qhC : List (DEx × List It) := [(.exit 0, [.row (.t 3) false T30 30])]
noncomputable def qpI (n : Nat) (rec : qb qfv → Option (qf qhC)) (s : qb qfv) : Option (qf qhC) := (qi tab (qb4 n) (qpf n) (subC [true, true, false, true, false, false] (qa Try.f34)) 1 (mkS qfv 45 s)).run (Lp.leaf 45 qfv qhC rec)
noncomputable def qkl (n : Nat) : Lp := ⟨45, qfv, qhC, qg n (qpI n)⟩
theorem qxe : qd (subC [true, true, false, true, false, false] (qa Try.f34)) 1 = [(1, .loop (subC [true, true, false, true, false, false, true, false, false, true, false, false] (qa Try.f34)))] := by kernel_rfl
theorem qvg (n : Nat) (st : St) (r : DEx × St) (h : ((qkl n).go st).Is r) : DA Try.prog false (.loop (subC [true, true, false, true, false, false] (qa Try.f34))) st r := Lp.ok (L := qkl n) (B := tab) (cs := qb4 n) (lo := qpf n) (id := 0) rfl (qh qxe (all_cons (fun st r h => qvf n st r h) qe)) (fun _ _ => rfl) h
noncomputable def qpJ (n : Nat) : Nat → St → PT (DEx × St) := fun k st => match k with
  | 0 => (qkl n).go st
  | _ => .fail
theorem qx5 : qd (qa Try.f34) 0 = [(0, .loop (subC [true, true, false, true, false, false] (qa Try.f34)))] := by kernel_rfl
theorem qx6 : Try.f34.body = some (qa Try.f34) := by kernel_rfl
abbrev qk9 : List Ar := [.d T25]
abbrev qla : List Ty := [T25]
noncomputable def qqI (n : Nat) (x : qz qk9) : Option (qk qla) := (qi tab (qb4 n) (qpJ n) (qa Try.f34) 0 (qB qk9 45 x)).run (qbz tab [.tmp 2] qla)
noncomputable def qx7 (n : Nat) : Ct Try.prog := ⟨34, qk9, .ts qla, qqI n, fun _ _ h => qbF (B := tab) (cs := qb4 n) (lo := qpJ n) (rs := [.tmp 2]) Try.func34 (by kernel_rfl) qx6 (by kernel_rfl) (by decide) (qh qx5 (all_cons (fun st r h => qvg n st r h) qe)) h⟩
noncomputable def qfa (n : Nat) : CL Try.prog := ⟨[qx7 n], [], 0⟩
noncomputable def qrs (n : Nat) : Nat → St → PT (DEx × St) := fun _ _ => .fail
abbrev qg5 : List It := [.v (.t 3) T25, .v (.t 5) T3, .v (.t 7) T3, .obj (.t 6) false 30 5, .v (.c 0 0) T30, .row (.t 4) false T30 30]
abbrev qji : List (DEx × List It) := [(.exit 2, [.v (.t 3) T25, .v (.t 5) T3, .v (.t 7) T3, .obj (.t 6) false 30 5, .v (.c 0 0) T30, .row (.t 4) false T30 30])]
noncomputable def qss (n : Nat) (rec : qb qg5 → Option (qf qji)) (s : qb qg5) : Option (qf qji) := (qi tab (qfa n) (qrs n) (subC [true, true, true, false, true, false, false, true, false, false, true, true, true, false, false, false] (qa Try.f16)) 2 (mkS qg5 88 s)).run (Lp.leaf 88 qg5 qji rec)
noncomputable def qmU (n : Nat) : Lp := ⟨88, qg5, qji, qg n (qss n)⟩
theorem qzN : qd (subC [true, true, true, false, true, false, false, true, false, false, true, true, true, false, false, false] (qa Try.f16)) 2 = [] := by kernel_rfl
theorem qxf (n : Nat) (st : St) (r : DEx × St) (h : ((qmU n).go st).Is r) : DA Try.prog false (.loop (subC [true, true, true, false, true, false, false, true, false, false, true, true, true, false, false, false] (qa Try.f16))) st r := Lp.ok (L := qmU n) (B := tab) (cs := qfa n) (lo := qrs n) (id := 1) rfl (qh qzN qe) (fun _ _ => rfl) h
noncomputable def qrt (n : Nat) : Nat → St → PT (DEx × St) := fun k st => match k with
  | 1 => (qmU n).go st
  | _ => .fail
abbrev qg6 : List It := [.v (.t 3) T25, .v (.t 5) T3, .row (.t 4) false T30 30]
abbrev qjj : List (DEx × List It) := [(.exit 0, [.row (.t 4) false T30 30])]
noncomputable def qst (n : Nat) (rec : qb qg6 → Option (qf qjj)) (s : qb qg6) : Option (qf qjj) := (qi tab (qfa n) (qrt n) (subC [true, true, true, false, true, false, false] (qa Try.f16)) 1 (mkS qg6 88 s)).run (Lp.leaf 88 qg6 qjj rec)
noncomputable def qmV (n : Nat) : Lp := ⟨88, qg6, qjj, qg n (qst n)⟩
theorem qzO : qd (subC [true, true, true, false, true, false, false] (qa Try.f16)) 1 = [(1, .loop (subC [true, true, true, false, true, false, false, true, false, false, true, true, true, false, false, false] (qa Try.f16)))] := by kernel_rfl
theorem qxg (n : Nat) (st : St) (r : DEx × St) (h : ((qmV n).go st).Is r) : DA Try.prog false (.loop (subC [true, true, true, false, true, false, false] (qa Try.f16))) st r := Lp.ok (L := qmV n) (B := tab) (cs := qfa n) (lo := qrt n) (id := 0) rfl (qh qzO (all_cons (fun st r h => qxf n st r h) qe)) (fun _ _ => rfl) h
noncomputable def qsu (n : Nat) : Nat → St → PT (DEx × St) := fun k st => match k with
  | 0 => (qmV n).go st
  | _ => .fail
theorem qAY : qd (qa Try.f16) 0 = [(0, .loop (subC [true, true, true, false, true, false, false] (qa Try.f16)))] := by kernel_rfl
theorem qAZ : Try.f16.body = some (qa Try.f16) := by kernel_rfl
abbrev qoa : List Ar := [.d T25]
abbrev qob : List Ty := [T25]
noncomputable def qtc (n : Nat) (x : qz qoa) : Option (qk qob) := (qi tab (qfa n) (qsu n) (qa Try.f16) 0 (qB qoa 88 x)).run (qbz tab [.tmp 2] qob)
noncomputable def qA0 (n : Nat) : Ct Try.prog := ⟨16, qoa, .ts qob, qtc n, fun _ _ h => qbF (B := tab) (cs := qfa n) (lo := qsu n) (rs := [.tmp 2]) Try.func16 (by kernel_rfl) qAZ (by kernel_rfl) (by decide) (qh qAY (all_cons (fun st r h => qxg n st r h) qe)) h⟩
noncomputable def qeR (n : Nat) : CL Try.prog := ⟨[qjd n], [], 0⟩
noncomputable def qqJ (n : Nat) : Nat → St → PT (DEx × St) := fun _ _ => .fail
abbrev qgv : List It := [.v (.t 0) T25, .v (.t 1) T3, .v (.t 2) T3, .v (.t 7) T3, .v (.t 8) T3, .v (.t 9) T3]
abbrev qiE : List (DEx × List It) := [(.exit 2, [.v (.t 0) T25, .v (.t 1) T3, .v (.t 2) T3, .v (.t 7) T3, .v (.t 8) T3])]
noncomputable def qru (n : Nat) (rec : qb qgv → Option (qf qiE)) (s : qb qgv) : Option (qf qiE) := (qi tab (qeR n) (qqJ n) (subC [true, true, false, true, false, false, true, false, false, true, false, false] (qa Try.f17)) 2 (mkS qgv 57 s)).run (Lp.leaf 57 qgv qiE rec)
noncomputable def qlZ (n : Nat) : Lp := ⟨57, qgv, qiE, qg n (qru n)⟩
theorem qzc : qd (subC [true, true, false, true, false, false, true, false, false, true, false, false] (qa Try.f17)) 2 = [] := by kernel_rfl
theorem qwI (n : Nat) (st : St) (r : DEx × St) (h : ((qlZ n).go st).Is r) : DA Try.prog false (.loop (subC [true, true, false, true, false, false, true, false, false, true, false, false] (qa Try.f17))) st r := Lp.ok (L := qlZ n) (B := tab) (cs := qeR n) (lo := qqJ n) (id := 1) rfl (qh qzc qe) (fun _ _ => rfl) h
noncomputable def qqK (n : Nat) : Nat → St → PT (DEx × St) := fun k st => match k with
  | 1 => (qlZ n).go st
  | _ => .fail
abbrev qgw : List It := [.v (.t 0) T25, .v (.t 1) T3, .v (.t 2) T3, .v (.t 7) T3, .v (.t 8) T3]
abbrev qiF : List (DEx × List It) := [(.exit 0, [.v (.t 7) T3])]
noncomputable def qrv (n : Nat) (rec : qb qgw → Option (qf qiF)) (s : qb qgw) : Option (qf qiF) := (qi tab (qeR n) (qqK n) (subC [true, true, false, true, false, false] (qa Try.f17)) 1 (mkS qgw 57 s)).run (Lp.leaf 57 qgw qiF rec)
noncomputable def ql0 (n : Nat) : Lp := ⟨57, qgw, qiF, qg n (qrv n)⟩
theorem qzd : qd (subC [true, true, false, true, false, false] (qa Try.f17)) 1 = [(1, .loop (subC [true, true, false, true, false, false, true, false, false, true, false, false] (qa Try.f17)))] := by kernel_rfl
theorem qwJ (n : Nat) (st : St) (r : DEx × St) (h : ((ql0 n).go st).Is r) : DA Try.prog false (.loop (subC [true, true, false, true, false, false] (qa Try.f17))) st r := Lp.ok (L := ql0 n) (B := tab) (cs := qeR n) (lo := qqK n) (id := 0) rfl (qh qzd (all_cons (fun st r h => qwI n st r h) qe)) (fun _ _ => rfl) h
noncomputable def qrw (n : Nat) : Nat → St → PT (DEx × St) := fun k st => match k with
  | 0 => (ql0 n).go st
  | _ => .fail
theorem qzP : qd (qa Try.f17) 0 = [(0, .loop (subC [true, true, false, true, false, false] (qa Try.f17)))] := by kernel_rfl
theorem qzQ : Try.f17.body = some (qa Try.f17) := by kernel_rfl
abbrev qmW : List Ar := [.d T25, .d T3, .d T3]
abbrev qmX : List Ty := [T3]
noncomputable def qsv (n : Nat) (x : qz qmW) : Option (qk qmX) := (qi tab (qeR n) (qrw n) (qa Try.f17) 0 (qB qmW 57 x)).run (qbz tab [.tmp 6] qmX)
noncomputable def qzR (n : Nat) : Ct Try.prog := ⟨17, qmW, .ts qmX, qsv n, fun _ _ h => qbF (B := tab) (cs := qeR n) (lo := qrw n) (rs := [.tmp 6]) Try.func17 (by kernel_rfl) qzQ (by kernel_rfl) (by decide) (qh qzP (all_cons (fun st r h => qwJ n st r h) qe)) h⟩
end Go.Proofs.Ytcjgodgpaokbnaa
