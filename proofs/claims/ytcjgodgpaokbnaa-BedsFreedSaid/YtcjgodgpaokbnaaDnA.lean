/- Printed: what functions of the program compute. -/
import Derived.Test.YtcjgodgpaokbnaaDnT
namespace Go.Proofs.Ytcjgodgpaokbnaa
set_option linter.constructorNameAsVariable false
set_option linter.unusedSimpArgs false
set_option linter.unusedVariables false
set_option linter.unusedSectionVars false
open Go Go.Proofs Go.RowKit
set_option maxRecDepth 20000
noncomputable def qqC (n : Nat) : CL Try.prog := ⟨[], [], 0⟩
noncomputable def qqD (n : Nat) : Nat → St → PT (DEx × St) := fun _ _ => .fail
theorem qyA : qd (qa Try.f35) 0 = [] := by kernel_rfl
theorem qyB : Try.f35.body = some (qa Try.f35) := by kernel_rfl
abbrev qmf : List Ar := [.d T3, .d T3, .d T3]
abbrev qmg : List Ty := [T4]
noncomputable def qry (n : Nat) (x : qy qmf) : Option (qk qmg) := (qi tab (qqC n) (qqD n) (qa Try.f35) 0 (qC qmf 15 x)).run (qbA tab [.tmp 6] qmg)
noncomputable def qiK (n : Nat) : Ct Try.prog := ⟨35, qmf, .ts qmg, qry n, fun _ _ h => qbF (B := tab) (cs := qqC n) (lo := qqD n) (rs := [.tmp 6]) Try.func35 (by kernel_rfl) qyB (by kernel_rfl) (by decide) (qh qyA qe) h⟩
noncomputable def qhL (n : Nat) : CL Try.prog := ⟨[qiK n], [], 0⟩
noncomputable def qoY (n : Nat) : Nat → St → PT (DEx × St) := fun _ _ => .fail
abbrev qfL : List It := [.v (.t 3) T3, .obj (.t 1) false 24 2, .v (.c 0 0) T24]
abbrev qhM : List (DEx × List It) := [(.exit 0, [.obj (.t 1) false 24 2, .v (.c 0 0) T24]), (.ret, [.v (.t 2) T4])]
noncomputable def qpY (n : Nat) (rec : qb qfL → Option (qf qhM)) (s : qb qfL) : Option (qf qhM) := (qi tab (qhL n) (qoY n) (subC [true, false, true, false, false] (qa Try.f46)) 1 (mkS qfL 38 s)).run (Lp.leaf 38 qfL qhM rec)
noncomputable def qkE (n : Nat) : Lp := ⟨38, qfL, qhM, qg n (qpY n)⟩
theorem qw0 : qd (subC [true, false, true, false, false] (qa Try.f46)) 1 = [] := by kernel_rfl
theorem quO (n : Nat) (st : St) (r : DEx × St) (h : ((qkE n).go st).Is r) : DA Try.prog false (.loop (subC [true, false, true, false, false] (qa Try.f46))) st r := Lp.ok (L := qkE n) (B := tab) (cs := qhL n) (lo := qoY n) (id := 0) rfl (qh qw0 qe) (fun _ _ => rfl) h
noncomputable def qpZ (n : Nat) : Nat → St → PT (DEx × St) := fun k st => match k with
  | 0 => (qkE n).go st
  | _ => .fail
theorem qx1 : qd (qa Try.f46) 0 = [(0, .loop (subC [true, false, true, false, false] (qa Try.f46)))] := by kernel_rfl
theorem qx2 : Try.f46.body = some (qa Try.f46) := by kernel_rfl
abbrev qlq : List Ar := [.d T24]
abbrev qlr : List Ty := [T4]
noncomputable def qqE (n : Nat) (x : qy qlq) : Option (qk qlr) := (qi tab (qhL n) (qpZ n) (qa Try.f46) 0 (qC qlq 38 x)).run (qbA tab [.tmp 2] qlr)
noncomputable def qx3 (n : Nat) : Ct Try.prog := ⟨46, qlq, .ts qlr, qqE n, fun _ _ h => qbF (B := tab) (cs := qhL n) (lo := qpZ n) (rs := [.tmp 2]) Try.func46 (by kernel_rfl) qx2 (by kernel_rfl) (by decide) (qh qx1 (all_cons (fun st r h => quO n st r h) qe)) h⟩
noncomputable def qgS (n : Nat) : CL Try.prog := ⟨[qiK n], [], 0⟩
noncomputable def qnV (n : Nat) : Nat → St → PT (DEx × St) := fun _ _ => .fail
abbrev qeB : List It := [.v (.t 5) T3, .v (.t 6) T3, .obj (.t 2) false 24 2, .v (.c 0 0) T24, .obj (.t 3) false 30 5, .v (.c 1 0) T30]
abbrev qgT : List (DEx × List It) := [(.exit 0, []), (.ret, [.v (.t 4) T4])]
noncomputable def qov (n : Nat) (rec : qb qeB → Option (qf qgT)) (s : qb qeB) : Option (qf qgT) := (qi tab (qgS n) (qnV n) (subC [true, true, true, false, true, false, false] (qa Try.f68)) 1 (mkS qeB 77 s)).run (Lp.leaf 77 qeB qgT rec)
noncomputable def qjr (n : Nat) : Lp := ⟨77, qeB, qgT, qg n (qov n)⟩
theorem qvy : qd (subC [true, true, true, false, true, false, false] (qa Try.f68)) 1 = [] := by kernel_rfl
theorem qtz (n : Nat) (st : St) (r : DEx × St) (h : ((qjr n).go st).Is r) : DA Try.prog false (.loop (subC [true, true, true, false, true, false, false] (qa Try.f68))) st r := Lp.ok (L := qjr n) (B := tab) (cs := qgS n) (lo := qnV n) (id := 0) rfl (qh qvy qe) (fun _ _ => rfl) h
noncomputable def qow (n : Nat) : Nat → St → PT (DEx × St) := fun k st => match k with
  | 0 => (qjr n).go st
  | _ => .fail
theorem qv2 : qd (qa Try.f68) 0 = [(0, .loop (subC [true, true, true, false, true, false, false] (qa Try.f68)))] := by kernel_rfl
theorem qv3 : Try.f68.body = some (qa Try.f68) := by kernel_rfl
abbrev qjQ : List Ar := [.d T24, .d T30]
abbrev qjR : List Ty := [T4]
noncomputable def qoZ (n : Nat) (x : qy qjQ) : Option (qk qjR) := (qi tab (qgS n) (qow n) (qa Try.f68) 0 (qC qjQ 77 x)).run (qbA tab [.tmp 4] qjR)
noncomputable def qv4 (n : Nat) : Ct Try.prog := ⟨68, qjQ, .ts qjR, qoZ n, fun _ _ h => qbF (B := tab) (cs := qgS n) (lo := qow n) (rs := [.tmp 4]) Try.func68 (by kernel_rfl) qv3 (by kernel_rfl) (by decide) (qh qv2 (all_cons (fun st r h => qtz n st r h) qe)) h⟩
noncomputable def qfX (n : Nat) : CL Try.prog := ⟨[qiK n, qv4 n], [], 0⟩
noncomputable def qmh (n : Nat) : Nat → St → PT (DEx × St) := fun _ _ => .fail
abbrev qef : List It := [.v (.t 1) T25, .v (.t 5) T3, .obj (.t 2) false 24 2, .v (.c 0 0) T24]
abbrev qfY : List (DEx × List It) := [(.exit 0, [.v (.t 1) T25]), (.ret, [.v (.t 4) T4])]
noncomputable def qm5 (n : Nat) (rec : qb qef → Option (qf qfY)) (s : qb qef) : Option (qf qfY) := (qi tab (qfX n) (qmh n) (subC [true, false, true, false, false] (qa Try.f47)) 1 (mkS qef 54 s)).run (Lp.leaf 54 qef qfY rec)
noncomputable def qiv (n : Nat) : Lp := ⟨54, qef, qfY, qg n (qm5 n)⟩
theorem quc : qd (subC [true, false, true, false, false] (qa Try.f47)) 1 = [] := by kernel_rfl
theorem qsg (n : Nat) (st : St) (r : DEx × St) (h : ((qiv n).go st).Is r) : DA Try.prog false (.loop (subC [true, false, true, false, false] (qa Try.f47))) st r := Lp.ok (L := qiv n) (B := tab) (cs := qfX n) (lo := qmh n) (id := 0) rfl (qh quc qe) (fun _ _ => rfl) h
noncomputable def qm6 (n : Nat) : Nat → St → PT (DEx × St) := fun k st => match k with
  | 0 => (qiv n).go st
  | _ => .fail
theorem quP : qd (qa Try.f47) 0 = [(0, .loop (subC [true, false, true, false, false] (qa Try.f47)))] := by kernel_rfl
theorem quQ : Try.f47.body = some (qa Try.f47) := by kernel_rfl
abbrev qi1 : List Ar := [.d T24, .d T25]
abbrev qi2 : List Ty := [T4]
noncomputable def qnW (n : Nat) (x : qy qi1) : Option (qk qi2) := (qi tab (qfX n) (qm6 n) (qa Try.f47) 0 (qC qi1 54 x)).run (qbA tab [.tmp 4] qi2)
noncomputable def quR (n : Nat) : Ct Try.prog := ⟨47, qi1, .ts qi2, qnW n, fun _ _ h => qbF (B := tab) (cs := qfX n) (lo := qm6 n) (rs := [.tmp 4]) Try.func47 (by kernel_rfl) quQ (by kernel_rfl) (by decide) (qh quP (all_cons (fun st r h => qsg n st r h) qe)) h⟩
noncomputable def qiL (n : Nat) : CL Try.prog := ⟨[], [], 0⟩
noncomputable def qqF (n : Nat) : Nat → St → PT (DEx × St) := fun _ _ => .fail
abbrev qgE : List It := [.v (.t 5) T3, .obj (.t 2) false 30 5, .v (.c 0 0) T30, .obj (.t 3) false 30 5, .v (.c 1 0) T30]
abbrev qiM : List (DEx × List It) := [(.exit 0, []), (.ret, [.v (.t 4) T4])]
noncomputable def qrz (n : Nat) (rec : qb qgE → Option (qf qiM)) (s : qb qgE) : Option (qf qiM) := (qi tab (qiL n) (qqF n) (subC [true, true, false, true, false, false] (qa Try.f42)) 1 (mkS qgE 59 s)).run (Lp.leaf 59 qgE qiM rec)
noncomputable def qmi (n : Nat) : Lp := ⟨59, qgE, qiM, qg n (qrz n)⟩
theorem qyC : qd (subC [true, true, false, true, false, false] (qa Try.f42)) 1 = [] := by kernel_rfl
theorem qv5 (n : Nat) (st : St) (r : DEx × St) (h : ((qmi n).go st).Is r) : DA Try.prog false (.loop (subC [true, true, false, true, false, false] (qa Try.f42))) st r := Lp.ok (L := qmi n) (B := tab) (cs := qiL n) (lo := qqF n) (id := 0) rfl (qh qyC qe) (fun _ _ => rfl) h
noncomputable def qrA (n : Nat) : Nat → St → PT (DEx × St) := fun k st => match k with
  | 0 => (qmi n).go st
  | _ => .fail
theorem qzF : qd (qa Try.f42) 0 = [(0, .loop (subC [true, true, false, true, false, false] (qa Try.f42)))] := by kernel_rfl
theorem qzG : Try.f42.body = some (qa Try.f42) := by kernel_rfl
abbrev qnp : List Ar := [.d T30, .d T30]
abbrev qnq : List Ty := [T4]
noncomputable def qsh (n : Nat) (x : qy qnp) : Option (qk qnq) := (qi tab (qiL n) (qrA n) (qa Try.f42) 0 (qC qnp 59 x)).run (qbA tab [.tmp 4] qnq)
noncomputable def qzH (n : Nat) : Ct Try.prog := ⟨42, qnp, .ts qnq, qsh n, fun _ _ h => qbF (B := tab) (cs := qiL n) (lo := qrA n) (rs := [.tmp 4]) Try.func42 (by kernel_rfl) qzG (by kernel_rfl) (by decide) (qh qzF (all_cons (fun st r h => qv5 n st r h) qe)) h⟩
noncomputable def qeU (n : Nat) : CL Try.prog := ⟨[qzH n], [], 0⟩
noncomputable def qqG (n : Nat) : Nat → St → PT (DEx × St) := fun _ _ => .fail
abbrev qgF : List It := [.v (.t 0) T25, .v (.t 3) T3, .v (.t 4) T3]
abbrev qiN : List (DEx × List It) := [(.exit 2, [.v (.t 0) T25, .v (.t 3) T3]), (.ret, [.v (.t 2) T4])]
noncomputable def qrB (n : Nat) (rec : qb qgF → Option (qf qiN)) (s : qb qgF) : Option (qf qiN) := (qi tab (qeU n) (qqG n) (subC [true, false, true, false, false, true, false, false, true, false, false] (qa Try.f43)) 2 (mkS qgF 52 s)).run (Lp.leaf 52 qgF qiN rec)
noncomputable def qmj (n : Nat) : Lp := ⟨52, qgF, qiN, qg n (qrB n)⟩
theorem qyD : qd (subC [true, false, true, false, false, true, false, false, true, false, false] (qa Try.f43)) 2 = [] := by kernel_rfl
theorem qv6 (n : Nat) (st : St) (r : DEx × St) (h : ((qmj n).go st).Is r) : DA Try.prog false (.loop (subC [true, false, true, false, false, true, false, false, true, false, false] (qa Try.f43))) st r := Lp.ok (L := qmj n) (B := tab) (cs := qeU n) (lo := qqG n) (id := 1) rfl (qh qyD qe) (fun _ _ => rfl) h
noncomputable def qqH (n : Nat) : Nat → St → PT (DEx × St) := fun k st => match k with
  | 1 => (qmj n).go st
  | _ => .fail
abbrev qgG : List It := [.v (.t 0) T25, .v (.t 3) T3]
abbrev qiO : List (DEx × List It) := [(.exit 0, []), (.ret, [.v (.t 2) T4])]
noncomputable def qrC (n : Nat) (rec : qb qgG → Option (qf qiO)) (s : qb qgG) : Option (qf qiO) := (qi tab (qeU n) (qqH n) (subC [true, false, true, false, false] (qa Try.f43)) 1 (mkS qgG 52 s)).run (Lp.leaf 52 qgG qiO rec)
noncomputable def qmk (n : Nat) : Lp := ⟨52, qgG, qiO, qg n (qrC n)⟩
theorem qyE : qd (subC [true, false, true, false, false] (qa Try.f43)) 1 = [(1, .loop (subC [true, false, true, false, false, true, false, false, true, false, false] (qa Try.f43)))] := by kernel_rfl
theorem qv7 (n : Nat) (st : St) (r : DEx × St) (h : ((qmk n).go st).Is r) : DA Try.prog false (.loop (subC [true, false, true, false, false] (qa Try.f43))) st r := Lp.ok (L := qmk n) (B := tab) (cs := qeU n) (lo := qqH n) (id := 0) rfl (qh qyE (all_cons (fun st r h => qv6 n st r h) qe)) (fun _ _ => rfl) h
noncomputable def qrD (n : Nat) : Nat → St → PT (DEx × St) := fun k st => match k with
  | 0 => (qmk n).go st
  | _ => .fail
theorem qzI : qd (qa Try.f43) 0 = [(0, .loop (subC [true, false, true, false, false] (qa Try.f43)))] := by kernel_rfl
theorem qzJ : Try.f43.body = some (qa Try.f43) := by kernel_rfl
abbrev qnr : List Ar := [.d T25]
abbrev qns : List Ty := [T4]
noncomputable def qsi (n : Nat) (x : qy qnr) : Option (qk qns) := (qi tab (qeU n) (qrD n) (qa Try.f43) 0 (qC qnr 52 x)).run (qbA tab [.tmp 2] qns)
noncomputable def qzK (n : Nat) : Ct Try.prog := ⟨43, qnr, .ts qns, qsi n, fun _ _ h => qbF (B := tab) (cs := qeU n) (lo := qrD n) (rs := [.tmp 2]) Try.func43 (by kernel_rfl) qzJ (by kernel_rfl) (by decide) (qh qzI (all_cons (fun st r h => qv7 n st r h) qe)) h⟩
noncomputable def qrE (n : Nat) : CL Try.prog := ⟨[qzK n, qx3 n, quR n], [], 0⟩
noncomputable def qrF (n : Nat) : Nat → St → PT (DEx × St) := fun _ _ => .fail
theorem qzL : qd (qa Try.f29) 0 = [] := by kernel_rfl
theorem qzM : Try.f29.body = some (qa Try.f29) := by kernel_rfl
abbrev qnt : List Ar := [.d T24, .d T25]
abbrev qnu : List Ty := [T33]
noncomputable def qsj (n : Nat) (x : qy qnt) : Option (qk qnu) := (qi tab (qrE n) (qrF n) (qa Try.f29) 0 (qC qnt 14 x)).run (qbA tab [.tmp 4] qnu)
noncomputable def qzN (n : Nat) : Ct Try.prog := ⟨29, qnt, .ts qnu, qsj n, fun _ _ h => qbF (B := tab) (cs := qrE n) (lo := qrF n) (rs := [.tmp 4]) Try.func29 (by kernel_rfl) qzM (by kernel_rfl) (by decide) (qh qzL qe) h⟩
noncomputable def qbX (n : Nat) : CL Try.prog := ⟨[], [], 0⟩
noncomputable def qox (n : Nat) : Nat → St → PT (DEx × St) := fun _ _ => .fail
abbrev qfd : List It := [.v (.t 0) T25, .v (.t 4) T3, .v (.t 5) T3, .v (.t 6) T3, .row (.t 3) false T30 30]
abbrev qhe : List (DEx × List It) := [(.exit 4, [.v (.t 0) T25, .v (.t 4) T3, .v (.t 5) T3, .row (.t 3) false T30 30])]
noncomputable def qo0 (n : Nat) (rec : qb qfd → Option (qf qhe)) (s : qb qfd) : Option (qf qhe) := (qi tab (qbX n) (qox n) (subC [true, true, false, true, false, false, true, false, false, true, false, false, true, false, false, true, false, false] (qa Try.f34)) 3 (mkS qfd 45 s)).run (Lp.leaf 45 qfd qhe rec)
noncomputable def qjS (n : Nat) : Lp := ⟨45, qfd, qhe, qg n (qo0 n)⟩
theorem qv8 : qd (subC [true, true, false, true, false, false, true, false, false, true, false, false, true, false, false, true, false, false] (qa Try.f34)) 3 = [] := by kernel_rfl
theorem qud (n : Nat) (st : St) (r : DEx × St) (h : ((qjS n).go st).Is r) : DA Try.prog false (.loop (subC [true, true, false, true, false, false, true, false, false, true, false, false, true, false, false, true, false, false] (qa Try.f34))) st r := Lp.ok (L := qjS n) (B := tab) (cs := qbX n) (lo := qox n) (id := 2) rfl (qh qv8 qe) (fun _ _ => rfl) h
noncomputable def qoy (n : Nat) : Nat → St → PT (DEx × St) := fun k st => match k with
  | 2 => (qjS n).go st
  | _ => .fail
abbrev qfe : List It := [.v (.t 0) T25, .v (.t 4) T3, .v (.t 5) T3, .row (.t 3) false T30 30]
abbrev qhf : List (DEx × List It) := [(.exit 2, [.v (.t 0) T25, .v (.t 4) T3, .row (.t 3) false T30 30])]
noncomputable def qo1 (n : Nat) (rec : qb qfe → Option (qf qhf)) (s : qb qfe) : Option (qf qhf) := (qi tab (qbX n) (qoy n) (subC [true, true, false, true, false, false, true, false, false, true, false, false] (qa Try.f34)) 2 (mkS qfe 45 s)).run (Lp.leaf 45 qfe qhf rec)
noncomputable def qjT (n : Nat) : Lp := ⟨45, qfe, qhf, qg n (qo1 n)⟩
theorem qv9 : qd (subC [true, true, false, true, false, false, true, false, false, true, false, false] (qa Try.f34)) 2 = [(2, .loop (subC [true, true, false, true, false, false, true, false, false, true, false, false, true, false, false, true, false, false] (qa Try.f34)))] := by kernel_rfl
theorem que (n : Nat) (st : St) (r : DEx × St) (h : ((qjT n).go st).Is r) : DA Try.prog false (.loop (subC [true, true, false, true, false, false, true, false, false, true, false, false] (qa Try.f34))) st r := Lp.ok (L := qjT n) (B := tab) (cs := qbX n) (lo := qoy n) (id := 1) rfl (qh qv9 (all_cons (fun st r h => qud n st r h) qe)) (fun _ _ => rfl) h
noncomputable def qoz (n : Nat) : Nat → St → PT (DEx × St) := fun k st => match k with
  | 1 => (qjT n).go st
  | _ => .fail
abbrev qff : List It := [.v (.t 0) T25, .v (.t 4) T3, .row (.t 3) false T30 30]
abbrev qhg : List (DEx × List It) := [(.exit 0, [.row (.t 3) false T30 30])]
noncomputable def qo2 (n : Nat) (rec : qb qff → Option (qf qhg)) (s : qb qff) : Option (qf qhg) := (qi tab (qbX n) (qoz n) (subC [true, true, false, true, false, false] (qa Try.f34)) 1 (mkS qff 45 s)).run (Lp.leaf 45 qff qhg rec)
noncomputable def qjU (n : Nat) : Lp := ⟨45, qff, qhg, qg n (qo2 n)⟩
theorem qwa : qd (subC [true, true, false, true, false, false] (qa Try.f34)) 1 = [(1, .loop (subC [true, true, false, true, false, false, true, false, false, true, false, false] (qa Try.f34)))] := by kernel_rfl
theorem quf (n : Nat) (st : St) (r : DEx × St) (h : ((qjU n).go st).Is r) : DA Try.prog false (.loop (subC [true, true, false, true, false, false] (qa Try.f34))) st r := Lp.ok (L := qjU n) (B := tab) (cs := qbX n) (lo := qoz n) (id := 0) rfl (qh qwa (all_cons (fun st r h => que n st r h) qe)) (fun _ _ => rfl) h
noncomputable def qo3 (n : Nat) : Nat → St → PT (DEx × St) := fun k st => match k with
  | 0 => (qjU n).go st
  | _ => .fail
theorem qw1 : qd (qa Try.f34) 0 = [(0, .loop (subC [true, true, false, true, false, false] (qa Try.f34)))] := by kernel_rfl
theorem qw2 : Try.f34.body = some (qa Try.f34) := by kernel_rfl
abbrev qkF : List Ar := [.d T25]
abbrev qkG : List Ty := [T25]
noncomputable def qp0 (n : Nat) (x : qy qkF) : Option (qk qkG) := (qi tab (qbX n) (qo3 n) (qa Try.f34) 0 (qC qkF 45 x)).run (qbA tab [.tmp 2] qkG)
noncomputable def qw3 (n : Nat) : Ct Try.prog := ⟨34, qkF, .ts qkG, qp0 n, fun _ _ h => qbF (B := tab) (cs := qbX n) (lo := qo3 n) (rs := [.tmp 2]) Try.func34 (by kernel_rfl) qw2 (by kernel_rfl) (by decide) (qh qw1 (all_cons (fun st r h => quf n st r h) qe)) h⟩
noncomputable def qeV (n : Nat) : CL Try.prog := ⟨[qw3 n], [], 0⟩
noncomputable def qqI (n : Nat) : Nat → St → PT (DEx × St) := fun _ _ => .fail
abbrev qgH : List It := [.v (.t 3) T25, .v (.t 5) T3, .v (.t 7) T3, .obj (.t 6) false 30 5, .v (.c 0 0) T30, .row (.t 4) false T30 30]
abbrev qiP : List (DEx × List It) := [(.exit 2, [.v (.t 3) T25, .v (.t 5) T3, .v (.t 7) T3, .obj (.t 6) false 30 5, .v (.c 0 0) T30, .row (.t 4) false T30 30])]
noncomputable def qrG (n : Nat) (rec : qb qgH → Option (qf qiP)) (s : qb qgH) : Option (qf qiP) := (qi tab (qeV n) (qqI n) (subC [true, true, true, false, true, false, false, true, false, false, true, true, true, false, false, false] (qa Try.f16)) 2 (mkS qgH 88 s)).run (Lp.leaf 88 qgH qiP rec)
noncomputable def qml (n : Nat) : Lp := ⟨88, qgH, qiP, qg n (qrG n)⟩
theorem qyF : qd (subC [true, true, true, false, true, false, false, true, false, false, true, true, true, false, false, false] (qa Try.f16)) 2 = [] := by kernel_rfl
theorem qwb (n : Nat) (st : St) (r : DEx × St) (h : ((qml n).go st).Is r) : DA Try.prog false (.loop (subC [true, true, true, false, true, false, false, true, false, false, true, true, true, false, false, false] (qa Try.f16))) st r := Lp.ok (L := qml n) (B := tab) (cs := qeV n) (lo := qqI n) (id := 1) rfl (qh qyF qe) (fun _ _ => rfl) h
noncomputable def qqJ (n : Nat) : Nat → St → PT (DEx × St) := fun k st => match k with
  | 1 => (qml n).go st
  | _ => .fail
abbrev qgI : List It := [.v (.t 3) T25, .v (.t 5) T3, .row (.t 4) false T30 30]
abbrev qiQ : List (DEx × List It) := [(.exit 0, [.row (.t 4) false T30 30])]
noncomputable def qrH (n : Nat) (rec : qb qgI → Option (qf qiQ)) (s : qb qgI) : Option (qf qiQ) := (qi tab (qeV n) (qqJ n) (subC [true, true, true, false, true, false, false] (qa Try.f16)) 1 (mkS qgI 88 s)).run (Lp.leaf 88 qgI qiQ rec)
noncomputable def qmm (n : Nat) : Lp := ⟨88, qgI, qiQ, qg n (qrH n)⟩
theorem qyG : qd (subC [true, true, true, false, true, false, false] (qa Try.f16)) 1 = [(1, .loop (subC [true, true, true, false, true, false, false, true, false, false, true, true, true, false, false, false] (qa Try.f16)))] := by kernel_rfl
theorem qwc (n : Nat) (st : St) (r : DEx × St) (h : ((qmm n).go st).Is r) : DA Try.prog false (.loop (subC [true, true, true, false, true, false, false] (qa Try.f16))) st r := Lp.ok (L := qmm n) (B := tab) (cs := qeV n) (lo := qqJ n) (id := 0) rfl (qh qyG (all_cons (fun st r h => qwb n st r h) qe)) (fun _ _ => rfl) h
noncomputable def qrI (n : Nat) : Nat → St → PT (DEx × St) := fun k st => match k with
  | 0 => (qmm n).go st
  | _ => .fail
theorem qzO : qd (qa Try.f16) 0 = [(0, .loop (subC [true, true, true, false, true, false, false] (qa Try.f16)))] := by kernel_rfl
theorem qzP : Try.f16.body = some (qa Try.f16) := by kernel_rfl
abbrev qnv : List Ar := [.d T25]
abbrev qnw : List Ty := [T25]
noncomputable def qsk (n : Nat) (x : qy qnv) : Option (qk qnw) := (qi tab (qeV n) (qrI n) (qa Try.f16) 0 (qC qnv 88 x)).run (qbA tab [.tmp 2] qnw)
noncomputable def qzQ (n : Nat) : Ct Try.prog := ⟨16, qnv, .ts qnw, qsk n, fun _ _ h => qbF (B := tab) (cs := qeV n) (lo := qrI n) (rs := [.tmp 2]) Try.func16 (by kernel_rfl) qzP (by kernel_rfl) (by decide) (qh qzO (all_cons (fun st r h => qwc n st r h) qe)) h⟩
noncomputable def qey (n : Nat) : CL Try.prog := ⟨[qiK n], [], 0⟩
noncomputable def qp1 (n : Nat) : Nat → St → PT (DEx × St) := fun _ _ => .fail
abbrev qf9 : List It := [.v (.t 0) T25, .v (.t 1) T3, .v (.t 2) T3, .v (.t 7) T3, .v (.t 8) T3, .v (.t 9) T3]
abbrev qif : List (DEx × List It) := [(.exit 2, [.v (.t 0) T25, .v (.t 1) T3, .v (.t 2) T3, .v (.t 7) T3, .v (.t 8) T3])]
noncomputable def qqK (n : Nat) (rec : qb qf9 → Option (qf qif)) (s : qb qf9) : Option (qf qif) := (qi tab (qey n) (qp1 n) (subC [true, true, false, true, false, false, true, false, false, true, false, false] (qa Try.f17)) 2 (mkS qf9 57 s)).run (Lp.leaf 57 qf9 qif rec)
noncomputable def qls (n : Nat) : Lp := ⟨57, qf9, qif, qg n (qqK n)⟩
theorem qx4 : qd (subC [true, true, false, true, false, false, true, false, false, true, false, false] (qa Try.f17)) 2 = [] := by kernel_rfl
theorem qvz (n : Nat) (st : St) (r : DEx × St) (h : ((qls n).go st).Is r) : DA Try.prog false (.loop (subC [true, true, false, true, false, false, true, false, false, true, false, false] (qa Try.f17))) st r := Lp.ok (L := qls n) (B := tab) (cs := qey n) (lo := qp1 n) (id := 1) rfl (qh qx4 qe) (fun _ _ => rfl) h
noncomputable def qp2 (n : Nat) : Nat → St → PT (DEx × St) := fun k st => match k with
  | 1 => (qls n).go st
  | _ => .fail
abbrev qga : List It := [.v (.t 0) T25, .v (.t 1) T3, .v (.t 2) T3, .v (.t 7) T3, .v (.t 8) T3]
abbrev qig : List (DEx × List It) := [(.exit 0, [.v (.t 7) T3])]
noncomputable def qqL (n : Nat) (rec : qb qga → Option (qf qig)) (s : qb qga) : Option (qf qig) := (qi tab (qey n) (qp2 n) (subC [true, true, false, true, false, false] (qa Try.f17)) 1 (mkS qga 57 s)).run (Lp.leaf 57 qga qig rec)
noncomputable def qlu (n : Nat) : Lp := ⟨57, qga, qig, qg n (qqL n)⟩
theorem qx5 : qd (subC [true, true, false, true, false, false] (qa Try.f17)) 1 = [(1, .loop (subC [true, true, false, true, false, false, true, false, false, true, false, false] (qa Try.f17)))] := by kernel_rfl
theorem qvA (n : Nat) (st : St) (r : DEx × St) (h : ((qlu n).go st).Is r) : DA Try.prog false (.loop (subC [true, true, false, true, false, false] (qa Try.f17))) st r := Lp.ok (L := qlu n) (B := tab) (cs := qey n) (lo := qp2 n) (id := 0) rfl (qh qx5 (all_cons (fun st r h => qvz n st r h) qe)) (fun _ _ => rfl) h
noncomputable def qqM (n : Nat) : Nat → St → PT (DEx × St) := fun k st => match k with
  | 0 => (qlu n).go st
  | _ => .fail
theorem qyH : qd (qa Try.f17) 0 = [(0, .loop (subC [true, true, false, true, false, false] (qa Try.f17)))] := by kernel_rfl
theorem qyI : Try.f17.body = some (qa Try.f17) := by kernel_rfl
abbrev qmn : List Ar := [.d T25, .d T3, .d T3]
abbrev qmo : List Ty := [T3]
noncomputable def qrJ (n : Nat) (x : qy qmn) : Option (qk qmo) := (qi tab (qey n) (qqM n) (qa Try.f17) 0 (qC qmn 57 x)).run (qbA tab [.tmp 6] qmo)
noncomputable def qyJ (n : Nat) : Ct Try.prog := ⟨17, qmn, .ts qmo, qrJ n, fun _ _ h => qbF (B := tab) (cs := qey n) (lo := qqM n) (rs := [.tmp 6]) Try.func17 (by kernel_rfl) qyI (by kernel_rfl) (by decide) (qh qyH (all_cons (fun st r h => qvA n st r h) qe)) h⟩
end Go.Proofs.Ytcjgodgpaokbnaa
