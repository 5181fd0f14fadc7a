/- Printed: what functions of the program compute. -/
import Derived.Test.YtcjgodgpaokbnaaDnT
namespace Go.Proofs.Ytcjgodgpaokbnaa
set_option linter.constructorNameAsVariable false
set_option linter.unusedSimpArgs false
set_option linter.unusedVariables false
set_option linter.unusedSectionVars false
open Go Go.Proofs Go.RowKit
set_option maxRecDepth 20000
noncomputable def qpe (n : Nat) : CL Try.prog := ⟨[], [], 0⟩
noncomputable def qpf (n : Nat) : Nat → St → PT (DEx × St) := fun _ _ => .fail
theorem qwy : qd (qa Try.f35) 0 = [] := by kernel_rfl
theorem qwz : Try.f35.body = some (qa Try.f35) := by kernel_rfl
abbrev qln : List Ar := [.d T3, .d T3, .d T3]
abbrev qlo : List Ty := [T4]
noncomputable def qp3 (n : Nat) (x : qy qln) : Option (qk qlo) := (qj tab (qpe n) (qpf n) (qa Try.f35) 0 (qH qln 15 x)).run (qbX tab [.tmp 6] qlo)
noncomputable def qlp (n : Nat) : Ct Try.prog := ⟨35, qln, .ts qlo, qp3 n, fun _ _ h => qb1 (B := tab) (cs := qpe n) (lo := qpf n) (rs := [.tmp 6]) Try.func35 (by kernel_rfl) qwz (by kernel_rfl) (by decide) (qh qwy qe) h⟩
noncomputable def qho (n : Nat) : CL Try.prog := ⟨[qlp n], [], 0⟩
noncomputable def qnK (n : Nat) : Nat → St → PT (DEx × St) := fun _ _ => .fail
abbrev qfC : List It := [.v (.t 3) T3, .obj (.t 1) false 24 2, .v (.c 0 0) T24]
abbrev qhp : List (DEx × List It) := [(.exit 0, [.obj (.t 1) false 24 2, .v (.c 0 0) T24]), (.ret, [.v (.t 2) T4])]
noncomputable def qoC (n : Nat) (rec : qc qfC → Option (qf qhp)) (s : qc qfC) : Option (qf qhp) := (qj tab (qho n) (qnK n) (subC [true, false, true, false, false] (qa Try.f46)) 1 (mkS qfC 38 s)).run (Lp.leaf 38 qfC qhp rec)
noncomputable def qjZ (n : Nat) : Lp := ⟨38, qfC, qhp, qg n (qoC n)⟩
theorem qu7 : qd (subC [true, false, true, false, false] (qa Try.f46)) 1 = [] := by kernel_rfl
theorem qtd (n : Nat) (st : St) (r : DEx × St) (h : ((qjZ n).go st).Is r) : DA Try.prog false (.loop (subC [true, false, true, false, false] (qa Try.f46))) st r := Lp.ok (L := qjZ n) (B := tab) (cs := qho n) (lo := qnK n) (id := 0) rfl (qh qu7 qe) (fun _ _ => rfl) h
noncomputable def qoD (n : Nat) : Nat → St → PT (DEx × St) := fun k st => match k with
  | 0 => (qjZ n).go st
  | _ => .fail
theorem qv0 : qd (qa Try.f46) 0 = [(0, .loop (subC [true, false, true, false, false] (qa Try.f46)))] := by kernel_rfl
theorem qv1 : Try.f46.body = some (qa Try.f46) := by kernel_rfl
abbrev qkE : List Ar := [.d T24]
abbrev qkF : List Ty := [T4]
noncomputable def qpg (n : Nat) (x : qy qkE) : Option (qk qkF) := (qj tab (qho n) (qoD n) (qa Try.f46) 0 (qH qkE 38 x)).run (qbX tab [.tmp 2] qkF)
noncomputable def qv2 (n : Nat) : Ct Try.prog := ⟨46, qkE, .ts qkF, qpg n, fun _ _ h => qb1 (B := tab) (cs := qho n) (lo := qoD n) (rs := [.tmp 2]) Try.func46 (by kernel_rfl) qv1 (by kernel_rfl) (by decide) (qh qv0 (all_cons (fun st r h => qtd n st r h) qe)) h⟩
noncomputable def qgC (n : Nat) : CL Try.prog := ⟨[qlp n], [], 0⟩
noncomputable def qmW (n : Nat) : Nat → St → PT (DEx × St) := fun _ _ => .fail
abbrev qez : List It := [.v (.t 5) T3, .v (.t 6) T3, .obj (.t 2) false 24 2, .v (.c 0 0) T24, .obj (.t 3) false 30 5, .v (.c 1 0) T30]
abbrev qgD : List (DEx × List It) := [(.exit 0, []), (.ret, [.v (.t 4) T4])]
noncomputable def qnr (n : Nat) (rec : qc qez → Option (qf qgD)) (s : qc qez) : Option (qf qgD) := (qj tab (qgC n) (qmW n) (subC [true, true, true, false, true, false, false] (qa Try.f68)) 1 (mkS qez 77 s)).run (Lp.leaf 77 qez qgD rec)
noncomputable def qiU (n : Nat) : Lp := ⟨77, qez, qgD, qg n (qnr n)⟩
theorem qtW : qd (subC [true, true, true, false, true, false, false] (qa Try.f68)) 1 = [] := by kernel_rfl
theorem qr3 (n : Nat) (st : St) (r : DEx × St) (h : ((qiU n).go st).Is r) : DA Try.prog false (.loop (subC [true, true, true, false, true, false, false] (qa Try.f68))) st r := Lp.ok (L := qiU n) (B := tab) (cs := qgC n) (lo := qmW n) (id := 0) rfl (qh qtW qe) (fun _ _ => rfl) h
noncomputable def qns (n : Nat) : Nat → St → PT (DEx × St) := fun k st => match k with
  | 0 => (qiU n).go st
  | _ => .fail
theorem qul : qd (qa Try.f68) 0 = [(0, .loop (subC [true, true, true, false, true, false, false] (qa Try.f68)))] := by kernel_rfl
theorem qum : Try.f68.body = some (qa Try.f68) := by kernel_rfl
abbrev qjd : List Ar := [.d T24, .d T30]
abbrev qje : List Ty := [T4]
noncomputable def qnL (n : Nat) (x : qy qjd) : Option (qk qje) := (qj tab (qgC n) (qns n) (qa Try.f68) 0 (qH qjd 77 x)).run (qbX tab [.tmp 4] qje)
noncomputable def qun (n : Nat) : Ct Try.prog := ⟨68, qjd, .ts qje, qnL n, fun _ _ h => qb1 (B := tab) (cs := qgC n) (lo := qns n) (rs := [.tmp 4]) Try.func68 (by kernel_rfl) qum (by kernel_rfl) (by decide) (qh qul (all_cons (fun st r h => qr3 n st r h) qe)) h⟩
noncomputable def qfP (n : Nat) : CL Try.prog := ⟨[qlp n, qun n], [], 0⟩
noncomputable def qlq (n : Nat) : Nat → St → PT (DEx × St) := fun _ _ => .fail
abbrev qec : List It := [.v (.t 1) T25, .v (.t 5) T3, .obj (.t 2) false 24 2, .v (.c 0 0) T24]
abbrev qfQ : List (DEx × List It) := [(.exit 0, [.v (.t 1) T25]), (.ret, [.v (.t 4) T4])]
noncomputable def ql9 (n : Nat) (rec : qc qec → Option (qf qfQ)) (s : qc qec) : Option (qf qfQ) := (qj tab (qfP n) (qlq n) (subC [true, false, true, false, false] (qa Try.f47)) 1 (mkS qec 54 s)).run (Lp.leaf 54 qec qfQ rec)
noncomputable def qh3 (n : Nat) : Lp := ⟨54, qec, qfQ, qg n (ql9 n)⟩
theorem qsF : qd (subC [true, false, true, false, false] (qa Try.f47)) 1 = [] := by kernel_rfl
theorem qqJ (n : Nat) (st : St) (r : DEx × St) (h : ((qh3 n).go st).Is r) : DA Try.prog false (.loop (subC [true, false, true, false, false] (qa Try.f47))) st r := Lp.ok (L := qh3 n) (B := tab) (cs := qfP n) (lo := qlq n) (id := 0) rfl (qh qsF qe) (fun _ _ => rfl) h
noncomputable def qma (n : Nat) : Nat → St → PT (DEx × St) := fun k st => match k with
  | 0 => (qh3 n).go st
  | _ => .fail
theorem qte : qd (qa Try.f47) 0 = [(0, .loop (subC [true, false, true, false, false] (qa Try.f47)))] := by kernel_rfl
theorem qtf : Try.f47.body = some (qa Try.f47) := by kernel_rfl
abbrev qiv : List Ar := [.d T24, .d T25]
abbrev qiw : List Ty := [T4]
noncomputable def qmX (n : Nat) (x : qy qiv) : Option (qk qiw) := (qj tab (qfP n) (qma n) (qa Try.f47) 0 (qH qiv 54 x)).run (qbX tab [.tmp 4] qiw)
noncomputable def qtg (n : Nat) : Ct Try.prog := ⟨47, qiv, .ts qiw, qmX n, fun _ _ h => qb1 (B := tab) (cs := qfP n) (lo := qma n) (rs := [.tmp 4]) Try.func47 (by kernel_rfl) qtf (by kernel_rfl) (by decide) (qh qte (all_cons (fun st r h => qqJ n st r h) qe)) h⟩
noncomputable def qii (n : Nat) : CL Try.prog := ⟨[], [], 0⟩
noncomputable def qph (n : Nat) : Nat → St → PT (DEx × St) := fun _ _ => .fail
abbrev qgq : List It := [.v (.t 5) T3, .obj (.t 2) false 30 5, .v (.c 0 0) T30, .obj (.t 3) false 30 5, .v (.c 1 0) T30]
abbrev qij : List (DEx × List It) := [(.exit 0, []), (.ret, [.v (.t 4) T4])]
noncomputable def qp4 (n : Nat) (rec : qc qgq → Option (qf qij)) (s : qc qgq) : Option (qf qij) := (qj tab (qii n) (qph n) (subC [true, true, false, true, false, false] (qa Try.f42)) 1 (mkS qgq 59 s)).run (Lp.leaf 59 qgq qij rec)
noncomputable def qlr (n : Nat) : Lp := ⟨59, qgq, qij, qg n (qp4 n)⟩
theorem qwA : qd (subC [true, true, false, true, false, false] (qa Try.f42)) 1 = [] := by kernel_rfl
theorem qup (n : Nat) (st : St) (r : DEx × St) (h : ((qlr n).go st).Is r) : DA Try.prog false (.loop (subC [true, true, false, true, false, false] (qa Try.f42))) st r := Lp.ok (L := qlr n) (B := tab) (cs := qii n) (lo := qph n) (id := 0) rfl (qh qwA qe) (fun _ _ => rfl) h
noncomputable def qp5 (n : Nat) : Nat → St → PT (DEx × St) := fun k st => match k with
  | 0 => (qlr n).go st
  | _ => .fail
theorem qxz : qd (qa Try.f42) 0 = [(0, .loop (subC [true, true, false, true, false, false] (qa Try.f42)))] := by kernel_rfl
theorem qxA : Try.f42.body = some (qa Try.f42) := by kernel_rfl
abbrev qms : List Ar := [.d T30, .d T30]
abbrev qmt : List Ty := [T4]
noncomputable def qqK (n : Nat) (x : qy qms) : Option (qk qmt) := (qj tab (qii n) (qp5 n) (qa Try.f42) 0 (qH qms 59 x)).run (qbX tab [.tmp 4] qmt)
noncomputable def qxB (n : Nat) : Ct Try.prog := ⟨42, qms, .ts qmt, qqK n, fun _ _ h => qb1 (B := tab) (cs := qii n) (lo := qp5 n) (rs := [.tmp 4]) Try.func42 (by kernel_rfl) qxA (by kernel_rfl) (by decide) (qh qxz (all_cons (fun st r h => qup n st r h) qe)) h⟩
noncomputable def qeP (n : Nat) : CL Try.prog := ⟨[qxB n], [], 0⟩
noncomputable def qpi (n : Nat) : Nat → St → PT (DEx × St) := fun _ _ => .fail
abbrev qgr : List It := [.v (.t 0) T25, .v (.t 3) T3, .v (.t 4) T3]
abbrev qik : List (DEx × List It) := [(.exit 2, [.v (.t 0) T25, .v (.t 3) T3]), (.ret, [.v (.t 2) T4])]
noncomputable def qp6 (n : Nat) (rec : qc qgr → Option (qf qik)) (s : qc qgr) : Option (qf qik) := (qj tab (qeP n) (qpi n) (subC [true, false, true, false, false, true, false, false, true, false, false] (qa Try.f43)) 2 (mkS qgr 52 s)).run (Lp.leaf 52 qgr qik rec)
noncomputable def qls (n : Nat) : Lp := ⟨52, qgr, qik, qg n (qp6 n)⟩
theorem qwB : qd (subC [true, false, true, false, false, true, false, false, true, false, false] (qa Try.f43)) 2 = [] := by kernel_rfl
theorem quq (n : Nat) (st : St) (r : DEx × St) (h : ((qls n).go st).Is r) : DA Try.prog false (.loop (subC [true, false, true, false, false, true, false, false, true, false, false] (qa Try.f43))) st r := Lp.ok (L := qls n) (B := tab) (cs := qeP n) (lo := qpi n) (id := 1) rfl (qh qwB qe) (fun _ _ => rfl) h
noncomputable def qpj (n : Nat) : Nat → St → PT (DEx × St) := fun k st => match k with
  | 1 => (qls n).go st
  | _ => .fail
abbrev qgs : List It := [.v (.t 0) T25, .v (.t 3) T3]
abbrev qil : List (DEx × List It) := [(.exit 0, []), (.ret, [.v (.t 2) T4])]
noncomputable def qp7 (n : Nat) (rec : qc qgs → Option (qf qil)) (s : qc qgs) : Option (qf qil) := (qj tab (qeP n) (qpj n) (subC [true, false, true, false, false] (qa Try.f43)) 1 (mkS qgs 52 s)).run (Lp.leaf 52 qgs qil rec)
noncomputable def qlu (n : Nat) : Lp := ⟨52, qgs, qil, qg n (qp7 n)⟩
theorem qwC : qd (subC [true, false, true, false, false] (qa Try.f43)) 1 = [(1, .loop (subC [true, false, true, false, false, true, false, false, true, false, false] (qa Try.f43)))] := by kernel_rfl
theorem qur (n : Nat) (st : St) (r : DEx × St) (h : ((qlu n).go st).Is r) : DA Try.prog false (.loop (subC [true, false, true, false, false] (qa Try.f43))) st r := Lp.ok (L := qlu n) (B := tab) (cs := qeP n) (lo := qpj n) (id := 0) rfl (qh qwC (all_cons (fun st r h => quq n st r h) qe)) (fun _ _ => rfl) h
noncomputable def qp8 (n : Nat) : Nat → St → PT (DEx × St) := fun k st => match k with
  | 0 => (qlu n).go st
  | _ => .fail
theorem qxC : qd (qa Try.f43) 0 = [(0, .loop (subC [true, false, true, false, false] (qa Try.f43)))] := by kernel_rfl
theorem qxD : Try.f43.body = some (qa Try.f43) := by kernel_rfl
abbrev qmu : List Ar := [.d T25]
abbrev qmv : List Ty := [T4]
noncomputable def qqL (n : Nat) (x : qy qmu) : Option (qk qmv) := (qj tab (qeP n) (qp8 n) (qa Try.f43) 0 (qH qmu 52 x)).run (qbX tab [.tmp 2] qmv)
noncomputable def qxE (n : Nat) : Ct Try.prog := ⟨43, qmu, .ts qmv, qqL n, fun _ _ h => qb1 (B := tab) (cs := qeP n) (lo := qp8 n) (rs := [.tmp 2]) Try.func43 (by kernel_rfl) qxD (by kernel_rfl) (by decide) (qh qxC (all_cons (fun st r h => qur n st r h) qe)) h⟩
noncomputable def qp9 (n : Nat) : CL Try.prog := ⟨[qxE n, qv2 n, qtg n], [], 0⟩
noncomputable def qqa (n : Nat) : Nat → St → PT (DEx × St) := fun _ _ => .fail
theorem qxF : qd (qa Try.f29) 0 = [] := by kernel_rfl
theorem qxG : Try.f29.body = some (qa Try.f29) := by kernel_rfl
abbrev qmw : List Ar := [.d T24, .d T25]
abbrev qmx : List Ty := [T33]
noncomputable def qqM (n : Nat) (x : qy qmw) : Option (qk qmx) := (qj tab (qp9 n) (qqa n) (qa Try.f29) 0 (qH qmw 14 x)).run (qbX tab [.tmp 4] qmx)
noncomputable def qxH (n : Nat) : Ct Try.prog := ⟨29, qmw, .ts qmx, qqM n, fun _ _ h => qb1 (B := tab) (cs := qp9 n) (lo := qqa n) (rs := [.tmp 4]) Try.func29 (by kernel_rfl) qxG (by kernel_rfl) (by decide) (qh qxF qe) h⟩
end Go.Proofs.Ytcjgodgpaokbnaa
