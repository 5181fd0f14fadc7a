/- Printed: what functions of the program compute. -/
import Derived.Test.YtklkodbibffohaaGreatDnT
set_option linter.constructorNameAsVariable false
set_option linter.unusedSimpArgs false
set_option linter.unusedVariables false
set_option linter.unusedSectionVars false
namespace Go.Proofs.YtklkodbibffohaaGreat
open Go Go.Proofs Go.RowKit
set_option maxRecDepth 20000
noncomputable def qrM(n:Nat):CL Tryz.prog:=⟨[],[],0,fun _=>false⟩
noncomputable def qyv(n:Nat):Nat→St→PT (DEx×St):=fun _ _=>.fail
theorem qH9(n:Nat):qc (qrM n).c (qa Tryz.f54) 0=[]:=by kernel_rfl
theorem qIa:Tryz.f54.body=some (qa Tryz.f54):=by kernel_rfl
abbrev qsX:List Ar:=[.d T3,.d T3,.d T3]
abbrev qsY:List Ty:=[T4]
noncomputable def qzI(n:Nat)(x:qC qsX):Option (qk qsY):=(qh tab (qrM n) (qyv n) (qa Tryz.f54) 0 (qJ qsX 15 x)).run (qbM tab [.tmp 6] qsY)
noncomputable def qsZ(n:Nat):Ct Tryz.prog:=⟨54,qsX,.ts qsY,qzI n,fun _ _ h=>qbO (B:=tab) (cs:=qrM n) (lo:=qyv n) (rs:=[.tmp 6]) Tryz.func54 (by kernel_rfl) qIa (by kernel_rfl) (by decide) (qf (qH9 n) all_nil) h⟩
noncomputable def qht(n:Nat):CL Tryz.prog:=⟨[qsZ n],[],0,fun _=>false⟩
noncomputable def qwr(n:Nat):Nat→St→PT (DEx×St):=fun _ _=>.fail
abbrev qjB:List It:=[.v (.t 3) T3,.obj (.t 1) false 24 2,.v (.c 0 0) T24]
abbrev qmw:List (DEx×List It):=[(.exit 0,[.obj (.t 1) false 24 2,.v (.c 0 0) T24]),(.ret,[.v (.t 2) T4])]
noncomputable def qxE(n:Nat)(rec:qb qjB→Option (qg qmw))(s:qb qjB):Option (qg qmw):=(qh tab (qht n) (qwr n) (subC [true,false,true,false,false] (qa Tryz.f34)) 1 (mkS qjB 38 s)).run (Lp.leaf 38 qjB qmw rec)
noncomputable def qqP(n:Nat):Lp:=⟨38,qjB,qmw,qe n (qxE n)⟩
theorem qGo(n:Nat):qc (qht n).c (subC [true,false,true,false,false] (qa Tryz.f34)) 1=[]:=by kernel_rfl
theorem qDx(n:Nat)(st:St)(r:DEx×St)(h:((qqP n).go st).Is r):DA Tryz.prog false (.loop (subC [true,false,true,false,false] (qa Tryz.f34))) st r:=Lp.ok (L:=qqP n) (B:=tab) (cs:=qht n) (lo:=qwr n) (id:=0) rfl (qf (qGo n) all_nil) (fun _ _=>rfl) h
noncomputable def qxF(n:Nat):Nat→St→PT (DEx×St):=fun k st=>match k with
 | 0=>(qqP n).go st
 | _=>.fail
theorem qHp(n:Nat):qc (qht n).c (qa Tryz.f34) 0=[(0,.loop (subC [true,false,true,false,false] (qa Tryz.f34)))]:=by kernel_rfl
theorem qHq:Tryz.f34.body=some (qa Tryz.f34):=by kernel_rfl
abbrev qrN:List Ar:=[.d T24]
abbrev qrO:List Ty:=[T4]
noncomputable def qyw(n:Nat)(x:qC qrN):Option (qk qrO):=(qh tab (qht n) (qxF n) (qa Tryz.f34) 0 (qJ qrN 38 x)).run (qbM tab [.tmp 2] qrO)
noncomputable def qHr(n:Nat):Ct Tryz.prog:=⟨34,qrN,.ts qrO,qyw n,fun _ _ h=>qbO (B:=tab) (cs:=qht n) (lo:=qxF n) (rs:=[.tmp 2]) Tryz.func34 (by kernel_rfl) qHq (by kernel_rfl) (by decide) (qf (qHp n) (all_cons (fun st r h=>qDx n st r h) all_nil)) h⟩
noncomputable def qf2(n:Nat):CL Tryz.prog:=⟨[qsZ n],[],0,fun _=>false⟩
noncomputable def quT(n:Nat):Nat→St→PT (DEx×St):=fun _ _=>.fail
abbrev qii:List It:=[.v (.t 5) T3,.v (.t 6) T3,.obj (.t 2) false 24 2,.v (.c 0 0) T24,.obj (.t 3) false 44 5,.v (.c 1 0) T44]
abbrev qli:List (DEx×List It):=[(.exit 0,[]),(.ret,[.v (.t 4) T4])]
noncomputable def qvJ(n:Nat)(rec:qb qii→Option (qg qli))(s:qb qii):Option (qg qli):=(qh tab (qf2 n) (quT n) (subC [true,true,true,false,true,false,false] (qa Tryz.f55)) 1 (mkS qii 77 s)).run (Lp.leaf 77 qii qli rec)
noncomputable def qo2(n:Nat):Lp:=⟨77,qii,qli,qe n (qvJ n)⟩
theorem qEA(n:Nat):qc (qf2 n).c (subC [true,true,true,false,true,false,false] (qa Tryz.f55)) 1=[]:=by kernel_rfl
theorem qB7(n:Nat)(st:St)(r:DEx×St)(h:((qo2 n).go st).Is r):DA Tryz.prog false (.loop (subC [true,true,true,false,true,false,false] (qa Tryz.f55))) st r:=Lp.ok (L:=qo2 n) (B:=tab) (cs:=qf2 n) (lo:=quT n) (id:=0) rfl (qf (qEA n) all_nil) (fun _ _=>rfl) h
noncomputable def qvK(n:Nat):Nat→St→PT (DEx×St):=fun k st=>match k with
 | 0=>(qo2 n).go st
 | _=>.fail
theorem qE8(n:Nat):qc (qf2 n).c (qa Tryz.f55) 0=[(0,.loop (subC [true,true,true,false,true,false,false] (qa Tryz.f55)))]:=by kernel_rfl
theorem qE9:Tryz.f55.body=some (qa Tryz.f55):=by kernel_rfl
abbrev qpO:List Ar:=[.d T24,.d T44]
abbrev qpP:List Ty:=[T4]
noncomputable def qws(n:Nat)(x:qC qpO):Option (qk qpP):=(qh tab (qf2 n) (qvK n) (qa Tryz.f55) 0 (qJ qpO 77 x)).run (qbM tab [.tmp 4] qpP)
noncomputable def qFa(n:Nat):Ct Tryz.prog:=⟨55,qpO,.ts qpP,qws n,fun _ _ h=>qbO (B:=tab) (cs:=qf2 n) (lo:=qvK n) (rs:=[.tmp 4]) Tryz.func55 (by kernel_rfl) qE9 (by kernel_rfl) (by decide) (qf (qE8 n) (all_cons (fun st r h=>qB7 n st r h) all_nil)) h⟩
noncomputable def qfm(n:Nat):CL Tryz.prog:=⟨[qsZ n,qFa n],[],0,fun _=>false⟩
noncomputable def qs0(n:Nat):Nat→St→PT (DEx×St):=fun _ _=>.fail
abbrev qhi:List It:=[.v (.t 1) T25,.v (.t 5) T3,.obj (.t 2) false 24 2,.v (.c 0 0) T24]
abbrev qjX:List (DEx×List It):=[(.exit 0,[.v (.t 1) T25]),(.ret,[.v (.t 4) T4])]
noncomputable def qt1(n:Nat)(rec:qb qhi→Option (qg qjX))(s:qb qhi):Option (qg qjX):=(qh tab (qfm n) (qs0 n) (subC [true,false,true,false,false] (qa Tryz.f35)) 1 (mkS qhi 54 s)).run (Lp.leaf 54 qhi qjX rec)
noncomputable def qns(n:Nat):Lp:=⟨54,qhi,qjX,qe n (qt1 n)⟩
theorem qCW(n:Nat):qc (qfm n).c (subC [true,false,true,false,false] (qa Tryz.f35)) 1=[]:=by kernel_rfl
theorem qAq(n:Nat)(st:St)(r:DEx×St)(h:((qns n).go st).Is r):DA Tryz.prog false (.loop (subC [true,false,true,false,false] (qa Tryz.f35))) st r:=Lp.ok (L:=qns n) (B:=tab) (cs:=qfm n) (lo:=qs0 n) (id:=0) rfl (qf (qCW n) all_nil) (fun _ _=>rfl) h
noncomputable def qt2(n:Nat):Nat→St→PT (DEx×St):=fun k st=>match k with
 | 0=>(qns n).go st
 | _=>.fail
theorem qDy(n:Nat):qc (qfm n).c (qa Tryz.f35) 0=[(0,.loop (subC [true,false,true,false,false] (qa Tryz.f35)))]:=by kernel_rfl
theorem qDz:Tryz.f35.body=some (qa Tryz.f35):=by kernel_rfl
abbrev qog:List Ar:=[.d T24,.d T25]
abbrev qoh:List Ty:=[T4]
noncomputable def quU(n:Nat)(x:qC qog):Option (qk qoh):=(qh tab (qfm n) (qt2 n) (qa Tryz.f35) 0 (qJ qog 54 x)).run (qbM tab [.tmp 4] qoh)
noncomputable def qDA(n:Nat):Ct Tryz.prog:=⟨35,qog,.ts qoh,quU n,fun _ _ h=>qbO (B:=tab) (cs:=qfm n) (lo:=qt2 n) (rs:=[.tmp 4]) Tryz.func35 (by kernel_rfl) qDz (by kernel_rfl) (by decide) (qf (qDy n) (all_cons (fun st r h=>qAq n st r h) all_nil)) h⟩
noncomputable def qiD(n:Nat):CL Tryz.prog:=⟨[],[],0,fun _=>false⟩
noncomputable def qyx(n:Nat):Nat→St→PT (DEx×St):=fun _ _=>.fail
abbrev qkW:List It:=[.v (.t 5) T3,.obj (.t 2) false 44 5,.v (.c 0 0) T44,.obj (.t 3) false 44 5,.v (.c 1 0) T44]
abbrev qnU:List (DEx×List It):=[(.exit 0,[]),(.ret,[.v (.t 4) T4])]
noncomputable def qzJ(n:Nat)(rec:qb qkW→Option (qg qnU))(s:qb qkW):Option (qg qnU):=(qh tab (qiD n) (qyx n) (subC [true,true,false,true,false,false] (qa Tryz.f56)) 1 (mkS qkW 59 s)).run (Lp.leaf 59 qkW qnU rec)
noncomputable def qs1(n:Nat):Lp:=⟨59,qkW,qnU,qe n (qzJ n)⟩
theorem qIb(n:Nat):qc (qiD n).c (subC [true,true,false,true,false,false] (qa Tryz.f56)) 1=[]:=by kernel_rfl
theorem qFb(n:Nat)(st:St)(r:DEx×St)(h:((qs1 n).go st).Is r):DA Tryz.prog false (.loop (subC [true,true,false,true,false,false] (qa Tryz.f56))) st r:=Lp.ok (L:=qs1 n) (B:=tab) (cs:=qiD n) (lo:=qyx n) (id:=0) rfl (qf (qIb n) all_nil) (fun _ _=>rfl) h
noncomputable def qzK(n:Nat):Nat→St→PT (DEx×St):=fun k st=>match k with
 | 0=>(qs1 n).go st
 | _=>.fail
theorem qJx(n:Nat):qc (qiD n).c (qa Tryz.f56) 0=[(0,.loop (subC [true,true,false,true,false,false] (qa Tryz.f56)))]:=by kernel_rfl
theorem qJy:Tryz.f56.body=some (qa Tryz.f56):=by kernel_rfl
abbrev quh:List Ar:=[.d T44,.d T44]
abbrev qui:List Ty:=[T4]
noncomputable def qAr(n:Nat)(x:qC quh):Option (qk qui):=(qh tab (qiD n) (qzK n) (qa Tryz.f56) 0 (qJ quh 59 x)).run (qbM tab [.tmp 4] qui)
noncomputable def qJz(n:Nat):Ct Tryz.prog:=⟨56,quh,.ts qui,qAr n,fun _ _ h=>qbO (B:=tab) (cs:=qiD n) (lo:=qzK n) (rs:=[.tmp 4]) Tryz.func56 (by kernel_rfl) qJy (by kernel_rfl) (by decide) (qf (qJx n) (all_cons (fun st r h=>qFb n st r h) all_nil)) h⟩
noncomputable def qed(n:Nat):CL Tryz.prog:=⟨[qJz n],[],0,fun _=>false⟩
noncomputable def qyy(n:Nat):Nat→St→PT (DEx×St):=fun _ _=>.fail
abbrev qkX:List It:=[.v (.t 0) T25,.v (.t 3) T3,.v (.t 4) T3]
abbrev qnV:List (DEx×List It):=[(.exit 2,[.v (.t 0) T25,.v (.t 3) T3]),(.ret,[.v (.t 2) T4])]
noncomputable def qzL(n:Nat)(rec:qb qkX→Option (qg qnV))(s:qb qkX):Option (qg qnV):=(qh tab (qed n) (qyy n) (subC [true,false,true,false,false,true,false,false,true,false,false] (qa Tryz.f36)) 2 (mkS qkX 52 s)).run (Lp.leaf 52 qkX qnV rec)
noncomputable def qs2(n:Nat):Lp:=⟨52,qkX,qnV,qe n (qzL n)⟩
theorem qIc(n:Nat):qc (qed n).c (subC [true,false,true,false,false,true,false,false,true,false,false] (qa Tryz.f36)) 2=[]:=by kernel_rfl
theorem qFc(n:Nat)(st:St)(r:DEx×St)(h:((qs2 n).go st).Is r):DA Tryz.prog false (.loop (subC [true,false,true,false,false,true,false,false,true,false,false] (qa Tryz.f36))) st r:=Lp.ok (L:=qs2 n) (B:=tab) (cs:=qed n) (lo:=qyy n) (id:=1) rfl (qf (qIc n) all_nil) (fun _ _=>rfl) h
noncomputable def qyz(n:Nat):Nat→St→PT (DEx×St):=fun k st=>match k with
 | 1=>(qs2 n).go st
 | _=>.fail
abbrev qkY:List It:=[.v (.t 0) T25,.v (.t 3) T3]
abbrev qnW:List (DEx×List It):=[(.exit 0,[]),(.ret,[.v (.t 2) T4])]
noncomputable def qzM(n:Nat)(rec:qb qkY→Option (qg qnW))(s:qb qkY):Option (qg qnW):=(qh tab (qed n) (qyz n) (subC [true,false,true,false,false] (qa Tryz.f36)) 1 (mkS qkY 52 s)).run (Lp.leaf 52 qkY qnW rec)
noncomputable def qs3(n:Nat):Lp:=⟨52,qkY,qnW,qe n (qzM n)⟩
theorem qId(n:Nat):qc (qed n).c (subC [true,false,true,false,false] (qa Tryz.f36)) 1=[(1,.loop (subC [true,false,true,false,false,true,false,false,true,false,false] (qa Tryz.f36)))]:=by kernel_rfl
theorem qFd(n:Nat)(st:St)(r:DEx×St)(h:((qs3 n).go st).Is r):DA Tryz.prog false (.loop (subC [true,false,true,false,false] (qa Tryz.f36))) st r:=Lp.ok (L:=qs3 n) (B:=tab) (cs:=qed n) (lo:=qyz n) (id:=0) rfl (qf (qId n) (all_cons (fun st r h=>qFc n st r h) all_nil)) (fun _ _=>rfl) h
noncomputable def qzN(n:Nat):Nat→St→PT (DEx×St):=fun k st=>match k with
 | 0=>(qs3 n).go st
 | _=>.fail
theorem qJA(n:Nat):qc (qed n).c (qa Tryz.f36) 0=[(0,.loop (subC [true,false,true,false,false] (qa Tryz.f36)))]:=by kernel_rfl
theorem qJB:Tryz.f36.body=some (qa Tryz.f36):=by kernel_rfl
abbrev quj:List Ar:=[.d T25]
abbrev quk:List Ty:=[T4]
noncomputable def qAs(n:Nat)(x:qC quj):Option (qk quk):=(qh tab (qed n) (qzN n) (qa Tryz.f36) 0 (qJ quj 52 x)).run (qbM tab [.tmp 2] quk)
noncomputable def qJC(n:Nat):Ct Tryz.prog:=⟨36,quj,.ts quk,qAs n,fun _ _ h=>qbO (B:=tab) (cs:=qed n) (lo:=qzN n) (rs:=[.tmp 2]) Tryz.func36 (by kernel_rfl) qJB (by kernel_rfl) (by decide) (qf (qJA n) (all_cons (fun st r h=>qFd n st r h) all_nil)) h⟩
noncomputable def qs4(n:Nat):CL Tryz.prog:=⟨[qHr n,qDA n,qJC n],[],0,fun _=>false⟩
noncomputable def qzO(n:Nat):Nat→St→PT (DEx×St):=fun _ _=>.fail
theorem qJD(n:Nat):qc (qs4 n).c (qa Tryz.f17) 0=[]:=by kernel_rfl
theorem qJE:Tryz.f17.body=some (qa Tryz.f17):=by kernel_rfl
abbrev qul:List Ar:=[.d T24,.d T25]
abbrev qum:List Ty:=[T37]
noncomputable def qAt(n:Nat)(x:qC qul):Option (qk qum):=(qh tab (qs4 n) (qzO n) (qa Tryz.f17) 0 (qJ qul 14 x)).run (qbM tab [.tmp 4] qum)
noncomputable def qJF(n:Nat):Ct Tryz.prog:=⟨17,qul,.ts qum,qAt n,fun _ _ h=>qbO (B:=tab) (cs:=qs4 n) (lo:=qzO n) (rs:=[.tmp 4]) Tryz.func17 (by kernel_rfl) qJE (by kernel_rfl) (by decide) (qf (qJD n) all_nil) h⟩
noncomputable def qbG(n:Nat):CL Tryz.prog:=⟨[],[],0,fun _=>false⟩
noncomputable def qvL(n:Nat):Nat→St→PT (DEx×St):=fun _ _=>.fail
abbrev qiZ:List It:=[.v (.t 0) T25,.v (.t 4) T3,.v (.t 5) T3,.v (.t 6) T3,.row (.t 3) false T44 44]
abbrev qlK:List (DEx×List It):=[(.exit 4,[.v (.t 0) T25,.v (.t 4) T3,.v (.t 5) T3,.row (.t 3) false T44 44])]
noncomputable def qwt(n:Nat)(rec:qb qiZ→Option (qg qlK))(s:qb qiZ):Option (qg qlK):=(qh tab (qbG n) (qvL n) (subC [true,true,false,true,false,false,true,false,false,true,false,false,true,false,false,true,false,false] (qa Tryz.f26)) 3 (mkS qiZ 45 s)).run (Lp.leaf 45 qiZ qlK rec)
noncomputable def qpQ(n:Nat):Lp:=⟨45,qiZ,qlK,qe n (qwt n)⟩
theorem qFe(n:Nat):qc (qbG n).c (subC [true,true,false,true,false,false,true,false,false,true,false,false,true,false,false,true,false,false] (qa Tryz.f26)) 3=[]:=by kernel_rfl
theorem qCX(n:Nat)(st:St)(r:DEx×St)(h:((qpQ n).go st).Is r):DA Tryz.prog false (.loop (subC [true,true,false,true,false,false,true,false,false,true,false,false,true,false,false,true,false,false] (qa Tryz.f26))) st r:=Lp.ok (L:=qpQ n) (B:=tab) (cs:=qbG n) (lo:=qvL n) (id:=2) rfl (qf (qFe n) all_nil) (fun _ _=>rfl) h
noncomputable def qvM(n:Nat):Nat→St→PT (DEx×St):=fun k st=>match k with
 | 2=>(qpQ n).go st
 | _=>.fail
abbrev qi0:List It:=[.v (.t 0) T25,.v (.t 4) T3,.v (.t 5) T3,.row (.t 3) false T44 44]
abbrev qlL:List (DEx×List It):=[(.exit 2,[.v (.t 0) T25,.v (.t 4) T3,.row (.t 3) false T44 44])]
noncomputable def qwu(n:Nat)(rec:qb qi0→Option (qg qlL))(s:qb qi0):Option (qg qlL):=(qh tab (qbG n) (qvM n) (subC [true,true,false,true,false,false,true,false,false,true,false,false] (qa Tryz.f26)) 2 (mkS qi0 45 s)).run (Lp.leaf 45 qi0 qlL rec)
noncomputable def qpR(n:Nat):Lp:=⟨45,qi0,qlL,qe n (qwu n)⟩
theorem qFf(n:Nat):qc (qbG n).c (subC [true,true,false,true,false,false,true,false,false,true,false,false] (qa Tryz.f26)) 2=[(2,.loop (subC [true,true,false,true,false,false,true,false,false,true,false,false,true,false,false,true,false,false] (qa Tryz.f26)))]:=by kernel_rfl
theorem qCY(n:Nat)(st:St)(r:DEx×St)(h:((qpR n).go st).Is r):DA Tryz.prog false (.loop (subC [true,true,false,true,false,false,true,false,false,true,false,false] (qa Tryz.f26))) st r:=Lp.ok (L:=qpR n) (B:=tab) (cs:=qbG n) (lo:=qvM n) (id:=1) rfl (qf (qFf n) (all_cons (fun st r h=>qCX n st r h) all_nil)) (fun _ _=>rfl) h
noncomputable def qvN(n:Nat):Nat→St→PT (DEx×St):=fun k st=>match k with
 | 1=>(qpR n).go st
 | _=>.fail
abbrev qi1:List It:=[.v (.t 0) T25,.v (.t 4) T3,.row (.t 3) false T44 44]
abbrev qlM:List (DEx×List It):=[(.exit 0,[.row (.t 3) false T44 44])]
noncomputable def qwv(n:Nat)(rec:qb qi1→Option (qg qlM))(s:qb qi1):Option (qg qlM):=(qh tab (qbG n) (qvN n) (subC [true,true,false,true,false,false] (qa Tryz.f26)) 1 (mkS qi1 45 s)).run (Lp.leaf 45 qi1 qlM rec)
noncomputable def qpS(n:Nat):Lp:=⟨45,qi1,qlM,qe n (qwv n)⟩
theorem qFg(n:Nat):qc (qbG n).c (subC [true,true,false,true,false,false] (qa Tryz.f26)) 1=[(1,.loop (subC [true,true,false,true,false,false,true,false,false,true,false,false] (qa Tryz.f26)))]:=by kernel_rfl
theorem qCZ(n:Nat)(st:St)(r:DEx×St)(h:((qpS n).go st).Is r):DA Tryz.prog false (.loop (subC [true,true,false,true,false,false] (qa Tryz.f26))) st r:=Lp.ok (L:=qpS n) (B:=tab) (cs:=qbG n) (lo:=qvN n) (id:=0) rfl (qf (qFg n) (all_cons (fun st r h=>qCY n st r h) all_nil)) (fun _ _=>rfl) h
noncomputable def qww(n:Nat):Nat→St→PT (DEx×St):=fun k st=>match k with
 | 0=>(qpS n).go st
 | _=>.fail
theorem qGp(n:Nat):qc (qbG n).c (qa Tryz.f26) 0=[(0,.loop (subC [true,true,false,true,false,false] (qa Tryz.f26)))]:=by kernel_rfl
theorem qGq:Tryz.f26.body=some (qa Tryz.f26):=by kernel_rfl
abbrev qqQ:List Ar:=[.d T25]
abbrev qqR:List Ty:=[T25]
noncomputable def qxG(n:Nat)(x:qC qqQ):Option (qk qqR):=(qh tab (qbG n) (qww n) (qa Tryz.f26) 0 (qJ qqQ 45 x)).run (qbM tab [.tmp 2] qqR)
noncomputable def qGr(n:Nat):Ct Tryz.prog:=⟨26,qqQ,.ts qqR,qxG n,fun _ _ h=>qbO (B:=tab) (cs:=qbG n) (lo:=qww n) (rs:=[.tmp 2]) Tryz.func26 (by kernel_rfl) qGq (by kernel_rfl) (by decide) (qf (qGp n) (all_cons (fun st r h=>qCZ n st r h) all_nil)) h⟩
noncomputable def qee(n:Nat):CL Tryz.prog:=⟨[qGr n],[],0,fun _=>false⟩
noncomputable def qyA(n:Nat):Nat→St→PT (DEx×St):=fun _ _=>.fail
abbrev qkZ:List It:=[.v (.t 3) T25,.v (.t 5) T3,.v (.t 7) T3,.obj (.t 6) false 44 5,.v (.c 0 0) T44,.row (.t 4) false T44 44]
abbrev qnX:List (DEx×List It):=[(.exit 2,[.v (.t 3) T25,.v (.t 5) T3,.v (.t 7) T3,.obj (.t 6) false 44 5,.v (.c 0 0) T44,.row (.t 4) false T44 44])]
noncomputable def qzP(n:Nat)(rec:qb qkZ→Option (qg qnX))(s:qb qkZ):Option (qg qnX):=(qh tab (qee n) (qyA n) (subC [true,true,true,false,true,false,false,true,false,false,true,true,true,false,false,false] (qa Tryz.f10)) 2 (mkS qkZ 88 s)).run (Lp.leaf 88 qkZ qnX rec)
noncomputable def qs5(n:Nat):Lp:=⟨88,qkZ,qnX,qe n (qzP n)⟩
theorem qIe(n:Nat):qc (qee n).c (subC [true,true,true,false,true,false,false,true,false,false,true,true,true,false,false,false] (qa Tryz.f10)) 2=[]:=by kernel_rfl
theorem qFh(n:Nat)(st:St)(r:DEx×St)(h:((qs5 n).go st).Is r):DA Tryz.prog false (.loop (subC [true,true,true,false,true,false,false,true,false,false,true,true,true,false,false,false] (qa Tryz.f10))) st r:=Lp.ok (L:=qs5 n) (B:=tab) (cs:=qee n) (lo:=qyA n) (id:=1) rfl (qf (qIe n) all_nil) (fun _ _=>rfl) h
noncomputable def qyB(n:Nat):Nat→St→PT (DEx×St):=fun k st=>match k with
 | 1=>(qs5 n).go st
 | _=>.fail
abbrev qk0:List It:=[.v (.t 3) T25,.v (.t 5) T3,.row (.t 4) false T44 44]
abbrev qnY:List (DEx×List It):=[(.exit 0,[.row (.t 4) false T44 44])]
noncomputable def qzQ(n:Nat)(rec:qb qk0→Option (qg qnY))(s:qb qk0):Option (qg qnY):=(qh tab (qee n) (qyB n) (subC [true,true,true,false,true,false,false] (qa Tryz.f10)) 1 (mkS qk0 88 s)).run (Lp.leaf 88 qk0 qnY rec)
noncomputable def qs6(n:Nat):Lp:=⟨88,qk0,qnY,qe n (qzQ n)⟩
theorem qIf(n:Nat):qc (qee n).c (subC [true,true,true,false,true,false,false] (qa Tryz.f10)) 1=[(1,.loop (subC [true,true,true,false,true,false,false,true,false,false,true,true,true,false,false,false] (qa Tryz.f10)))]:=by kernel_rfl
theorem qFi(n:Nat)(st:St)(r:DEx×St)(h:((qs6 n).go st).Is r):DA Tryz.prog false (.loop (subC [true,true,true,false,true,false,false] (qa Tryz.f10))) st r:=Lp.ok (L:=qs6 n) (B:=tab) (cs:=qee n) (lo:=qyB n) (id:=0) rfl (qf (qIf n) (all_cons (fun st r h=>qFh n st r h) all_nil)) (fun _ _=>rfl) h
noncomputable def qzR(n:Nat):Nat→St→PT (DEx×St):=fun k st=>match k with
 | 0=>(qs6 n).go st
 | _=>.fail
theorem qJG(n:Nat):qc (qee n).c (qa Tryz.f10) 0=[(0,.loop (subC [true,true,true,false,true,false,false] (qa Tryz.f10)))]:=by kernel_rfl
theorem qJH:Tryz.f10.body=some (qa Tryz.f10):=by kernel_rfl
abbrev qun:List Ar:=[.d T25]
abbrev qup:List Ty:=[T25]
noncomputable def qAu(n:Nat)(x:qC qun):Option (qk qup):=(qh tab (qee n) (qzR n) (qa Tryz.f10) 0 (qJ qun 88 x)).run (qbM tab [.tmp 2] qup)
noncomputable def qJI(n:Nat):Ct Tryz.prog:=⟨10,qun,.ts qup,qAu n,fun _ _ h=>qbO (B:=tab) (cs:=qee n) (lo:=qzR n) (rs:=[.tmp 2]) Tryz.func10 (by kernel_rfl) qJH (by kernel_rfl) (by decide) (qf (qJG n) (all_cons (fun st r h=>qFi n st r h) all_nil)) h⟩
end Go.Proofs.YtklkodbibffohaaGreat
