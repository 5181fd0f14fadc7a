/- Texts Dl5, Dl6, Dl7 in one. -/
import Derived.Test.YtbdockhccdkdiaaDl3
import Derived.Test.YtbdockhccdkdiaaLb
/- Ropes: what posts are valid: the program and the reference alike. -/
set_option linter.constructorNameAsVariable false
set_option linter.unusedSimpArgs false
set_option linter.unusedVariables false
set_option linter.unusedSectionVars false
namespace Go.Proofs.Ytbdockhccdkdiaa
open Go Go.Proofs Go.RowKit
set_option maxHeartbeats 1000000
abbrev qG:=Int×(Int×Int)
def pO(t:qG):Post:=⟨t.1,t.2.1,t.2.2⟩
def pL(l:List qG):List Post:=l.map pO
theorem qcy(l:List qG):(pL l).length=l.length:=by unfold pL;simp
theorem qkf(l:List qG)(k:Nat)(h:k<l.length):(pL l)[k]?=some (pO l[k]):=by unfold pL;rw[List.getElem?_map,List.getElem?_eq_getElem h];rfl
theorem qk5(n:Nat)(x lo hi:Int):qdW n (x,(lo,(hi,())))=some (qD x lo hi,()):=by
 rw[qlz]
 unfold qD
 show cond (decide (lo≤x)) _ _=_
 cases decide (lo≤x)<;>rfl
theorem qqC(n:Nat)(s:Int×Int)(lo hi:Int):qgR n (s,(lo,(hi,())))=some (qc4 s.1 s.2 lo hi,()):=by
 rw[qkZ]
 unfold qc4
 show cond (decide (lo≤s.1)) (cond (decide (s.1≤s.2)) _ _) _=_
 cases decide (lo≤s.1)<;>cases decide (s.1≤s.2)<;>rfl
theorem qmW(n:Nat)(x lo hi:Int):qdF n (x,(lo,(hi,())))=some (qD x lo hi,()):=by
 rw[qis]
 unfold qD
 show cond (decide (x≥lo)) _ _=_
 by_cases h:lo≤x<;>simp[h]
theorem qsV(n:Nat)(s:Int×Int)(lo hi:Int):qdG n (s,(lo,(hi,())))=some (qc4 s.1 s.2 lo hi,()):=by
 rw[qit]
 unfold qc4
 show cond (decide (s.1≥lo)) (cond (decide (s.1≤s.2)) _ _) _=_
 by_cases h:lo≤s.1<;>by_cases h2:s.1≤s.2<;>simp[h,h2]
theorem qfM(l:List Post)(k:Nat):qbE l (k+1)=(qbE l k&&qmR l k):=by unfold qbE;rw[List.range_succ,List.all_append];simp
theorem qgY{l:List Post}{k n:Nat}(h:k≤n)(h2:qbE l n=true):qbE l k=true:=by
 unfold qbE at *
 rw[List.all_eq_true] at *
 intro i hi
 exact h2 i (by simp at hi ⊢;omega)
theorem qlP{l:List Post}{k n:Nat}(h:k≤n)(h2:qbE l k=false):qbE l n=false:=by
 cases h3:qbE l n with
 | false=>rfl
 | true=>rw[qgY h h3] at h2;cases h2
theorem qhJ(l:List Post)(k:Nat)(h:k<l.length):qmR l k=(qD l[k].at_ (qcM l k+1) 100000&&qc4 l[k].lo l[k].hi 0 100):=by unfold qmR;rw[List.getElem?_eq_getElem h]
theorem qhw(l:List Post)(k:Nat)(h:k<l.length):qcM l (k+1)=l[k].at_:=by unfold qcM;simp[h]
theorem qdy{n lo hi:Int}(h:qD n lo hi=true):lo≤n∧n≤hi:=by unfold qD at h;simpa using h
theorem qnY{a b lo hi:Int}(h:qc4 a b lo hi=true):lo≤a∧a≤b∧b≤hi:=by
 unfold qc4 at h
 simp only[Bool.and_eq_true,decide_eq_true_eq] at h
 omega
theorem qk6{l:List Post}{k:Nat}(hk:k≤l.length)(h:qbE l k=true):-1≤qcM l k∧qcM l k≤100000:=by
 induction k with
 | zero=>unfold qcM;simp
 | succ k ih =>
  rw[qfM,Bool.and_eq_true] at h
  obtain ⟨h1,h2⟩:=h
  have hi:=ih (by omega) h1
  rw[qhJ l k (by omega),Bool.and_eq_true] at h2
  have a:=qdy h2.1
  rw[qhw l k (by omega)]
  omega
theorem qo4{l:List Post}(h:qbE l l.length=true){k:Nat}(hk:k<l.length):(0≤l[k].at_∧l[k].at_≤100000)∧(0≤l[k].lo∧l[k].lo≤l[k].hi∧l[k].hi≤100):=by
 have h1:=qgY (k:=k) (by omega) h
 have h2:=qgY (k:=k+1) (by omega) h
 rw[qfM,Bool.and_eq_true,qhJ l k hk,Bool.and_eq_true] at h2
 have h3:=qk6 (by omega) h1
 have h4:=qdy h2.2.1
 have h5:=qnY h2.2.2
 omega
theorem cp1(n:Nat)(t:qG)(last:Int)(h:-1≤last∧last≤100000):qbP n (t,(last,()))=some (!(qD t.1 (last+1) 100000&&qc4 t.2.1 t.2.2 0 100),(t.1,())):=by
 rw[qev,qiu]
 simp only[show iW (iAdd last 1)=last+1 from qef (by unfold iAdd;omega) (by unfold iAdd;omega),qk5,Option.bind_some]
 cases qD t.1 (last+1) 100000 with
 | false=>rfl
 | true=>simp only[cond_true,qqC,Option.bind_some,Bool.true_and]
theorem qtS(n:Nat)(l:List qG)(hL:l.length<100):∀(j k:Nat) (m:Nat),k+j=l.length→j<m→qbE (pL l) k=true →
  ∃u:Int,(qbE (pL l) l.length=true∧qm m (qr n) (l,((l.length:Int),((k:Int),(qcM (pL l) k,()))))=some (.inl (u,()))) ∨
   (qbE (pL l) l.length=false∧∃i:Nat,qm m (qr n) (l,((l.length:Int),((k:Int),(qcM (pL l) k,()))))=some (.inr ((i:Int),(u,())))):=by
 intro j
 induction j with
 | zero =>
  intro k m hk hm hp
  obtain ⟨m,rfl⟩:∃j,m=j+1:=⟨m-1,by omega⟩
  refine ⟨qcM (pL l) k,.inl ⟨by rw[show l.length=k by omega];exact hp,?_⟩⟩
  rw[qn,qS]
  simp only[show iLt (k:Int) (l.length:Int)=false from decide_eq_false (by omega),cond_false]
 | succ j ih =>
  intro k m hk hm hp
  obtain ⟨m,rfl⟩:∃j,m=j+1:=⟨m-1,by omega⟩
  have hkl:k<l.length:=by omega
  have hkp:k<(pL l).length:=by rw[qcy];exact hkl
  have hat:(pL l)[k]=pO l[k]:=by have:=qkf l k hkl;rw[List.getElem?_eq_getElem hkp] at this;injection this
  have hbd:=qk6 (l:=pL l) (k:=k) (by omega) hp
  have hok:=qhJ (pL l) k hkp
  rw[hat] at hok
  rw[qn,qS]
  simp only[show iLt (k:Int) (l.length:Int)=true from decide_eq_true (by omega),cond_true,qds l hkl,Option.bind_some,cp1 n l[k] _ hbd,qcf (show k<9223372036854775807 by omega)]
  have hs:=qfM (pL l) k
  rw[hp,Bool.true_and,hok] at hs
  change qbE (pL l) (k+1)=(qD l[k].1 (qcM (pL l) k+1) 100000&&qc4 l[k].2.1 l[k].2.2 0 100) at hs
  cases hx:(qD l[k].1 (qcM (pL l) k+1) 100000&&qc4 l[k].2.1 l[k].2.2 0 100) with
  | true =>
   rw[hx] at hs
   have:=ih (k+1) m (by omega) (by omega) hs
   rw[qhw (pL l) k hkp,hat] at this
   exact this
  | false =>
   rw[hx] at hs
   exact ⟨l[k].1,.inr ⟨qlP (by omega) hs,k,rfl⟩⟩
theorem qkn(n:Nat)(l:List qG)(told:Bool)(hn:100≤n):qdv n (l,(told,()))=some (qe6 (pL l) told,()):=by
 rw[qjC]
 unfold qe6 qdK
 rw[qcy]
 by_cases h8:l.length≤8
 ·simp only[show iGt (l.length:Int) 8=false from decide_eq_false (by omega),cond_false,qeN,qcd,qcj]
  obtain ⟨u,⟨h1,h2⟩ | ⟨h1,i,h2⟩⟩:=qtS n l (by omega) l.length 0 n (by omega) (by omega) rfl
  ·rw[show ((0:Nat):Int)=0 from rfl,show qcM (pL l) 0=Int.negSucc 0 from rfl] at h2
   rw[h2,h1]
   simp only[Option.bind_some,Sum.elim_inl,show iGe (Int.negSucc 0) 0=false from rfl,h8,decide_true]
   cases told<;>rfl
  ·rw[show ((0:Nat):Int)=0 from rfl,show qcM (pL l) 0=Int.negSucc 0 from rfl] at h2
   rw[h2,h1]
   simp only[Option.bind_some,Sum.elim_inr,show iGe (i:Int) 0=true from decide_eq_true (by omega),h8,decide_true]
   rfl
 ·simp only[show iGt (l.length:Int) 8=true from decide_eq_true (by omega),cond_true,h8,decide_false]
  rfl
theorem qsW(n:Nat)(l:List qG)(hL:l.length<100):∀(j k:Nat) (m:Nat),k+j=l.length→j<m→qbE (pL l) k=true →
  qm m (qcP n) (l,((k:Int),()))=some (if qbE (pL l) l.length=true then .inl (l,()) else .inr (false,())):=by
 intro j
 induction j with
 | zero =>
  intro k m hk hm hp
  obtain ⟨m,rfl⟩:∃j,m=j+1:=⟨m-1,by omega⟩
  rw[qn,qeM]
  simp only[show iLt (k:Int) (l.length:Int)=false from decide_eq_false (by omega),cond_false]
  rw[show l.length=k by omega,if_pos hp]
 | succ j ih =>
  intro k m hk hm hp
  obtain ⟨m,rfl⟩:∃j,m=j+1:=⟨m-1,by omega⟩
  have hkl:k<l.length:=by omega
  have hkp:k<(pL l).length:=by rw[qcy];exact hkl
  have hat:(pL l)[k]=pO l[k]:=by have:=qkf l k hkl;rw[List.getElem?_eq_getElem hkp] at this;injection this
  have hok:=qhJ (pL l) k hkp
  rw[hat] at hok
  have hs:=qfM (pL l) k
  rw[hp,Bool.true_and,hok] at hs
  change qbE (pL l) (k+1)=(qD l[k].1 (qcM (pL l) k+1) 100000&&qc4 l[k].2.1 l[k].2.2 0 100) at hs
  have hbd:=qk6 (l:=pL l) (k:=k) (by omega) hp
  have bad:qbE (pL l) (k+1)=false→qbE (pL l) l.length=false:=fun h=>qlP (by omega) h
  rw[qn,qeM]
  simp only[show iLt (k:Int) (l.length:Int)=true from decide_eq_true (by omega),cond_true,qds l hkl,Option.bind_some,qmW,qsV]
  have fin:qD l[k].1 0 100000=true→qD l[k].1 (qcM (pL l) k+1) 100000=true→(cond (!qc4 l[k].2.1 l[k].2.2 0 100) (some (Sum.inr (false,()))) (qm m (qcP n) (l,(iW (iAdd (k:Int) 1),()))):Option (((List qG)×Unit)⊕(Bool×Unit)))=some (if qbE (pL l) l.length=true then .inl (l,()) else .inr (false,())):=fun _ h2=>by
   rw[h2,Bool.true_and] at hs
   cases ho:qc4 l[k].2.1 l[k].2.2 0 100 with
   | true =>
    rw[ho] at hs
    rw[qcf (show k<9223372036854775807 by omega)]
    exact ih (k+1) m (by omega) (by omega) hs
   | false =>
    rw[ho] at hs
    rw[bad hs]
    rfl
  cases hw:qD l[k].1 0 100000 with
  | false =>
   have:qD l[k].1 (qcM (pL l) k+1) 100000=false:=by
    unfold qD at hw ⊢
    simp only[Bool.and_eq_false_iff,decide_eq_false_iff_not] at hw ⊢
    omega
   rw[this,Bool.false_and] at hs
   rw[bad hs]
   rfl
  | true =>
   have hwt:=qdy hw
   simp only[Bool.not_true,cond_false]
   cases k with
   | zero =>
    simp only[show iGt ((0:Nat):Int) 0=false from rfl,cond_false]
    refine fin hw ?_
    rw[show qcM (pL l) 0 = -1 from rfl]
    exact hw
   | succ k =>
    have hpv:qcM (pL l) (k+1)=l[k].1:=by
     have hk2:k<(pL l).length:=by omega
     rw[qhw (pL l) k hk2]
     have:=qkf l k (by omega)
     rw[List.getElem?_eq_getElem hk2] at this
     injection this with this
     rw[this];rfl
    simp only[show iGt ((k+1:Nat):Int) 0=true from decide_eq_true (by omega),cond_true,qnh (show k<9223372036854775807 by omega),qds l (show k<l.length by omega),Option.bind_some]
    cases hle:iLe l[k+1].1 l[k].1 with
    | true =>
     have hle':l[k+1].1≤l[k].1:=of_decide_eq_true hle
     have:qD l[k+1].1 (qcM (pL l) (k+1)+1) 100000=false:=by
      rw[hpv]
      unfold qD
      simp only[Bool.and_eq_false_iff,decide_eq_false_iff_not]
      omega
     rw[this,Bool.false_and] at hs
     rw[bad hs]
     rfl
    | false =>
     have hle':¬l[k+1].1≤l[k].1:=of_decide_eq_false hle
     simp only[cond_false]
     refine fin hw ?_
     rw[hpv]
     unfold qD
     simp only[Bool.and_eq_true,decide_eq_true_eq]
     omega
theorem qjF(n:Nat)(l:List qG)(limit:Int)(told:Bool)(hL:l.length<100)(hn:200≤n):qcQ n (l,(limit,(told,())))=some (qe6 (pL l) (qD limit 0 1000&&told),()):=by
 have h:=qsW n l hL l.length 0 n (by omega) (by omega) rfl
 rw[show ((0:Nat):Int)=0 from rfl] at h
 rw[qhj,qhO]
 rw[h]
 unfold qe6 qdK
 rw[qcy]
 cases hp:qbE (pL l) l.length with
 | false =>
  rw[Bool.and_false]
  rfl
 | true =>
  rw[if_pos rfl]
  simp only[Option.bind_some,Sum.elim_inl,Bool.and_true,qmW]
  show cond (!decide ((l.length:Int)≤8)) _ _=_
  by_cases h8:l.length≤8
  ·rw[show decide ((l.length:Int)≤8)=true from decide_eq_true (by omega),show decide (l.length≤8)=true from decide_eq_true h8]
   cases qD limit 0 1000<;>cases told<;>rfl
  ·rw[show decide ((l.length:Int)≤8)=false from decide_eq_false (by omega),show decide (l.length≤8)=false from decide_eq_false h8]
   rfl
def PBd(l:List qG):Prop:=∀t,t∈l→(0≤t.1∧t.1≤100000)∧(0≤t.2.1∧t.2.1≤100)∧(0≤t.2.2∧t.2.2≤100)
theorem qrE(l:List Post)(limit years:Int)(i j:Nat)(hi:i<l.length)(hj:j<l.length):rowB l limit years i (j+1)=(rowB l limit years i j && !qgV l[i] l[j] limit years):=by
 unfold rowB
 rw[List.range_succ,List.any_append]
 simp[List.getElem?_eq_getElem hi,List.getElem?_eq_getElem hj]
theorem qsX{l:List Post}{limit years:Int}{i j k:Nat}(h:j≤k)(h2:rowB l limit years i j=false):rowB l limit years i k=false:=by
 unfold rowB at *
 rw[Bool.not_eq_false',List.any_eq_true] at *
 obtain ⟨x,hx,h3⟩:=h2
 exact ⟨x,by rw[List.mem_range] at *;omega,h3⟩
theorem qo5(l:List Post)(limit years:Int)(k:Nat):qfg l limit years (k+1)=(qfg l limit years k&&rowB l limit years k k):=by unfold qfg;rw[List.range_succ,List.all_append];simp
theorem qpt{l:List Post}{limit years:Int}{j k:Nat}(h:j≤k)(h2:qfg l limit years j=false):qfg l limit years k=false:=by
 unfold qfg at *
 cases h3:(List.range k).all fun k=>rowB l limit years k k with
 | false=>rfl
 | true =>
  rw[List.all_eq_true] at h3
  have:((List.range j).all fun k=>rowB l limit years k k)=true:=List.all_eq_true.2 fun x hx=>h3 x (by rw[List.mem_range] at *;omega)
  rw[this] at h2
  cases h2
theorem qrF{a b A B:Int}(h1:0≤a)(h2:a≤A)(h3:0≤b)(h4:b≤B):0≤a*b∧a*b≤A*B :=
 ⟨Int.mul_nonneg h1 h3,Int.le_trans (Int.mul_le_mul_of_nonneg_right h2 h3) (Int.mul_le_mul_of_nonneg_left h4 (by omega))⟩
theorem qlq{a b A B:Int}(h1:0≤a)(h2:a≤A)(h3:-B≤b)(h4:b≤B)(hB:0≤B):-(A*B)≤a*b∧a*b≤A*B:=by
 rcases Int.le_total 0 b with h | h
 ·have:=qrF h1 h2 h h4
  have:0≤A*B:=Int.mul_nonneg (by omega) hB
  omega
 ·have:=qrF h1 h2 (show 0≤-b by omega) (show -b≤B by omega)
  rw[Int.mul_neg] at this
  omega
theorem qpY(a b:Int):iMax a b=max a b:=by
 unfold iMax
 split<;>omega
theorem qui(a b:qG)(limit years:Int)(ha:(0≤a.1∧a.1≤100000)∧(0≤a.2.1∧a.2.1≤100)∧(0≤a.2.2∧a.2.2≤100))(hb:(0≤b.1∧b.1≤100000)∧(0≤b.2.1∧b.2.1≤100)∧(0≤b.2.2∧b.2.2≤100))(hl:0≤limit∧limit≤1000)(hy:0≤years∧years≤1000) :
  iGt (iW (iMul (iW (iMul (iMax (iW (iSub a.2.2 b.2.1)) (iW (iSub b.2.2 a.2.1))) years)) (1000:Int))) (iW (iMul limit (iW (iSub a.1 b.1))))=qgV (pO a) (pO b) limit years:=by
 rw[show iW (iSub a.2.2 b.2.1)=a.2.2-b.2.1 from qef (by unfold iSub;omega) (by unfold iSub;omega),show iW (iSub b.2.2 a.2.1)=b.2.2-a.2.1 from qef (by unfold iSub;omega) (by unfold iSub;omega),show iW (iSub a.1 b.1)=a.1-b.1 from qef (by unfold iSub;omega) (by unfold iSub;omega)]
 have hm:-100≤max (a.2.2-b.2.1) (b.2.2-a.2.1)∧max (a.2.2-b.2.1) (b.2.2-a.2.1)≤100:=by omega
 have h1:=qlq hy.1 hy.2 hm.1 hm.2 (by decide)
 have h2:=qlq hl.1 hl.2 (show -100000≤a.1-b.1 by omega) (show a.1-b.1≤100000 by omega) (by decide)
 rw[Int.mul_comm years] at h1
 rw[qpY]
 have e1:iW (iMul (max (a.2.2-b.2.1) (b.2.2-a.2.1)) years)=max (a.2.2-b.2.1) (b.2.2-a.2.1)*years:=qef (by show _≤max (a.2.2-b.2.1) (b.2.2-a.2.1)*years;omega) (by show max (a.2.2-b.2.1) (b.2.2-a.2.1)*years≤_;omega)
 rw[e1]
 have e2:iW (iMul (max (a.2.2-b.2.1) (b.2.2-a.2.1)*years) 1000)=max (a.2.2-b.2.1) (b.2.2-a.2.1)*years*1000:=qef (by unfold iMul;omega) (by unfold iMul;omega)
 have e3:iW (iMul limit (a.1-b.1))=limit*(a.1-b.1):=qef (by unfold iMul;omega) (by unfold iMul;omega)
 rw[e2,e3]
 rfl
theorem qsY(n:Nat)(l:List qG)(limit years:Int)(hb:PBd l)(hl:0≤limit∧limit≤1000)(hy:0≤years∧years≤1000)(hL:l.length<100)(i:Nat)(hi:i<l.length):∀(j k:Nat) (m:Nat),k+j=i→j<m→rowB (pL l) limit years i k=true →
  qm m (qgS n) (l,(limit,(years,(l,((l.length:Int),((i:Int),(l.take i,((i:Int),((k:Int),(l[i],()))))))))))=some (if rowB (pL l) limit years i i=true then .inl (l,(limit,(years,(l,((l.length:Int),((i:Int),())))))) else .inr (false,())):=by
 intro j
 induction j with
 | zero =>
  intro k m hk hm hp
  obtain ⟨m,rfl⟩:∃j,m=j+1:=⟨m-1,by omega⟩
  have:k=i:=by omega
  subst this
  rw[qn,qhF]
  simp only[show iLt (k:Int) (k:Int)=false from decide_eq_false (by omega),cond_false]
  rw[if_pos hp]
 | succ j ih =>
  intro k m hk hm hp
  obtain ⟨m,rfl⟩:∃j,m=j+1:=⟨m-1,by omega⟩
  have hkl:k<l.length:=by omega
  have hat:∀q (hq:q<l.length) (hq':q<(pL l).length),(pL l)[q]=pO l[q]:=fun q hq hq'=>by have:=qkf l q hq;rw[List.getElem?_eq_getElem hq'] at this;injection this
  have hs:=qrE (pL l) limit years i k (by rw[qcy];exact hi) (by rw[qcy];exact hkl)
  rw[hp,Bool.true_and,hat i hi,hat k hkl] at hs
  have hlt:lat (l.take i) (k:Int)=some l[k]:=by rw[qid,List.getElem?_take,if_pos (by omega),List.getElem?_eq_getElem hkl]
  rw[qn,qhF]
  simp only[show iLt (k:Int) (i:Int)=true from decide_eq_true (by omega),cond_true,hlt,Option.bind_some,qui l[i] l[k] limit years (hb _ (List.getElem_mem hi)) (hb _ (List.getElem_mem hkl)) hl hy,qcf (show k<9223372036854775807 by omega)]
  cases ht:qgV (pO l[i]) (pO l[k]) limit years with
  | true =>
   rw[ht] at hs
   rw[qsX (j:=k+1) (k:=i) (by omega) hs]
   rfl
  | false =>
   rw[ht] at hs
   exact ih (k+1) m (by omega) (by omega) hs
theorem qrG(n:Nat)(l:List qG)(limit years:Int)(hb:PBd l)(hl:0≤limit∧limit≤1000)(hy:0≤years∧years≤1000)(hL:l.length<100)(hn:200≤n):∀(j k:Nat) (m:Nat),k+j=l.length→j<m→qfg (pL l) limit years k=true →
  qm m (qgT n) (l,(limit,(years,(l,((l.length:Int),((k:Int),()))))))=some (if qce (pL l) limit years=true then .inl () else .inr (false,())):=by
 intro j
 induction j with
 | zero =>
  intro k m hk hm hp
  obtain ⟨m,rfl⟩:∃j,m=j+1:=⟨m-1,by omega⟩
  rw[qn,qhG]
  simp only[show iLt (k:Int) (l.length:Int)=false from decide_eq_false (by omega),cond_false]
  unfold qce
  rw[qcy,show l.length=k by omega,if_pos hp]
 | succ j ih =>
  intro k m hk hm hp
  obtain ⟨m,rfl⟩:∃j,m=j+1:=⟨m-1,by omega⟩
  have hkl:k<l.length:=by omega
  have hs:=qo5 (pL l) limit years k
  rw[hp,Bool.true_and] at hs
  have hc:cutO l.length (k:Int)=some k:=by unfold cutO;simp;omega
  have hin:=qsY n l limit years hb hl hy hL k hkl k 0 n (by omega) (by omega) rfl
  rw[show ((0:Nat):Int)=0 from rfl] at hin
  rw[qn,qhG]
  simp only[show iLt (k:Int) (l.length:Int)=true from decide_eq_true (by omega),cond_true,qds l hkl,Option.bind_some,hc,show (l.take k).length=k by rw[List.length_take];omega,hin]
  cases hr:rowB (pL l) limit years k k with
  | true =>
   rw[hr] at hs
   simp only[if_true,Sum.elim_inl,qcf (show k<9223372036854775807 by omega)]
   exact ih (k+1) m (by omega) (by omega) hs
  | false =>
   rw[hr] at hs
   have:qce (pL l) limit years=false:=qpt (j:=k+1) (by rw[qcy];omega) hs
   rw[this]
   rfl
theorem qo6(n:Nat)(l:List qG)(limit years:Int)(hb:PBd l)(hl:0≤limit∧limit≤1000)(hy:0≤years∧years≤1000)(hL:l.length<100)(hn:200≤n):qgd n (l,(limit,(years,())))=some (qce (pL l) limit years,()):=by
 have h:=qrG n l limit years hb hl hy hL hn l.length 0 n (by omega) (by omega) rfl
 rw[show ((0:Nat):Int)=0 from rfl] at h
 rw[qmb]
 rw[h]
 cases qce (pL l) limit years<;>rfl
theorem qfN(l:List Post)(told:Bool):qe6 l told=94∨qe6 l told=1∨(qe6 l told=0∧qdK l=true∧told=true):=by
 unfold qe6
 cases qdK l<;>cases told<;>simp
theorem qhm{l:List qG}(h:qdK (pL l)=true):l.length≤8∧qbE (pL l) (pL l).length=true:=by
 unfold qdK at h
 rw[Bool.and_eq_true,decide_eq_true_eq,qcy] at h
 exact ⟨h.1,by rw[qcy];exact h.2⟩
theorem qo7(l:List qG)(q:Nat)(hq:q<l.length)(hq':q<(pL l).length):(pL l)[q]=pO l[q]:=by
 have:=qkf l q hq
 rw[List.getElem?_eq_getElem hq'] at this
 injection this
theorem qo8{l:List qG}(h:qdK (pL l)=true):PBd l:=fun t ht=>by
 obtain ⟨k,hk,rfl⟩:=List.getElem_of_mem ht
 have h1:=qo4 (qhm h).2 (k:=k) (by rw[qcy];exact hk)
 rw[qo7 l k hk] at h1
 change (0≤l[k].1∧l[k].1≤100000)∧(0≤l[k].2.1∧l[k].2.1≤l[k].2.2∧l[k].2.2≤100) at h1
 omega
theorem qqD(n:Nat)(l:List qG)(limit:Int)(hb:PBd l)(hl:0≤limit∧limit≤1000)(hL:l.length<100)(hn:200≤n):∀(k y m:Nat),y+k=100→k<m →
  qm m (qgU n) (l,(limit,((y:Int),())))=some (((qfr (fun y=>qce (pL l) limit ((y:Int)+1)) k y:Nat):Int),()):=by
 intro k
 induction k with
 | zero =>
  intro y m hy hm
  obtain ⟨m,rfl⟩:∃j,m=j+1:=⟨m-1,by omega⟩
  rw[qn,qhH]
  simp only[show iLt (y:Int) 100=false from decide_eq_false (by omega),cond_false]
  rfl
 | succ k ih =>
  intro y m hy hm
  obtain ⟨m,rfl⟩:∃j,m=j+1:=⟨m-1,by omega⟩
  have hle:=qo6 n l limit ((y+1:Nat):Int) hb hl (by omega) hL hn
  rw[qn,qhH]
  simp only[show iLt (y:Int) 100=true from decide_eq_true (by omega),cond_true,qcf (show y<9223372036854775807 by omega),hle,Option.bind_some]
  unfold qfr
  rw[show ((y+1:Nat):Int)=(y:Int)+1 from by omega]
  cases qce (pL l) limit ((y:Int)+1) with
  | true =>
   have:=ih (y+1) m (by omega) (by omega)
   rw[show ((y+1:Nat):Int)=(y:Int)+1 from by omega] at this
   simp only[cond_true,if_true]
   exact this
  | false=>rfl
theorem qsZ(n:Nat)(l:List qG)(limit:Int)(hn:300≤n):qge n (l,(limit,()))=some (((qgW (pL l) limit:Nat):Int),(qjD (pL l) limit,())):=by
 rw[qmc]
 simp only[qk5,Option.bind_some,qkn n l _ (by omega)]
 unfold qgW qjD
 rcases qfN (pL l) (qD limit 0 1000) with h | h | ⟨h,ha,hw⟩
 ·rw[h];rfl
 ·rw[h];rfl
 ·have h2:=qqD n l limit (qo8 ha) (qdy hw) (by have:=(qhm ha).1;omega) (by omega) 100 0 n (by omega) (by omega)
  rw[show ((0:Nat):Int)=0 from rfl] at h2
  rw[h]
  simp only[show iNe (0:Int) 0=false from rfl,cond_false,h2,Option.bind_some,if_true]
def selT{α:Type}(l:List α)(p:Nat→Bool):Nat→List α
 | 0=>[]
 | k+1=>selT l p k++(if p k=true then (l[k]?).toList else [])
theorem qiX{α:Type}(l:List α)(p:Nat→Bool)(k:Nat):selT l p (k+1)=selT l p k++(if p k=true then (l[k]?).toList else []):=rfl
theorem qkg{α:Type}(l:List α)(p:Nat→Bool):∀k,(selT l p k).length≤k
 | 0=>Nat.le_refl _
 | k+1=>by
  have:=qkg l p k
  unfold selT
  rw[List.length_append]
  split
  ·cases l[k]?<;>simp<;>omega
  ·simp;omega
theorem qo9{α:Type}{l:List α}{p:Nat→Bool}{x:α}:∀{k:Nat},x∈selT l p k→x∈l
 | 0,h=>by cases h
 | k+1,h=>by
  unfold selT at h
  rcases List.mem_append.1 h with h | h
  ·exact qo9 h
  ·split at h
   ·cases hx:l[k]? with
    | none=>rw[hx] at h;cases h
    | some y =>
     rw[hx] at h
     have:x=y:=by simpa using h
     subst this
     exact List.mem_of_getElem? hx
   ·cases h
theorem quj:∀s:Nat,s<512→∀k:Nat,k<8→iEq (bits .and .i64 (iShr ((s:Int)-256) (k:Int)) (1:Int)) (1:Int)=bitB ((s:Int)-256) k:=by
 have h:(List.range 512).all (fun s=>(List.range 8).all fun k=>iEq (bits .and .i64 (iShr ((s:Int)-256) (k:Int)) (1:Int)) (1:Int)==bitB ((s:Int)-256) k)=true:=by decide +kernel
 intro s hs k hk
 rw[List.all_eq_true] at h
 have h1:=h s (List.mem_range.2 hs)
 rw[List.all_eq_true] at h1
 exact eq_of_beq (h1 k (List.mem_range.2 hk))
theorem qpZ(x:Int)(hx:-256≤x∧x<256)(k:Nat)(hk:k<8):iEq (bits .and .i64 (iShr x (k:Int)) (1:Int)) (1:Int)=bitB x k:=by
 have h:=quj (x+256).toNat (by omega) k hk
 rwa [show (((x+256).toNat:Int)-256)=x by omega] at h
theorem shk(k:Nat)(hk:k<60):qL (iSh .i64 (k:Int))=some ():=by
 have:iSh .i64 (k:Int)=true:=by
  unfold iSh
  rw[Bool.and_eq_true,decide_eq_true_eq,decide_eq_true_eq]
  refine ⟨by omega,?_⟩
  show (k:Int)≤((64:Nat):Int)
  omega
 rw[this];rfl
theorem bleM(a b:Nat)(h:a≤b):qL (Nat.ble a b)=some ():=by
 rw[Nat.ble_eq_true_of_le h];rfl
theorem qpa(n:Nat)(l:List qG)(s:Int)(hs:-256≤s∧s<256)(hL:l.length≤8):∀(j k:Nat) (m:Nat),k+j=l.length→j<m →
  qm m (qc2 n) (s,(l,((l.length:Int),((k:Int),(selT l (bitB s) k,())))))=some (selT l (bitB s) l.length,()):=by
 intro j
 induction j with
 | zero =>
  intro k m hk hm
  obtain ⟨m,rfl⟩:∃j,m=j+1:=⟨m-1,by omega⟩
  rw[qn,qeU]
  simp only[show iLt (k:Int) (l.length:Int)=false from decide_eq_false (by omega),cond_false]
  rw[show l.length=k by omega]
 | succ j ih =>
  intro k m hk hm
  obtain ⟨m,rfl⟩:∃j,m=j+1:=⟨m-1,by omega⟩
  have hkl:k<l.length:=by omega
  have hlen:=qkg l (bitB s) k
  have:=ih (k+1) m (by omega) (by omega)
  rw[qiX] at this
  rw[qn,qeU]
  simp only[show iLt (k:Int) (l.length:Int)=true from decide_eq_true (by omega),cond_true,qds l hkl,Option.bind_some,shk k (by omega),qpZ s hs k (by omega),qcf (show k<9223372036854775807 by omega),bleM (nAdd (selT l (bitB s) k).length 1) 5864062014805 (by show (selT l (bitB s) k).length+1≤_;omega)]
  rw[List.getElem?_eq_getElem hkl] at this
  cases hb:bitB s k with
  | true =>
   rw[hb] at this
   exact this
  | false =>
   rw[hb] at this
   simp only[cond_false]
   rw[show selT l (bitB s) k=selT l (bitB s) k++[] from (List.append_nil _).symm]
   exact this
theorem qqE(n:Nat)(l:List qG)(s:Int)(hs:-256≤s∧s<256)(hL:l.length≤8)(hn:100≤n):qeu n (l,(s,()))=some (selT l (bitB s) l.length,()):=by
 have h:=qpa n l s hs hL l.length 0 n (by omega) (by omega)
 rw[show ((0:Nat):Int)=0 from rfl] at h
 rw[qh5]
 show Option.bind (qm n (qc2 n) (s,(l,((l.length:Int),((0:Int),(selT l (bitB s) 0,())))))) _=_
 rw[h]
 rfl
theorem qpb(n:Nat)(l:List Int)(s:Int)(hs:-256≤s∧s<256)(hL:l.length≤8):∀(j k:Nat) (m:Nat),k+j=l.length→j<m →
  qm m (qdS n) (s,(l,((l.length:Int),((k:Int),(selT l (bitB s) k,())))))=some (selT l (bitB s) l.length,()):=by
 intro j
 induction j with
 | zero =>
  intro k m hk hm
  obtain ⟨m,rfl⟩:∃j,m=j+1:=⟨m-1,by omega⟩
  rw[qn,qf2]
  simp only[show iLt (k:Int) (l.length:Int)=false from decide_eq_false (by omega),cond_false]
  rw[show l.length=k by omega]
 | succ j ih =>
  intro k m hk hm
  obtain ⟨m,rfl⟩:∃j,m=j+1:=⟨m-1,by omega⟩
  have hkl:k<l.length:=by omega
  have hlen:=qkg l (bitB s) k
  have:=ih (k+1) m (by omega) (by omega)
  rw[qiX] at this
  rw[qn,qf2]
  simp only[show iLt (k:Int) (l.length:Int)=true from decide_eq_true (by omega),cond_true,qds l hkl,Option.bind_some,shk k (by omega),qpZ s hs k (by omega),qcf (show k<9223372036854775807 by omega),bleM (nAdd (selT l (bitB s) k).length 1) 17592186044416 (by show (selT l (bitB s) k).length+1≤_;omega)]
  rw[List.getElem?_eq_getElem hkl] at this
  cases hb:bitB s k with
  | true =>
   rw[hb] at this
   exact this
  | false =>
   rw[hb] at this
   simp only[cond_false]
   rw[show selT l (bitB s) k=selT l (bitB s) k++[] from (List.append_nil _).symm]
   exact this
theorem qqF(n:Nat)(l:List Int)(s:Int)(hs:-256≤s∧s<256)(hL:l.length≤8)(hn:100≤n):qfK n (l,(s,()))=some (selT l (bitB s) l.length,()):=by
 have h:=qpb n l s hs hL l.length 0 n (by omega) (by omega)
 rw[show ((0:Nat):Int)=0 from rfl] at h
 rw[qjB]
 show Option.bind (qm n (qdS n) (s,(l,((l.length:Int),((0:Int),(selT l (bitB s) 0,())))))) _=_
 rw[h]
 rfl
end Go.Proofs.Ytbdockhccdkdiaa
