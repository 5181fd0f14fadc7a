/- Texts Dv8, Dv9, Dv10, Dv11, Dv12, Dv13 in one. -/
import Derived.Test.YtcjcacbhkoainaaGreatDoorDv7
import Derived.Test.YtcjcacbhkoainaaGreatDoorRa
/- Clubs: sums of sets of balances; the set of those that are not 0. -/
set_option linter.constructorNameAsVariable false
set_option linter.unusedSimpArgs false
set_option linter.unusedVariables false
set_option linter.unusedSectionVars false
namespace Go.Proofs.YtcjcacbhkoainaaGreatDoor
open Go Go.Proofs Go.RowKit
set_option maxHeartbeats 1000000
set_option maxRecDepth 100000
theorem qJ9(x:Nat)(hx:x<256)(h0:x≠0):tz x=lowI x:=by
 have:=qsg (p:=fun x=>decide (x=0)||decide (tz x=lowI x)) (by decide +kernel) hx
 simpa[h0] using this
theorem qId(n:Nat)(x:Nat)(hx:x<256)(h0:x≠0):tz_F n ((x:Int),())=some ((lowI x:Int),()):=by
 rw[qID,show tzB (x:Int)=true by unfold tzB;rw[Bool.and_eq_true,decide_eq_true_eq,decide_eq_true_eq];omega]
 show some ((tz (Int.toNat (x:Int)):Int),())=_
 rw[Int.toNat_natCast,qJ9 x hx h0]
theorem qt8(x:Nat)(hx:x<256)(h0:x≠0):x ^^^ lowN x<x:=by
 have:=qsg (p:=fun x=>decide (x=0)||decide (x ^^^ lowN x<x)) (by decide +kernel) hx
 simpa[h0] using this
structure Bal (l:List Int):Prop where
 ln:l.length≤8
 bd:∀x,x∈l→-1000000000≤x∧x≤1000000000
def InL(l:List Int)(m:Nat):Prop:=∀i,m.testBit i=true→i<l.length
theorem InL.sub{l:List Int}{a m:Nat}(h:InL l m)(ha:a &&& m=a):InL l a:=fun i hi=>h i (qbu.1 ha i hi)
theorem quT{a m:Nat}(ha:a &&& m=a):(m ^^^ a) &&& m=(m ^^^ a):=qbu.2 fun i hi=>by
 rw[qbm ha,Bool.and_eq_true] at hi
 exact hi.1
theorem sumL(n:Nat)(l:List Int)(B:Bal l):∀(k m:Nat) (acc:Int) (n':Nat),m≤k→m<256→InL l m→m<n'→-(1000000000*(256-(m:Int)))≤acc→acc≤1000000000*(256-(m:Int)) →
  qb n' (qlO n) (l,((m:Int),(acc,())))=some (acc+sm l m,()):=by
 intro k
 induction k with
 | zero =>
  intro m acc n' hk hm hi hn h1 h2
  obtain ⟨n',rfl⟩:∃j,n'=j+1:=⟨n'-1,by omega⟩
  rw[show m=0 by omega,qc,qnA]
  simp only[show iNe ((0:Nat):Int) 0=false from rfl,cond_false]
  rw[show sm l 0=0 from quR l _ fun i=>Nat.zero_testBit i,Int.add_zero]
 | succ k ih =>
  intro m acc n' hk hm hi hn h1 h2
  by_cases h0:m=0
  ·exact ih m acc n' (by omega) hm hi hn h1 h2
  obtain ⟨n',rfl⟩:∃j,n'=j+1:=⟨n'-1,by omega⟩
  obtain ⟨g1,g2,g3,g4⟩:=qqM m hm h0
  have hlt:=hi _ g2
  have hd:=qt8 m hm h0
  have hb:=B.bd _ (List.getElem_mem hlt)
  have hs:=qwH (l:=l) g3
  rw[show lowN m=2 ^ lowI m from rfl,qJ7,List.getElem?_eq_getElem hlt,Option.getD_some] at hs
  rw[qc,qnA]
  simp only[qhM (show ((m:Nat):Int)≠0 by omega),cond_true,qId n m hm h0,Option.bind_some,qw l hlt,qIb m hm h0]
  rw[show iW (iAdd acc l[lowI m])=acc+l[lowI m] from qM (by unfold iAdd;omega) (by unfold iAdd;omega)]
  rw[ih (m ^^^ lowN m) (acc+l[lowI m]) n' (by omega) (by omega) (hi.sub (quT g3)) (by omega) (by omega) (by omega)]
  rw[hs,show lowN m=2 ^ lowI m from rfl,Int.add_assoc]
theorem qJb(n:Nat)(l:List Int)(B:Bal l)(m:Nat)(hm:m<256)(hi:InL l m)(hn:2000≤n):qm6 n (l,((m:Int),()))=some (sm l m,()):=by
 rw[qt2]
 have:=sumL n l B m m 0 n (Nat.le_refl _) hm hi (by omega) (by omega) (by omega)
 show Option.bind (qb n _ (l,((m:Int),((0:Int),())))) _=_
 rw[this,Int.zero_add];rfl
theorem qzE{a m:Nat}(ha:a &&& m=a)(h0:a≠0):m ^^^ a<m:=by
 have h1:=quT ha
 have h2:=Nat.and_le_right (n:=m ^^^ a) (m:=m)
 have h3:m ^^^ a≠m:=fun e=>h0 (by
  have:m ^^^ (m ^^^ a)=m ^^^ m:=by rw[e]
  rwa [← Nat.xor_assoc,Nat.xor_self,Nat.zero_xor] at this)
 omega
theorem Part.len{Q:Nat→Prop}:∀{F:List Nat} {m:Nat},Part Q m F→F.length≤m
 | [],_,_=>Nat.zero_le _
 | a::F,m,h=>by
  have h1:=qzE h.2.1 h.1
  have h2:=Part.len h.2.2.2
  rw[List.length_cons];omega
def qhN(F:List Nat):List Int:=F.map fun(a:Nat)=>(a:Int)
theorem qAq(F:List Nat):(qhN F).length=F.length:=List.length_map ..
abbrev Memo:=List (Int×List Int)
def MI(l:List Int)(mp:Memo):Prop:=qlr (Ty.i .u64) (0:Int) mp=true∧∀p,p∈mp→∃(m:Nat) (F:List Nat),p.1=(m:Int)∧p.2=qhN F∧Part (Zs l) m F∧IsMax (Zs l) m F.length
theorem qAr{m s:Nat}(hm:m<256)(h0:m≠0)(hs:s &&& (m ^^^ lowN m)=s):(s ||| lowN m) &&& m=(s ||| lowN m)∧(s ||| lowN m).testBit (lowI m)=true∧s<256∧lowN m<256∧(s ||| lowN m)<256:=by
 obtain ⟨g1,g2,g3,g4⟩:=qqM m hm h0
 have h1:(s ||| lowN m) &&& m=(s ||| lowN m):=qbu.2 fun i hi=>by
  rw[Nat.testBit_or,Bool.or_eq_true] at hi
  rcases hi with hi | hi
  ·have:=qbu.1 hs i hi
   rw[qbm g3,Bool.and_eq_true] at this
   exact this.1
  ·exact qbu.1 g3 i hi
 have h2:=Nat.and_le_right (n:=s ||| lowN m) (m:=m)
 have h3:=Nat.and_le_right (n:=lowN m) (m:=m)
 have h4:=Nat.and_le_right (n:=s) (m:=m ^^^ lowN m)
 have h5:=qt8 m hm h0
 refine ⟨h1,?_,by omega,by omega,by omega⟩
 rw[Nat.testBit_or,show lowN m=2 ^ lowI m from rfl,qoB]
 simp
def Done(l:List Int)(m s b:Nat):Prop:=sm l (s ||| lowN m)=0→∃r',IsMax (Zs l) (m ^^^ (s ||| lowN m)) r'∧r'+1≤b
def Att(l:List Int)(m:Nat)(bF:List Nat):Prop:=bF=[]∨(Part (Zs l) m bF∧∃a r',a &&& m=a∧a.testBit (lowI m)=true∧Zs l a∧IsMax (Zs l) (m ^^^ a) r'∧bF.length=r'+1)
noncomputable abbrev FG:=qbK
theorem qJc{l:List Int}{m:Nat}(hm:m<256){bF:List Nat}(h:Att l m bF):bF.length<257:=by
 rcases h with h | h
 ·rw[h];decide
 ·have:=h.1.len;omega
theorem qyX(n:Nat)(l:List Int)(B:Bal l)(m:Nat)(hm:m<256)(h0:m≠0)(hi:InL l m)(hz:sm l m=0)(hn:2000≤n)(g)(rec)
  (ih:∀a mp,a &&& m=a→a≠0→sm l (m ^^^ a)=0→MI l mp→∃F mp',FG g (((m ^^^ a:Nat):Int),(mp,(l,())))=some (qhN F,(mp',(l,())))∧Part (Zs l) (m ^^^ a) F∧IsMax (Zs l) (m ^^^ a) F.length∧MI l mp')
  (s:Nat) (hs:s &&& (m ^^^ lowN m)=s) (mp:Memo) (bF:List Nat) (hM:MI l mp) (hA:Att l m bF) :
  ∃bF' mp',qN n g rec ((m:Int),((lowN m:Int),(((m ^^^ lowN m:Nat):Int),((s:Int),(mp,(l,(qhN bF,())))))))=cond (iEq (s:Int) 0) (some ((m:Int),(mp',(l,(qhN bF',()))))) (rec ((m:Int),((lowN m:Int),(((m ^^^ lowN m:Nat):Int),(bits .and .u64 (IntKind.wrap .u64 (iSub (s:Int) 1)) ((m ^^^ lowN m:Nat):Int),(mp',(l,(qhN bF',()))))))))
   ∧ MI l mp'∧Att l m bF'∧Done l m s bF'.length∧bF.length≤bF'.length:=by
 obtain ⟨o1,o2,o3,o4,o5⟩:=qAr hm h0 hs
 have hbl:=qJc hm hA
 have hne:s ||| lowN m≠0:=fun e=>by rw[e,Nat.zero_testBit] at o2;cases o2
 rw[qiF]
 simp only[bOr s (lowN m) o3 o4,qJb n l B _ o5 (hi.sub o1) hn,Option.bind_some]
 by_cases hsz:sm l (s ||| lowN m)=0
 ·have hrz:sm l (m ^^^ (s ||| lowN m))=0:=by have:=qwH (l:=l) o1;omega
  obtain ⟨F,mp',e1,e2,e3,e4⟩:=ih (s ||| lowN m) mp o1 hne hrz hM
  have hF:=e2.len
  have hrl:=qzE o1 hne
  simp only[qb4 hsz,cond_true,qIc m _ hm o1,e1,Option.bind_some,qAq]
  rw[show iW (iAdd ((F.length:Nat):Int) 1)=((F.length+1:Nat):Int) from qi (by omega)]
  by_cases hgt:bF.length<F.length+1
  ·refine ⟨(s ||| lowN m)::F,mp',?_,e4,.inr ⟨⟨hne,o1,hsz,e2⟩,s ||| lowN m,F.length,o1,o2,hsz,e3,rfl⟩,fun _=>⟨F.length,e3,Nat.le_refl _⟩,by rw[List.length_cons];omega⟩
   rw[show iGt ((F.length+1:Nat):Int) (bF.length:Int)=true from decide_eq_true (by omega),qcC (by rw[Nat.ble_eq];unfold nAdd;omega)]
   rfl
  ·refine ⟨bF,mp',?_,e4,hA,fun _=>⟨F.length,e3,by omega⟩,Nat.le_refl _⟩
   rw[show iGt ((F.length+1:Nat):Int) (bF.length:Int)=false from decide_eq_false (by omega)]
   rfl
 ·refine ⟨bF,mp,?_,hM,hA,fun h=>absurd h hsz,Nat.le_refl _⟩
  rw[show iEq (sm l (s ||| lowN m)) 0=false by simp[iEq,hsz]]
  rfl
theorem Done.mono{l:List Int}{m s b b':Nat}(h:Done l m s b)(hb:b≤b'):Done l m s b':=fun hz=>by
 obtain ⟨r,h1,h2⟩:=h hz
 exact ⟨r,h1,by omega⟩
theorem qF0(n:Nat)(l:List Int)(B:Bal l)(m:Nat)(hm:m<256)(h0:m≠0)(hi:InL l m)(hz:sm l m=0)(hn:2000≤n)(g)
  (ih:∀a mp,a &&& m=a→a≠0→sm l (m ^^^ a)=0→MI l mp→∃F mp',FG g (((m ^^^ a:Nat):Int),(mp,(l,())))=some (qhN F,(mp',(l,())))∧Part (Zs l) (m ^^^ a) F∧IsMax (Zs l) (m ^^^ a) F.length∧MI l mp') :
  ∀(ss A:List Nat) (s:Nat) (n':Nat) (mp:Memo) (bF:List Nat),qnc (m ^^^ lowN m)=A++(s::ss)→qwl (m ^^^ lowN m) (s::ss)=true→ss.length<n'→MI l mp→Att l m bF→(∀x,x∈A→Done l m x bF.length) →
  ∃bF' mp',qb n' (qN n g) ((m:Int),((lowN m:Int),(((m ^^^ lowN m:Nat):Int),((s:Int),(mp,(l,(qhN bF,())))))))=some ((m:Int),(mp',(l,(qhN bF',()))))∧MI l mp'∧Att l m bF'∧∀x,x∈qnc (m ^^^ lowN m)→Done l m x bF'.length:=by
 intro ss
 induction ss with
 | nil =>
  intro A s n' mp bF hp hc hn' hM hA hD
  obtain ⟨n',rfl⟩:∃j,n'=j+1:=⟨n'-1,by omega⟩
  have hs:s &&& (m ^^^ lowN m)=s:=qwm.1 (by rw[hp];simp)
  obtain ⟨bF',mp',e1,e2,e3,e4,e5⟩:=qyX n l B m hm h0 hi hz hn g (qb n' (qN n g)) ih s hs mp bF hM hA
  have hs0:s=0:=of_decide_eq_true hc
  refine ⟨bF',mp',?_,e2,e3,fun x hx=>?_⟩
  ·rw[qc,e1,hs0];rfl
  ·rw[hp] at hx
   rcases List.mem_append.1 hx with hx | hx
   ·exact (hD x hx).mono e5
   ·rw[List.mem_singleton] at hx;rw[hx];exact e4
 | cons t ss ihs =>
  intro A s n' mp bF hp hc hn' hM hA hD
  obtain ⟨n',rfl⟩:∃j,n'=j+1:=⟨n'-1,by omega⟩
  have hs:s &&& (m ^^^ lowN m)=s:=qwm.1 (by rw[hp];simp)
  obtain ⟨o1,o2,o3,o4,o5⟩:=qAr hm h0 hs
  obtain ⟨bF',mp',e1,e2,e3,e4,e5⟩:=qyX n l B m hm h0 hi hz hn g (qb n' (qN n g)) ih s hs mp bF hM hA
  unfold qwl at hc
  rw[Bool.and_eq_true,Bool.and_eq_true,Bool.not_eq_true',decide_eq_false_iff_not,decide_eq_true_eq] at hc
  obtain ⟨c1,c2,c3⟩:=hc
  obtain ⟨bG,mq,f1,f2,f3,f4⟩:=ihs (A++[s]) t n' mp' bF' (by rw[hp];simp) c3 (by simp at hn';omega) e2 e3 fun x hx=>by
   rcases List.mem_append.1 hx with hx | hx
   ·exact (hD x hx).mono e5
   ·rw[List.mem_singleton] at hx;rw[hx];exact e4
  refine ⟨bG,mq,?_,f2,f3,f4⟩
  rw[qc,e1,show iEq (s:Int) 0=false by simp[iEq];omega,qKJ _ s (by have:=qt8 m hm h0;omega) o3 c1,c2]
  exact f1
theorem qJd(n:Nat)(l:List Int)(B:Bal l)(hn:2000≤n):∀(k m:Nat) (mp:Memo),m<k→m<256→InL l m→sm l m=0→MI l mp →
  ∃F mp',FG (qn n k) ((m:Int),(mp,(l,())))=some (qhN F,(mp',(l,())))∧Part (Zs l) m F∧IsMax (Zs l) m F.length∧MI l mp':=by
 intro k
 induction k with
 | zero=>intro m mp h;exact absurd h (Nat.not_lt_zero _)
 | succ k ihk =>
  intro m mp hk hm hi hz hM
  unfold FG
  rw[qiG,qiV]
  cases hh:qlr (Ty.i .u64) (m:Int) mp with
  | true =>
   obtain ⟨m',F,g1,g2,g3,g4⟩:=hM.2 _ (qFX (z:=([]:List Int)) rfl hh)
   have e:m'=m:=by have:(m:Int)=(m':Int):=g1;omega
   subst e
   refine ⟨F,mp,?_,g3,g4,hM⟩
   simp only[hh,cond_true]
   rw[show qeu (Ty.i .u64) ([]:List Int) (m':Int) mp=qhN F from g2]
  | false =>
   have h0:m≠0:=fun e=>by
    rw[e] at hh
    exact absurd hM.1 (by rw[show qlr (Ty.i .u64) (0:Int) mp=false from hh];decide)
   obtain ⟨g1,g2,g3,g4⟩:=qqM m hm h0
   have hd:=qt8 m hm h0
   obtain ⟨p1,p2⟩:=qCA (m ^^^ lowN m) (by omega)
   have hpl:(qnc (m ^^^ lowN m)).length≤256:=by
    unfold qnc
    refine Nat.le_trans (List.length_filter_le _ _) ?_
    rw[List.length_reverse,List.length_range];omega
   cases hp:qnc (m ^^^ lowN m) with
   | nil=>rw[hp] at p2;cases p2
   | cons s ss =>
    rw[hp] at p1 p2 hpl
    have hs:s=m ^^^ lowN m:=by simpa using p2
    obtain ⟨bF,mp',e1,e2,e3,e4⟩:=qF0 n l B m hm h0 hi hz hn (qn n k) (fun a mp ha ha0 haz hMp=>by
     have:=qzE ha ha0
     exact ihk (m ^^^ a) mp (by omega) (by omega) (hi.sub (quT ha)) haz hMp) ss [] s n mp [] hp p1 (by simp at hpl;omega) hM (.inl rfl) fun x hx=>absurd hx List.not_mem_nil
    have hfull:(m ^^^ lowN m) ||| lowN m=m:=Nat.eq_of_testBit_eq fun i=>by
     rw[Nat.testBit_or,qbm g3]
     have:=qbu.1 g3 i
     cases hmi:m.testBit i<;>cases hli:(lowN m).testBit i<;>simp_all
    have hpos:1≤bF.length:=by
     obtain ⟨r',_,h2⟩:=e4 (m ^^^ lowN m) (by rw[hp,hs];exact List.mem_cons_self) (by rw[hfull];exact hz)
     omega
    rcases e3 with e3 | ⟨e3,a,r',a1,a2,a3,a4,a5⟩
    ·rw[e3] at hpos;exact absurd hpos (by decide)
    have hmax:IsMax (Zs l) m bF.length:=qHJ g2 ⟨a,r',a1,a2,a3,a4,a5⟩ fun a ha hb hz'=>by
     have hla:lowN m &&& a=lowN m:=qbu.2 fun i hi'=>by
      rw[show lowN m=2 ^ lowI m from rfl,qoB,decide_eq_true_eq] at hi'
      rw[← hi'];exact hb
     have hsp:(a ^^^ lowN m) &&& (m ^^^ lowN m)=a ^^^ lowN m:=qbu.2 fun i hi'=>by
      rw[qbm hla,Bool.and_eq_true] at hi'
      rw[qbm g3,qbu.1 ha i hi'.1,hi'.2];rfl
     have hor:(a ^^^ lowN m) ||| lowN m=a:=Nat.eq_of_testBit_eq fun i=>by
      rw[Nat.testBit_or,qbm hla]
      have:=qbu.1 hla i
      cases hmi:a.testBit i<;>cases hli:(lowN m).testBit i<;>simp_all
     have:=e4 (a ^^^ lowN m) (qwm.2 hsp)
     unfold Done at this
     rw[hor] at this
     exact this hz'
    refine ⟨bF,qgL (Ty.i .u64) (qhN bF) (m:Int) mp',?_,e3,hmax,qFY (kt:=Ty.i .u64) e2.1,qFZ (kt:=Ty.i .u64) (α:=List Int) (x:=(m:Int)) (v:=qhN bF) (l:=mp') (P:=fun p:Int×List Int=>∃(m:Nat) (F:List Nat),p.1=(m:Int)∧p.2=qhN F∧Part (Zs l) m F∧IsMax (Zs l) m F.length) rfl e2.2 ⟨m,bF,rfl,rfl,e3,hmax⟩⟩
    have e1':=e1
    rw[hs] at e1'
    simp only[hh,cond_false,bLow m hm h0,qIc m _ hm g3]
    rw[show (([]:List Int))=qhN [] from rfl,e1']
    rfl
theorem qF1(n:Nat)(l:List Int)(B:Bal l)(hn:2000≤n)(m:Nat)(hm:m<256)(hi:InL l m)(hz:sm l m=0):∃F,qk6 n (l,((m:Int),()))=some (qhN F,())∧Part (Zs l) m F∧IsMax (Zs l) m F.length:=by
 rw[qsb]
 have hM:MI l (qgL (Ty.i .u64) ([]:List Int) (0:Int) []):=⟨rfl,fun p hp=>by
  rw[show qgL (Ty.i .u64) ([]:List Int) (0:Int) []=[((0:Int),([]:List Int))] from rfl] at hp
  have hp':=List.mem_singleton.1 hp
  subst hp'
  exact ⟨0,[],rfl,rfl,rfl,qEg _⟩⟩
 obtain ⟨F,mp',e1,e2,e3,_⟩:=qJd n l B hn n m _ (by omega) hm hi hz hM
 refine ⟨F,?_,e2,e3⟩
 rw[qi6]
 show Option.bind (FG _ ((m:Int),(qgL (Ty.i .u64) ([]:List Int) (0:Int) [],(l,())))) _=_
 rw[e1];rfl
theorem shl8(i:Nat)(hi:i<8):iSh .u64 (i:Int)=true∧IntKind.wrap .u64 (iShl (1:Int) (i:Int))=((2 ^ i:Nat):Int):=by
 have:(List.range 8).all (fun i=>iSh .u64 (i:Int)&&decide (IntKind.wrap .u64 (iShl (1:Int) (i:Int))=((2 ^ i:Nat):Int)))=true:=by decide +kernel
 have:=List.all_eq_true.1 this i (List.mem_range.2 hi)
 simpa using this
theorem qIe{m:Nat}(h:∀j,8≤j→m.testBit j=false):m<256:=Nat.lt_of_not_le fun hm=>by
 obtain ⟨j,h1,h2⟩:=Nat.exists_ge_and_testBit_of_ge_two_pow (n:=8) hm
 rw[h j h1] at h2
 cases h2
theorem qKK(n:Nat)(l:List Int)(B:Bal l):∀(Y A:List Int) (n' m:Nat),l=A++Y→Y.length<n'→(∀j,m.testBit j=(decide (j<A.length) && !decide ((l[j]?).getD 0=0))) →
  qb n' (qij n) ((m:Int),(l,((l.length:Int),((A.length:Int),()))))=some ((qf4 l:Int),()):=by
 have h8:=B.ln
 intro Y
 induction Y with
 | nil =>
  intro A n' m e hn hb
  obtain ⟨n',rfl⟩:∃j,n'=j+1:=⟨n'-1,by simp at hn;omega⟩
  rw[List.append_nil] at e
  rw[← e] at hb ⊢
  rw[qc,qm7]
  simp only[qB,cond_false]
  rw[show m=qf4 l from Nat.eq_of_testBit_eq fun j=>by rw[hb,qsf]]
 | cons x Y ih =>
  intro A n' m e hn hb
  obtain ⟨n',rfl⟩:∃j,n'=j+1:=⟨n'-1,by simp at hn;omega⟩
  have hlen:l.length=A.length+(Y.length+1):=by rw[e,List.length_append,List.length_cons]
  have hlt:A.length<l.length:=by omega
  have hlat:lat l (A.length:Int)=some x:=by rw[e];exact latA A Y x rfl
  have hx:l[A.length]?=some x:=by rw[e];exact getA A Y x rfl
  have hm:m<256:=qIe fun j hj=>by rw[hb,decide_eq_false (by omega)];rfl
  obtain ⟨s1,s2⟩:=shl8 A.length (by omega)
  rw[qc,qm7]
  simp only[qv hlt,cond_true,hlat,Option.bind_some,qi (show A.length<9223372036854775807 by omega),qcC s1,s2]
  have hstep:∀m':Nat,(∀j,m'.testBit j=(decide (j<(A++[x]).length) && !decide ((l[j]?).getD 0=0)))→qb n' (qij n) ((m':Int),(l,((l.length:Int),(((A.length+1:Nat):Int),()))))=some ((qf4 l:Int),()):=fun m' h'=>by
   have:=ih (A++[x]) n' m' (by rw[e];simp) (by simp at hn;omega) h'
   rw[List.length_append] at this
   exact this
  by_cases h0:x=0
  ·rw[qev h0]
   exact hstep m fun j=>by
    rw[hb,List.length_append,List.length_singleton]
    by_cases h1:j<A.length
    ·rw[decide_eq_true h1,decide_eq_true (show j<A.length+1 by omega)]
    ·rw[decide_eq_false h1]
     by_cases h2:j=A.length
     ·rw[h2,hx,Option.getD_some,decide_eq_true h0,Bool.not_true,Bool.and_false,Bool.and_false]
     ·rw[decide_eq_false (show ¬j<A.length+1 by omega)]
  ·rw[qhM h0]
   have hp:(2 ^ A.length:Nat)<256:=Nat.lt_of_lt_of_le (Nat.pow_lt_pow_right (by decide) (show A.length<8 by omega)) (Nat.le_refl _)
   rw[bOr m (2 ^ A.length) hm hp]
   exact hstep (m ||| 2 ^ A.length) fun j=>by
    rw[Nat.testBit_or,hb,qoB,List.length_append,List.length_singleton]
    by_cases h1:j<A.length
    ·rw[decide_eq_true h1,decide_eq_true (show j<A.length+1 by omega),decide_eq_false (show ¬A.length=j by omega),Bool.or_false]
    ·rw[decide_eq_false h1]
     by_cases h2:j=A.length
     ·rw[h2,hx,Option.getD_some,decide_eq_false h0,decide_eq_true rfl,decide_eq_true (show A.length<A.length+1 by omega)];rfl
     ·rw[decide_eq_false (show ¬j<A.length+1 by omega),decide_eq_false (show ¬A.length=j by omega)];rfl
theorem qHK(n:Nat)(l:List Int)(B:Bal l)(hn:2000≤n):ql9 n (l,())=some ((qf4 l:Int),()):=by
 have h8:=B.ln
 rw[qti]
 have:=qKK n l B l [] n 0 rfl (by omega) fun j=>by rw[Nat.zero_testBit,decide_eq_false (show ¬j<([]:List Int).length by simp)];rfl
 show Option.bind (qb n _ (((0:Nat):Int),(l,((l.length:Int),((([]:List Int).length:Int),()))))) _=_
 rw[this];rfl
theorem qIf(l:List Int):InL l (qf4 l):=fun i hi=>by
 rw[qsf,Bool.and_eq_true,decide_eq_true_eq] at hi
 exact hi.1
theorem qKL{l:List Int}(B:Bal l):qf4 l<256:=qIe fun j hj=>by
 rw[qsf,decide_eq_false (by have:=B.ln;omega)];rfl
def balB(l:List Int):Bool:=decide (l.length≤8)&&(l.all (fun x=>wi x (-1000000000) 1000000000)&&decide (l.sum=0))
theorem qzF{l:List Int}(h:balB l=true):Bal l∧l.sum=0:=by
 unfold balB at h
 simp only[Bool.and_eq_true,decide_eq_true_eq,List.all_eq_true,q7] at h
 exact ⟨⟨h.1,h.2.1⟩,h.2.2⟩
theorem qKa(n:Nat)(l:List Int)(h8:l.length≤8):∀(Y A:List Int) (n':Nat) (acc:Int),l=A++Y→Y.length<n'→-(1000000000*(A.length:Int))≤acc→acc≤1000000000*(A.length:Int) →
  qb n' (qpd n) (l,(acc,(l,((l.length:Int),((A.length:Int),())))))=some (cond (Y.all fun x=>wi x (-1000000000) 1000000000) (.inl (l,(acc+Y.sum,()))) (.inr ([],(111,())))):=by
 intro Y
 induction Y with
 | nil =>
  intro A n' acc e hn h1 h2
  obtain ⟨n',rfl⟩:∃j,n'=j+1:=⟨n'-1,by simp at hn;omega⟩
  rw[List.append_nil] at e
  rw[← e,qc,qqH]
  simp only[qB,cond_false]
  simp
 | cons x Y ih =>
  intro A n' acc e hn h1 h2
  obtain ⟨n',rfl⟩:∃j,n'=j+1:=⟨n'-1,by simp at hn;omega⟩
  have hlen:l.length=A.length+(Y.length+1):=by rw[e,List.length_append,List.length_cons]
  have hlt:A.length<l.length:=by omega
  have hlat:lat l (A.length:Int)=some x:=by rw[e];exact latA A Y x rfl
  rw[qc,qqH]
  simp only[qv hlt,cond_true,hlat,Option.bind_some,qlS,qi (show A.length<9223372036854775807 by omega)]
  rw[show Int.negSucc 999999999=(-1000000000:Int) from rfl,List.all_cons]
  cases hw:wi x (-1000000000) 1000000000 with
  | false=>rfl
  | true =>
   have hx:=q7.1 hw
   simp only[Bool.not_true,cond_false,Bool.true_and]
   rw[show iW (iAdd acc x)=acc+x from qM (by unfold iAdd;omega) (by unfold iAdd;omega)]
   have:=ih (A++[x]) n' (acc+x) (by rw[e];simp) (by simp at hn;omega) (by rw[List.length_append];simp;omega) (by rw[List.length_append];simp;omega)
   rw[List.length_append] at this
   rw[List.sum_cons,← Int.add_assoc]
   exact this
theorem qF2(n:Nat)(l:List Int)(hn:2000≤n):qq1 n (l,())=some (cond (balB l) (l,(0,())) ([],(111,()))):=by
 rw[qxN]
 unfold balB
 by_cases h8:l.length≤8
 ·have:=qKa n l h8 l [] n 0 rfl (by omega) (by simp) (by simp)
  rw[show iGt (l.length:Int) 8=false from decide_eq_false (by omega),decide_eq_true h8]
  simp only[cond_false,Bool.true_and]
  show Option.bind (qb n _ (l,((0:Int),(l,((l.length:Int),((([]:List Int).length:Int),())))))) _=_
  rw[this,Int.zero_add]
  cases l.all fun x=>wi x (-1000000000) 1000000000 with
  | false=>rfl
  | true =>
   by_cases hs:l.sum=0
   ·simp only[cond_true,Option.bind_some,Sum.elim_inl,qev hs,cond_false,Bool.true_and,decide_eq_true hs]
   ·simp only[cond_true,Option.bind_some,Sum.elim_inl,qhM hs,Bool.true_and,decide_eq_false hs,cond_false]
 ·rw[show iGt (l.length:Int) 8=true from decide_eq_true (by omega),decide_eq_false h8]
  rfl
theorem qJe(n:Nat)(l:List Int)(h8:l.length≤8):∀(Y A:List Int) (n':Nat) (acc:Int),l=A++Y→Y.length<n'→-(1000000000*(A.length:Int))≤acc→acc≤1000000000*(A.length:Int) →
  qb n' (qhA n) (l,(acc,((A.length:Int),())))=some (cond (Y.all fun x=>wi x (-1000000000) 1000000000) (.inl (acc+Y.sum,())) (.inr (false,()))):=by
 intro Y
 induction Y with
 | nil =>
  intro A n' acc e hn h1 h2
  obtain ⟨n',rfl⟩:∃j,n'=j+1:=⟨n'-1,by simp at hn;omega⟩
  rw[List.append_nil] at e
  rw[← e,qc,qjN]
  simp only[qB,cond_false]
  simp
 | cons x Y ih =>
  intro A n' acc e hn h1 h2
  obtain ⟨n',rfl⟩:∃j,n'=j+1:=⟨n'-1,by simp at hn;omega⟩
  have hlen:l.length=A.length+(Y.length+1):=by rw[e,List.length_append,List.length_cons]
  have hlt:A.length<l.length:=by omega
  have hlat:lat l (A.length:Int)=some x:=by rw[e];exact latA A Y x rfl
  rw[qc,qjN]
  simp only[qv hlt,cond_true,hlat,Option.bind_some,qgI,qi (show A.length<9223372036854775807 by omega)]
  rw[show Int.negSucc 999999999=(-1000000000:Int) from rfl,List.all_cons]
  cases hw:wi x (-1000000000) 1000000000 with
  | false=>rfl
  | true =>
   have hx:=q7.1 hw
   simp only[Bool.not_true,cond_false,Bool.true_and]
   rw[show iW (iAdd acc x)=acc+x from qM (by unfold iAdd;omega) (by unfold iAdd;omega)]
   have:=ih (A++[x]) n' (acc+x) (by rw[e];simp) (by simp at hn;omega) (by rw[List.length_append];simp;omega) (by rw[List.length_append];simp;omega)
   rw[List.length_append] at this
   rw[List.sum_cons,← Int.add_assoc]
   exact this
theorem qF3(n:Nat)(l:List Int)(hn:2000≤n):qix n (l,())=some (balB l,()):=by
 rw[qpr]
 unfold balB
 by_cases h8:l.length≤8
 ·have:=qJe n l h8 l [] n 0 rfl (by omega) (by simp) (by simp)
  rw[show iGt (l.length:Int) 8=false from decide_eq_false (by omega),decide_eq_true h8]
  simp only[cond_false,Bool.true_and]
  show Option.bind (qb n _ (l,((0:Int),((([]:List Int).length:Int),())))) _=_
  rw[this,Int.zero_add]
  cases l.all fun x=>wi x (-1000000000) 1000000000 with
  | false=>rfl
  | true =>
   by_cases hs:l.sum=0
   ·simp only[cond_true,Option.bind_some,Sum.elim_inl,Bool.true_and,decide_eq_true hs,qb4 hs]
   ·simp only[cond_true,Option.bind_some,Sum.elim_inl,Bool.true_and,decide_eq_false hs,show iEq l.sum 0=false by simp[iEq,hs]]
 ·rw[show iGt (l.length:Int) 8=true from decide_eq_true (by omega),decide_eq_false h8]
  rfl
abbrev Trf:=Int×(Int×Int)
def trOk(n:Nat)(t:Trf):Bool:=wi t.1 0 ((n:Int)-1)&&(wi t.2.1 0 ((n:Int)-1)&&(!iEq t.1 t.2.1&&wi t.2.2 1 8000000000))
theorem qJf(n:Nat)(ts:List Trf)(h60:ts.length≤100)(N:Nat)(hN:N≤1000):∀(Y A:List Trf) (n':Nat) (left:List Int),ts=A++Y→Y.length<n'→left.length=N→(∀x,x∈left→-(8000000000*(A.length:Int)+1000000000)≤x∧x≤8000000000*(A.length:Int)+1000000000) →
  qb n' (qjz n) (ts,((A.length:Int),(left,())))=some (cond (Y.all (trOk N)) (.inl (Y.foldl pay1 left,())) (.inr (false,()))):=by
 intro Y
 induction Y with
 | nil =>
  intro A n' left e hn hl hb
  obtain ⟨n',rfl⟩:∃j,n'=j+1:=⟨n'-1,by simp at hn;omega⟩
  rw[List.append_nil] at e
  rw[← e,qc,qll]
  simp only[qB,cond_false]
  rfl
 | cons t Y ih =>
  intro A n' left e hn hl hb
  obtain ⟨n',rfl⟩:∃j,n'=j+1:=⟨n'-1,by simp at hn;omega⟩
  have hlen:ts.length=A.length+(Y.length+1):=by rw[e,List.length_append,List.length_cons]
  have hlt:A.length<ts.length:=by omega
  have hlat:lat ts (A.length:Int)=some t:=by rw[e];exact latA A Y t rfl
  rw[qc,qll]
  simp only[qv hlt,cond_true,hlat,Option.bind_some,qgI,qi (show A.length<9223372036854775807 by omega),hl,qM (n:=iSub (N:Int) 1) (by unfold iSub;omega) (by unfold iSub;omega)]
  rw[List.all_cons]
  unfold trOk
  rw[show iSub (N:Int) 1=(N:Int)-1 from rfl]
  cases w1:wi t.1 0 ((N:Int)-1) with
  | false=>rfl
  | true =>
  cases w2:wi t.2.1 0 ((N:Int)-1) with
  | false=>rfl
  | true =>
  cases w3:iEq t.1 t.2.1 with
  | true=>rfl
  | false =>
  cases w4:wi t.2.2 1 8000000000 with
  | false=>rfl
  | true =>
  have h1:=q7.1 w1
  have h2:=q7.1 w2
  have h4:=q7.1 w4
  obtain ⟨f,g,amt⟩:=t
  obtain ⟨i,rfl⟩:=Int.eq_ofNat_of_zero_le h1.1
  obtain ⟨j,rfl⟩:=Int.eq_ofNat_of_zero_le h2.1
  have hi:i<left.length:=by simp only at h1;omega
  have hj:j<left.length:=by simp only at h2;omega
  have hne:i≠j:=fun e'=>by simp[iEq,e'] at w3
  have b1:=hb _ (List.getElem_mem hi)
  have b2:=hb _ (List.getElem_mem hj)
  simp only at h4
  have e1:iW (iAdd left[i] amt)=left[i]+amt:=qM (by unfold iAdd;omega) (by unfold iAdd;omega)
  have hj':j<(left.set i (left[i]+amt)).length:=by rw[List.length_set];exact hj
  have hgj:(left.set i (left[i]+amt))[j]=left[j]:=by rw[List.getElem_set_ne hne]
  have e2:iW (iSub left[j] amt)=left[j]-amt:=qM (by unfold iSub;omega) (by unfold iSub;omega)
  simp only[Bool.not_true,cond_false,Bool.not_false,Bool.true_and,qw left hi,Option.bind_some,Int.toNat_natCast,List.getElem?_eq_getElem hi,e1,qw _ hj',List.getElem?_eq_getElem hj',hgj,e2]
  have hp:pay1 left ((i:Int),((j:Int),amt))=(left.set i (left[i]+amt)).set j (left[j]-amt):=by
   unfold pay1
   simp only[Int.toNat_natCast,List.getElem?_eq_getElem hi,Option.getD_some,List.getElem?_eq_getElem hj',hgj]
  have:=ih (A++[((i:Int),((j:Int),amt))]) n' ((left.set i (left[i]+amt)).set j (left[j]-amt)) (by rw[e];simp) (by simp at hn;omega) (by rw[List.length_set,List.length_set,hl]) (fun x hx=>by
   rw[List.length_append,List.length_singleton]
   rcases List.mem_or_eq_of_mem_set hx with hx | hx
   ·rcases List.mem_or_eq_of_mem_set hx with hx | hx
    ·have:=hb x hx;omega
    ·omega
   ·omega)
  rw[List.length_append] at this
  rw[List.foldl_cons,hp]
  exact this
theorem qva:∀(ts:List Trf) (l:List Int),(ts.foldl pay1 l).length=l.length
 | [],_=>rfl
 | t::ts,l=>by rw[List.foldl_cons,qva ts,qxX]
theorem qAE(n:Nat)(l:List Int)(ts:List Trf)(h60:ts.length≤100)(hN:l.length≤1000)(hb:∀x,x∈l→-1000000000≤x∧x≤1000000000)(hn:2000≤n):qhL n (l,(ts,()))=some (ts.all (trOk l.length)&&(ts.foldl pay1 l).all fun x=>decide (x=0),()):=by
 rw[qrv]
 simp only[qcC (show Nat.ble (nAdd 0 l.length) 17592186044416=true by rw[Nat.ble_eq];unfold nAdd;omega),Option.bind_some]
 have h:=qJf n ts h60 l.length hN ts [] n l rfl (by omega) rfl (fun x hx=>by have:=hb x hx;simp;omega)
 rw[show List.append [] l=l from rfl]
 show Option.bind (qb n _ (ts,((([]:List Trf).length:Int),(l,())))) _=_
 rw[h]
 cases ts.all (trOk l.length) with
 | false=>rfl
 | true =>
  have hl:=qva ts l
  simp only[cond_true,Option.bind_some,Sum.elim_inl,Bool.true_and]
  generalize ts.foldl pay1 l=r at *
  have h2:=qm9 (step:=qgX n) r (fun k=>((k:Int),(r,()))) (fun x=>decide (x=0)) (.inl ()) (.inr (false,())) (fun rec k hk=>by
   rw[qlm]
   simp only[qv hk,cond_true,qw r hk,Option.bind_some,Int.toNat_natCast,List.getElem?_eq_getElem hk,qi (show k<9223372036854775807 by omega)]
   by_cases h0:r[k]=0
   ·rw[qev h0,decide_eq_true h0];rfl
   ·rw[qhM h0,decide_eq_false h0];rfl) (fun rec=>by
   rw[qlm]
   simp only[qB,cond_false]) (n:=n) (by omega)
  have h2':qb n (qgX n) ((0:Int),(r,()))=_:=h2
  rw[h2']
  cases r.all fun x=>decide (x=0)<;>rfl
end Go.Proofs.YtcjcacbhkoainaaGreatDoor
