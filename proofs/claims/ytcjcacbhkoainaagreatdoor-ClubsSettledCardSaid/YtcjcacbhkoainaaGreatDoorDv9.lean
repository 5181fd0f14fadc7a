/- Clubs: the search for the most groups of sum 0. -/
import Derived.Test.YtcjcacbhkoainaaGreatDoorDv8
set_option linter.constructorNameAsVariable false
set_option linter.unusedSimpArgs false
set_option linter.unusedVariables false
set_option linter.unusedSectionVars false
namespace Go.Proofs.YtcjcacbhkoainaaGreatDoor
open Go Go.Proofs Go.RowKit
set_option maxHeartbeats 1000000
theorem qnm{a m:Nat}(ha:a &&& m=a)(h0:a≠0):m ^^^ a<m:=by
 have h1:=qkn ha
 have h2:=Nat.and_le_right (n:=m ^^^ a) (m:=m)
 have h3:m ^^^ a≠m:=fun e=>h0 (by
  have:m ^^^ (m ^^^ a)=m ^^^ m:=by rw[e]
  rwa [← Nat.xor_assoc,Nat.xor_self,Nat.zero_xor] at this)
 omega
theorem Part.len{Q:Nat→Prop}:∀{F:List Nat} {m:Nat},Part Q m F→F.length≤m
 | [],_,_=>Nat.zero_le _
 | a::F,m,h=>by
  have h1:=qnm h.2.1 h.1
  have h2:=Part.len h.2.2.2
  rw[List.length_cons];omega
def qey(F:List Nat):List Int:=F.map fun(a:Nat)=>(a:Int)
theorem qso(F:List Nat):(qey F).length=F.length:=List.length_map ..
abbrev Memo:=List (Int×List Int)
def MI(l:List Int)(mp:Memo):Prop:=qhl (Ty.i .u64) (0:Int) mp=true∧∀p,p∈mp→∃(m:Nat) (F:List Nat),p.1=(m:Int)∧p.2=qey F∧Part (Zs l) m F∧IsMax (Zs l) m F.length
theorem qsp{m s:Nat}(hm:m<256)(h0:m≠0)(hs:s &&& (m ^^^ lowN m)=s):(s ||| lowN m) &&& m=(s ||| lowN m)∧(s ||| lowN m).testBit (lowI m)=true∧s<256∧lowN m<256∧(s ||| lowN m)<256:=by
 obtain ⟨g1,g2,g3,g4⟩:=qhg m hm h0
 have h1:(s ||| lowN m) &&& m=(s ||| lowN m):=qH.2 fun i hi=>by
  rw[Nat.testBit_or,Bool.or_eq_true] at hi
  rcases hi with hi | hi
  ·have:=qH.1 hs i hi
   rw[qG g3,Bool.and_eq_true] at this
   exact this.1
  ·exact qH.1 g3 i hi
 have h2:=Nat.and_le_right (n:=s ||| lowN m) (m:=m)
 have h3:=Nat.and_le_right (n:=lowN m) (m:=m)
 have h4:=Nat.and_le_right (n:=s) (m:=m ^^^ lowN m)
 have h5:=qnl m hm h0
 refine ⟨h1,?_,by omega,by omega,by omega⟩
 rw[Nat.testBit_or,show lowN m=2 ^ lowI m from rfl,qdU]
 simp
def Done(l:List Int)(m s b:Nat):Prop:=sm l (s ||| lowN m)=0→∃r',IsMax (Zs l) (m ^^^ (s ||| lowN m)) r'∧r'+1≤b
def Att(l:List Int)(m:Nat)(bF:List Nat):Prop:=bF=[]∨(Part (Zs l) m bF∧∃a r',a &&& m=a∧a.testBit (lowI m)=true∧Zs l a∧IsMax (Zs l) (m ^^^ a) r'∧bF.length=r'+1)
noncomputable abbrev FG:=qbc
theorem qyE{l:List Int}{m:Nat}(hm:m<256){bF:List Nat}(h:Att l m bF):bF.length<257:=by
 rcases h with h | h
 ·rw[h];decide
 ·have:=h.1.len;omega
theorem qrn(n:Nat)(l:List Int)(B:Bal l)(m:Nat)(hm:m<256)(h0:m≠0)(hi:InL l m)(hz:sm l m=0)(hn:2000≤n)(g)(rec)
  (ih:∀a mp,a &&& m=a→a≠0→sm l (m ^^^ a)=0→MI l mp→∃F mp',FG g (((m ^^^ a:Nat):Int),(mp,(l,())))=some (qey F,(mp',(l,())))∧Part (Zs l) (m ^^^ a) F∧IsMax (Zs l) (m ^^^ a) F.length∧MI l mp')
  (s:Nat) (hs:s &&& (m ^^^ lowN m)=s) (mp:Memo) (bF:List Nat) (hM:MI l mp) (hA:Att l m bF) :
  ∃bF' mp',qC n g rec ((m:Int),((lowN m:Int),(((m ^^^ lowN m:Nat):Int),((s:Int),(mp,(l,(qey bF,())))))))=cond (iEq (s:Int) 0) (some ((m:Int),(mp',(l,(qey bF',()))))) (rec ((m:Int),((lowN m:Int),(((m ^^^ lowN m:Nat):Int),(bits .and .u64 (IntKind.wrap .u64 (iSub (s:Int) 1)) ((m ^^^ lowN m:Nat):Int),(mp',(l,(qey bF',()))))))))
   ∧ MI l mp'∧Att l m bF'∧Done l m s bF'.length∧bF.length≤bF'.length:=by
 obtain ⟨o1,o2,o3,o4,o5⟩:=qsp hm h0 hs
 have hbl:=qyE hm hA
 have hne:s ||| lowN m≠0:=fun e=>by rw[e,Nat.zero_testBit] at o2;cases o2
 rw[qe8]
 simp only[bOr s (lowN m) o3 o4,qyD n l B _ o5 (hi.sub o1) hn,Option.bind_some]
 by_cases hsz:sm l (s ||| lowN m)=0
 ·have hrz:sm l (m ^^^ (s ||| lowN m))=0:=by have:=qlw (l:=l) o1;omega
  obtain ⟨F,mp',e1,e2,e3,e4⟩:=ih (s ||| lowN m) mp o1 hne hrz hM
  have hF:=e2.len
  have hrl:=qnm o1 hne
  simp only[qpv hsz,cond_true,qx5 m _ hm o1,e1,Option.bind_some,qso]
  rw[show iW (iAdd ((F.length:Nat):Int) 1)=((F.length+1:Nat):Int) from qcH (by omega)]
  by_cases hgt:bF.length<F.length+1
  ·refine ⟨(s ||| lowN m)::F,mp',?_,e4,.inr ⟨⟨hne,o1,hsz,e2⟩,s ||| lowN m,F.length,o1,o2,hsz,e3,rfl⟩,fun _=>⟨F.length,e3,Nat.le_refl _⟩,by rw[List.length_cons];omega⟩
   rw[show iGt ((F.length+1:Nat):Int) (bF.length:Int)=true from decide_eq_true (by omega),qil (by rw[Nat.ble_eq];unfold nAdd;omega)]
   rfl
  ·refine ⟨bF,mp',?_,e4,hA,fun _=>⟨F.length,e3,by omega⟩,Nat.le_refl _⟩
   rw[show iGt ((F.length+1:Nat):Int) (bF.length:Int)=false from decide_eq_false (by omega)]
   rfl
 ·refine ⟨bF,mp,?_,hM,hA,fun h=>absurd h hsz,Nat.le_refl _⟩
  rw[show iEq (sm l (s ||| lowN m)) 0=false by simp[iEq,hsz]]
  rfl
theorem Done.mono{l:List Int}{m s b b':Nat}(h:Done l m s b)(hb:b≤b'):Done l m s b':=fun hz=>by
 obtain ⟨r,h1,h2⟩:=h hz
 exact ⟨r,h1,by omega⟩
theorem qwu(n:Nat)(l:List Int)(B:Bal l)(m:Nat)(hm:m<256)(h0:m≠0)(hi:InL l m)(hz:sm l m=0)(hn:2000≤n)(g)
  (ih:∀a mp,a &&& m=a→a≠0→sm l (m ^^^ a)=0→MI l mp→∃F mp',FG g (((m ^^^ a:Nat):Int),(mp,(l,())))=some (qey F,(mp',(l,())))∧Part (Zs l) (m ^^^ a) F∧IsMax (Zs l) (m ^^^ a) F.length∧MI l mp') :
  ∀(ss A:List Nat) (s:Nat) (n':Nat) (mp:Memo) (bF:List Nat),qik (m ^^^ lowN m)=A++(s::ss)→qpa (m ^^^ lowN m) (s::ss)=true→ss.length<n'→MI l mp→Att l m bF→(∀x,x∈A→Done l m x bF.length) →
  ∃bF' mp',qg n' (qC n g) ((m:Int),((lowN m:Int),(((m ^^^ lowN m:Nat):Int),((s:Int),(mp,(l,(qey bF,())))))))=some ((m:Int),(mp',(l,(qey bF',()))))∧MI l mp'∧Att l m bF'∧∀x,x∈qik (m ^^^ lowN m)→Done l m x bF'.length:=by
 intro ss
 induction ss with
 | nil =>
  intro A s n' mp bF hp hc hn' hM hA hD
  obtain ⟨n',rfl⟩:∃j,n'=j+1:=⟨n'-1,by omega⟩
  have hs:s &&& (m ^^^ lowN m)=s:=qpb.1 (by rw[hp];simp)
  obtain ⟨bF',mp',e1,e2,e3,e4,e5⟩:=qrn n l B m hm h0 hi hz hn g (qg n' (qC n g)) ih s hs mp bF hM hA
  have hs0:s=0:=of_decide_eq_true hc
  refine ⟨bF',mp',?_,e2,e3,fun x hx=>?_⟩
  ·rw[qw,e1,hs0];rfl
  ·rw[hp] at hx
   rcases List.mem_append.1 hx with hx | hx
   ·exact (hD x hx).mono e5
   ·rw[List.mem_singleton] at hx;rw[hx];exact e4
 | cons t ss ihs =>
  intro A s n' mp bF hp hc hn' hM hA hD
  obtain ⟨n',rfl⟩:∃j,n'=j+1:=⟨n'-1,by omega⟩
  have hs:s &&& (m ^^^ lowN m)=s:=qpb.1 (by rw[hp];simp)
  obtain ⟨o1,o2,o3,o4,o5⟩:=qsp hm h0 hs
  obtain ⟨bF',mp',e1,e2,e3,e4,e5⟩:=qrn n l B m hm h0 hi hz hn g (qg n' (qC n g)) ih s hs mp bF hM hA
  unfold qpa at hc
  rw[Bool.and_eq_true,Bool.and_eq_true,Bool.not_eq_true',decide_eq_false_iff_not,decide_eq_true_eq] at hc
  obtain ⟨c1,c2,c3⟩:=hc
  obtain ⟨bG,mq,f1,f2,f3,f4⟩:=ihs (A++[s]) t n' mp' bF' (by rw[hp];simp) c3 (by simp at hn';omega) e2 e3 fun x hx=>by
   rcases List.mem_append.1 hx with hx | hx
   ·exact (hD x hx).mono e5
   ·rw[List.mem_singleton] at hx;rw[hx];exact e4
  refine ⟨bG,mq,?_,f2,f3,f4⟩
  rw[qw,e1,show iEq (s:Int) 0=false by simp[iEq];omega,qzC _ s (by have:=qnl m hm h0;omega) o3 c1,c2]
  exact f1
end Go.Proofs.YtcjcacbhkoainaaGreatDoor
