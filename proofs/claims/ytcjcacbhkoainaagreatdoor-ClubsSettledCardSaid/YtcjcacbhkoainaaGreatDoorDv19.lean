/- Clubs: the reference's Fewest is what Settle qu1. -/
import Derived.Test.YtcjcacbhkoainaaGreatDoorDv18
set_option linter.constructorNameAsVariable false
set_option linter.unusedSimpArgs false
set_option linter.unusedVariables false
set_option linter.unusedSectionVars false
namespace Go.Proofs.YtcjcacbhkoainaaGreatDoor
open Go Go.Proofs Go.RowKit
set_option maxHeartbeats 1000000
set_option maxRecDepth 100000
def AttR(l:List Int)(m b:Nat):Prop:=∃a r',a &&& m=a∧a.testBit (lowI m)=true∧Zs l a∧IsMax (Zs l) (m ^^^ a) r'∧b=r'+1
def UpR(l:List Int)(m s b:Nat):Prop:=∀a,a<s→a &&& m=a→a.testBit (lowI m)=true→Zs l a→∃r',IsMax (Zs l) (m ^^^ a) r'∧r'+1≤b
theorem AttR.bd{l:List Int}{m b:Nat}(hm:m<256)(h:AttR l m b):b≤257:=by
 obtain ⟨a,r',h1,h2,h3,⟨⟨F,h4,h5⟩,_⟩,h6⟩:=h
 have:=h4.len
 have h7:=qkn h1
 have:=Nat.and_le_right (n:=m ^^^ a) (m:=m)
 omega
theorem UpR.skip{l:List Int}{m s b:Nat}(h:UpR l m s b)(hs:¬(s &&& m=s∧s.testBit (lowI m)=true∧Zs l s)):UpR l m (s+1) b:=fun a ha h1 h2 h3=>by
 by_cases e:a=s
 ·subst e;exact absurd ⟨h1,h2,h3⟩ hs
 ·exact h a (by omega) h1 h2 h3
theorem qyQ(n:Nat)(l:List Int)(B:Bal l)(m:Nat)(hm:m<256)(h0:m≠0)(hi:InL l m)(hn:2000≤n)(g)
  (ih:∀a,a &&& m=a→a≠0→sm l (m ^^^ a)=0→∃r:Nat,qda g (l,(((m ^^^ a:Nat):Int),()))=some ((r:Int),())∧IsMax (Zs l) (m ^^^ a) r) (hz:sm l m=0) :
  ∀(j s b n':Nat),s+j=m→1≤s→j<n'→AttR l m b→UpR l m s b →
  ∃b':Nat,qg n' (qcP n g) (l,((m:Int),((lowI m:Int),((b:Int),((s:Int),())))))=some ((b':Int),())∧AttR l m b'∧UpR l m m b':=by
 obtain ⟨g1,g2,g3,g4⟩:=qhg m hm h0
 intro j
 induction j with
 | zero =>
  intro s b n' hs h1 hn' hA hU
  obtain ⟨n',rfl⟩:∃j,n'=j+1:=⟨n'-1,by omega⟩
  refine ⟨b,?_,hA,by rw[show m=s by omega] at hU ⊢;exact hU⟩
  rw[qw,qhd,show s=m by omega]
  simp only[qg3,cond_false]
 | succ j ihj =>
  intro s b n' hs h1 hn' hA hU
  obtain ⟨n',rfl⟩:∃j,n'=j+1:=⟨n'-1,by omega⟩
  have hb:=hA.bd hm
  have hsl:s<256:=by omega
  rw[qw,qhd]
  simp only[qg2 (show s<m by omega),cond_true,qzf s m hsl hm,qyM s (lowI m) hsl g1,qvj (lowI m) g1,Option.bind_some,qcH (show s<9223372036854775807 by omega),qxK n l B s hsl hn]
  have hskip:¬(s &&& m=s∧s.testBit (lowI m)=true∧Zs l s)→∃b':Nat,qg n' (qcP n g) (l,((m:Int),((lowI m:Int),((b:Int),(((s+1:Nat):Int),())))))=some ((b':Int),())∧AttR l m b'∧UpR l m m b':=fun hc=>ihj (s+1) b n' (by omega) (by omega) (by omega) hA (hU.skip hc)
  unfold subB
  by_cases c1:s &&& m=s
  ·rw[decide_eq_true c1]
   simp only[Bool.not_true,cond_false]
   cases c2:s.testBit (lowI m) with
   | false=>exact hskip fun hc=>by rw[c2] at hc;exact absurd hc.2.1 (by decide)
   | true =>
    simp only[Bool.not_true,cond_false]
    by_cases c3:sm l s=0
    ·rw[qiy c3]
     have hs0:s≠0:=by omega
     have hr:=qlw (l:=l) c1
     obtain ⟨r,r1,r2⟩:=ih s c1 hs0 (by omega)
     have hrl:r≤256:=by
      obtain ⟨⟨F,f1,f2⟩,_⟩:=r2
      have:=f1.len
      have:=qnm c1 hs0
      omega
     simp only[cond_false,qyN s m hsl hm c1,r1,Option.bind_some,show iGe (r:Int) 0=true from decide_eq_true (show (r:Int)≥0 by omega),cond_true]
     have hmx:iMax (b:Int) (iW (iAdd (r:Int) 1))=((max b (r+1):Nat):Int):=by
      rw[qcH (show r<9223372036854775807 by omega)]
      unfold iMax
      split<;>omega
     rw[hmx]
     refine ihj (s+1) (max b (r+1)) n' (by omega) (by omega) (by omega) ?_ fun a ha q1 q2 q3=>?_
     ·rcases Nat.le_total (r+1) b with h | h
      ·rw[Nat.max_eq_left h];exact hA
      ·rw[Nat.max_eq_right h];exact ⟨s,r,c1,c2,c3,r2,rfl⟩
     ·by_cases e:a=s
      ·subst e;exact ⟨r,r2,Nat.le_max_right _ _⟩
      ·obtain ⟨r',t1,t2⟩:=hU a (by omega) q1 q2 q3
       exact ⟨r',t1,Nat.le_trans t2 (Nat.le_max_left _ _)⟩
    ·rw[qkw c3]
     exact hskip fun hc=>c3 hc.2.2
  ·rw[decide_eq_false c1]
   exact hskip fun hc=>c1 hc.1
theorem qyR(n:Nat)(l:List Int)(B:Bal l)(hn:2000≤n):∀(k m:Nat),m<k→m<256→InL l m→sm l m=0→(∀i,m.testBit i=true→(l[i]?).getD 0≠0) →
  ∃r:Nat,qda (qL n k) (l,((m:Int),()))=some ((r:Int),())∧IsMax (Zs l) m r:=by
 intro k
 induction k with
 | zero=>intro m h;exact absurd h (Nat.not_lt_zero _)
 | succ k ihk =>
  intro m hk hm hi hz hnz
  have h8:=B.ln
  rw[qkK,qk4]
  have hh:=qyO n (qL n k) l B m hm hnz l.length 0 n (by omega) (by omega)
  have hh':qg n (qdP n (qL n k)) (l,((m:Int),(Int.negSucc 0,((0:Int),((0:Int),())))))=some (l,((m:Int),(fstT m l.length,(sm l m,())))):=hh
  simp only[hh',Option.bind_some,qiy hz,cond_false]
  by_cases h0:m=0
  ·subst h0
   rw[qxL]
   exact ⟨0,rfl,qn1 _⟩
  ·obtain ⟨g1,g2,g3,g4⟩:=qhg m hm h0
   rw[qyP hm h0 hi]
   simp only[show iLt (lowI m:Int) 0=false from decide_eq_false (by omega),cond_false]
   have hmm:m &&& m=m:=Nat.and_self m
   have hmax0:IsMax (Zs l) (m ^^^ m) 0:=by rw[Nat.xor_self];exact qn1 _
   obtain ⟨b',e1,e2,e3⟩:=qyQ n l B m hm h0 hi hn (qL n k) (fun a ha ha0 haz=>by
    have:=qnm ha ha0
    exact ihk (m ^^^ a) (by omega) (by omega) (hi.sub (qkn ha)) haz fun i hb=>hnz i (by
     rw[qG ha,Bool.and_eq_true] at hb
     exact hb.1)) hz (m-1) 1 1 n (by omega) (Nat.le_refl _) (by omega) ⟨m,0,hmm,g2,hz,hmax0,rfl⟩ fun a ha h1 h2 _=>by
     rw[show a=0 by omega,Nat.zero_testBit] at h2;cases h2
   have e1':qg n (qcP n (qL n k)) (l,((m:Int),((lowI m:Int),((1:Int),((1:Int),())))))=some ((b':Int),()):=e1
   rw[e1']
   refine ⟨b',rfl,qtC g2 e2 fun a ha hb hzz=>?_⟩
   by_cases e:a=m
   ·subst e
    obtain ⟨_,r',_,_,_,_,q⟩:=e2
    exact ⟨0,hmax0,by omega⟩
   ·have:=Nat.and_le_right (n:=a) (m:=m)
    exact e3 a (by omega) ha hb hzz
def cntT(l:List Int)(k:Nat):Nat:=((List.range k).filter fun i=>!decide ((l[i]?).getD 0=0)).length
theorem qpf(l:List Int)(k:Nat):cntT l (k+1)=cntT l k+if (l[k]?).getD 0=0 then 0 else 1:=by
 unfold cntT
 rw[List.range_succ,List.filter_append,List.length_append]
 by_cases h:(l[k]?).getD 0=0
 ·rw[if_pos h,List.filter_cons_of_neg (by rw[decide_eq_true h];decide)];rfl
 ·rw[if_neg h,List.filter_cons_of_pos (by rw[decide_eq_false h];rfl)];rfl
theorem qwC(k:Nat)(hk:k<8):qbA (iSh .i64 (IntKind.wrap .u64 (k:Int)))=some ()∧iW (iShl (1:Int) (IntKind.wrap .u64 (k:Int)))=((2 ^ k:Nat):Int):=by
 have:(List.range 8).all (fun k:Nat=>decide (qbA (iSh .i64 (IntKind.wrap .u64 (k:Int)))=some ())&&decide (iW (iShl (1:Int) (IntKind.wrap .u64 (k:Int)))=((2 ^ k:Nat):Int)))=true:=by decide +kernel
 simpa using List.all_eq_true.1 this k (List.mem_range.2 hk)
theorem qyS(n:Nat)(l:List Int)(B:Bal l):∀(j k s n':Nat),k+j=l.length→j<n'→s<2 ^ k→(∀i,s.testBit i=(decide (i<k) && !decide ((l[i]?).getD 0=0))) →
  qg n' (qd8 n) (l,((cntT l k:Int),((s:Int),((k:Int),()))))=some (l,((qbU l:Int),((qcf l:Int),()))):=by
 intro j
 induction j with
 | zero =>
  intro k s n' hk hn hs hb
  obtain ⟨n',rfl⟩:∃j,n'=j+1:=⟨n'-1,by omega⟩
  have e:s=qcf l:=Nat.eq_of_testBit_eq fun i=>by rw[hb,qjH,show k=l.length by omega]
  rw[qw,qhD,e,show k=l.length by omega]
  simp only[qg3,cond_false]
  rfl
 | succ j ih =>
  intro k s n' hk hn hs hb
  obtain ⟨n',rfl⟩:∃j,n'=j+1:=⟨n'-1,by omega⟩
  have hlt:k<l.length:=by omega
  have h8:=B.ln
  have hget:(l[k]?).getD 0=l[k]:=by rw[List.getElem?_eq_getElem hlt];rfl
  have hp8:2 ^ k≤2 ^ 8:=Nat.pow_le_pow_right (by decide) (by omega)
  have hcl:cntT l k≤k:=by unfold cntT;exact Nat.le_trans (List.length_filter_le _ _) (by rw[List.length_range];exact Nat.le_refl _)
  rw[qw,qhD]
  simp only[qg2 hlt,cond_true,qjG l hlt,Option.bind_some,(qwC k (by omega)).1,(qwC k (by omega)).2,qcH (show k<9223372036854775807 by omega)]
  by_cases h0:l[k]=0
  ·rw[qiy h0]
   have:=ih (k+1) s n' (by omega) (by omega) (by rw[Nat.pow_succ];omega) fun i=>by
    rw[hb]
    by_cases h1:i<k
    ·rw[decide_eq_true h1,decide_eq_true (show i<k+1 by omega)]
    ·rw[decide_eq_false h1]
     by_cases h2:i=k
     ·subst h2;rw[hget,decide_eq_true h0,Bool.not_true,Bool.and_false,Bool.and_false]
     ·rw[decide_eq_false (show ¬i<k+1 by omega)]
   rw[qpf,hget,if_pos h0] at this
   exact this
  ·rw[qkw h0]
   have hor:s+2 ^ k=s ||| 2 ^ k:=by
    have:=Nat.two_pow_add_eq_or_of_lt hs 1
    rw[Nat.mul_one] at this
    rw[Nat.add_comm,this,Nat.or_comm]
   have:=ih (k+1) (s+2 ^ k) n' (by omega) (by omega) (by rw[Nat.pow_succ];omega) fun i=>by
    rw[hor,Nat.testBit_or,hb,qdU]
    by_cases h1:i<k
    ·rw[decide_eq_true h1,decide_eq_true (show i<k+1 by omega),decide_eq_false (show ¬k=i by omega),Bool.or_false]
    ·rw[decide_eq_false h1]
     by_cases h2:i=k
     ·subst h2;rw[hget,decide_eq_false h0,decide_eq_true rfl,decide_eq_true (show i<i+1 by omega)];rfl
     ·rw[decide_eq_false (show ¬i<k+1 by omega),decide_eq_false (show ¬k=i by omega)];rfl
   rw[qpf,hget,if_neg h0] at this
   rw[qcH (show cntT l k<9223372036854775807 by omega),show iW (iAdd (s:Int) ((2 ^ k:Nat):Int))=((s+2 ^ k:Nat):Int) by
    rw[show iAdd (s:Int) ((2 ^ k:Nat):Int)=((s+2 ^ k:Nat):Int) by unfold iAdd;omega]
    exact qgM (by omega) (by omega)]
   exact this
theorem qtM(n:Nat)(l:List Int)(hn:2000≤n)(h:balB l=true){us:List Stay}{r:Nat}(S:SetOk l us r):qeQ n (l,())=some ((us.length:Int),(0,())):=by
 obtain ⟨B,hs⟩:=qnn h
 have h8:=B.ln
 have hm:=qx8 B
 rw[qii,qpd n l hn,h]
 have h1:=qyS n l B l.length 0 0 n (by omega) (by omega) (by decide) fun i=>by rw[Nat.zero_testBit];rfl
 have h1':qg n (qd8 n) (l,((0:Int),((0:Int),((0:Int),()))))=some (l,((qbU l:Int),((qcf l:Int),()))):=h1
 simp only[Bool.not_true,Option.bind_some,cond_false,h1']
 obtain ⟨r',e1,e2⟩:=qyR n l B hn n (qcf l) (by omega) hm (qve l) (by rw[qtI,hs]) fun i hi=>by
  rw[qjH,Bool.and_eq_true] at hi
  simpa using hi.2
 rw[qlq,e1]
 have:=S.mx.uniq e2
 have hl:=S.ln
 have hle:=S.n8
 have:r'≤256:=by
  obtain ⟨⟨F,f1,f2⟩,_⟩:=e2
  have:=f1.len
  omega
 show some (iW (iSub (qbU l:Int) (r':Int)),((0:Int),()))=_
 rw[show iSub (qbU l:Int) (r':Int)=(us.length:Int) by unfold iSub;omega,qgM (by omega) (by omega)]
theorem qsA(n:Nat)(l:List Int)(hn:2000≤n)(h:balB l=false):qeQ n (l,())=some (0,(111,())):=by
 rw[qii,qpd n l hn,h]
 rfl
end Go.Proofs.YtcjcacbhkoainaaGreatDoor
