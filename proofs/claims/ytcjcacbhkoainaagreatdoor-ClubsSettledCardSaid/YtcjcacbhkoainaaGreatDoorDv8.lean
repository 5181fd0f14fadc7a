/- Clubs: sums of sets of balances; the set of those that are not 0. -/
import Derived.Test.YtcjcacbhkoainaaGreatDoorDv7
import Derived.Test.YtcjcacbhkoainaaGreatDoorDk2
set_option linter.constructorNameAsVariable false
set_option linter.unusedSimpArgs false
set_option linter.unusedVariables false
set_option linter.unusedSectionVars false
namespace Go.Proofs.YtcjcacbhkoainaaGreatDoor
open Go Go.Proofs Go.RowKit
set_option maxHeartbeats 1000000
set_option maxRecDepth 100000
theorem qy8(x:Nat)(hx:x<256)(h0:x≠0):tz x=lowI x:=by
 have:=qjI (p:=fun x=>decide (x=0)||decide (tz x=lowI x)) (by decide +kernel) hx
 simpa[h0] using this
theorem qx6(n:Nat)(x:Nat)(hx:x<256)(h0:x≠0):tz_F n ((x:Int),())=some ((lowI x:Int),()):=by
 rw[qyw,show tzB (x:Int)=true by unfold tzB;rw[Bool.and_eq_true,decide_eq_true_eq,decide_eq_true_eq];omega]
 show some ((tz (Int.toNat (x:Int)):Int),())=_
 rw[Int.toNat_natCast,qy8 x hx h0]
theorem qnl(x:Nat)(hx:x<256)(h0:x≠0):x ^^^ lowN x<x:=by
 have:=qjI (p:=fun x=>decide (x=0)||decide (x ^^^ lowN x<x)) (by decide +kernel) hx
 simpa[h0] using this
structure Bal (l:List Int):Prop where
 ln:l.length≤8
 bd:∀x,x∈l→-1000000000≤x∧x≤1000000000
def InL(l:List Int)(m:Nat):Prop:=∀i,m.testBit i=true→i<l.length
theorem InL.sub{l:List Int}{a m:Nat}(h:InL l m)(ha:a &&& m=a):InL l a:=fun i hi=>h i (qH.1 ha i hi)
theorem qkn{a m:Nat}(ha:a &&& m=a):(m ^^^ a) &&& m=(m ^^^ a):=qH.2 fun i hi=>by
 rw[qG ha,Bool.and_eq_true] at hi
 exact hi.1
theorem sumL(n:Nat)(l:List Int)(B:Bal l):∀(k m:Nat) (acc:Int) (n':Nat),m≤k→m<256→InL l m→m<n'→-(1000000000*(256-(m:Int)))≤acc→acc≤1000000000*(256-(m:Int)) →
  qg n' (qhw n) (l,((m:Int),(acc,())))=some (acc+sm l m,()):=by
 intro k
 induction k with
 | zero =>
  intro m acc n' hk hm hi hn h1 h2
  obtain ⟨n',rfl⟩:∃j,n'=j+1:=⟨n'-1,by omega⟩
  rw[show m=0 by omega,qw,qiG]
  simp only[show iNe ((0:Nat):Int) 0=false from rfl,cond_false]
  rw[show sm l 0=0 from qn0 l _ fun i=>Nat.zero_testBit i,Int.add_zero]
 | succ k ih =>
  intro m acc n' hk hm hi hn h1 h2
  by_cases h0:m=0
  ·exact ih m acc n' (by omega) hm hi hn h1 h2
  obtain ⟨n',rfl⟩:∃j,n'=j+1:=⟨n'-1,by omega⟩
  obtain ⟨g1,g2,g3,g4⟩:=qhg m hm h0
  have hlt:=hi _ g2
  have hd:=qnl m hm h0
  have hb:=B.bd _ (List.getElem_mem hlt)
  have hs:=qlw (l:=l) g3
  rw[show lowN m=2 ^ lowI m from rfl,qwl,List.getElem?_eq_getElem hlt,Option.getD_some] at hs
  rw[qw,qiG]
  simp only[qkw (show ((m:Nat):Int)≠0 by omega),cond_true,qx6 n m hm h0,Option.bind_some,qjG l hlt,qx4 m hm h0]
  rw[show iW (iAdd acc l[lowI m])=acc+l[lowI m] from qgM (by unfold iAdd;omega) (by unfold iAdd;omega)]
  rw[ih (m ^^^ lowN m) (acc+l[lowI m]) n' (by omega) (by omega) (hi.sub (qkn g3)) (by omega) (by omega) (by omega)]
  rw[hs,show lowN m=2 ^ lowI m from rfl,Int.add_assoc]
theorem qyD(n:Nat)(l:List Int)(B:Bal l)(m:Nat)(hm:m<256)(hi:InL l m)(hn:2000≤n):qig n (l,((m:Int),()))=some (sm l m,()):=by
 rw[qnk]
 have:=sumL n l B m m 0 n (Nat.le_refl _) hm hi (by omega) (by omega) (by omega)
 show Option.bind (qg n _ (l,((m:Int),((0:Int),())))) _=_
 rw[this,Int.zero_add];rfl
end Go.Proofs.YtcjcacbhkoainaaGreatDoor
