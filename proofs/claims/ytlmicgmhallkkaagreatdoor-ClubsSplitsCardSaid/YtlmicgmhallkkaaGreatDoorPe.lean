/- Texts Dc4, Dc5, Dc6, Dc7, Dc8, Dc9, Dc10, Dc11, Dc12 in one. -/
import Derived.Test.YtlmicgmhallkkaaGreatDoorPd
/- Clubs, plain: a valid union is opened. -/
set_option linter.constructorNameAsVariable false
set_option linter.unusedSimpArgs false
set_option linter.unusedVariables false
set_option linter.unusedSectionVars false
namespace Go.Proofs.YtlmicgmhallkkaaGreatDoor
open Go Go.Proofs Go.RowKit
set_option maxHeartbeats 1000000
structure Okay (u:Uni):Prop where
 v:Vld u.1 u.2.1
 ms:u.2.1.length≤9
 cl:1≤u.2.2.1∧u.2.2.1≤6
 fe:u.2.2.2.1.length=u.1.1.length
 sh:u.2.2.2.2.1.length=u.1.1.length
 rows:∀r,r∈u.2.2.2.2.1→(r.length:Int)=u.2.2.1
 gu:∀g,g∈u.2.2.2.2.2.1→-1≤g.2.1∧g.2.1≤u.2.2.1-1
 ri:∀g,g∈u.2.2.2.2.2.2.1→(0≤g.1∧g.1≤u.2.2.1-1)∧(0≤g.2∧g.2≤u.2.2.1-1)
 wo:∀g,g∈u.2.2.2.2.2.2.2.1→(0≤g.1∧g.1≤u.2.2.1-1)∧(0≤g.2.1∧g.2.1≤(u.1.1.length:Int)-1)
 gl:u.2.2.2.2.2.1.length≤40
 rl:u.2.2.2.2.2.2.1.length≤12
 wl:u.2.2.2.2.2.2.2.1.length≤20
theorem qvS{a b A B:Int}(h1:0≤a)(h2:a≤A)(h3:0≤b)(h4:b≤B):0≤a*b∧a*b≤A*B :=
 ⟨Int.mul_nonneg h1 h3,Int.le_trans (Int.mul_le_mul_of_nonneg_right h2 h3) (Int.mul_le_mul_of_nonneg_left h4 (by omega))⟩
def InR(L:Nat)(d:List Int):Prop:=∀x,x∈d→0≤x∧x<L
def qS(a x:Int):Int:=a*x/100
theorem qpN{a x:Int}(ha:0≤a∧a≤1000000000000)(hx:0≤x∧x≤100):0≤qS a x∧qS a x≤1000000000000∧100*qS a x≤a*x∧a*x<100*qS a x+100∧iW (Int.tdiv (iW (iMul a x)) 100)=qS a x:=by
 have h:=qvS ha.1 ha.2 hx.1 hx.2
 unfold qS
 have e:iW (iMul a x)=a*x:=qhs (by unfold iMul;omega) (by unfold iMul;omega)
 rw[e,Int.tdiv_eq_ediv_of_nonneg h.1]
 refine ⟨by omega,by omega,by omega,by omega,qhs (by omega) (by omega)⟩
theorem qn2{a:Int}(ha:0≤a∧a≤1000000000000):∀(l:List Int),(∀x,x∈l→0≤x∧x≤100)→0≤(l.map (qS a)).sum∧(l.map (qS a)).sum≤1000000000000*l.length∧100*(l.map (qS a)).sum≤a*l.sum∧a*l.sum≤100*(l.map (qS a)).sum+99*l.length
 | [],_=>by simp
 | x::l,h=>by
  have:=qn2 ha l fun y hy=>h y (List.mem_cons_of_mem _ hy)
  have hq:=qpN ha (h x List.mem_cons_self)
  rw[List.map_cons,List.sum_cons,List.sum_cons,List.length_cons,Int.mul_add a x l.sum]
  omega
theorem latA{α:Type}(A B:List α)(x:α){k:Nat}(h:A.length=k):lat (A++x::B) (k:Int)=some x:=by
 subst h;rw[qqe];simp
theorem getA{α:Type}(A B:List α)(x:α){k:Nat}(h:A.length=k):(A++x::B)[k]?=some x:=by
 subst h;simp
theorem setA{α:Type}(A B:List α)(x y:α){k:Nat}(h:A.length=k):(A++x::B).set k y=A++y::B:=by
 subst h;simp
structure Bnd (u:Uni):Prop where
 fe:∀f,f∈u.2.2.2.1→0≤f∧f≤100000
 ro:∀r,r∈u.2.2.2.2.1→(∀x,x∈r→0≤x∧x≤100)∧r.sum=100
 gk:∀g,g∈u.2.2.2.2.2.1→0≤g.2.2∧g.2.2≤20
 wk:∀w,w∈u.2.2.2.2.2.2.2.1→0≤w.2.2∧w.2.2≤20
 me:0≤u.2.2.2.2.2.2.2.2.1∧u.2.2.2.2.2.2.2.2.1≤100
 ch:0≤u.2.2.2.2.2.2.2.2.2.1∧u.2.2.2.2.2.2.2.2.2.1≤100
 cr:0≤u.2.2.2.2.2.2.2.2.2.2.2∧u.2.2.2.2.2.2.2.2.2.2.2≤100000
set_option maxRecDepth 20000
end Go.Proofs.YtlmicgmhallkkaaGreatDoor
