/- Texts Dl2, Dl4 in one. -/
import Derived.Test.YtbdockhccdkdiaaGreatLa
import Derived.Test.YtbdockhccdkdiaaGreatQc
import Derived.Test.YtbdockhccdkdiaaGreatQa
/- Ropes: the examples of the law package, in pieces. -/
set_option linter.constructorNameAsVariable false
set_option linter.unusedSimpArgs false
set_option linter.unusedVariables false
set_option linter.unusedSectionVars false
namespace Go.Proofs.YtbdockhccdkdiaaGreat
open Go Go.Proofs Go.RowKit
set_option maxHeartbeats 1000000
def exG:List (Int×(Int×Int)):=[(4,(500,6)),(3,(399,9)),(3,(400,4))]
def exMd:Int×(Int×(Int×(List (Int×Int)))):=(3650,(1825,(10,[(30,1),(100,4),(170,10)])))
def exR:Int×(Int×(Int×(List (Int×((Int×Int)×(Int×Int)))))):=(0,(100,(50,[(200,((20,30),(100,100))),(300,((40,60),(40,50)))])))
def exO:OutX:=((400,(3,(10,(exG,([3,2,4],(exMd,[exR,(300,(Int.negSucc 0,(20,[])))])))))),[0,1])
def exP:List (Int×(Int×Int)):=[(0,(0,2)),(4000,(1,3)),(6000,(5,9))]
theorem ex09(n:Nat):qfm n ()=some (exO.1,(exP,())):=by kernel_rfl
theorem qxQ(n:Nat):qi6 (n+60) (exMd,(exR,((300:Int),())))=some ((1,5),((0:Int),())):=by kernel_rfl
theorem qxh(n:Nat):qkj (n+60) (exP,((10:Int),((20:Int),())))=some ([0,1],((0:Int),())):=by kernel_rfl
theorem qxi(n:Nat):qhJ (n+60) (exO.1,())=some (.inl (exO,((0:Int),()))):=by kernel_rfl
theorem qwV(n:Nat):qgX (tmO (n+60) exO)=[([0,0,2],[0,Int.negSucc 0,1]),([2,0,0],[0,Int.negSucc 0,1])]:=by kernel_rfl
theorem qxj(n:Nat):qgw n ((1:Int),((5:Int),()))=some ((1,5),()):=by kernel_rfl
theorem qxk(n:Nat):qba (n+60) (([0,1]:List Int),(([0,1]:List Int),()))=some (true,()):=by kernel_rfl
theorem qwW(n:Nat):rgF (qgc (n+60)) [([0,Int.negSucc 0,1],()),([0,Int.negSucc 0,1],())] (Int.negSucc 0,())=some (.inl ((2:Int),())):=by kernel_rfl
theorem qxl(n:Nat)(hn:2000≤n):TmOk n exO:=qxP n hn exO (by decide) (by decide) (by decide) (by decide) (by decide)
theorem qso(n:Nat)(x:OutX)(L:List (List Nat×List Int))(l:List ((List Int)×Unit))(k:Int)(h1:qhJ n (x.1,())=some (.inl (x,((0:Int),()))))(h2:qlD n x=some L)(h3:(L.map fun e=>(e.2,()))=l)
  (h4:rgF (qgc n) l (Int.negSucc 0,())=some (.inl (k,()))) (h5:0≤k):qfQ n (x.1,())=some (k,((0:Int),())):=by
 subst h3
 have ht:qnl n x=some (L.map fun e=>(e.2,())):=by unfold qnl;rw[h2];rfl
 rw[qnZ,h1]
 have hw:qfP n (x,())=some (x,()):=by rw[qkn]
 simp only[Option.bind_some,Sum.elim_inl,show iNe (0:Int) 0=false from rfl,cond_false,hw]
 rw[ht]
 show Option.bind (rgF (qgc n) (L.map fun e=>(e.2,())) (Int.negSucc 0,())) _=_
 rw[h4]
 show cond (iLt k 0) _ _=_
 rw[show iLt k 0=false from decide_eq_false (by omega)]
 rfl
theorem qvS(n:Nat):qfQ (n+2000) (exO.1,())=some ((2:Int),((0:Int),())) :=
 qso (n+2000) exO _ _ 2 (qxi (n+1940)) (quB (qxl _ (by omega))) (by rw[qwV (n+1940)];rfl) (qwW (n+1940)) (by decide)
def qbN(n lo hi:Int):Bool:=decide (lo≤n)&&decide (n≤hi)
def qi7(a b lo hi:Int):Bool:=decide (lo≤a)&&decide (a≤b)&&decide (b≤hi)
structure Post where
 at_:Int
 lo:Int
 hi:Int
instance:Inhabited Post:=⟨⟨0,0,0⟩⟩
def qt(n s:Nat):List Nat:=(List.range n).filter fun i=>s.testBit i
theorem qmn(n s:Nat):qt (n+1) s=qt n s++(if s.testBit n=true then [n] else []):=by
 unfold qt
 rw[List.range_succ,List.filter_append]
 cases h:s.testBit n<;>simp[h]
def cmpN(a b:Nat):Int:=if a<b then -1 else if b<a then 1 else 0
def cmpL:List Nat→List Nat→Int
 | [],[]=>0
 | [],_::_=>-1
 | _::_,[]=>1
 | a::l,b::m=>if cmpN a b=0 then cmpL l m else cmpN a b
def qdV(n:Nat)(is:Nat→Bool):Nat→Option (List Nat)
 | 0=>none
 | k+1=>match qdV n is k with
  | none=>if is k then some (qt n k) else none
  | some b=>if b.length<(qt n k).length∨((qt n k).length=b.length∧0≤cmpL (qt n k) b) then some b else if is k then some (qt n k) else some b
def fewV(n:Nat)(is:Nat→Bool):Option (List Nat):=qdV n is (2 ^ n)
def bitB(x:Int)(i:Nat):Bool:=decide (x/2 ^ i % 2=1)
def qrT(x y:Post)(s1 s2 limit years:Int):Bool:=decide (limit*(y.at_-x.at_)<max (s1-s2) (s2-s1)*years*1000)
def canB(x y:Post)(limit years:Int):Bool:=qrT x y x.hi y.lo limit years||qrT x y x.lo y.hi limit years
theorem qvT{n i s:Nat}(h:i≤n)(hs:s/2 ^ i=0):qt n s=qt i s:=by
 obtain ⟨d,rfl⟩:∃d,n=i+d:=⟨n-i,by omega⟩
 clear h
 induction d with
 | zero=>rfl
 | succ d ih =>
  rw[← Nat.add_assoc,qmn,ih,if_neg,List.append_nil]
  rw[Nat.testBit_eq_decide_div_mod_eq,decide_eq_true_eq]
  have:s<2 ^ i:=by
   rcases Nat.lt_or_ge s (2 ^ i) with h | h
   ·exact h
   ·have:=Nat.div_pos h (Nat.two_pow_pos i);omega
  have h2:2 ^ i≤2 ^ (i+d):=Nat.pow_le_pow_right (by omega) (by omega)
  rw[Nat.div_eq_of_lt (by omega)]
  omega
def qb7(a b:List Nat):Bool:=decide (a.length<b.length)||(decide (a.length=b.length)&&decide (cmpL a b<0))
theorem qoI:∀a b:List Nat,cmpL b a = - cmpL a b
 | [],[]=>rfl
 | [],_::_=>rfl
 | _::_,[]=>rfl
 | x::a,y::b=>by
  rw[cmpL,cmpL]
  have hn:cmpN y x = - cmpN x y:=by unfold cmpN;split<;>split<;>omega
  rw[hn,qoI a b]
  by_cases h:cmpN x y=0
  ·rw[if_pos h,if_pos (by omega)]
  ·rw[if_neg h,if_neg (by omega)]
theorem qpx:∀a b c:List Nat,cmpL a b<0→cmpL b c≤0→cmpL a c<0
 | [],[],_,h,_=>by cases h
 | [],_::_,[],_,h=>by simp[cmpL] at h
 | [],_::_,_::_,_,_=>by simp[cmpL]
 | _::_,[],_,h,_=>by simp[cmpL] at h
 | _::_,_::_,[],_,h=>by simp[cmpL] at h
 | x::a,y::b,z::c,h,h'=>by
  rw[cmpL] at h h' ⊢
  have hxy:cmpN x y=if x<y then -1 else if y<x then 1 else 0:=rfl
  have hyz:cmpN y z=if y<z then -1 else if z<y then 1 else 0:=rfl
  have hxz:cmpN x z=if x<z then -1 else if z<x then 1 else 0:=rfl
  rcases Nat.lt_trichotomy x y with h1 | h1 | h1
  ·rw[if_pos h1] at hxy
   rcases Nat.lt_trichotomy y z with h2 | h2 | h2
   ·rw[if_pos (by omega)] at hxz
    rw[if_neg (by omega)];omega
   ·rw[if_pos (by omega)] at hxz
    rw[if_neg (by omega)];omega
   ·rw[if_neg (by omega),if_pos h2] at hyz
    rw[if_neg (by omega)] at h';omega
  ·subst h1
   rw[if_neg (by omega),if_neg (by omega)] at hxy
   rw[if_pos hxy] at h
   rcases Nat.lt_trichotomy x z with h2 | h2 | h2
   ·rw[if_pos h2] at hxz
    rw[if_neg (by omega)];omega
   ·subst h2
    rw[if_pos hxy] at h' ⊢
    exact qpx a b c h h'
   ·rw[if_neg (by omega),if_pos h2] at hyz
    rw[if_neg (by omega)] at h';omega
  ·rw[if_neg (by omega),if_pos h1] at hxy
   rw[if_neg (by omega)] at h;omega
theorem qit{a b:List Nat}:qb7 a b=true↔a.length<b.length∨(a.length=b.length∧cmpL a b<0):=by unfold qb7;simp
theorem qrU{a b c:List Nat}(h:qb7 a b=true)(h':qb7 c b=false):qb7 a c=true:=by
 rw[qit] at h ⊢
 have h2:¬(c.length<b.length∨(c.length=b.length∧cmpL c b<0)):=fun x=>by rw[qit.2 x] at h';cases h'
 have hn:=qoI c b
 rcases h with h | ⟨h,hc⟩
 ·left;omega
 ·rcases Nat.lt_or_ge a.length c.length with hl | hl
  ·exact .inl hl
  ·right
   have hcb:c.length=b.length:=by omega
   refine ⟨by omega,qpx a b c hc ?_⟩
   have:¬cmpL c b<0:=fun x=>h2 (.inr ⟨hcb,x⟩)
   omega
theorem qko{a b:List Nat}(h:qb7 a b=true):qb7 b a=false:=by
 cases h':qb7 b a with
 | false=>rfl
 | true =>
  rw[qit] at h h'
  have:=qoI a b
  omega
theorem qrV(n:Nat)(is:Nat→Bool)(k:Nat)(b:List Nat)(h:qdV n is k=some b):qdV n is (k+1)=some (if (qb7 (qt n k) b&&is k)=true then qt n k else b):=by
 rw[qdV,h]
 simp only
 by_cases h1:b.length<(qt n k).length∨((qt n k).length=b.length∧0≤cmpL (qt n k) b)
 ·have:qb7 (qt n k) b=false:=by
   cases hs:qb7 (qt n k) b with
   | false=>rfl
   | true=>rw[qit] at hs;omega
  rw[if_pos h1,this,Bool.false_and,if_neg (by simp)]
 ·have:qb7 (qt n k) b=true:=by rw[qit];omega
  rw[if_neg h1,this,Bool.true_and]
  split<;>rfl
theorem qsV{n:Nat}{is:Nat→Bool}:∀k,match qdV n is k with
  | none=>∀s,s<k→is s=false
  | some b=>(∃s,s<k∧is s=true∧b=qt n s)∧∀s,s<k→is s=true→qb7 (qt n s) b=false
 | 0=>fun s h=>absurd h (Nat.not_lt_zero _)
 | k+1=>by
  have ih:=qsV (n:=n) (is:=is) k
  cases hf:qdV n is k with
  | none =>
   rw[hf] at ih
   rw[qdV,hf]
   simp only
   cases his:is k with
   | true =>
    rw[if_pos rfl]
    refine ⟨⟨k,by omega,his,rfl⟩,fun s hs hi=>?_⟩
    by_cases hsk:s=k
    ·subst hsk
     cases h:qb7 (qt n s) (qt n s) with
     | false=>rfl
     | true=>rw[qko h] at h;cases h
    ·rw[ih s (by omega)] at hi;cases hi
   | false =>
    rw[if_neg (by simp)]
    intro s hs
    by_cases hsk:s=k
    ·rw[hsk];exact his
    ·exact ih s (by omega)
  | some b =>
   rw[hf] at ih
   rw[qrV n is k b hf]
   obtain ⟨⟨s0,h1,h2,h3⟩,h4⟩:=ih
   simp only
   cases hc:(qb7 (qt n k) b&&is k) with
   | true =>
    rw[if_pos rfl]
    rw[Bool.and_eq_true] at hc
    refine ⟨⟨k,by omega,hc.2,rfl⟩,fun s hs hi=>?_⟩
    by_cases hsk:s=k
    ·subst hsk
     cases h:qb7 (qt n s) (qt n s) with
     | false=>rfl
     | true=>rw[qko h] at h;cases h
    ·cases h:qb7 (qt n s) (qt n k) with
     | false=>rfl
     | true =>
      have:=qrU h (qko hc.1)
      rw[h4 s (by omega) hi] at this;cases this
   | false =>
    rw[if_neg (by simp)]
    refine ⟨⟨s0,by omega,h2,h3⟩,fun s hs hi=>?_⟩
    by_cases hsk:s=k
    ·subst hsk
     rw[hi,Bool.and_true] at hc;exact hc
    ·exact h4 s (by omega) hi
end Go.Proofs.YtbdockhccdkdiaaGreat
