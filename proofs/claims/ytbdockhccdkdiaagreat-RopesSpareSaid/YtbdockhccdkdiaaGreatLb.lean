/- Texts Dl2, Dl4 in one. -/
import Derived.Test.YtbdockhccdkdiaaGreatLa
import Derived.Test.YtbdockhccdkdiaaGreatQc
import Derived.Test.YtbdockhccdkdiaaGreatQa
/- Ropes: the examples of the law package, in pieces. -/
set_option linter.constructorNameAsVariable false
set_option linter.unusedSimpArgs false
set_option linter.unusedVariables false
set_option linter.unusedSectionVars false
namespace Go.Proofs.YtbdockhccdkdiaaGreat
open Go Go.Proofs Go.RowKit
set_option maxHeartbeats 1000000
def exG:List (Int×(Int×Int)):=[(4,(500,6)),(3,(399,9)),(3,(400,4))]
def exMd:Int×(Int×(Int×(List (Int×Int)))):=(3650,(1825,(10,[(30,1),(100,4),(170,10)])))
def exR:Int×(Int×(Int×(List (Int×((Int×Int)×(Int×Int)))))):=(0,(100,(50,[(200,((20,30),(100,100))),(300,((40,60),(40,50)))])))
def exO:OutX:=((400,(3,(10,(exG,([3,2,4],(exMd,[exR,(300,(Int.negSucc 0,(20,[])))])))))),[0,1])
def exP:List (Int×(Int×Int)):=[(0,(0,2)),(4000,(1,3)),(6000,(5,9))]
theorem ex09(n:Nat):qfw n ()=some (exO.1,(exP,())):=by kernel_rfl
theorem qxZ(n:Nat):qi9 (n+60) (exMd,(exR,((300:Int),())))=some ((1,5),((0:Int),())):=by kernel_rfl
theorem qxr(n:Nat):qkA (n+60) (exP,((10:Int),((20:Int),())))=some ([0,1],((0:Int),())):=by kernel_rfl
theorem qxs(n:Nat):qhO (n+60) (exO.1,())=some (.inl (exO,((0:Int),()))):=by kernel_rfl
theorem qw3(n:Nat):qg4 (tmO (n+60) exO)=[([0,0,2],[0,Int.negSucc 0,1]),([2,0,0],[0,Int.negSucc 0,1])]:=by kernel_rfl
theorem qxt(n:Nat):qgH n ((1:Int),((5:Int),()))=some ((1,5),()):=by kernel_rfl
theorem qxu(n:Nat):qe5 (n+60) (([0,1]:List Int),(([0,1]:List Int),()))=some (true,()):=by kernel_rfl
theorem qw4(n:Nat):rgF (qgn (n+60)) [([0,Int.negSucc 0,1],()),([0,Int.negSucc 0,1],())] (Int.negSucc 0,())=some (.inl ((2:Int),())):=by kernel_rfl
theorem qxv(n:Nat)(hn:2000≤n):TmOk n exO:=qxY n hn exO (by decide) (by decide) (by decide) (by decide) (by decide)
theorem qsu(n:Nat)(x:OutX)(L:List (List Nat×List Int))(l:List ((List Int)×Unit))(k:Int)(h1:qhO n (x.1,())=some (.inl (x,((0:Int),()))))(h2:qlN n x=some L)(h3:(L.map fun e=>(e.2,()))=l)
  (h4:rgF (qgn n) l (Int.negSucc 0,())=some (.inl (k,()))) (h5:0≤k):qf0 n (x.1,())=some (k,((0:Int),())):=by
 subst h3
 have ht:qnu n x=some (L.map fun e=>(e.2,())):=by unfold qnu;rw[h2];rfl
 rw[qn7,h1]
 have hw:qfZ n (x,())=some (x,()):=by rw[qkE]
 simp only[Option.bind_some,Sum.elim_inl,show iNe (0:Int) 0=false from rfl,cond_false,hw]
 rw[ht]
 show Option.bind (rgF (qgn n) (L.map fun e=>(e.2,())) (Int.negSucc 0,())) _=_
 rw[h4]
 show cond (iLt k 0) _ _=_
 rw[show iLt k 0=false from decide_eq_false (by omega)]
 rfl
theorem qv2(n:Nat):qf0 (n+2000) (exO.1,())=some ((2:Int),((0:Int),())) :=
 qsu (n+2000) exO _ _ 2 (qxs (n+1940)) (quK (qxv _ (by omega))) (by rw[qw3 (n+1940)];rfl) (qw4 (n+1940)) (by decide)
def qbN(n lo hi:Int):Bool:=decide (lo≤n)&&decide (n≤hi)
def qja(a b lo hi:Int):Bool:=decide (lo≤a)&&decide (a≤b)&&decide (b≤hi)
structure Post where
 at_:Int
 lo:Int
 hi:Int
instance:Inhabited Post:=⟨⟨0,0,0⟩⟩
def qo(n s:Nat):List Nat:=(List.range n).filter fun i=>s.testBit i
theorem qhk(n s:Nat):qo (n+1) s=qo n s++(if s.testBit n=true then [n] else []):=by
 unfold qo
 rw[List.range_succ,List.filter_append]
 cases h:s.testBit n<;>simp[h]
theorem qv3{n s i:Nat}(h:i∈qo n s):i<n∧s.testBit i=true:=by unfold qo at h;simpa using h
theorem qtE(n s:Nat):(qo n s).Pairwise (· < ·):=List.Pairwise.filter _ List.pairwise_lt_range
def cmpN(a b:Nat):Int:=if a<b then -1 else if b<a then 1 else 0
def cmpL:List Nat→List Nat→Int
 | [],[]=>0
 | [],_::_=>-1
 | _::_,[]=>1
 | a::l,b::m=>if cmpN a b=0 then cmpL l m else cmpN a b
def qfL(n:Nat)(is:Nat→Bool):Nat→Option (List Nat)
 | 0=>none
 | k+1=>match qfL n is k with
  | none=>if is k then some (qo n k) else none
  | some b=>if b.length<(qo n k).length∨((qo n k).length=b.length∧0≤cmpL (qo n k) b) then some b else if is k then some (qo n k) else some b
def fewV(n:Nat)(is:Nat→Bool):Option (List Nat):=qfL n is (2 ^ n)
def bitB(x:Int)(i:Nat):Bool:=decide (x/2 ^ i % 2=1)
def qrX(x y:Post)(s1 s2 limit years:Int):Bool:=decide (limit*(y.at_-x.at_)<max (s1-s2) (s2-s1)*years*1000)
def canB(x y:Post)(limit years:Int):Bool:=qrX x y x.hi y.lo limit years||qrX x y x.lo y.hi limit years
def qdc(a b:List Nat):Bool:=decide (a.length<b.length)||(decide (a.length=b.length)&&decide (cmpL a b<0))
theorem qoP:∀a b:List Nat,cmpL b a = - cmpL a b
 | [],[]=>rfl
 | [],_::_=>rfl
 | _::_,[]=>rfl
 | x::a,y::b=>by
  rw[cmpL,cmpL]
  have hn:cmpN y x = - cmpN x y:=by unfold cmpN;split<;>split<;>omega
  rw[hn,qoP a b]
  by_cases h:cmpN x y=0
  ·rw[if_pos h,if_pos (by omega)]
  ·rw[if_neg h,if_neg (by omega)]
theorem qpA:∀a b c:List Nat,cmpL a b<0→cmpL b c≤0→cmpL a c<0
 | [],[],_,h,_=>by cases h
 | [],_::_,[],_,h=>by simp[cmpL] at h
 | [],_::_,_::_,_,_=>by simp[cmpL]
 | _::_,[],_,h,_=>by simp[cmpL] at h
 | _::_,_::_,[],_,h=>by simp[cmpL] at h
 | x::a,y::b,z::c,h,h'=>by
  rw[cmpL] at h h' ⊢
  have hxy:cmpN x y=if x<y then -1 else if y<x then 1 else 0:=rfl
  have hyz:cmpN y z=if y<z then -1 else if z<y then 1 else 0:=rfl
  have hxz:cmpN x z=if x<z then -1 else if z<x then 1 else 0:=rfl
  rcases Nat.lt_trichotomy x y with h1 | h1 | h1
  ·rw[if_pos h1] at hxy
   rcases Nat.lt_trichotomy y z with h2 | h2 | h2
   ·rw[if_pos (by omega)] at hxz
    rw[if_neg (by omega)];omega
   ·rw[if_pos (by omega)] at hxz
    rw[if_neg (by omega)];omega
   ·rw[if_neg (by omega),if_pos h2] at hyz
    rw[if_neg (by omega)] at h';omega
  ·subst h1
   rw[if_neg (by omega),if_neg (by omega)] at hxy
   rw[if_pos hxy] at h
   rcases Nat.lt_trichotomy x z with h2 | h2 | h2
   ·rw[if_pos h2] at hxz
    rw[if_neg (by omega)];omega
   ·subst h2
    rw[if_pos hxy] at h' ⊢
    exact qpA a b c h h'
   ·rw[if_neg (by omega),if_pos h2] at hyz
    rw[if_neg (by omega)] at h';omega
  ·rw[if_neg (by omega),if_pos h1] at hxy
   rw[if_neg (by omega)] at h;omega
theorem qhl{a b:List Nat}:qdc a b=true↔a.length<b.length∨(a.length=b.length∧cmpL a b<0):=by unfold qdc;simp
theorem qrY{a b c:List Nat}(h:qdc a b=true)(h':qdc c b=false):qdc a c=true:=by
 rw[qhl] at h ⊢
 have h2:¬(c.length<b.length∨(c.length=b.length∧cmpL c b<0)):=fun x=>by rw[qhl.2 x] at h';cases h'
 have hn:=qoP c b
 rcases h with h | ⟨h,hc⟩
 ·left;omega
 ·rcases Nat.lt_or_ge a.length c.length with hl | hl
  ·exact .inl hl
  ·right
   have hcb:c.length=b.length:=by omega
   refine ⟨by omega,qpA a b c hc ?_⟩
   have:¬cmpL c b<0:=fun x=>h2 (.inr ⟨hcb,x⟩)
   omega
theorem qkF{a b:List Nat}(h:qdc a b=true):qdc b a=false:=by
 cases h':qdc b a with
 | false=>rfl
 | true =>
  rw[qhl] at h h'
  have:=qoP a b
  omega
theorem qv4(n:Nat)(is:Nat→Bool)(k:Nat)(b:List Nat)(h:qfL n is k=some b):qfL n is (k+1)=some (if (qdc (qo n k) b&&is k)=true then qo n k else b):=by
 rw[qfL,h]
 simp only
 by_cases h1:b.length<(qo n k).length∨((qo n k).length=b.length∧0≤cmpL (qo n k) b)
 ·have:qdc (qo n k) b=false:=by
   cases hs:qdc (qo n k) b with
   | false=>rfl
   | true=>rw[qhl] at hs;omega
  rw[if_pos h1,this,Bool.false_and,if_neg (by simp)]
 ·have:qdc (qo n k) b=true:=by rw[qhl];omega
  rw[if_neg h1,this,Bool.true_and]
  split<;>rfl
theorem qsZ{n:Nat}{is:Nat→Bool}:∀k,match qfL n is k with
  | none=>∀s,s<k→is s=false
  | some b=>(∃s,s<k∧is s=true∧b=qo n s)∧∀s,s<k→is s=true→qdc (qo n s) b=false
 | 0=>fun s h=>absurd h (Nat.not_lt_zero _)
 | k+1=>by
  have ih:=qsZ (n:=n) (is:=is) k
  cases hf:qfL n is k with
  | none =>
   rw[hf] at ih
   rw[qfL,hf]
   simp only
   cases his:is k with
   | true =>
    rw[if_pos rfl]
    refine ⟨⟨k,by omega,his,rfl⟩,fun s hs hi=>?_⟩
    by_cases hsk:s=k
    ·subst hsk
     cases h:qdc (qo n s) (qo n s) with
     | false=>rfl
     | true=>rw[qkF h] at h;cases h
    ·rw[ih s (by omega)] at hi;cases hi
   | false =>
    rw[if_neg (by simp)]
    intro s hs
    by_cases hsk:s=k
    ·rw[hsk];exact his
    ·exact ih s (by omega)
  | some b =>
   rw[hf] at ih
   rw[qv4 n is k b hf]
   obtain ⟨⟨s0,h1,h2,h3⟩,h4⟩:=ih
   simp only
   cases hc:(qdc (qo n k) b&&is k) with
   | true =>
    rw[if_pos rfl]
    rw[Bool.and_eq_true] at hc
    refine ⟨⟨k,by omega,hc.2,rfl⟩,fun s hs hi=>?_⟩
    by_cases hsk:s=k
    ·subst hsk
     cases h:qdc (qo n s) (qo n s) with
     | false=>rfl
     | true=>rw[qkF h] at h;cases h
    ·cases h:qdc (qo n s) (qo n k) with
     | false=>rfl
     | true =>
      have:=qrY h (qkF hc.1)
      rw[h4 s (by omega) hi] at this;cases this
   | false =>
    rw[if_neg (by simp)]
    refine ⟨⟨s0,by omega,h2,h3⟩,fun s hs hi=>?_⟩
    by_cases hsk:s=k
    ·subst hsk
     rw[hi,Bool.and_true] at hc;exact hc
    ·exact h4 s (by omega) hi
def qhK(ps:List Nat)(k:Nat):Nat:=((ps.take k).map fun i=>2 ^ i).sum
theorem qpB(ps:List Nat)(k:Nat)(h:k<ps.length):qhK ps (k+1)=qhK ps k+2 ^ ps[k]:=by
 unfold qhK;rw[List.take_succ_eq_append_getElem h,List.map_append,List.sum_append];simp
theorem qw5(n s:Nat)(h:s<2 ^ n):qhK (qo n s) (qo n s).length=s:=by
 unfold qhK
 rw[List.take_length]
 induction n generalizing s with
 | zero=>simp at h;subst h;rfl
 | succ n ih =>
  rw[qhk]
  have hlow:qo n s=qo n (s % 2 ^ n):=by
   unfold qo
   apply List.filter_congr
   intro i hi
   rw[Nat.testBit_mod_two_pow,decide_eq_true (List.mem_range.1 hi),Bool.true_and]
  have hm:=Nat.mod_lt s (Nat.two_pow_pos n)
  rw[List.map_append,List.sum_append,hlow,ih _ hm,Nat.testBit_eq_decide_div_mod_eq]
  have hdm:=Nat.div_add_mod s (2 ^ n)
  have hd:s/2 ^ n<2:=Nat.div_lt_of_lt_mul (by rw[Nat.pow_succ] at h;exact h)
  generalize s/2 ^ n=q at *
  generalize s % 2 ^ n=r at *
  rcases (show q=0∨q=1 by omega) with rfl | rfl
  ·simp at hdm ⊢;exact hdm
  ·simp at hdm ⊢;omega
end Go.Proofs.YtbdockhccdkdiaaGreat
