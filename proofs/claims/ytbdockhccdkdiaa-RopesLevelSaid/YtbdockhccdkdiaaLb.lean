/- Texts Dl2, Dl4 in one. -/
import Derived.Test.YtbdockhccdkdiaaLa
import Derived.Test.YtbdockhccdkdiaaQc
import Derived.Test.YtbdockhccdkdiaaQa
/- Ropes: the examples of the law package, in pieces. -/
set_option linter.constructorNameAsVariable false
set_option linter.unusedSimpArgs false
set_option linter.unusedVariables false
set_option linter.unusedSectionVars false
namespace Go.Proofs.Ytbdockhccdkdiaa
open Go Go.Proofs Go.RowKit
set_option maxHeartbeats 1000000
def exG:List (Int×(Int×Int)):=[(4,(500,6)),(3,(399,9)),(3,(400,4))]
def exMd:Int×(Int×(Int×(List (Int×Int)))):=(3650,(1825,(10,[(30,1),(100,4),(170,10)])))
def exR:Int×(Int×(Int×(List (Int×((Int×Int)×(Int×Int)))))):=(0,(100,(50,[(200,((20,30),(100,100))),(300,((40,60),(40,50)))])))
def exO:OutX:=((400,(3,(10,(exG,([3,2,4],(exMd,[exR,(300,(Int.negSucc 0,(20,[])))])))))),[0,1])
def exP:List (Int×(Int×Int)):=[(0,(0,2)),(4000,(1,3)),(6000,(5,9))]
theorem ex09(n:Nat):qet n ()=some (exO.1,(exP,())):=by kernel_rfl
theorem quD(n:Nat):qhk (n+60) (exMd,(exR,((300:Int),())))=some ((1,5),((0:Int),())):=by kernel_rfl
theorem qud(n:Nat):qc3 (n+60) (exP,((10:Int),((20:Int),())))=some ([0,1],((0:Int),())):=by kernel_rfl
theorem que(n:Nat):qgi (n+60) (exO.1,())=some (.inl (exO,((0:Int),()))):=by kernel_rfl
theorem qtQ(n:Nat):qfI (tmO (n+60) exO)=[([0,0,2],[0,Int.negSucc 0,1]),([2,0,0],[0,Int.negSucc 0,1])]:=by kernel_rfl
theorem quf(n:Nat):qfl n ((1:Int),((5:Int),()))=some ((1,5),()):=by kernel_rfl
theorem qug(n:Nat):qd5 (n+60) (([0,1]:List Int),(([0,1]:List Int),()))=some (true,()):=by kernel_rfl
theorem qtR(n:Nat):rgF (qe3 (n+60)) [([0,Int.negSucc 0,1],()),([0,Int.negSucc 0,1],())] (Int.negSucc 0,())=some (.inl ((2:Int),())):=by kernel_rfl
theorem quh(n:Nat)(hn:2000≤n):TmOk n exO:=quC n hn exO (by decide) (by decide) (by decide) (by decide) (by decide)
theorem qpr(n:Nat)(x:OutX)(L:List (List Nat×List Int))(l:List ((List Int)×Unit))(k:Int)(h1:qgi n (x.1,())=some (.inl (x,((0:Int),()))))(h2:qjz n x=some L)(h3:(L.map fun e=>(e.2,()))=l)
  (h4:rgF (qe3 n) l (Int.negSucc 0,())=some (.inl (k,()))) (h5:0≤k):qeQ n (x.1,())=some (k,((0:Int),())):=by
 subst h3
 have ht:qkY n x=some (L.map fun e=>(e.2,())):=by unfold qkY;rw[h2];rfl
 rw[qlA,h1]
 have hw:qeP n (x,())=some (x,()):=by rw[qiw]
 simp only[Option.bind_some,Sum.elim_inl,show iNe (0:Int) 0=false from rfl,cond_false,hw]
 rw[ht]
 show Option.bind (rgF (qe3 n) (L.map fun e=>(e.2,())) (Int.negSucc 0,())) _=_
 rw[h4]
 show cond (iLt k 0) _ _=_
 rw[show iLt k 0=false from decide_eq_false (by omega)]
 rfl
theorem qsS(n:Nat):qeQ (n+2000) (exO.1,())=some ((2:Int),((0:Int),())) :=
 qpr (n+2000) exO _ _ 2 (que (n+1940)) (qrx (quh _ (by omega))) (by rw[qtQ (n+1940)];rfl) (qtR (n+1940)) (by decide)
def qD(n lo hi:Int):Bool:=decide (lo≤n)&&decide (n≤hi)
def qc4(a b lo hi:Int):Bool:=decide (lo≤a)&&decide (a≤b)&&decide (b≤hi)
structure Post where
 at_:Int
 lo:Int
 hi:Int
instance:Inhabited Post:=⟨⟨0,0,0⟩⟩
def qcM(l:List Post)(k:Nat):Int:=if k=0 then -1 else ((l[k-1]?).map Post.at_).getD 0
def qmR(l:List Post)(k:Nat):Bool:=match l[k]? with
 | none=>false
 | some p=>qD p.at_ (qcM l k+1) 100000&&qc4 p.lo p.hi 0 100
def qbE(l:List Post)(k:Nat):Bool:=(List.range k).all (qmR l)
def qdK(l:List Post):Bool:=decide (l.length≤8)&&qbE l l.length
def qgV(a b:Post)(limit years:Int):Bool:=decide (limit*(a.at_-b.at_)<max (a.hi-b.lo) (b.hi-a.lo)*years*1000)
def rowB(l:List Post)(limit years:Int)(i j:Nat):Bool:=!(List.range j).any fun t=>match l[i]?,l[t]? with
 | some a,some b=>qgV a b limit years
 | _,_=>false
def qfg(l:List Post)(limit years:Int)(i:Nat):Bool:=(List.range i).all fun k=>rowB l limit years k k
def qce(l:List Post)(limit years:Int):Bool:=qfg l limit years l.length
def qg(n s:Nat):List Nat:=(List.range n).filter fun i=>s.testBit i
theorem qkd(n s:Nat):qg (n+1) s=qg n s++(if s.testBit n=true then [n] else []):=by
 unfold qg
 rw[List.range_succ,List.filter_append]
 cases h:s.testBit n<;>simp[h]
theorem qo0{n s i:Nat}(h:i∈qg n s):i<n∧s.testBit i=true:=by unfold qg at h;simpa using h
theorem qgy{n s i:Nat}:i∈qg n s↔i<n∧s.testBit i=true:=by unfold qg;simp
theorem qmS(n s:Nat):(qg n s).Pairwise (· < ·):=List.Pairwise.filter _ List.pairwise_lt_range
def cmpN(a b:Nat):Int:=if a<b then -1 else if b<a then 1 else 0
def cmpL:List Nat→List Nat→Int
 | [],[]=>0
 | [],_::_=>-1
 | _::_,[]=>1
 | a::l,b::m=>if cmpN a b=0 then cmpL l m else cmpN a b
def qeC(n:Nat)(is:Nat→Bool):Nat→Option (List Nat)
 | 0=>none
 | k+1=>match qeC n is k with
  | none=>if is k then some (qg n k) else none
  | some b=>if b.length<(qg n k).length∨((qg n k).length=b.length∧0≤cmpL (qg n k) b) then some b else if is k then some (qg n k) else some b
def fewV(n:Nat)(is:Nat→Bool):Option (List Nat):=qeC n is (2 ^ n)
def bitB(x:Int)(i:Nat):Bool:=decide (x/2 ^ i % 2=1)
theorem qsT(s i:Nat):bitB (-(s:Int)-1) i = !s.testBit i:=by
 unfold bitB
 have e:(-(s:Int)-1)/2 ^ i = -((s/2 ^ i:Nat):Int)-1:=by
  have hp:(0:Int)<2 ^ i:=Int.pow_pos (by omega)
  have h1:((s/2 ^ i:Nat):Int)=(s:Int)/2 ^ i:=by simp
  rw[h1]
  have h2:=Int.emod_add_mul_ediv (s:Int) (2 ^ i)
  have h3:=Int.emod_nonneg (s:Int) (show (2:Int) ^ i≠0 by omega)
  have h4:=Int.emod_lt_of_pos (s:Int) hp
  generalize (s:Int)/2 ^ i=q at *
  generalize (s:Int) % 2 ^ i=r at *
  generalize (2:Int) ^ i=P at *
  refine ((Int.ediv_emod_unique (r:=P-1-r) (q:=-q-1) hp).2 ⟨?_,by omega,by omega⟩).1
  rw[Int.mul_sub,Int.mul_neg,Int.mul_one]
  omega
 rw[e,Nat.testBit_eq_decide_div_mod_eq,Bool.eq_iff_iff]
 simp only[decide_eq_true_eq,Bool.not_eq_true',decide_eq_false_iff_not]
 omega
def qn7{α:Type}[Inhabited α](l:List α)(p:Nat→Bool)(k:Nat):List α:=((List.range k).filter p).map fun i=>l[i]!
def qe6(l:List Post)(told:Bool):Int:=if !qdK l then 94 else if !told then 1 else 0
def qc5(l:List Post)(limit years:Int)(s:Nat):Bool:=qce (qn7 l (bitB (-(s:Int)-1)) l.length) limit years
def qh6(l:List Post)(limit years:Int):Int:=qe6 l (qD limit 0 1000&&qD years 0 100)
def qlp(l:List Post)(limit years:Int):List Nat:=if qh6 l limit years=0 then (fewV l.length (qc5 l limit years)).getD [] else []
def qfr(P:Nat→Bool):Nat→Nat→Nat
 | 0,y=>y
 | n+1,y=>if P y then qfr P n (y+1) else y
def qjD(l:List Post)(limit:Int):Int:=qe6 l (qD limit 0 1000)
def qgW(l:List Post)(limit:Int):Nat:=if qjD l limit=0 then qfr (fun y=>qce l limit ((y:Int)+1)) 100 0 else 0
def qew(x y:Post)(s1 s2 limit years:Int):Bool:=decide (limit*(y.at_-x.at_)<max (s1-s2) (s2-s1)*years*1000)
def canB(x y:Post)(limit years:Int):Bool:=qew x y x.hi y.lo limit years||qew x y x.lo y.hi limit years
theorem qmd{x y:Post}{limit years:Int}(hx:x.lo≤x.hi)(hy:y.lo≤y.hi)(h0:0≤years):canB x y limit years=qgV y x limit years:=by
 unfold canB qew qgV
 rw[Bool.eq_iff_iff]
 simp only[Bool.or_eq_true,decide_eq_true_eq]
 generalize limit*(y.at_-x.at_)=T
 rw[Int.mul_assoc,Int.mul_assoc,Int.mul_assoc]
 have hc:0≤years*1000:=by omega
 generalize years*1000=c at *
 have a1:max (x.hi-y.lo) (y.lo-x.hi)*c≤max (y.hi-x.lo) (x.hi-y.lo)*c:=Int.mul_le_mul_of_nonneg_right (by omega) hc
 have a2:max (x.lo-y.hi) (y.hi-x.lo)*c≤max (y.hi-x.lo) (x.hi-y.lo)*c:=Int.mul_le_mul_of_nonneg_right (by omega) hc
 constructor
 ·rintro (h | h)<;>omega
 ·intro h
  by_cases hm:x.hi-y.lo≤y.hi-x.lo
  ·right
   have:max (y.hi-x.lo) (x.hi-y.lo)*c≤max (x.lo-y.hi) (y.hi-x.lo)*c:=Int.mul_le_mul_of_nonneg_right (by omega) hc
   omega
  ·left
   have:max (y.hi-x.lo) (x.hi-y.lo)*c≤max (x.hi-y.lo) (y.lo-x.hi)*c:=Int.mul_le_mul_of_nonneg_right (by omega) hc
   omega
def qqu(l:List Post)(ps:List Nat)(limit years:Int)(i k:Nat):Bool:=(List.range k).all fun j=>decide (j≤i) || !canB l[ps[i]!]! l[ps[j]!]! limit years
def qme(l:List Post)(ps:List Nat)(limit years:Int)(i:Nat):Bool:=(List.range i).all fun i'=>qqu l ps limit years i' ps.length
def qfh(l:List Post)(ps:List Nat)(limit years:Int):Bool:=qme l ps limit years ps.length
theorem qnS{l:List Post}{ps:List Nat}{limit years:Int}(hp:∀p∈l,p.lo≤p.hi)(hps:∀i∈ps,i<l.length)(h0:0≤years):qfh l ps limit years=qce (ps.map fun i=>l[i]!) limit years:=by
 have hpm:∀i,i<ps.length→(l[ps[i]!]!).lo≤(l[ps[i]!]!).hi:=fun i hi=>by
  rw[getElem!_pos ps i hi]
  have:=hps _ (List.getElem_mem hi)
  rw[getElem!_pos l _ this]
  exact hp _ (List.getElem_mem this)
 have hat:∀i (hi:i<ps.length),(ps.map fun i=>l[i]!)[i]?=some l[ps[i]!]!:=fun i hi=>by
  rw[List.getElem?_map,List.getElem?_eq_getElem hi,getElem!_pos ps i hi];rfl
 rw[Bool.eq_iff_iff]
 unfold qfh qme qce qfg qqu rowB
 simp only[List.all_eq_true,List.mem_range,Bool.or_eq_true,decide_eq_true_eq,Bool.not_eq_true',List.length_map,List.any_eq_false]
 constructor
 ·intro h k hk t ht
  rw[hat k hk,hat t (by omega)]
  have:=h t (by omega) k hk
  rw[qmd (hpm t (by omega)) (hpm k hk) h0] at this
  rcases this with h' | h'
  ·omega
  ·simpa using h'
 ·intro h i hi j hj
  by_cases hij:j≤i
  ·exact .inl hij
  ·right
   have:=h j hj i (by omega)
   rw[hat i hi,hat j hj] at this
   rw[qmd (hpm i hi) (hpm j hj) h0]
   simpa using this
theorem qqv(n:Nat):qg n (2 ^ n-1)=List.range n:=by
 unfold qg
 rw[List.filter_eq_self]
 intro i hi
 simp at hi
 rw[Nat.testBit_two_pow_sub_one,decide_eq_true hi]
theorem qps(n s:Nat)(hs:s<2 ^ n):qg n (2 ^ n-1-s)=(List.range n).filter fun i=>!s.testBit i:=by
 unfold qg
 apply List.filter_congr
 intro i hi
 have:=List.mem_range.1 hi
 rw[show 2 ^ n-1-s=2 ^ n-(s+1) by omega,Nat.testBit_two_pow_sub_succ hs,decide_eq_true this,Bool.true_and]
theorem qke{l:List Post}{limit years:Int}{s:Nat}(hp:∀p∈l,p.lo≤p.hi)(hs:s<2 ^ l.length)(h0:0≤years):qc5 l limit years s=qfh l (qg l.length (2 ^ l.length-1-s)) limit years:=by
 rw[qnS hp (fun i hi=>(qo0 hi).1) h0]
 unfold qc5 qn7
 rw[qps _ _ hs]
 congr 2
 apply List.filter_congr
 intro i _
 exact qsT s i
theorem qqw{l:List Post}{limit years:Int}(hp:∀p∈l,p.lo≤p.hi)(h0:0≤years):qce l limit years=qfh l (qg l.length (2 ^ l.length-1)) limit years:=by
 rw[qnS hp (fun i hi=>(qo0 hi).1) h0,qqv]
 congr 1
 apply List.ext_getElem
 ·simp
 ·intro i h1 h2
  rw[List.getElem_map,List.getElem_range,getElem!_pos l i h1]
def qcN(a b:List Nat):Bool:=decide (a.length<b.length)||(decide (a.length=b.length)&&decide (cmpL a b<0))
theorem qmf:∀a b:List Nat,cmpL b a = - cmpL a b
 | [],[]=>rfl
 | [],_::_=>rfl
 | _::_,[]=>rfl
 | x::a,y::b=>by
  rw[cmpL,cmpL]
  have hn:cmpN y x = - cmpN x y:=by unfold cmpN;split<;>split<;>omega
  rw[hn,qmf a b]
  by_cases h:cmpN x y=0
  ·rw[if_pos h,if_pos (by omega)]
  ·rw[if_neg h,if_neg (by omega)]
theorem qmT:∀a b c:List Nat,cmpL a b<0→cmpL b c≤0→cmpL a c<0
 | [],[],_,h,_=>by cases h
 | [],_::_,[],_,h=>by simp[cmpL] at h
 | [],_::_,_::_,_,_=>by simp[cmpL]
 | _::_,[],_,h,_=>by simp[cmpL] at h
 | _::_,_::_,[],_,h=>by simp[cmpL] at h
 | x::a,y::b,z::c,h,h'=>by
  rw[cmpL] at h h' ⊢
  have hxy:cmpN x y=if x<y then -1 else if y<x then 1 else 0:=rfl
  have hyz:cmpN y z=if y<z then -1 else if z<y then 1 else 0:=rfl
  have hxz:cmpN x z=if x<z then -1 else if z<x then 1 else 0:=rfl
  rcases Nat.lt_trichotomy x y with h1 | h1 | h1
  ·rw[if_pos h1] at hxy
   rcases Nat.lt_trichotomy y z with h2 | h2 | h2
   ·rw[if_pos (by omega)] at hxz
    rw[if_neg (by omega)];omega
   ·rw[if_pos (by omega)] at hxz
    rw[if_neg (by omega)];omega
   ·rw[if_neg (by omega),if_pos h2] at hyz
    rw[if_neg (by omega)] at h';omega
  ·subst h1
   rw[if_neg (by omega),if_neg (by omega)] at hxy
   rw[if_pos hxy] at h
   rcases Nat.lt_trichotomy x z with h2 | h2 | h2
   ·rw[if_pos h2] at hxz
    rw[if_neg (by omega)];omega
   ·subst h2
    rw[if_pos hxy] at h' ⊢
    exact qmT a b c h h'
   ·rw[if_neg (by omega),if_pos h2] at hyz
    rw[if_neg (by omega)] at h';omega
  ·rw[if_neg (by omega),if_pos h1] at hxy
   rw[if_neg (by omega)] at h;omega
theorem qfW{a b:List Nat}:qcN a b=true↔a.length<b.length∨(a.length=b.length∧cmpL a b<0):=by unfold qcN;simp
theorem qo1{a b c:List Nat}(h:qcN a b=true)(h':qcN c b=false):qcN a c=true:=by
 rw[qfW] at h ⊢
 have h2:¬(c.length<b.length∨(c.length=b.length∧cmpL c b<0)):=fun x=>by rw[qfW.2 x] at h';cases h'
 have hn:=qmf c b
 rcases h with h | ⟨h,hc⟩
 ·left;omega
 ·rcases Nat.lt_or_ge a.length c.length with hl | hl
  ·exact .inl hl
  ·right
   have hcb:c.length=b.length:=by omega
   refine ⟨by omega,qmT a b c hc ?_⟩
   have:¬cmpL c b<0:=fun x=>h2 (.inr ⟨hcb,x⟩)
   omega
theorem qix{a b:List Nat}(h:qcN a b=true):qcN b a=false:=by
 cases h':qcN b a with
 | false=>rfl
 | true =>
  rw[qfW] at h h'
  have:=qmf a b
  omega
theorem qsU(n:Nat)(is:Nat→Bool)(k:Nat)(b:List Nat)(h:qeC n is k=some b):qeC n is (k+1)=some (if (qcN (qg n k) b&&is k)=true then qg n k else b):=by
 rw[qeC,h]
 simp only
 by_cases h1:b.length<(qg n k).length∨((qg n k).length=b.length∧0≤cmpL (qg n k) b)
 ·have:qcN (qg n k) b=false:=by
   cases hs:qcN (qg n k) b with
   | false=>rfl
   | true=>rw[qfW] at hs;omega
  rw[if_pos h1,this,Bool.false_and,if_neg (by simp)]
 ·have:qcN (qg n k) b=true:=by rw[qfW];omega
  rw[if_neg h1,this,Bool.true_and]
  split<;>rfl
theorem qrB{a b:Post}{limit y y':Int}(h0:0≤y)(h:y≤y')(hm:0≤max (a.hi-b.lo) (b.hi-a.lo))(ht:qgV a b limit y'=false):qgV a b limit y=false:=by
 unfold qgV at *
 simp only[decide_eq_false_iff_not,Int.not_lt] at *
 have:max (a.hi-b.lo) (b.hi-a.lo)*y≤max (a.hi-b.lo) (b.hi-a.lo)*y':=Int.mul_le_mul_of_nonneg_left h hm
 omega
theorem qk4{l:List Post}{limit years:Int}:qce l limit years=true↔∀i k (hi:i<l.length) (hk:k<l.length),k<i→qgV l[i] l[k] limit years=false:=by
 unfold qce qfg rowB
 simp only[List.all_eq_true,List.mem_range,Bool.not_eq_true',List.any_eq_false]
 constructor
 ·intro h i k hi hk hki
  have:=h i hi k hki
  rw[List.getElem?_eq_getElem hi,List.getElem?_eq_getElem hk] at this
  simpa using this
 ·intro h i hi k hki
  rw[List.getElem?_eq_getElem hi,List.getElem?_eq_getElem (show k<l.length by omega)]
  simpa using h i k hi (by omega) hki
theorem qqx{l:List Post}{limit y y':Int}(hp:∀p∈l,p.lo≤p.hi)(h0:0≤y)(h:y≤y')(hl:qce l limit y'=true):qce l limit y=true:=by
 rw[qk4] at *
 intro i k hi hk hki
 have h1:=hp _ (List.getElem_mem hi)
 have h2:=hp _ (List.getElem_mem hk)
 exact qrB h0 h (by omega) (hl i k hi hk hki)
theorem qrC(Q:Nat→Bool):∀(n y:Nat),y≤qfr Q n y∧qfr Q n y≤y+n∧(∀j,y≤j→j<qfr Q n y→Q j=true)∧(qfr Q n y<y+n→Q (qfr Q n y)=false)
 | 0,y=>⟨Nat.le_refl _,by simp[qfr],fun j h1 h2=>by simp[qfr] at h2;omega,fun h=>by simp[qfr] at h⟩
 | n+1,y=>by
  rw[qfr]
  cases hq:Q y with
  | true =>
   rw[if_pos rfl]
   obtain ⟨h1,h2,h3,h4⟩:=qrC Q n (y+1)
   refine ⟨by omega,by omega,fun j hj1 hj2=>?_,fun h=>h4 (by omega)⟩
   by_cases hjy:j=y
   ·rw[hjy];exact hq
   ·exact h3 j (by omega) hj2
  | false =>
   rw[if_neg (by simp)]
   exact ⟨Nat.le_refl _,by omega,fun j h1 h2=>absurd h2 (by omega),fun _=>hq⟩
theorem qqy{l:List Post}{limit:Int}(h0:0≤limit)(hs:∀i k (hi:i<l.length) (hk:k<l.length),k<i→l[k].at_≤l[i].at_):qce l limit 0=true:=by
 rw[qk4]
 intro i k hi hk hki
 unfold qgV
 have:=hs i k hi hk hki
 have h1:0≤limit*(l[i].at_-l[k].at_):=Int.mul_nonneg h0 (by omega)
 simp only[decide_eq_false_iff_not,Int.not_lt,Int.mul_zero,Int.zero_mul]
 exact h1
theorem qqz{l:List Post}{limit:Int}(he:qjD l limit=0)(hp:∀p∈l,p.lo≤p.hi)(h0:0≤limit)(hs:∀i k (hi:i<l.length) (hk:k<l.length),k<i→l[k].at_≤l[i].at_):qgW l limit≤100∧∀y:Int,0≤y→y≤100→(qce l limit y=true↔y≤qgW l limit):=by
 have hy:qgW l limit=qfr (fun y=>qce l limit ((y:Int)+1)) 100 0:=by unfold qgW;rw[if_pos he]
 obtain ⟨h1,h2,h3,h4⟩:=qrC (fun y=>qce l limit ((y:Int)+1)) 100 0
 rw[← hy] at h1 h2 h3 h4
 refine ⟨by omega,fun y hy0 hy1=>⟨fun h=>?_,fun h=>?_⟩⟩
 ·rcases Int.lt_or_le (qgW l limit) y with hlt | hle
  ·exfalso
   have h5:=h4 (by omega)
   have:=qqx (y:=(qgW l limit:Int)+1) hp (by omega) (by omega) h
   rw[this] at h5;cases h5
  ·exact hle
 ·by_cases hyz:y=0
  ·rw[hyz];exact qqy h0 hs
  ·have:=h3 (y-1).toNat (by omega) (by omega)
   rwa [show (((y-1).toNat:Nat):Int)+1=y by omega] at this
theorem qpW{n:Nat}{is:Nat→Bool}:∀k,match qeC n is k with
  | none=>∀s,s<k→is s=false
  | some b=>(∃s,s<k∧is s=true∧b=qg n s)∧∀s,s<k→is s=true→qcN (qg n s) b=false
 | 0=>fun s h=>absurd h (Nat.not_lt_zero _)
 | k+1=>by
  have ih:=qpW (n:=n) (is:=is) k
  cases hf:qeC n is k with
  | none =>
   rw[hf] at ih
   rw[qeC,hf]
   simp only
   cases his:is k with
   | true =>
    rw[if_pos rfl]
    refine ⟨⟨k,by omega,his,rfl⟩,fun s hs hi=>?_⟩
    by_cases hsk:s=k
    ·subst hsk
     cases h:qcN (qg n s) (qg n s) with
     | false=>rfl
     | true=>rw[qix h] at h;cases h
    ·rw[ih s (by omega)] at hi;cases hi
   | false =>
    rw[if_neg (by simp)]
    intro s hs
    by_cases hsk:s=k
    ·rw[hsk];exact his
    ·exact ih s (by omega)
  | some b =>
   rw[hf] at ih
   rw[qsU n is k b hf]
   obtain ⟨⟨s0,h1,h2,h3⟩,h4⟩:=ih
   simp only
   cases hc:(qcN (qg n k) b&&is k) with
   | true =>
    rw[if_pos rfl]
    rw[Bool.and_eq_true] at hc
    refine ⟨⟨k,by omega,hc.2,rfl⟩,fun s hs hi=>?_⟩
    by_cases hsk:s=k
    ·subst hsk
     cases h:qcN (qg n s) (qg n s) with
     | false=>rfl
     | true=>rw[qix h] at h;cases h
    ·cases h:qcN (qg n s) (qg n k) with
     | false=>rfl
     | true =>
      have:=qo1 h (qix hc.1)
      rw[h4 s (by omega) hi] at this;cases this
   | false =>
    rw[if_neg (by simp)]
    refine ⟨⟨s0,by omega,h2,h3⟩,fun s hs hi=>?_⟩
    by_cases hsk:s=k
    ·subst hsk
     rw[hi,Bool.and_true] at hc;exact hc
    ·exact h4 s (by omega) hi
theorem qo2{l:List Post}{limit years:Int}(he:qh6 l limit years=0)(hp:∀p∈l,p.lo≤p.hi)(h0:0≤years):∃s,s<2 ^ l.length∧qlp l limit years=qg l.length s∧qfh l (qg l.length (2 ^ l.length-1-s)) limit years=true∧∀s',s'<2 ^ l.length→qfh l (qg l.length (2 ^ l.length-1-s')) limit years=true→(qg l.length s).length≤(qg l.length s').length:=by
 have h:=qpW (n:=l.length) (is:=qc5 l limit years) (2 ^ l.length)
 have hpos:=Nat.two_pow_pos l.length
 unfold qlp fewV
 rw[if_pos he]
 cases hf:qeC l.length (qc5 l limit years) (2 ^ l.length) with
 | none =>
  rw[hf] at h
  have:=h (2 ^ l.length-1) (by omega)
  rw[qke hp (by omega) h0,Nat.sub_self] at this
  have hnil:qg l.length 0=[]:=by unfold qg;rw[List.filter_eq_nil_iff];intro i _;simp
  rw[hnil] at this
  cases this
 | some b =>
  rw[hf] at h
  obtain ⟨⟨s,h1,h2,h3⟩,h4⟩:=h
  subst h3
  rw[qke hp h1 h0] at h2
  refine ⟨s,h1,rfl,h2,fun s' hs' hi=>?_⟩
  rw[← qke hp hs' h0] at hi
  have:=h4 s' hs' hi
  rcases Nat.lt_or_ge (qg l.length s').length (qg l.length s).length with hlt | hge
  ·rw[qfW.2 (.inl hlt)] at this;cases this
  ·exact hge
theorem qo3{l:List Post}{limit years:Int}(he:qh6 l limit years=0)(hp:∀p∈l,p.lo≤p.hi)(h0:0≤years):qlp l limit years=[]↔qce l limit years=true:=by
 obtain ⟨s,h1,h2,h3,h4⟩:=qo2 he hp h0
 have hpos:=Nat.two_pow_pos l.length
 have hnil:qg l.length 0=[]:=by unfold qg;rw[List.filter_eq_nil_iff];intro i _;simp
 have hfull:=qqw (limit:=limit) hp h0
 constructor
 ·intro h
  have hs0:s=0:=by
   rcases Nat.eq_zero_or_pos s with h0 | h0
   ·exact h0
   ·exfalso
    obtain ⟨i,hi⟩:=Nat.exists_testBit_of_ne_zero (Nat.pos_iff_ne_zero.1 h0)
    have hil:i<l.length:=by
     rcases Nat.lt_or_ge i l.length with hh | hh
     ·exact hh
     ·have:=Nat.testBit_lt_two_pow (Nat.lt_of_lt_of_le h1 (Nat.pow_le_pow_right (by omega) hh))
      rw[this] at hi;cases hi
    have:=qgy.2 ⟨hil,hi⟩
    rw[← h2,h] at this
    cases this
  rw[hs0,Nat.sub_zero] at h3
  rw[hfull];exact h3
 ·intro h
  have:=h4 0 hpos (by rw[Nat.sub_zero,← hfull];exact h)
  rw[hnil] at this
  rw[h2]
  exact List.eq_nil_of_length_eq_zero (by simpa using this)
def qgf(ps:List Nat)(k:Nat):Nat:=((ps.take k).map fun i=>2 ^ i).sum
theorem qmU(ps:List Nat)(k:Nat)(h:k<ps.length):qgf ps (k+1)=qgf ps k+2 ^ ps[k]:=by
 unfold qgf;rw[List.take_succ_eq_append_getElem h,List.map_append,List.sum_append];simp
theorem pow_pos(n s:Nat)(h:s<2 ^ n):qgf (qg n s) (qg n s).length=s:=by
 unfold qgf
 rw[List.take_length]
 induction n generalizing s with
 | zero=>simp at h;subst h;rfl
 | succ n ih =>
  rw[qkd]
  have hlow:qg n s=qg n (s % 2 ^ n):=by
   unfold qg
   apply List.filter_congr
   intro i hi
   rw[Nat.testBit_mod_two_pow,decide_eq_true (List.mem_range.1 hi),Bool.true_and]
  have hm:=Nat.mod_lt s (Nat.two_pow_pos n)
  rw[List.map_append,List.sum_append,hlow,ih _ hm,Nat.testBit_eq_decide_div_mod_eq]
  have hdm:=Nat.div_add_mod s (2 ^ n)
  have hd:s/2 ^ n<2:=Nat.div_lt_of_lt_mul (by rw[Nat.pow_succ] at h;exact h)
  generalize s/2 ^ n=q at *
  generalize s % 2 ^ n=r at *
  rcases (show q=0∨q=1 by omega) with rfl | rfl
  ·simp at hdm ⊢;exact hdm
  ·simp at hdm ⊢;omega
theorem qlO{x y:Post}{s1 s2 limit years:Int}(h1:x.lo≤s1∧s1≤x.hi)(h2:y.lo≤s2∧s2≤y.hi)(h0:0≤years)(h:canB x y limit years=false):qew x y s1 s2 limit years=false:=by
 unfold canB at h
 rw[Bool.or_eq_false_iff] at h
 obtain ⟨ha,hb⟩:=h
 unfold qew at *
 simp only[decide_eq_false_iff_not,Int.not_lt] at *
 have hc:0≤years*1000:=by omega
 rw[Int.mul_assoc] at *
 generalize years*1000=c at *
 by_cases hm:s1-s2≤s2-s1
 ·have:max (s1-s2) (s2-s1)*c≤max (x.lo-y.hi) (y.hi-x.lo)*c:=Int.mul_le_mul_of_nonneg_right (by omega) hc
  omega
 ·have:max (s1-s2) (s2-s1)*c≤max (x.hi-y.lo) (y.lo-x.hi)*c:=Int.mul_le_mul_of_nonneg_right (by omega) hc
  omega
theorem qrD{l:List Post}{limit years:Int}(hp:∀p∈l,p.lo≤p.hi)(h0:0≤years)(h:qce l limit years=true){i k:Nat}(hi:i<l.length)(hk:k<l.length)(hik:i<k):canB l[i] l[k] limit years=false:=by
 rw[qk4] at h
 rw[qmd (hp _ (List.getElem_mem hi)) (hp _ (List.getElem_mem hk)) h0]
 exact h k i hk hi hik
theorem qqA{l:List Post}{ps:List Nat}{limit years:Int}:qfh l ps limit years=true↔∀i k (hi:i<ps.length) (hk:k<ps.length),i<k→canB l[ps[i]]! l[ps[k]]! limit years=false:=by
 unfold qfh qme qqu
 simp only[List.all_eq_true,List.mem_range,Bool.or_eq_true,decide_eq_true_eq,Bool.not_eq_true']
 constructor
 ·intro h i k hi hk hik
  have:=h i hi k hk
  rw[getElem!_pos ps i hi,getElem!_pos ps k hk] at this
  rcases this with h' | h'
  ·omega
  ·exact h'
 ·intro h i hi k hk
  by_cases hki:k≤i
  ·exact .inl hki
  ·right
   rw[getElem!_pos ps i hi,getElem!_pos ps k hk]
   exact h i k hi hk (by omega)
theorem qmV{l:List Post}{limit years:Int}(n s:Nat):qfh l (qg n s) limit years=true↔∀i k,i<k→k<n→s.testBit i=true→s.testBit k=true→canB l[i]! l[k]! limit years=false:=by
 rw[qqA]
 have hpw:=qmS n s
 constructor
 ·intro h i k hik hkn hi hk
  obtain ⟨a,ha,rfl⟩:=List.getElem_of_mem ((qgy (n:=n)).2 ⟨by omega,hi⟩)
  obtain ⟨b,hb,rfl⟩:=List.getElem_of_mem ((qgy (n:=n)).2 ⟨hkn,hk⟩)
  have hab:a<b:=by
   rcases Nat.lt_trichotomy a b with h' | h' | h'
   ·exact h'
   ·subst h';omega
   ·have:=List.pairwise_iff_getElem.1 hpw b a hb ha h';omega
  exact h a b ha hb hab
 ·intro h a b ha hb hab
  have h1:=qgy.1 (List.getElem_mem ha)
  have h2:=qgy.1 (List.getElem_mem hb)
  exact h _ _ (List.pairwise_iff_getElem.1 hpw a b ha hb hab) h2.1 h1.2 h2.2
end Go.Proofs.Ytbdockhccdkdiaa
