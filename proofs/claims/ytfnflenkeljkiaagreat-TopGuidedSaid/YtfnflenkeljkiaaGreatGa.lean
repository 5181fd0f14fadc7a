/- Texts Dg0, Dg1 in one. -/
import Derived.Test.YtfnflenkeljkiaaGreatKc
/- Paths, plain: lowest arrivals by relaxing ways over and over; with more ways nothing is later. Nothing here speaks of the program. -/
set_option linter.constructorNameAsVariable false
set_option linter.unusedSimpArgs false
set_option linter.unusedVariables false
set_option linter.unusedSectionVars false
namespace Go.Proofs.YtfnflenkeljkiaaGreat
open Go Go.Proofs Go.RowKit
set_option maxHeartbeats 1000000
abbrev nev:Int:=1073741824
def tmA(l:List Int)(g:Nat):Int:=(l[g]?).getD nev
theorem qkt{l:List Int}{g:Nat}(h:g<l.length):l[g]?=some (tmA l g)∧l[g]=tmA l g:=by
 unfold tmA;rw[List.getElem?_eq_getElem h];exact ⟨rfl,rfl⟩
theorem qqy{l:List Int}{g:Nat}(h:g<l.length)(v:Int)(x:Nat):tmA (l.set g v) x=if x=g then v else tmA l x:=by
 unfold tmA
 rw[List.getElem?_set]
 by_cases e:g=x
 ·subst e
  rw[if_pos rfl,if_pos rfl,if_pos h]
  rfl
 ·rw[if_neg e,if_neg (fun h=>e h.symm)]
section
variable {ω:Type} (fr to:ω→Nat) (tt:ω→Int→Int)
def rel1(s:List Int×Bool)(y:ω):List Int×Bool :=
 if tmA s.1 (fr y)=nev then s else if tt y (tmA s.1 (fr y))<tmA s.1 (to y) then (s.1.set (to y) (tt y (tmA s.1 (fr y))),true) else s
def relL(L:List ω)(s:List Int×Bool):List Int×Bool:=L.foldl (rel1 fr to tt) s
def msr(M:Int)(l:List Int):Nat:=(l.map fun x=>(min x (M+1)).toNat).sum
structure WayOk (M:Int) (N:Nat) (y:ω):Prop where
 f:fr y<N
 t:to y<N
 v:∀a,0≤a→0≤tt y a∧(tt y a≤M∨tt y a=nev)
 m:∀a b,a≤b→tt y a≤tt y b
structure ArrOk (M:Int) (N:Nat) (l:List Int):Prop where
 len:l.length=N
 v:∀x,x<N→0≤tmA l x∧(tmA l x≤M∨tmA l x=nev)
theorem qv2{M:Int}:∀{l:List Int} {g:Nat} {v:Int},g<l.length→0≤v→v≤M→v<tmA l g→msr M (l.set g v)+1≤msr M l
 | x::l,0,v,_,h0,hM,hv=>by
  have hx:tmA (x::l) 0=x:=rfl
  rw[hx] at hv
  unfold msr
  simp only[List.set_cons_zero,List.map_cons,List.sum_cons]
  omega
 | x::l,g+1,v,hg,h0,hM,hv=>by
  have ih:=qv2 (M:=M) (l:=l) (g:=g) (v:=v) (by simpa using hg) h0 hM (by simpa[tmA] using hv)
  unfold msr at *
  simp only[List.set_cons_succ,List.map_cons,List.sum_cons]
  omega
theorem qob{M:Int}{N:Nat}(hM:M<nev){y:ω}(hy:WayOk fr to tt M N y){s:List Int×Bool}(hs:ArrOk M N s.1):ArrOk M N (rel1 fr to tt s y).1∧(∀x,tmA (rel1 fr to tt s y).1 x≤tmA s.1 x)∧(rel1 fr to tt s y=s∨((rel1 fr to tt s y).2=true∧msr M (rel1 fr to tt s y).1+1≤msr M s.1)):=by
 unfold rel1
 by_cases h1:tmA s.1 (fr y)=nev
 ·rw[if_pos h1];exact ⟨hs,fun x=>Int.le_refl _,.inl rfl⟩
 ·rw[if_neg h1]
  by_cases h2:tt y (tmA s.1 (fr y))<tmA s.1 (to y)
  ·rw[if_pos h2]
   have hv:=hy.v _ (hs.v _ hy.f).1
   have ht:=hs.v _ hy.t
   have hle:tt y (tmA s.1 (fr y))≤M:=by omega
   have hl:=hs.len
   refine ⟨⟨by rw[List.length_set];exact hl,fun x hx=>?_⟩,fun x=>?_,.inr ⟨rfl,qv2 (by rw[hl];exact hy.t) hv.1 hle h2⟩⟩
   ·rw[qqy (by rw[hl];exact hy.t)]
    by_cases e:x=to y
    ·rw[if_pos e];exact hv
    ·rw[if_neg e];exact hs.v x hx
   ·rw[qqy (by rw[hl];exact hy.t)]
    by_cases e:x=to y
    ·rw[if_pos e,e];omega
    ·rw[if_neg e];exact Int.le_refl _
  ·rw[if_neg h2];exact ⟨hs,fun x=>Int.le_refl _,.inl rfl⟩
theorem qkW{M:Int}{N:Nat}(hM:M<nev):∀(L:List ω) (s:List Int×Bool),(∀y,y∈L→WayOk fr to tt M N y)→ArrOk M N s.1→ArrOk M N (relL fr to tt L s).1∧(∀x,tmA (relL fr to tt L s).1 x≤tmA s.1 x)∧(relL fr to tt L s=s∨((relL fr to tt L s).2=true∧msr M (relL fr to tt L s).1+1≤msr M s.1))
 | [],s,_,hs=>⟨hs,fun x=>Int.le_refl _,.inl rfl⟩
 | y::L,s,hL,hs=>by
  obtain ⟨a,b,c⟩:=qob fr to tt hM (hL y List.mem_cons_self) hs
  obtain ⟨a',b',c'⟩:=qkW hM L (rel1 fr to tt s y) (fun z hz=>hL z (List.mem_cons_of_mem _ hz)) a
  have e:relL fr to tt (y::L) s=relL fr to tt L (rel1 fr to tt s y):=rfl
  rw[e]
  refine ⟨a',fun x=>Int.le_trans (b' x) (b x),?_⟩
  rcases c' with c' | ⟨c1,c2⟩
  ·rw[c']
   exact c
  ·refine .inr ⟨c1,?_⟩
   rcases c with c | ⟨_,c⟩
   ·rw[c] at c2 ⊢;exact c2
   ·omega
def Fix(L:List ω)(l:List Int):Prop:=∀y,y∈L→tmA l (fr y)=nev∨tmA l (to y)≤tt y (tmA l (fr y))
theorem qu5{M:Int}{N:Nat}(hM:M<nev):∀(L:List ω) (l:List Int),(∀y,y∈L→WayOk fr to tt M N y)→ArrOk M N l→(relL fr to tt L (l,false)).2=false→relL fr to tt L (l,false)=(l,false)∧Fix fr to tt L l
 | [],l,_,_,_=>⟨rfl,fun y h=>by cases h⟩
 | y::L,l,hL,hs,h=>by
  have hs':ArrOk M N ((l,false):List Int×Bool).1:=hs
  obtain ⟨_,_,c⟩:=qkW fr to tt hM (y::L) (l,false) hL hs'
  have hall:relL fr to tt (y::L) (l,false)=(l,false):=by
   rcases c with c | ⟨c,_⟩
   ·exact c
   ·rw[h] at c;cases c
  obtain ⟨a,_,d⟩:=qob fr to tt hM (hL y List.mem_cons_self) hs'
  have e:relL fr to tt (y::L) (l,false)=relL fr to tt L (rel1 fr to tt (l,false) y):=rfl
  have h1:rel1 fr to tt (l,false) y=(l,false):=by
   rcases d with d | ⟨d1,d2⟩
   ·exact d
   ·exfalso
    obtain ⟨_,_,c'⟩:=qkW fr to tt hM L (rel1 fr to tt (l,false) y) (fun z hz=>hL z (List.mem_cons_of_mem _ hz)) a
    rw[← e,hall] at c'
    rcases c' with c' | ⟨c',_⟩
    ·rw[← c'] at d1;cases d1
    ·cases c'
  rw[e,h1] at h
  obtain ⟨_,f⟩:=qu5 hM L l (fun z hz=>hL z (List.mem_cons_of_mem _ hz)) hs h
  refine ⟨hall,fun z hz=>?_⟩
  rcases List.mem_cons.1 hz with rfl | hz
  ·unfold rel1 at h1
   by_cases g1:tmA l (fr z)=nev
   ·exact .inl g1
   ·right
    rw[if_neg g1] at h1
    by_cases g2:tt z (tmA l (fr z))<tmA l (to z)
    ·rw[if_pos g2] at h1;cases congrArg Prod.snd h1
    ·omega
  ·exact f z hz
theorem qwH{M:Int}{N:Nat}(hM:M<nev){G:Nat→Int}(hG:∀x,G x≤nev){y:ω}(hy:WayOk fr to tt M N y)(hf:G (fr y)=nev∨G (to y)≤tt y (G (fr y))){s:List Int×Bool}(hs:ArrOk M N s.1)(h:∀x,x<N→G x≤tmA s.1 x):∀x,x<N→G x≤tmA (rel1 fr to tt s y).1 x:=by
 intro x hx
 unfold rel1
 by_cases h1:tmA s.1 (fr y)=nev
 ·rw[if_pos h1];exact h x hx
 ·rw[if_neg h1]
  by_cases h2:tt y (tmA s.1 (fr y))<tmA s.1 (to y)
  ·rw[if_pos h2,qqy (by rw[hs.len];exact hy.t)]
   by_cases e:x=to y
   ·rw[if_pos e,e]
    have ha:=h (fr y) hy.f
    have hv:=hs.v _ hy.f
    rcases hf with hf | hf
    ·omega
    ·exact Int.le_trans hf (hy.m _ _ ha)
   ·rw[if_neg e];exact h x hx
  ·rw[if_neg h2];exact h x hx
theorem qsu{M:Int}{N:Nat}(hM:M<nev){G:Nat→Int}(hG:∀x,G x≤nev):∀(L:List ω) (s:List Int×Bool),(∀y,y∈L→WayOk fr to tt M N y)→(∀y,y∈L→G (fr y)=nev∨G (to y)≤tt y (G (fr y)))→ArrOk M N s.1→(∀x,x<N→G x≤tmA s.1 x)→∀x,x<N→G x≤tmA (relL fr to tt L s).1 x
 | [],s,_,_,_,h=>h
 | y::L,s,hL,hf,hs,h=>by
  have a:=(qob fr to tt hM (hL y List.mem_cons_self) hs).1
  exact qsu hM hG L (rel1 fr to tt s y) (fun z hz=>hL z (List.mem_cons_of_mem _ hz)) (fun z hz=>hf z (List.mem_cons_of_mem _ hz)) a (qwH fr to tt hM hG (hL y List.mem_cons_self) (hf y List.mem_cons_self) hs h)
def qdt(L:List ω):Nat→List Int→List Int
 | 0,l=>l
 | k+1,l=>cond (relL fr to tt L (l,false)).2 (qdt L k (relL fr to tt L (l,false)).1) (relL fr to tt L (l,false)).1
theorem qni{M:Int}{N:Nat}(hM:M<nev)(L:List ω)(hL:∀y,y∈L→WayOk fr to tt M N y):∀(k:Nat) (l:List Int),msr M l<k→ArrOk M N l→ArrOk M N (qdt fr to tt L k l)∧Fix fr to tt L (qdt fr to tt L k l)∧∀x,tmA (qdt fr to tt L k l) x≤tmA l x
 | 0,l,h,_=>by omega
 | k+1,l,h,hs=>by
  obtain ⟨a,b,c⟩:=qkW fr to tt hM L (l,false) hL hs
  unfold qdt
  cases hb:(relL fr to tt L (l,false)).2 with
  | false =>
   obtain ⟨e,f⟩:=qu5 fr to tt hM L l hL hs hb
   rw[cond_false,e]
   exact ⟨hs,f,fun x=>Int.le_refl _⟩
  | true =>
   rw[cond_true]
   rcases c with c | ⟨_,c⟩
   ·rw[c] at hb;cases hb
   ·have hm:msr M (relL fr to tt L (l,false)).1+1≤msr M l:=c
    obtain ⟨a',f',b'⟩:=qni hM L hL k (relL fr to tt L (l,false)).1 (by omega) a
    exact ⟨a',f',fun x=>Int.le_trans (b' x) (b x)⟩
theorem qqd{M:Int}{N:Nat}(hM:M<nev){G:Nat→Int}(hG:∀x,G x≤nev)(L:List ω)(hL:∀y,y∈L→WayOk fr to tt M N y)(hf:∀y,y∈L→G (fr y)=nev∨G (to y)≤tt y (G (fr y))):∀(k:Nat) (l:List Int),ArrOk M N l→(∀x,x<N→G x≤tmA l x)→∀x,x<N→G x≤tmA (qdt fr to tt L k l) x
 | 0,_,_,h=>h
 | k+1,l,hs,h=>by
  have a:=(qkW fr to tt hM L (l,false) hL hs).1
  have b:=qsu fr to tt hM hG L (l,false) hL hf hs h
  unfold qdt
  cases (relL fr to tt L (l,false)).2 with
  | false=>exact b
  | true=>exact qqd hM hG L hL hf k _ a b
theorem qxT{M:Int}{N:Nat}(hM:M<nev){L L2:List ω}(hsub:∀y,y∈L→y∈L2)(hL:∀y,y∈L2→WayOk fr to tt M N y){k k2:Nat}{l:List Int}(hs:ArrOk M N l)(hk:msr M l<k2):∀x,x<N→tmA (qdt fr to tt L2 k2 l) x≤tmA (qdt fr to tt L k l) x:=by
 obtain ⟨a,f,b⟩:=qni fr to tt hM L2 hL k2 l hk hs
 refine qqd fr to tt hM (G:=tmA (qdt fr to tt L2 k2 l)) (fun x=>?_) L (fun y hy=>hL y (hsub y hy)) (fun y hy=>f y (hsub y hy)) k l hs (fun x _=>b x)
 rcases Nat.lt_or_ge x N with hx | hx
 ·have:=a.v x hx;omega
 ·unfold tmA;rw[List.getElem?_eq_none (by rw[a.len];exact hx)];exact Int.le_refl _
end
def ent1(at_ e:Int)(s:Int×Int):Int:=if at_≤s.2 then min e (max at_ s.1) else e
def entV(at_:Int)(l:List (Int×Int))(e:Int):Int:=l.foldl (ent1 at_) e
theorem qu6{a b:Int}(h:a≤b):∀(l:List (Int×Int)) (e f:Int),e≤f→entV a l e≤entV b l f
 | [],_,_,h=>h
 | s::l,e,f,hef=>by
  refine qu6 h l _ _ ?_
  unfold ent1
  split<;>split<;>omega
theorem qxU(a:Int):∀(l:List (Int×Int)) (e:Int),entV a l e≤e
 | [],_=>Int.le_refl _
 | s::l,e=>by
  refine Int.le_trans (qxU a l _) ?_
  unfold ent1
  split<;>omega
theorem qu7{a:Int}(h:0≤a):∀(l:List (Int×Int)) (e:Int),0≤e→0≤entV a l e
 | [],_,h=>h
 | s::l,e,he=>by
  refine qu7 h l _ ?_
  unfold ent1
  split<;>omega
def arrT(M:Int)(l:List (Int×Int))(time a:Int):Int:=if entV a l nev+time>M then nev else entV a l nev+time
theorem qxV{M:Int}{l:List (Int×Int)}{time a b:Int}(hM:M<nev)(h:a≤b):arrT M l time a≤arrT M l time b:=by
 have:=qu6 h l nev nev (Int.le_refl _)
 unfold arrT
 split<;>split<;>omega
theorem qAo{M:Int}{l:List (Int×Int)}{time a:Int}(ht:0≤time)(ha:0≤a):0≤arrT M l time a∧(arrT M l time a≤M∨arrT M l time a=nev):=by
 have:=qu7 ha l nev (by decide)
 unfold arrT
 split
 ·exact ⟨by decide,.inr rfl⟩
 ·exact ⟨by omega,.inl (by omega)⟩
theorem qu8{ω:Type}{fr to:ω→Nat}{tt:ω→Int→Int}{M:Int}{N:Nat}{y:ω}{l:List (Int×Int)}{time:Int}(hM:M<nev)(hf:fr y<N)(ht:to y<N)(h0:0≤time)(he:tt y=arrT M l time):WayOk fr to tt M N y :=
 ⟨hf,ht,fun a ha=>by rw[he];exact qAo h0 ha,fun a b h=>by rw[he];exact qxV hM h⟩
end Go.Proofs.YtfnflenkeljkiaaGreat
