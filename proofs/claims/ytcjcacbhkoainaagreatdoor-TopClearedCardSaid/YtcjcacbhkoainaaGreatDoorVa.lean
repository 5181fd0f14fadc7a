/- Texts Dv0, Dv1, Dv2, Dv3, Dv4, Dv5 in one. -/
import Derived.Test.YtcjcacbhkoainaaGreatDoorPa
/- Partitions of balances in groups of sum 0: sets are masks. -/
set_option linter.constructorNameAsVariable false
set_option linter.unusedSimpArgs false
set_option linter.unusedVariables false
set_option linter.unusedSectionVars false
namespace Go.Proofs.YtcjcacbhkoainaaGreatDoor
open Go Go.Proofs Go.RowKit
set_option maxHeartbeats 1000000
def smB:List Int→(Nat→Bool)→Int
 | [],_=>0
 | x::l,f=>(if f 0=true then x else 0)+smB l fun i=>f (i+1)
def sm(l:List Int)(m:Nat):Int:=smB l m.testBit
theorem qzC:∀(l:List Int) (f g h:Nat→Bool),(∀i,f i=(g i||h i))→(∀i,(g i&&h i)=false)→smB l f=smB l g+smB l h
 | [],_,_,_,_,_=>rfl
 | x::l,f,g,h,h1,h2=>by
  have:=qzC l (fun i=>f (i+1)) (fun i=>g (i+1)) (fun i=>h (i+1)) (fun i=>h1 (i+1)) fun i=>h2 (i+1)
  have e:(if f 0=true then x else 0)=(if g 0=true then x else 0)+(if h 0=true then x else 0):=by
   have a:=h1 0
   have b:=h2 0
   rw[a]
   cases hg:g 0<;>cases hh:h 0<;>rw[hg,hh] at b
   ·rfl
   ·show x=0+x;omega
   ·show x=x+0;omega
   ·cases b
  unfold smB
  rw[e,this]
  omega
theorem quR:∀(l:List Int) (f:Nat→Bool),(∀i,f i=false)→smB l f=0
 | [],_,_=>rfl
 | x::l,f,h=>by
  unfold smB
  rw[h 0,quR l _ fun i=>h (i+1)]
  rfl
theorem qbu{a m:Nat}:a &&& m=a↔∀i,a.testBit i=true→m.testBit i=true:=by
 constructor
 ·intro h i hi
  rw[← h,Nat.testBit_and,Bool.and_eq_true] at hi
  exact hi.2
 ·intro h
  refine Nat.eq_of_testBit_eq fun i=>?_
  rw[Nat.testBit_and]
  cases hi:a.testBit i with
  | false=>rfl
  | true=>rw[h i hi];rfl
theorem qbm{a m:Nat}(h:a &&& m=a)(i:Nat):(m ^^^ a).testBit i=(m.testBit i && !a.testBit i):=by
 rw[Nat.testBit_xor]
 have:=qbu.1 h i
 cases hm:m.testBit i<;>cases ha:a.testBit i<;>simp_all
theorem qwH{l:List Int}{a m:Nat}(h:a &&& m=a):sm l m=sm l a+sm l (m ^^^ a):=by
 refine qzC l _ _ _ (fun i=>?_) fun i=>?_<;>rw[qbm h]
 ·have:=qbu.1 h i
  cases hm:m.testBit i<;>cases ha:a.testBit i<;>simp_all
 ·cases a.testBit i<;>simp
def Part(Q:Nat→Prop):Nat→List Nat→Prop
 | m,[]=>m=0
 | m,a::F=>a≠0∧a &&& m=a∧Q a∧Part Q (m ^^^ a) F
def Zs(l:List Int)(a:Nat):Prop:=sm l a=0
theorem Part.sum{l:List Int}:∀{F:List Nat} {m:Nat},Part (Zs l) m F→sm l m=0
 | [],m,h=>by
  rw[show m=0 from h]
  exact quR l _ fun i=>Nat.zero_testBit i
 | a::F,m,h=>by rw[qwH h.2.1,show sm l a=0 from h.2.2.1,Part.sum h.2.2.2];rfl
theorem Part.swap{Q:Nat→Prop}{m a b:Nat}{F:List Nat}(h:Part Q m (a::b::F)):Part Q m (b::a::F):=by
 obtain ⟨h1,h2,h3,h4,h5,h6,h7⟩:=h
 have hb:b &&& m=b:=qbu.2 fun i hi=>by
  have:=qbu.1 h5 i hi
  rw[qbm h2,Bool.and_eq_true] at this
  exact this.1
 refine ⟨h4,hb,h6,h1,qbu.2 fun i hi=>?_,h3,?_⟩
 ·rw[qbm hb,qbu.1 h2 i hi]
  cases hbi:b.testBit i with
  | false=>rfl
  | true =>
   have:=qbu.1 h5 i hbi
   rw[qbm h2,hi] at this
   simp at this
 ·rw[Nat.xor_assoc,Nat.xor_comm b a,← Nat.xor_assoc];exact h7
theorem Part.front{Q:Nat→Prop}:∀{F:List Nat} {m a:Nat},Part Q m F→a∈F→Part Q m (a::F.erase a)
 | [],_,_,_,h=>by cases h
 | b::F,m,a,h,ha=>by
  by_cases e:b=a
  ·subst e;rw[List.erase_cons_head];exact h
  ·have ha':a∈F:=by
    rcases List.mem_cons.1 ha with e' | h'
    ·exact absurd e'.symm e
    ·exact h'
   rw[List.erase_cons_tail (by simpa using e)]
   exact Part.swap ⟨h.1,h.2.1,h.2.2.1,Part.front h.2.2.2 ha'⟩
theorem Part.has{Q:Nat→Prop}:∀{F:List Nat} {m i:Nat},Part Q m F→m.testBit i=true→∃a,a∈F∧a.testBit i=true
 | [],m,i,h,hi=>by
  rw[show m=0 from h,Nat.zero_testBit] at hi
  cases hi
 | a::F,m,i,h,hi=>by
  cases hb:a.testBit i with
  | true=>exact ⟨a,List.mem_cons_self,hb⟩
  | false =>
   obtain ⟨b,h1,h2⟩:=Part.has (i:=i) h.2.2.2 (by rw[qbm h.2.1,hi,hb];rfl)
   exact ⟨b,List.mem_cons_of_mem _ h1,h2⟩
theorem Part.sub{Q:Nat→Prop}{F:List Nat}{m a:Nat}(h:Part Q m F)(ha:a∈F):a≠0∧a &&& m=a∧Q a∧Part Q (m ^^^ a) (F.erase a):=Part.front h ha
def IsMax(Q:Nat→Prop)(m r:Nat):Prop:=(∃F,Part Q m F∧F.length=r)∧∀F,Part Q m F→F.length≤r
theorem qEg(Q:Nat→Prop):IsMax Q 0 0:=⟨⟨[],rfl,rfl⟩,fun F h=>by
 cases F with
 | nil=>exact Nat.le_refl _
 | cons a F =>
  have h2:=h.2.1
  rw[Nat.and_zero] at h2
  exact absurd h2.symm h.1⟩
theorem qHJ{Q:Nat→Prop}{m i r:Nat}(hi:m.testBit i=true)(att:∃a r',a &&& m=a∧a.testBit i=true∧Q a∧IsMax Q (m ^^^ a) r'∧r=r'+1)
  (up:∀a,a &&& m=a→a.testBit i=true→Q a→∃r',IsMax Q (m ^^^ a) r'∧r'+1≤r):IsMax Q m r:=by
 constructor
 ·obtain ⟨a,r',h1,h2,h3,⟨⟨F,h4,h5⟩,_⟩,h6⟩:=att
  refine ⟨a::F,⟨fun e=>?_,h1,h3,h4⟩,by rw[List.length_cons,h5,h6]⟩
  rw[e,Nat.zero_testBit] at h2
  cases h2
 ·intro F hF
  obtain ⟨a,h1,h2⟩:=hF.has hi
  obtain ⟨h3,h4,h5,h6⟩:=hF.sub h1
  obtain ⟨r',h7,h8⟩:=up a h4 h2 h5
  have:=h7.2 _ h6
  rw[List.length_erase_of_mem h1] at this
  have:0<F.length:=List.length_pos_of_mem h1
  omega
theorem IsMax.whole{l:List Int}{m:Nat}{F:List Nat}(h:IsMax (Zs l) m F.length)(hF:Part (Zs l) m F){a b:Nat}(ha:a∈F)(hb:b &&& a=b)(h0:b≠0)(h1:b≠a):sm l b≠0:=fun hs=>by
 obtain ⟨h2,h3,h4,h5⟩:=hF.sub ha
 have hbm:b &&& m=b:=qbu.2 fun i hi=>qbu.1 h3 i (qbu.1 hb i hi)
 have hr:sm l (a ^^^ b)=0:=by have:=qwH (l:=l) hb;have:sm l a=0:=h4;omega
 have hp:Part (Zs l) m (b::(a ^^^ b)::F.erase a):=by
  refine ⟨h0,hbm,hs,fun e=>h1 ?_,qbu.2 fun i hi=>?_,hr,?_⟩
  ·refine Nat.eq_of_testBit_eq fun i=>?_
   have:=qbm hb i
   rw[e,Nat.zero_testBit] at this
   have h6:=qbu.1 hb i
   cases ha':a.testBit i<;>cases hb':b.testBit i<;>simp_all
  ·rw[qbm hb,Bool.and_eq_true] at hi
   rw[qbm hbm,qbu.1 h3 i hi.1,hi.2];rfl
  ·rw[show m ^^^ b ^^^ (a ^^^ b)=m ^^^ a by
    rw[Nat.xor_comm a b,← Nat.xor_assoc,Nat.xor_assoc m b b,Nat.xor_self,Nat.xor_zero]]
   exact h5
 have:=h.2 _ hp
 simp only[List.length_cons] at this
 rw[List.length_erase_of_mem ha] at this
 have:0<F.length:=List.length_pos_of_mem ha
 omega
theorem qzD:∀(l:List Int) (i:Nat) (x:Int) (f:Nat→Bool),i<l.length→smB (l.set i x) f=smB l f+if f i=true then x-(l[i]?).getD 0 else 0
 | [],i,_,_,h=>absurd h (Nat.not_lt_zero _)
 | y::l,0,x,f,_=>by
  show (if f 0=true then x else 0)+smB l _=(if f 0=true then y else 0)+smB l _+if f 0=true then x-y else 0
  split<;>omega
 | y::l,i+1,x,f,h=>by
  have:=qzD l i x (fun j=>f (j+1)) (by simpa using h)
  show (if f 0=true then y else 0)+smB (l.set i x) _=(if f 0=true then y else 0)+smB l _+if f (i+1)=true then x-(l[i]?).getD 0 else 0
  rw[this]
  omega
def pay1(l:List Int)(t:Int×(Int×Int)):List Int:=(l.set t.1.toNat ((l[t.1.toNat]?).getD 0+t.2.2)).set t.2.1.toNat (((l.set t.1.toNat ((l[t.1.toNat]?).getD 0+t.2.2))[t.2.1.toNat]?).getD 0-t.2.2)
theorem qxX(l:List Int)(t:Int×(Int×Int)):(pay1 l t).length=l.length:=by unfold pay1;rw[List.length_set,List.length_set]
theorem qwI(l:List Int)(t:Int×(Int×Int))(m:Nat)(h1:t.1.toNat<l.length)(h2:t.2.1.toNat<l.length):sm (pay1 l t) m=sm l m+(if m.testBit t.1.toNat=true then t.2.2 else 0)-if m.testBit t.2.1.toNat=true then t.2.2 else 0:=by
 unfold sm pay1
 rw[qzD _ _ _ _ (by rw[List.length_set];exact h2),qzD _ _ _ _ h1]
 split<;>split<;>omega
theorem Part.mono{Q Q':Nat→Prop}:∀{F:List Nat} {m:Nat},Part Q m F→(∀c,c &&& m=c→Q c→Q' c)→Part Q' m F
 | [],_,h,_=>h
 | a::F,m,h,k=>⟨h.1,h.2.1,k a h.2.1 h.2.2.1,Part.mono h.2.2.2 fun c hc hq=>k c (qbu.2 fun i hi=>by
   have:=qbu.1 hc i hi
   rw[qbm h.2.1,Bool.and_eq_true] at this
   exact this.1) hq⟩
def Eqs(l l':List Int)(a:Nat):Prop:=sm l a=sm l' a
theorem qyV{a m c i:Nat}(ha:a &&& m=a)(hc:c &&& (m ^^^ a)=c)(hi:a.testBit i=true):c.testBit i=false:=by
 cases h:c.testBit i with
 | false=>rfl
 | true =>
  have:=qbu.1 hc i h
  rw[qbm ha,hi] at this
  simp at this
theorem qKH{l l':List Int}{t:Int×(Int×Int)}{m:Nat}{F:List Nat}(h:Part (Eqs l l') m F)(h1:t.1.toNat<l'.length)(h2:t.2.1.toNat<l'.length)(b1:m.testBit t.1.toNat=true)(b2:m.testBit t.2.1.toNat=true):∃F',Part (Eqs l (pay1 l' t)) m F'∧F.length≤F'.length+1:=by
 obtain ⟨a,ha,hai⟩:=h.has b1
 have hf:=h.front ha
 have hl:F.length=(F.erase a).length+1:=by
  rw[List.length_erase_of_mem ha]
  have:0<F.length:=List.length_pos_of_mem ha
  omega
 obtain ⟨a1,a2,a3,a4⟩:=hf
 have a3':sm l a=sm l' a:=a3
 cases hbi:a.testBit t.2.1.toNat with
 | true =>
  refine ⟨a::F.erase a,⟨a1,a2,?_,Part.mono a4 fun c hc hq=>?_⟩,by rw[List.length_cons];omega⟩
  ·show sm l a=sm (pay1 l' t) a
   rw[qwI l' t a h1 h2,hai,hbi]
   simp only[if_true]
   omega
  ·show sm l c=sm (pay1 l' t) c
   have hq':sm l c=sm l' c:=hq
   rw[qwI l' t c h1 h2,qyV a2 hc hai,qyV a2 hc hbi]
   simp only[Bool.false_eq_true,if_false]
   omega
 | false =>
  obtain ⟨b,hb,hbj⟩:=a4.has (i:=t.2.1.toNat) (by rw[qbm a2,b2,hbi];rfl)
  have hf2:=a4.front hb
  have hl2:(F.erase a).length=((F.erase a).erase b).length+1:=by
   rw[List.length_erase_of_mem hb]
   have:0<(F.erase a).length:=List.length_pos_of_mem hb
   omega
  obtain ⟨c1,c2,c3,c4⟩:=hf2
  have c3':sm l b=sm l' b:=c3
  have hsub:(a ||| b) &&& m=(a ||| b):=qbu.2 fun i hi=>by
   rw[Nat.testBit_or,Bool.or_eq_true] at hi
   rcases hi with hi | hi
   ·exact qbu.1 a2 i hi
   ·have:=qbu.1 c2 i hi
    rw[qbm a2,Bool.and_eq_true] at this
    exact this.1
  have hdis:∀i,(a.testBit i&&b.testBit i)=false:=fun i=>by
   cases hai':a.testBit i with
   | false=>rfl
   | true=>rw[qyV a2 c2 hai'];rfl
  have hsm:∀l:List Int,sm l (a ||| b)=sm l a+sm l b:=fun l=>qzC l _ _ _ (fun i=>Nat.testBit_or a b i) hdis
  have hrest:m ^^^ (a ||| b)=m ^^^ a ^^^ b:=by
   refine Nat.eq_of_testBit_eq fun i=>?_
   rw[qbm hsub,qbm c2,qbm a2,Nat.testBit_or]
   cases m.testBit i<;>cases a.testBit i<;>cases b.testBit i<;>rfl
  refine ⟨(a ||| b)::(F.erase a).erase b,⟨fun e=>?_,hsub,?_,?_⟩,by rw[List.length_cons];omega⟩
  ·have:(a ||| b).testBit t.1.toNat=true:=by rw[Nat.testBit_or,hai];rfl
   rw[e,Nat.zero_testBit] at this
   cases this
  ·show sm l (a ||| b)=sm (pay1 l' t) (a ||| b)
   rw[qwI l' t _ h1 h2,Nat.testBit_or,Nat.testBit_or,hai,hbj,hsm,hsm]
   simp only[Bool.true_or,Bool.or_true,if_true]
   omega
  ·rw[hrest]
   refine Part.mono c4 fun c hc hq=>?_
   have hq':sm l c=sm l' c:=hq
   have n2:=qyV c2 hc hbj
   have n1:c.testBit t.1.toNat=false:=by
    cases h:c.testBit t.1.toNat with
    | false=>rfl
    | true =>
     have h3:=qbu.1 hc _ h
     rw[qbm c2,qbm a2,hai] at h3
     simp at h3
   show sm l c=sm (pay1 l' t) c
   rw[qwI l' t c h1 h2,n1,n2]
   simp only[Bool.false_eq_true,if_false]
   omega
def full(n:Nat):Nat:=2 ^ n-1
theorem quS(n i:Nat):(full n).testBit i=decide (i<n):=Nat.testBit_two_pow_sub_one n i
theorem qoB(n i:Nat):(2 ^ n).testBit i=decide (n=i):=Nat.testBit_two_pow
theorem qH9{l:List Int}:∀(ts:List (Int×(Int×Int))) {l':List Int} {F:List Nat},l'.length=l.length→Part (Eqs l l') (full l.length) F→(∀t,t∈ts→(0≤t.1∧t.1<l.length)∧(0≤t.2.1∧t.2.1<l.length)) →
  ∃F',Part (Eqs l (ts.foldl pay1 l')) (full l.length) F'∧F.length≤F'.length+ts.length
 | [],l',F,_,h,_=>⟨F,h,by simp⟩
 | t::ts,l',F,hl,h,ht=>by
  have h0:=ht t List.mem_cons_self
  obtain ⟨F1,h1,h2⟩:=qKH h (t:=t) (by rw[hl];omega) (by rw[hl];omega) (by rw[quS,decide_eq_true_eq];omega) (by rw[quS,decide_eq_true_eq];omega)
  obtain ⟨F2,h3,h4⟩:=qH9 ts (l':=pay1 l' t) (by rw[qxX,hl]) h1 fun t h=>ht t (List.mem_cons_of_mem _ h)
  exact ⟨F2,h3,by rw[List.length_cons];omega⟩
theorem qFT:∀(l:List Int) (i:Nat) (f:Nat→Bool),(∀j,f j=decide (i=j))→smB l f=(l[i]?).getD 0
 | [],_,_,_=>rfl
 | x::l,0,f,h=>by
  unfold smB
  rw[h 0,quR l _ fun j=>by rw[h (j+1)];exact decide_eq_false (by omega)]
  simp
 | x::l,i+1,f,h=>by
  unfold smB
  rw[h 0,qFT l i (fun j=>f (j+1)) fun j=>by rw[h (j+1)];exact decide_eq_decide.2 (by omega)]
  simp
theorem qJ7(l:List Int)(i:Nat):sm l (2 ^ i)=(l[i]?).getD 0:=qFT l i _ fun j=>qoB i j
def qyW(m:Nat)(zs:List Nat):Nat:=zs.foldl (fun m i=>m ^^^ 2 ^ i) m
theorem qwh:∀(zs:List Nat) (m:Nat),zs.Nodup→(∀i,i∈zs→m.testBit i=true)→∀j,(qyW m zs).testBit j=(m.testBit j && !decide (j∈zs))
 | [],m,_,_,j=>by simp[qyW]
 | i::zs,m,hn,h,j=>by
  have hi:=h i List.mem_cons_self
  rw[List.nodup_cons] at hn
  have hp:2 ^ i &&& m=2 ^ i:=qbu.2 fun j hj=>by
   rw[qoB,decide_eq_true_eq] at hj
   rw[← hj];exact hi
  have:=qwh zs (m ^^^ 2 ^ i) hn.2 (fun k hk=>by
   rw[qbm hp,h k (List.mem_cons_of_mem _ hk),qoB,decide_eq_false (show ¬i=k from fun e=>hn.1 (by rw[e];exact hk))];rfl) j
  show (qyW (m ^^^ 2 ^ i) zs).testBit j=_
  rw[this,qbm hp,qoB]
  by_cases e:i=j
  ·subst e;simp[hn.1]
  ·rw[decide_eq_false e]
   simp[List.mem_cons,Ne.symm e]
def qse(l:List Int):List Nat:=(List.range l.length).filter fun i=>decide ((l[i]?).getD 0=0)
def qla(l:List Int):Nat:=((List.range l.length).filter fun i=>!decide ((l[i]?).getD 0=0)).length
theorem qB7(l:List Int):qla l+(qse l).length=l.length:=by
 unfold qla qse
 have:∀(xs:List Nat) (p:Nat→Bool),(xs.filter fun i=>!p i).length+(xs.filter p).length=xs.length:=by
  intro xs p
  induction xs with
  | nil=>rfl
  | cons x xs ih=>cases h:p x<;>simp[List.filter_cons,h]<;>omega
 rw[this,List.length_range]
def qf4(l:List Int):Nat:=qyW (full l.length) (qse l)
theorem qwi{l:List Int}{i:Nat}:i∈qse l↔i<l.length∧(l[i]?).getD 0=0:=by
 unfold qse
 rw[List.mem_filter,List.mem_range,decide_eq_true_eq]
theorem qsf(l:List Int)(j:Nat):(qf4 l).testBit j=(decide (j<l.length) && !decide ((l[j]?).getD 0=0)):=by
 unfold qf4
 rw[qwh (qse l) _ (show (qse l).Nodup from List.Pairwise.filter _ List.nodup_range) fun i hi=>by rw[quS,decide_eq_true_eq];exact (qwi.1 hi).1,quS]
 by_cases h:j<l.length
 ·by_cases h0:(l[j]?).getD 0=0
  ·rw[decide_eq_true (qwi.2 ⟨h,h0⟩),decide_eq_true h,decide_eq_true h0]
  ·rw[decide_eq_false (fun h'=>h0 (qwi.1 h').2),decide_eq_true h,decide_eq_false h0]
 ·rw[decide_eq_false h];rfl
abbrev Debt:=Int×Int
def ws(f:Int→Bool)(d:List Debt):Int:=(d.map fun p=>if f p.1=true then p.2 else 0).sum
theorem qFU{l m:List Int}(h:l.Perm m):l.sum=m.sum:=by
 induction h with
 | nil=>rfl
 | cons x _ ih=>simp[ih]
 | swap x y l=>simp only[List.sum_cons];omega
 | trans _ _ h1 h2=>rw[h1,h2]
theorem qDm{f:Int→Bool}{d e:List Debt}(h:d.Perm e):ws f d=ws f e:=qFU (h.map _)
theorem qhB(f:Int→Bool)(p:Debt)(d:List Debt):ws f (p::d)=(if f p.1=true then p.2 else 0)+ws f d:=by unfold ws;rw[List.map_cons,List.sum_cons]
theorem qxY{f g:Int→Bool}:∀{d:List Debt},(∀p,p∈d→f p.1=g p.1)→ws f d=ws g d
 | [],_=>rfl
 | p::d,h=>by rw[qhB,qhB,h p List.mem_cons_self,qxY fun q hq=>h q (List.mem_cons_of_mem _ hq)]
def Irr(d:List Debt):Prop:=∀f:Int→Bool,ws f d=0→(∀p,p∈d→f p.1=true)∨(∀p,p∈d→f p.1=false)
structure DOk (d:List Debt):Prop where
 nd:(d.map (·.1)).Nodup
 nz:∀p,p∈d→p.2≠0
 s0:ws (fun _=>true) d=0
 ir:Irr d
theorem DOk.perm{d e:List Debt}(h:d.Perm e)(k:DOk d):DOk e :=
 ⟨(h.map _).nodup_iff.1 k.nd,fun p hp=>k.nz p (h.mem_iff.2 hp),by rw[← qDm h];exact k.s0,fun f hf=>by
  rcases k.ir f (by rw[qDm h];exact hf) with h' | h'
  ·exact .inl fun p hp=>h' p (h.mem_iff.2 hp)
  ·exact .inr fun p hp=>h' p (h.mem_iff.2 hp)⟩
theorem DOk.join{x y:Debt}{d:List Debt}(k:DOk (x::y::d))(h:x.2+y.2≠0):DOk ((y.1,x.2+y.2)::d):=by
 have hn:=k.nd
 rw[List.map_cons,List.map_cons,List.nodup_cons,List.nodup_cons,List.mem_cons,not_or] at hn
 obtain ⟨⟨n1,n2⟩,n3,n4⟩:=hn
 refine ⟨?_,fun p hp=>?_,?_,fun f hf=>?_⟩
 ·rw[List.map_cons,List.nodup_cons];exact ⟨n3,n4⟩
 ·rcases List.mem_cons.1 hp with rfl | hp
  ·exact h
  ·exact k.nz p (List.mem_cons_of_mem _ (List.mem_cons_of_mem _ hp))
 ·have:=k.s0
  rw[qhB,qhB] at this
  rw[qhB]
  simp only[if_true] at this ⊢
  omega
 ·have h1:=k.ir (fun i=>if i=x.1 then f y.1 else f i) (by
   have hd:ws (fun i=>if i=x.1 then f y.1 else f i) d=ws f d:=qxY fun p hp=>by
    show (if p.1=x.1 then f y.1 else f p.1)=f p.1
    rw[if_neg fun e=>n2 (by rw[← e];exact List.mem_map_of_mem hp)]
   rw[qhB] at hf
   rw[qhB,qhB,hd]
   simp only[if_true,if_neg (Ne.symm n1)] at hf ⊢
   cases hfy:f y.1<;>rw[hfy] at hf<;>simp only[if_true,Bool.false_eq_true,if_false] at hf ⊢<;>omega)
  have key:∀b:Bool,(∀p,p∈x::y::d→(if p.1=x.1 then f y.1 else f p.1)=b)→∀p,p∈(y.1,x.2+y.2)::d→f p.1=b:=fun b hb p hp=>by
   rcases List.mem_cons.1 hp with rfl | hp
   ·have:=hb x List.mem_cons_self
    rwa [if_pos rfl] at this
   ·have:=hb p (List.mem_cons_of_mem _ (List.mem_cons_of_mem _ hp))
    rwa [if_neg fun e=>n2 (by rw[← e];exact List.mem_map_of_mem hp)] at this
  rcases h1 with h1 | h1
  ·exact .inl (key true h1)
  ·exact .inr (key false h1)
theorem DOk.both{x y:Debt}{d:List Debt}(k:DOk (x::y::d))(h:x.2+y.2=0):d=[]:=by
 have hn:=k.nd
 rw[List.map_cons,List.map_cons,List.nodup_cons,List.nodup_cons,List.mem_cons,not_or] at hn
 obtain ⟨⟨n1,n2⟩,n3,n4⟩:=hn
 have h1:=k.ir (fun i=>decide (i=x.1)||decide (i=y.1)) (by
  have hd:ws (fun i=>decide (i=x.1)||decide (i=y.1)) d=ws (fun _=>false) d:=qxY fun p hp=>by
   show (decide (p.1=x.1)||decide (p.1=y.1))=false
   rw[decide_eq_false fun e=>n2 (by rw[← e];exact List.mem_map_of_mem hp),decide_eq_false fun e=>n3 (by rw[← e];exact List.mem_map_of_mem hp)];rfl
  have h0:ws (fun _=>false) d=0:=by
   unfold ws
   clear hd k n1 n2 n3 n4 h
   induction d with
   | nil=>rfl
   | cons p d ih=>rw[List.map_cons,List.sum_cons,ih];rfl
  rw[qhB,qhB,hd,h0]
  simp
  omega)
 cases d with
 | nil=>rfl
 | cons p d =>
  rcases h1 with h1 | h1
  ·have:=h1 p (by simp)
   simp only[Bool.or_eq_true,decide_eq_true_eq] at this
   rcases this with e | e
   ·exact absurd (show x.1∈(p::d).map (·.1) by rw[← e];simp) n2
   ·exact absurd (show y.1∈(p::d).map (·.1) by rw[← e];simp) n3
  ·have:=h1 x List.mem_cons_self
   simp at this
inductive Trs:List Debt→List (Int×(Int×Int))→Prop
 | done (d:List Debt):d.length≤1→Trs d []
 | round (d e r:List Debt) (x y:Debt) (ts:List (Int×(Int×Int))):d.Perm (x::y::e)→(∀p,p∈d→x.2≤p.2∧p.2≤y.2)→r.Perm (((x.1,x.2+min (-x.2) y.2)::(y.1,y.2-min (-x.2) y.2)::e).filter fun p=>!decide (p.2=0))→Trs r ts→Trs d ((x.1,(y.1,min (-x.2) y.2))::ts)
theorem qAp{e:List Debt}(h:∀p,p∈e→p.2≠0):e.filter (fun p=>!decide (p.2=0))=e:=List.filter_eq_self.2 fun p hp=>by rw[decide_eq_false (h p hp)];rfl
theorem qEh{x y:Debt}{e:List Debt}(k:DOk (x::y::e))(h:∀p,p∈x::y::e→x.2≤p.2∧p.2≤y.2):x.2<0∧0<y.2:=by
 have hs:=k.s0
 have hx:=k.nz x List.mem_cons_self
 have hy:=k.nz y (List.mem_cons_of_mem _ List.mem_cons_self)
 rw[qhB,qhB] at hs
 simp only[if_true] at hs
 have lo:∀e:List Debt,(∀p,p∈e→0≤p.2)→0≤ws (fun _=>true) e:=by
  intro e
  induction e with
  | nil=>intro _;exact Int.le_refl _
  | cons p e ih=>intro h;rw[qhB];have:=ih fun q hq=>h q (List.mem_cons_of_mem _ hq);have:=h p List.mem_cons_self;simp only[if_true];omega
 have hi:∀e:List Debt,(∀p,p∈e→p.2≤0)→ws (fun _=>true) e≤0:=by
  intro e
  induction e with
  | nil=>intro _;exact Int.le_refl _
  | cons p e ih=>intro h;rw[qhB];have:=ih fun q hq=>h q (List.mem_cons_of_mem _ hq);have:=h p List.mem_cons_self;simp only[if_true];omega
 have hxy:=h y (List.mem_cons_of_mem _ List.mem_cons_self)
 constructor
 ·refine Int.not_le.1 fun h0=>?_
  have:=lo e fun p hp=>by have:=h p (List.mem_cons_of_mem _ (List.mem_cons_of_mem _ hp));omega
  omega
 ·refine Int.not_le.1 fun h0=>?_
  have:=hi e fun p hp=>by have:=h p (List.mem_cons_of_mem _ (List.mem_cons_of_mem _ hp));omega
  omega
theorem qxZ{d e r:List Debt}{x y:Debt}(k:DOk d)(hp:d.Perm (x::y::e))(hb:∀p,p∈d→x.2≤p.2∧p.2≤y.2)(hr:r.Perm (((x.1,x.2+min (-x.2) y.2)::(y.1,y.2-min (-x.2) y.2)::e).filter fun p=>!decide (p.2=0))):(r=[]∧d.length=2)∨(DOk r∧r.length+1=d.length∧1≤r.length):=by
 have k1:=k.perm hp
 have hl:=hp.length_eq
 simp only[List.length_cons] at hl
 have hsg:=qEh k1 fun p h=>hb p (hp.mem_iff.2 h)
 have he:∀p,p∈e→p.2≠0:=fun p h=>k1.nz p (List.mem_cons_of_mem _ (List.mem_cons_of_mem _ h))
 rcases Int.lt_trichotomy (x.2+y.2) 0 with h | h | h
 ·right
  rw[show min (-x.2) y.2=y.2 by omega,show y.2-y.2=0 by omega] at hr
  rw[List.filter_cons_of_pos (by simp;omega),List.filter_cons_of_neg (by simp),qAp he] at hr
  have k2:DOk (y::x::e):=k1.perm (List.Perm.swap y x e)
  have k3:=k2.join (by omega)
  rw[Int.add_comm y.2 x.2] at k3
  have hrl:=hr.length_eq
  rw[List.length_cons] at hrl
  exact ⟨k3.perm hr.symm,by omega,by omega⟩
 ·left
  have:=k1.both h
  subst this
  rw[show min (-x.2) y.2=y.2 by omega,show y.2-y.2=0 by omega,h] at hr
  exact ⟨by simpa using hr,by simpa using hl⟩
 ·right
  rw[show min (-x.2) y.2 = -x.2 by omega,show x.2 + -x.2=0 by omega,show y.2 - -x.2=x.2+y.2 by omega] at hr
  rw[List.filter_cons_of_neg (by simp),List.filter_cons_of_pos (by simp;omega),qAp he] at hr
  have k3:=k1.join (by omega)
  have hrl:=hr.length_eq
  rw[List.length_cons] at hrl
  exact ⟨k3.perm hr.symm,by omega,by omega⟩
theorem qDn{d:List Debt}{ts:List (Int×(Int×Int))}(h:Trs d ts):DOk d→1≤d.length→ts.length+1=d.length:=by
 induction h with
 | done d h=>intro _ h1;simp;omega
 | round d e r x y ts hp hb hr ht ih =>
  intro k _
  rcases qxZ k hp hb hr with ⟨h1,h2⟩ | ⟨h1,h2,h3⟩
  ·subst h1
   cases ht with
   | done _ _=>simp[h2]
   | round _ e' _ x' y' _ hp' _ _ _=>have:=hp'.length_eq;simp at this
  ·have:=ih h1 h3
   rw[List.length_cons];omega
theorem qwj(l:List Int)(i j:Nat)(x:Int)(h:i<l.length):((l.set i x)[j]?).getD 0=if j=i then x else (l[j]?).getD 0:=by
 rw[List.getElem?_set]
 by_cases e:i=j
 ·subst e;rw[if_pos rfl,if_pos h,if_pos rfl];rfl
 ·rw[if_neg e,if_neg (Ne.symm e)]
theorem qI8(l:List Int)(t:Int×(Int×Int))(i:Nat)(h1:t.1.toNat<l.length)(h2:t.2.1.toNat<l.length)(hne:t.1.toNat≠t.2.1.toNat):((pay1 l t)[i]?).getD 0=(l[i]?).getD 0+(if i=t.1.toNat then t.2.2 else 0)-if i=t.2.1.toNat then t.2.2 else 0:=by
 unfold pay1
 rw[qwj _ _ _ _ (by rw[List.length_set];exact h2),qwj _ _ _ _ h1,qwj _ _ _ _ h1,if_neg (Ne.symm hne)]
 by_cases e1:i=t.1.toNat
 ·rw[if_pos e1,if_pos e1,if_neg (by rw[e1];exact hne),if_neg (by rw[e1];exact hne),e1];omega
 ·rw[if_neg e1,if_neg e1]
  by_cases e2:i=t.2.1.toNat
  ·rw[if_pos e2,if_pos e2,e2];omega
  ·rw[if_neg e2,if_neg e2];omega
theorem qDo:DOk []:=⟨List.nodup_nil,fun p hp=>absurd hp List.not_mem_nil,rfl,fun _ _=>.inl fun p hp=>absurd hp List.not_mem_nil⟩
theorem qI9{d:List Debt}(k:DOk d)(h:d.length≤1):d=[]:=by
 match d,h,k with
 | [],_,_=>rfl
 | [p],_,k =>
  have h1:=k.nz p List.mem_cons_self
  have h2:=k.s0
  rw[qhB] at h2
  unfold ws at h2
  simp at h2
  exact absurd h2 h1
theorem qJa{d:List Debt}{ts:List (Int×(Int×Int))}(h:Trs d ts):DOk d→∀l:List Int,(∀p,p∈d→0≤p.1∧p.1<l.length∧(l[p.1.toNat]?).getD 0=p.2) →
  (ts.foldl pay1 l).length=l.length∧(∀p,p∈d→((ts.foldl pay1 l)[p.1.toNat]?).getD 0=0)∧(∀i:Nat,(∀p,p∈d→p.1.toNat≠i)→((ts.foldl pay1 l)[i]?).getD 0=(l[i]?).getD 0)∧∀t,t∈ts→(∃p,p∈d∧p.1=t.1)∧(∃p,p∈d∧p.1=t.2.1)∧t.1≠t.2.1∧1≤t.2.2:=by
 induction h with
 | done d h =>
  intro k l hl
  rw[qI9 k h] at hl ⊢
  exact ⟨rfl,fun p hp=>absurd hp List.not_mem_nil,fun i _=>rfl,fun t ht=>absurd ht List.not_mem_nil⟩
 | round d e r x y ts hp hb hr ht ih =>
  intro k l hl
  have k1:=k.perm hp
  have hsg:=qEh k1 fun p h=>hb p (hp.mem_iff.2 h)
  have hn:=k1.nd
  rw[List.map_cons,List.map_cons,List.nodup_cons,List.nodup_cons,List.mem_cons,not_or] at hn
  obtain ⟨⟨n1,n2⟩,n3,n4⟩:=hn
  have hxd:x∈d:=hp.mem_iff.2 List.mem_cons_self
  have hyd:y∈d:=hp.mem_iff.2 (List.mem_cons_of_mem _ List.mem_cons_self)
  have hx:=hl x hxd
  have hy:=hl y hyd
  have hne:x.1.toNat≠y.1.toNat:=by omega
  have kr:DOk r:=by
   rcases qxZ k hp hb hr with ⟨h1,_⟩ | ⟨h1,_⟩
   ·rw[h1];exact qDo
   ·exact h1
  have hn1:1≤min (-x.2) y.2:=by omega
  clear ht
  generalize min (-x.2) y.2=n at *
  have hat:=fun i=>qI8 l (x.1,(y.1,n)) i (by show x.1.toNat<_;omega) (by show y.1.toNat<_;omega) hne
  have hlen:=qxX l (x.1,(y.1,n))
  have hee:∀p,p∈e→p∈d∧p.1.toNat≠x.1.toNat∧p.1.toNat≠y.1.toNat:=fun p hp'=>by
   have hpd:=hp.mem_iff.2 (List.mem_cons_of_mem _ (List.mem_cons_of_mem _ hp'):p∈x::y::e)
   have h1:=hl p hpd
   have h2:p.1≠x.1:=fun e'=>n2 (by rw[← e'];exact List.mem_map_of_mem hp')
   have h3:p.1≠y.1:=fun e'=>n3 (by rw[← e'];exact List.mem_map_of_mem hp')
   exact ⟨hpd,by omega,by omega⟩
  have hr1:∀p,p∈r→(p=(x.1,x.2+n)∨p=(y.1,y.2-n)∨p∈e)∧p.2≠0:=fun p hp'=>by
   have:=hr.mem_iff.1 hp'
   rw[List.mem_filter,List.mem_cons,List.mem_cons] at this
   exact ⟨this.1,by simpa using this.2⟩
  have hl1:∀p,p∈r→0≤p.1∧p.1<(pay1 l (x.1,(y.1,n))).length∧((pay1 l (x.1,(y.1,n)))[p.1.toNat]?).getD 0=p.2:=fun p hp'=>by
   rw[hlen,hat]
   rcases (hr1 p hp').1 with rfl | rfl | h'
   ·refine ⟨hx.1,hx.2.1,?_⟩
    show _+(if x.1.toNat=x.1.toNat then n else 0)-(if x.1.toNat=y.1.toNat then n else 0)=x.2+n
    rw[if_pos rfl,if_neg hne,hx.2.2];omega
   ·refine ⟨hy.1,hy.2.1,?_⟩
    show _+(if y.1.toNat=x.1.toNat then n else 0)-(if y.1.toNat=y.1.toNat then n else 0)=y.2-n
    rw[if_pos rfl,if_neg (Ne.symm hne),hy.2.2];omega
   ·have h2:=hee p h'
    have h3:=hl p h2.1
    refine ⟨h3.1,h3.2.1,?_⟩
    show _+(if p.1.toNat=x.1.toNat then n else 0)-(if p.1.toNat=y.1.toNat then n else 0)=p.2
    rw[if_neg h2.2.1,if_neg h2.2.2,h3.2.2];omega
  obtain ⟨i1,i2,i3,i4⟩:=ih kr (pay1 l (x.1,(y.1,n))) hl1
  have hacc:∀p,p∈r→∃q,q∈d∧q.1=p.1:=fun p hp'=>by
   rcases (hr1 p hp').1 with rfl | rfl | h'
   ·exact ⟨x,hxd,rfl⟩
   ·exact ⟨y,hyd,rfl⟩
   ·exact ⟨p,(hee p h').1,rfl⟩
  refine ⟨?_,fun p hp'=>?_,fun i hi=>?_,fun t ht'=>?_⟩
  ·rw[List.foldl_cons,i1,hlen]
  ·rw[List.foldl_cons]
   by_cases hin:∃q,q∈r∧q.1.toNat=p.1.toNat
   ·obtain ⟨q,q1,q2⟩:=hin
    rw[← q2];exact i2 q q1
   ·rw[i3 p.1.toNat fun q q1 q2=>hin ⟨q,q1,q2⟩,hat]
    have hmem:∀q:Debt,(q=(x.1,x.2+n)∨q=(y.1,y.2-n)∨q∈e)→q.2≠0→q∈r:=fun q h1 h2=>hr.mem_iff.2 (by
     rw[List.mem_filter,List.mem_cons,List.mem_cons]
     exact ⟨h1,by simpa using h2⟩)
    have hpx:=hp.mem_iff.1 hp'
    rcases List.mem_cons.1 hpx with rfl | hpx
    ·have:p.2+n=0:=Decidable.byContradiction fun h0=>hin ⟨(p.1,p.2+n),hmem _ (.inl rfl) h0,rfl⟩
     show _+(if p.1.toNat=p.1.toNat then n else 0)-(if p.1.toNat=y.1.toNat then n else 0)=0
     rw[if_pos rfl,if_neg hne,hx.2.2];omega
    ·rcases List.mem_cons.1 hpx with rfl | hpe
     ·have:p.2-n=0:=Decidable.byContradiction fun h0=>hin ⟨(p.1,p.2-n),hmem _ (.inr (.inl rfl)) h0,rfl⟩
      show _+(if p.1.toNat=x.1.toNat then n else 0)-(if p.1.toNat=p.1.toNat then n else 0)=0
      rw[if_pos rfl,if_neg (Ne.symm hne),hy.2.2];omega
     ·exact absurd ⟨p,hmem p (.inr (.inr hpe)) (k.nz p hp'),rfl⟩ hin
  ·rw[List.foldl_cons,i3 i fun q hq e'=>by
    obtain ⟨q',h1,h2⟩:=hacc q hq
    exact hi q' h1 (by rw[h2];exact e'),hat]
   show _+(if i=x.1.toNat then n else 0)-(if i=y.1.toNat then n else 0)=_
   rw[if_neg (Ne.symm (hi x hxd)),if_neg (Ne.symm (hi y hyd))];omega
  ·rcases List.mem_cons.1 ht' with rfl | ht'
   ·exact ⟨⟨x,hxd,rfl⟩,⟨y,hyd,rfl⟩,Ne.symm n1 |> Ne.symm,hn1⟩
   ·obtain ⟨⟨p,p1,p2⟩,⟨q,q1,q2⟩,h3,h4⟩:=i4 t ht'
    obtain ⟨p',p3,p4⟩:=hacc p p1
    obtain ⟨q',q3,q4⟩:=hacc q q1
    exact ⟨⟨p',p3,by rw[p4,p2]⟩,⟨q',q3,by rw[q4,q2]⟩,h3,h4⟩
theorem qwk:∀(l:List Int) (f:Nat→Bool),smB l f=((List.range l.length).map fun i=>if f i=true then (l[i]?).getD 0 else 0).sum
 | [],_=>rfl
 | x::l,f=>by
  unfold smB
  rw[List.length_cons,List.range_succ_eq_map,List.map_cons,List.sum_cons,List.map_map,qwk l]
  rfl
theorem qxi{α:Type}(p:α→Bool)(g:α→Int):∀l:List α,((l.filter p).map g).sum=(l.map fun x=>if p x=true then g x else 0).sum
 | []=>rfl
 | x::l=>by
  rw[List.map_cons,List.sum_cons,← qxi p g l,List.filter_cons]
  cases p x<;>simp
def dl(l:List Int)(a:Nat):List Debt:=((List.range l.length).filter a.testBit).map fun(i:Nat)=>((i:Int),(l[i]?).getD 0)
theorem qqL{l:List Int}{a:Nat}{p:Debt}(h:p∈dl l a):∃i:Nat,p=((i:Int),(l[i]?).getD 0)∧i<l.length∧a.testBit i=true:=by
 unfold dl at h
 obtain ⟨i,h1,rfl⟩:=List.mem_map.1 h
 rw[List.mem_filter,List.mem_range] at h1
 exact ⟨i,rfl,h1.1,h1.2⟩
theorem qJ8{l:List Int}{a i:Nat}(h1:i<l.length)(h2:a.testBit i=true):((i:Int),(l[i]?).getD 0)∈dl l a:=by
 unfold dl
 exact List.mem_map.2 ⟨i,by rw[List.mem_filter,List.mem_range];exact ⟨h1,h2⟩,rfl⟩
theorem qIa(l:List Int)(a b:Nat)(f:Int→Bool)(h:∀j,b.testBit j=(a.testBit j&&f (j:Int))):ws f (dl l a)=sm l b:=by
 unfold ws dl sm
 rw[qwk,List.map_map,qxi]
 refine congrArg List.sum (List.map_congr_left fun i _=>?_)
 rw[h i]
 show (if a.testBit i=true then (if f (i:Int)=true then (l[i]?).getD 0 else 0) else 0)=_
 cases a.testBit i<;>simp
theorem qKI{l:List Int}{m:Nat}{F:List Nat}(h:IsMax (Zs l) m F.length)(hF:Part (Zs l) m F)(hm:∀i,m.testBit i=true→i<l.length∧(l[i]?).getD 0≠0){a:Nat}(ha:a∈F):DOk (dl l a):=by
 obtain ⟨h2,h3,h4,h5⟩:=hF.sub ha
 have hsub:=qbu.1 h3
 refine ⟨?_,fun p hp=>?_,?_,fun f hf=>?_⟩
 ·unfold dl
  rw[List.map_map]
  refine List.Pairwise.map (R:=fun i j:Nat=>i≠j) _ (fun i j hij e=>hij ?_) (List.Pairwise.filter _ List.nodup_range)
  have e':(i:Int)=(j:Int):=e
  omega
 ·obtain ⟨i,rfl,h6,h7⟩:=qqL hp
  exact (hm i (hsub i h7)).2
 ·rw[qIa l a a (fun _=>true) fun j=>by simp];exact h4
 ·have hnd:(((List.range l.length).filter a.testBit).filter fun(i:Nat)=>!f (i:Int)).Nodup:=List.Pairwise.filter _ (List.Pairwise.filter _ List.nodup_range)
  obtain ⟨b,hb⟩:∃b,b=qyW a (((List.range l.length).filter a.testBit).filter fun(i:Nat)=>!f (i:Int)):=⟨_,rfl⟩
  have hbit:∀j,b.testBit j=(a.testBit j&&f (j:Int)):=fun j=>by
   rw[hb,qwh _ _ hnd fun i hi=>by
    rw[List.mem_filter,List.mem_filter] at hi
    exact hi.1.2]
   cases haj:a.testBit j with
   | false=>rfl
   | true =>
    have hj:=(hm j (hsub j haj)).1
    cases hfj:f (j:Int) with
    | true =>
     rw[decide_eq_false fun hc=>by
      rw[List.mem_filter] at hc
      rw[hfj] at hc
      exact absurd hc.2 (by decide)]
     rfl
    | false =>
     rw[decide_eq_true (by rw[List.mem_filter,List.mem_filter,List.mem_range,hfj];exact ⟨⟨hj,haj⟩,rfl⟩)]
     rfl
  have hba:b &&& a=b:=qbu.2 fun i hi=>by
   rw[hbit,Bool.and_eq_true] at hi
   exact hi.1
  have hs:sm l b=0:=by rw[← qIa l a b f hbit];exact hf
  by_cases h0:b=0
  ·right
   intro p hp
   obtain ⟨i,rfl,h6,h7⟩:=qqL hp
   have:=hbit i
   rw[h0,Nat.zero_testBit,h7] at this
   simpa using this.symm
  ·by_cases h1:b=a
   ·left
    intro p hp
    obtain ⟨i,rfl,h6,h7⟩:=qqL hp
    have:=hbit i
    rw[h1,h7] at this
    simpa using this.symm
   ·exact absurd hs (h.whole hF ha hba h0 h1)
def card(n m:Nat):Nat:=((List.range n).filter m.testBit).length
theorem qFV{n a m:Nat}(h:a &&& m=a):card n m=card n a+card n (m ^^^ a):=by
 unfold card
 generalize List.range n=xs
 induction xs with
 | nil=>rfl
 | cons x xs ih =>
  have h1:=qbm h x
  have h2:=qbu.1 h x
  rw[List.filter_cons,List.filter_cons,List.filter_cons]
  cases hm:m.testBit x<;>cases ha:a.testBit x<;>rw[hm,ha] at h1<;>simp[h1]<;>simp_all<;>omega
inductive TrsAll (l:List Int):List Nat→List (Int×(Int×Int))→Prop
 | nil:TrsAll l [] []
 | cons (a:Nat) (F:List Nat) (ts us:List (Int×(Int×Int))):Trs (dl l a) ts→TrsAll l F us→TrsAll l (a::F) (ts++us)
theorem qFW{l:List Int}{F:List Nat}{us:List (Int×(Int×Int))}(h:TrsAll l F us):∀m,Part (Zs l) m F→(∀a,a∈F→DOk (dl l a)∧1≤(dl l a).length∧∀i,a.testBit i=true→i<l.length)→∀l':List Int,l'.length=l.length→(∀i,m.testBit i=true→(l'[i]?).getD 0=(l[i]?).getD 0) →
  us.length+F.length=card l.length m∧(us.foldl pay1 l').length=l.length∧(∀i,m.testBit i=true→((us.foldl pay1 l')[i]?).getD 0=0)∧(∀i,m.testBit i=false→((us.foldl pay1 l')[i]?).getD 0=(l'[i]?).getD 0)∧∀t,t∈us→(0≤t.1∧t.1<l.length)∧(0≤t.2.1∧t.2.1<l.length)∧t.1≠t.2.1∧1≤t.2.2:=by
 induction h with
 | nil =>
  intro m hm _ l' hl _
  rw[show m=0 from hm]
  refine ⟨?_,hl,(fun i hi=>(by rw[Nat.zero_testBit] at hi;cases hi)),(fun i _=>rfl),(fun t ht=>absurd ht List.not_mem_nil)⟩
  unfold card
  rw[List.filter_eq_nil_iff.2 fun i _=>by rw[Nat.zero_testBit];decide]
  rfl
 | cons a F ts us ht _ ih =>
  intro m hP hF l' hl hl'
  obtain ⟨p1,p2,p3,p4⟩:=hP
  obtain ⟨k,k1,k2⟩:=hF a List.mem_cons_self
  have hsub:=qbu.1 p2
  obtain ⟨t1,t2,t3,t4⟩:=qJa ht k l' fun p hp=>by
   obtain ⟨i,rfl,h6,h7⟩:=qqL hp
   exact ⟨Int.natCast_nonneg _,by show (i:Int)<_;omega,hl' i (hsub i h7)⟩
  have hin:∀i,a.testBit i=true→((ts.foldl pay1 l')[i]?).getD 0=0:=fun i hi=>by
   have:=t2 _ (qJ8 (k2 i hi) hi)
   rwa [Int.toNat_natCast] at this
  have hout:∀i,a.testBit i=false→((ts.foldl pay1 l')[i]?).getD 0=(l'[i]?).getD 0:=fun i hi=>t3 i fun p hp e=>by
   obtain ⟨j,rfl,h6,h7⟩:=qqL hp
   rw[Int.toNat_natCast] at e
   rw[e,hi] at h7
   cases h7
  obtain ⟨u1,u2,u3,u4,u5⟩:=ih (m ^^^ a) p4 (fun b hb=>hF b (List.mem_cons_of_mem _ hb)) (ts.foldl pay1 l') (by rw[t1,hl]) fun i hi=>by
   rw[qbm p2,Bool.and_eq_true] at hi
   rw[hout i (by simpa using hi.2)]
   exact hl' i hi.1
  have hlen:=qDn ht k k1
  have hcard:=qFV (n:=l.length) p2
  have hdl:(dl l a).length=card l.length a:=by unfold dl card;rw[List.length_map]
  refine ⟨by rw[List.length_append,List.length_cons];omega,by rw[List.foldl_append];exact u2,fun i hi=>?_,fun i hi=>?_,fun t ht'=>?_⟩
  ·rw[List.foldl_append]
   cases hai:a.testBit i with
   | true=>rw[u4 i (by rw[qbm p2,hai];simp)];exact hin i hai
   | false=>exact u3 i (by rw[qbm p2,hai,hi];rfl)
  ·rw[List.foldl_append,u4 i (by rw[qbm p2,hi];rfl)]
   exact hout i (by
    cases hai:a.testBit i with
    | false=>rfl
    | true=>have:=hsub i hai;rw[hi] at this;cases this)
  ·rcases List.mem_append.1 ht' with ht' | ht'
   ·obtain ⟨⟨p,q1,q2⟩,⟨q,q3,q4⟩,q5,q6⟩:=t4 t ht'
    obtain ⟨i,rfl,h6,h7⟩:=qqL q1
    obtain ⟨j,rfl,h8,h9⟩:=qqL q3
    rw[← q2,← q4]
    rw[← q2,← q4] at q5
    exact ⟨⟨Int.natCast_nonneg _,by show (i:Int)<_;omega⟩,⟨Int.natCast_nonneg _,by show (j:Int)<_;omega⟩,q5,q6⟩
   ·exact u5 t ht'
end Go.Proofs.YtcjcacbhkoainaaGreatDoor
