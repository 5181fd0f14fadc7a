/- Balances: no settlement has fewer transfers than there are numbers less groups. -/
import Derived.Test.YtcjcacbhkoainaaGreatDoorDv0
set_option linter.constructorNameAsVariable false
set_option linter.unusedSimpArgs false
set_option linter.unusedVariables false
set_option linter.unusedSectionVars false
namespace Go.Proofs.YtcjcacbhkoainaaGreatDoor
open Go Go.Proofs Go.RowKit
set_option maxHeartbeats 1000000
theorem qrO:∀(l:List Int) (i:Nat) (x:Int) (f:Nat→Bool),i<l.length→smB (l.set i x) f=smB l f+if f i=true then x-(l[i]?).getD 0 else 0
 | [],i,_,_,h=>absurd h (Nat.not_lt_zero _)
 | y::l,0,x,f,_=>by
  show (if f 0=true then x else 0)+smB l _=(if f 0=true then y else 0)+smB l _+if f 0=true then x-y else 0
  split<;>omega
 | y::l,i+1,x,f,h=>by
  have:=qrO l i x (fun j=>f (j+1)) (by simpa using h)
  show (if f 0=true then y else 0)+smB (l.set i x) _=(if f 0=true then y else 0)+smB l _+if f (i+1)=true then x-(l[i]?).getD 0 else 0
  rw[this]
  omega
def pay1(l:List Int)(t:Int×(Int×Int)):List Int:=(l.set t.1.toNat ((l[t.1.toNat]?).getD 0+t.2.2)).set t.2.1.toNat (((l.set t.1.toNat ((l[t.1.toNat]?).getD 0+t.2.2))[t.2.1.toNat]?).getD 0-t.2.2)
theorem qqv(l:List Int)(t:Int×(Int×Int)):(pay1 l t).length=l.length:=by unfold pay1;rw[List.length_set,List.length_set]
theorem qpw(l:List Int)(t:Int×(Int×Int))(m:Nat)(h1:t.1.toNat<l.length)(h2:t.2.1.toNat<l.length):sm (pay1 l t) m=sm l m+(if m.testBit t.1.toNat=true then t.2.2 else 0)-if m.testBit t.2.1.toNat=true then t.2.2 else 0:=by
 unfold sm pay1
 rw[qrO _ _ _ _ (by rw[List.length_set];exact h2),qrO _ _ _ _ h1]
 split<;>split<;>omega
theorem Part.mono{Q Q':Nat→Prop}:∀{F:List Nat} {m:Nat},Part Q m F→(∀c,c &&& m=c→Q c→Q' c)→Part Q' m F
 | [],_,h,_=>h
 | a::F,m,h,k=>⟨h.1,h.2.1,k a h.2.1 h.2.2.1,Part.mono h.2.2.2 fun c hc hq=>k c (qH.2 fun i hi=>by
   have:=qH.1 hc i hi
   rw[qG h.2.1,Bool.and_eq_true] at this
   exact this.1) hq⟩
def Eqs(l l':List Int)(a:Nat):Prop:=sm l a=sm l' a
theorem qrl{a m c i:Nat}(ha:a &&& m=a)(hc:c &&& (m ^^^ a)=c)(hi:a.testBit i=true):c.testBit i=false:=by
 cases h:c.testBit i with
 | false=>rfl
 | true =>
  have:=qH.1 hc i h
  rw[qG ha,hi] at this
  simp at this
theorem qzz{l l':List Int}{t:Int×(Int×Int)}{m:Nat}{F:List Nat}(h:Part (Eqs l l') m F)(h1:t.1.toNat<l'.length)(h2:t.2.1.toNat<l'.length)(b1:m.testBit t.1.toNat=true)(b2:m.testBit t.2.1.toNat=true):∃F',Part (Eqs l (pay1 l' t)) m F'∧F.length≤F'.length+1:=by
 obtain ⟨a,ha,hai⟩:=h.has b1
 have hf:=h.front ha
 have hl:F.length=(F.erase a).length+1:=by
  rw[List.length_erase_of_mem ha]
  have:0<F.length:=List.length_pos_of_mem ha
  omega
 obtain ⟨a1,a2,a3,a4⟩:=hf
 have a3':sm l a=sm l' a:=a3
 cases hbi:a.testBit t.2.1.toNat with
 | true =>
  refine ⟨a::F.erase a,⟨a1,a2,?_,Part.mono a4 fun c hc hq=>?_⟩,by rw[List.length_cons];omega⟩
  ·show sm l a=sm (pay1 l' t) a
   rw[qpw l' t a h1 h2,hai,hbi]
   simp only[if_true]
   omega
  ·show sm l c=sm (pay1 l' t) c
   have hq':sm l c=sm l' c:=hq
   rw[qpw l' t c h1 h2,qrl a2 hc hai,qrl a2 hc hbi]
   simp only[Bool.false_eq_true,if_false]
   omega
 | false =>
  obtain ⟨b,hb,hbj⟩:=a4.has (i:=t.2.1.toNat) (by rw[qG a2,b2,hbi];rfl)
  have hf2:=a4.front hb
  have hl2:(F.erase a).length=((F.erase a).erase b).length+1:=by
   rw[List.length_erase_of_mem hb]
   have:0<(F.erase a).length:=List.length_pos_of_mem hb
   omega
  obtain ⟨c1,c2,c3,c4⟩:=hf2
  have c3':sm l b=sm l' b:=c3
  have hsub:(a ||| b) &&& m=(a ||| b):=qH.2 fun i hi=>by
   rw[Nat.testBit_or,Bool.or_eq_true] at hi
   rcases hi with hi | hi
   ·exact qH.1 a2 i hi
   ·have:=qH.1 c2 i hi
    rw[qG a2,Bool.and_eq_true] at this
    exact this.1
  have hdis:∀i,(a.testBit i&&b.testBit i)=false:=fun i=>by
   cases hai':a.testBit i with
   | false=>rfl
   | true=>rw[qrl a2 c2 hai'];rfl
  have hsm:∀l:List Int,sm l (a ||| b)=sm l a+sm l b:=fun l=>qrN l _ _ _ (fun i=>Nat.testBit_or a b i) hdis
  have hrest:m ^^^ (a ||| b)=m ^^^ a ^^^ b:=by
   refine Nat.eq_of_testBit_eq fun i=>?_
   rw[qG hsub,qG c2,qG a2,Nat.testBit_or]
   cases m.testBit i<;>cases a.testBit i<;>cases b.testBit i<;>rfl
  refine ⟨(a ||| b)::(F.erase a).erase b,⟨fun e=>?_,hsub,?_,?_⟩,by rw[List.length_cons];omega⟩
  ·have:(a ||| b).testBit t.1.toNat=true:=by rw[Nat.testBit_or,hai];rfl
   rw[e,Nat.zero_testBit] at this
   cases this
  ·show sm l (a ||| b)=sm (pay1 l' t) (a ||| b)
   rw[qpw l' t _ h1 h2,Nat.testBit_or,Nat.testBit_or,hai,hbj,hsm,hsm]
   simp only[Bool.true_or,Bool.or_true,if_true]
   omega
  ·rw[hrest]
   refine Part.mono c4 fun c hc hq=>?_
   have hq':sm l c=sm l' c:=hq
   have n2:=qrl c2 hc hbj
   have n1:c.testBit t.1.toNat=false:=by
    cases h:c.testBit t.1.toNat with
    | false=>rfl
    | true =>
     have h3:=qH.1 hc _ h
     rw[qG c2,qG a2,hai] at h3
     simp at h3
   show sm l c=sm (pay1 l' t) c
   rw[qpw l' t c h1 h2,n1,n2]
   simp only[Bool.false_eq_true,if_false]
   omega
def full(n:Nat):Nat:=2 ^ n-1
theorem qij(n i:Nat):(full n).testBit i=decide (i<n):=Nat.testBit_two_pow_sub_one n i
theorem qdU(n i:Nat):(2 ^ n).testBit i=decide (n=i):=Nat.testBit_two_pow
theorem quw(Q:Nat→Prop)(hQ:∀a,Q a):∀n,∃F,Part Q (full n) F∧F.length=n
 | 0=>⟨[],rfl,rfl⟩
 | n+1=>by
  obtain ⟨F,h1,h2⟩:=quw Q hQ n
  have hs:2 ^ n &&& full (n+1)=2 ^ n:=qH.2 fun i hi=>by
   rw[qdU,decide_eq_true_eq] at hi
   rw[qij,decide_eq_true_eq];omega
  refine ⟨2 ^ n::F,⟨fun e=>?_,hs,hQ _,?_⟩,by rw[List.length_cons,h2]⟩
  ·have:(2 ^ n).testBit n=true:=by rw[qdU];simp
   rw[e,Nat.zero_testBit] at this
   cases this
  ·have:full (n+1) ^^^ 2 ^ n=full n:=Nat.eq_of_testBit_eq fun i=>by
    rw[qG hs,qij,qij,qdU]
    by_cases h3:i<n
    ·rw[decide_eq_true h3,decide_eq_true (by omega),decide_eq_false (by omega)];rfl
    ·rw[decide_eq_false h3]
     by_cases h4:n=i
     ·rw[decide_eq_true h4,decide_eq_true (show i<n+1 by omega)];rfl
     ·rw[decide_eq_false (show ¬i<n+1 by omega)];rfl
   rw[this];exact h1
theorem qva{l:List Int}:∀(ts:List (Int×(Int×Int))) {l':List Int} {F:List Nat},l'.length=l.length→Part (Eqs l l') (full l.length) F→(∀t,t∈ts→(0≤t.1∧t.1<l.length)∧(0≤t.2.1∧t.2.1<l.length)) →
  ∃F',Part (Eqs l (ts.foldl pay1 l')) (full l.length) F'∧F.length≤F'.length+ts.length
 | [],l',F,_,h,_=>⟨F,h,by simp⟩
 | t::ts,l',F,hl,h,ht=>by
  have h0:=ht t List.mem_cons_self
  obtain ⟨F1,h1,h2⟩:=qzz h (t:=t) (by rw[hl];omega) (by rw[hl];omega) (by rw[qij,decide_eq_true_eq];omega) (by rw[qij,decide_eq_true_eq];omega)
  obtain ⟨F2,h3,h4⟩:=qva ts (l':=pay1 l' t) (by rw[qqv,hl]) h1 fun t h=>ht t (List.mem_cons_of_mem _ h)
  exact ⟨F2,h3,by rw[List.length_cons];omega⟩
theorem qzA{l:List Int}{m i:Nat}{F:List Nat}(h:Part (Zs l) m F)(hi:m.testBit i=true)(h0:sm l (2 ^ i)=0):∃F',Part (Zs l) (m ^^^ 2 ^ i) F'∧F.length≤F'.length+1:=by
 obtain ⟨a,ha,hai⟩:=h.has hi
 obtain ⟨a1,a2,a3,a4⟩:=h.front ha
 have hl:F.length=(F.erase a).length+1:=by
  rw[List.length_erase_of_mem ha]
  have:0<F.length:=List.length_pos_of_mem ha
  omega
 by_cases e:a=2 ^ i
 ·rw[e] at a4 hl
  exact ⟨_,a4,by omega⟩
 ·have hp:2 ^ i &&& a=2 ^ i:=qH.2 fun j hj=>by
   rw[qdU,decide_eq_true_eq] at hj
   rw[← hj];exact hai
  have hpm:2 ^ i &&& m=2 ^ i:=qH.2 fun j hj=>by
   rw[qdU,decide_eq_true_eq] at hj
   rw[← hj];exact hi
  have hr:=qlw (l:=l) hp
  have a3':sm l a=0:=a3
  refine ⟨(a ^^^ 2 ^ i)::F.erase a,⟨fun e'=>e ?_,qH.2 fun j hj=>?_,?_,?_⟩,by rw[List.length_cons];omega⟩
  ·refine Nat.eq_of_testBit_eq fun j=>?_
   have h5:=qG hp j
   rw[e',Nat.zero_testBit] at h5
   have h6:=qH.1 hp j
   cases h7:a.testBit j<;>cases h8:(2 ^ i).testBit j<;>simp_all
  ·rw[qG hp,Bool.and_eq_true] at hj
   rw[qG hpm,qH.1 a2 j hj.1,hj.2];rfl
  ·show sm l (a ^^^ 2 ^ i)=0
   omega
  ·rw[show m ^^^ 2 ^ i ^^^ (a ^^^ 2 ^ i)=m ^^^ a by
    rw[Nat.xor_comm a (2 ^ i),← Nat.xor_assoc,Nat.xor_assoc m (2 ^ i) (2 ^ i),Nat.xor_self,Nat.xor_zero]]
   exact a4
end Go.Proofs.YtcjcacbhkoainaaGreatDoor
