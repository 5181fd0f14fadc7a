/- Partitions of balances in groups of sum 0: sets are masks. -/
import Derived.Test.YtcjcacbhkoainaaGreatDoorPa
set_option linter.constructorNameAsVariable false
set_option linter.unusedSimpArgs false
set_option linter.unusedVariables false
set_option linter.unusedSectionVars false
namespace Go.Proofs.YtcjcacbhkoainaaGreatDoor
open Go Go.Proofs Go.RowKit
set_option maxHeartbeats 1000000
def smB:List Int→(Nat→Bool)→Int
 | [],_=>0
 | x::l,f=>(if f 0=true then x else 0)+smB l fun i=>f (i+1)
def sm(l:List Int)(m:Nat):Int:=smB l m.testBit
theorem qrN:∀(l:List Int) (f g h:Nat→Bool),(∀i,f i=(g i||h i))→(∀i,(g i&&h i)=false)→smB l f=smB l g+smB l h
 | [],_,_,_,_,_=>rfl
 | x::l,f,g,h,h1,h2=>by
  have:=qrN l (fun i=>f (i+1)) (fun i=>g (i+1)) (fun i=>h (i+1)) (fun i=>h1 (i+1)) fun i=>h2 (i+1)
  have e:(if f 0=true then x else 0)=(if g 0=true then x else 0)+(if h 0=true then x else 0):=by
   have a:=h1 0
   have b:=h2 0
   rw[a]
   cases hg:g 0<;>cases hh:h 0<;>rw[hg,hh] at b
   ·rfl
   ·show x=0+x;omega
   ·show x=x+0;omega
   ·cases b
  unfold smB
  rw[e,this]
  omega
theorem qn0:∀(l:List Int) (f:Nat→Bool),(∀i,f i=false)→smB l f=0
 | [],_,_=>rfl
 | x::l,f,h=>by
  unfold smB
  rw[h 0,qn0 l _ fun i=>h (i+1)]
  rfl
theorem qH{a m:Nat}:a &&& m=a↔∀i,a.testBit i=true→m.testBit i=true:=by
 constructor
 ·intro h i hi
  rw[← h,Nat.testBit_and,Bool.and_eq_true] at hi
  exact hi.2
 ·intro h
  refine Nat.eq_of_testBit_eq fun i=>?_
  rw[Nat.testBit_and]
  cases hi:a.testBit i with
  | false=>rfl
  | true=>rw[h i hi];rfl
theorem qG{a m:Nat}(h:a &&& m=a)(i:Nat):(m ^^^ a).testBit i=(m.testBit i && !a.testBit i):=by
 rw[Nat.testBit_xor]
 have:=qH.1 h i
 cases hm:m.testBit i<;>cases ha:a.testBit i<;>simp_all
theorem qlw{l:List Int}{a m:Nat}(h:a &&& m=a):sm l m=sm l a+sm l (m ^^^ a):=by
 refine qrN l _ _ _ (fun i=>?_) fun i=>?_<;>rw[qG h]
 ·have:=qH.1 h i
  cases hm:m.testBit i<;>cases ha:a.testBit i<;>simp_all
 ·cases a.testBit i<;>simp
def Part(Q:Nat→Prop):Nat→List Nat→Prop
 | m,[]=>m=0
 | m,a::F=>a≠0∧a &&& m=a∧Q a∧Part Q (m ^^^ a) F
def Zs(l:List Int)(a:Nat):Prop:=sm l a=0
theorem Part.sum{l:List Int}:∀{F:List Nat} {m:Nat},Part (Zs l) m F→sm l m=0
 | [],m,h=>by
  rw[show m=0 from h]
  exact qn0 l _ fun i=>Nat.zero_testBit i
 | a::F,m,h=>by rw[qlw h.2.1,show sm l a=0 from h.2.2.1,Part.sum h.2.2.2];rfl
theorem Part.swap{Q:Nat→Prop}{m a b:Nat}{F:List Nat}(h:Part Q m (a::b::F)):Part Q m (b::a::F):=by
 obtain ⟨h1,h2,h3,h4,h5,h6,h7⟩:=h
 have hb:b &&& m=b:=qH.2 fun i hi=>by
  have:=qH.1 h5 i hi
  rw[qG h2,Bool.and_eq_true] at this
  exact this.1
 refine ⟨h4,hb,h6,h1,qH.2 fun i hi=>?_,h3,?_⟩
 ·rw[qG hb,qH.1 h2 i hi]
  cases hbi:b.testBit i with
  | false=>rfl
  | true =>
   have:=qH.1 h5 i hbi
   rw[qG h2,hi] at this
   simp at this
 ·rw[Nat.xor_assoc,Nat.xor_comm b a,← Nat.xor_assoc];exact h7
theorem Part.front{Q:Nat→Prop}:∀{F:List Nat} {m a:Nat},Part Q m F→a∈F→Part Q m (a::F.erase a)
 | [],_,_,_,h=>by cases h
 | b::F,m,a,h,ha=>by
  by_cases e:b=a
  ·subst e;rw[List.erase_cons_head];exact h
  ·have ha':a∈F:=by
    rcases List.mem_cons.1 ha with e' | h'
    ·exact absurd e'.symm e
    ·exact h'
   rw[List.erase_cons_tail (by simpa using e)]
   exact Part.swap ⟨h.1,h.2.1,h.2.2.1,Part.front h.2.2.2 ha'⟩
theorem Part.has{Q:Nat→Prop}:∀{F:List Nat} {m i:Nat},Part Q m F→m.testBit i=true→∃a,a∈F∧a.testBit i=true
 | [],m,i,h,hi=>by
  rw[show m=0 from h,Nat.zero_testBit] at hi
  cases hi
 | a::F,m,i,h,hi=>by
  cases hb:a.testBit i with
  | true=>exact ⟨a,List.mem_cons_self,hb⟩
  | false =>
   obtain ⟨b,h1,h2⟩:=Part.has (i:=i) h.2.2.2 (by rw[qG h.2.1,hi,hb];rfl)
   exact ⟨b,List.mem_cons_of_mem _ h1,h2⟩
theorem Part.sub{Q:Nat→Prop}{F:List Nat}{m a:Nat}(h:Part Q m F)(ha:a∈F):a≠0∧a &&& m=a∧Q a∧Part Q (m ^^^ a) (F.erase a):=Part.front h ha
def IsMax(Q:Nat→Prop)(m r:Nat):Prop:=(∃F,Part Q m F∧F.length=r)∧∀F,Part Q m F→F.length≤r
theorem IsMax.uniq{Q:Nat→Prop}{m r r':Nat}(h:IsMax Q m r)(h':IsMax Q m r'):r=r':=by
 obtain ⟨⟨F,h1,h2⟩,h3⟩:=h
 obtain ⟨⟨F',h1',h2'⟩,h3'⟩:=h'
 have:=h3 _ h1'
 have:=h3' _ h1
 omega
theorem qn1(Q:Nat→Prop):IsMax Q 0 0:=⟨⟨[],rfl,rfl⟩,fun F h=>by
 cases F with
 | nil=>exact Nat.le_refl _
 | cons a F =>
  have h2:=h.2.1
  rw[Nat.and_zero] at h2
  exact absurd h2.symm h.1⟩
theorem qtC{Q:Nat→Prop}{m i r:Nat}(hi:m.testBit i=true)(att:∃a r',a &&& m=a∧a.testBit i=true∧Q a∧IsMax Q (m ^^^ a) r'∧r=r'+1)
  (up:∀a,a &&& m=a→a.testBit i=true→Q a→∃r',IsMax Q (m ^^^ a) r'∧r'+1≤r):IsMax Q m r:=by
 constructor
 ·obtain ⟨a,r',h1,h2,h3,⟨⟨F,h4,h5⟩,_⟩,h6⟩:=att
  refine ⟨a::F,⟨fun e=>?_,h1,h3,h4⟩,by rw[List.length_cons,h5,h6]⟩
  rw[e,Nat.zero_testBit] at h2
  cases h2
 ·intro F hF
  obtain ⟨a,h1,h2⟩:=hF.has hi
  obtain ⟨h3,h4,h5,h6⟩:=hF.sub h1
  obtain ⟨r',h7,h8⟩:=up a h4 h2 h5
  have:=h7.2 _ h6
  rw[List.length_erase_of_mem h1] at this
  have:0<F.length:=List.length_pos_of_mem h1
  omega
theorem IsMax.whole{l:List Int}{m:Nat}{F:List Nat}(h:IsMax (Zs l) m F.length)(hF:Part (Zs l) m F){a b:Nat}(ha:a∈F)(hb:b &&& a=b)(h0:b≠0)(h1:b≠a):sm l b≠0:=fun hs=>by
 obtain ⟨h2,h3,h4,h5⟩:=hF.sub ha
 have hbm:b &&& m=b:=qH.2 fun i hi=>qH.1 h3 i (qH.1 hb i hi)
 have hr:sm l (a ^^^ b)=0:=by have:=qlw (l:=l) hb;have:sm l a=0:=h4;omega
 have hp:Part (Zs l) m (b::(a ^^^ b)::F.erase a):=by
  refine ⟨h0,hbm,hs,fun e=>h1 ?_,qH.2 fun i hi=>?_,hr,?_⟩
  ·refine Nat.eq_of_testBit_eq fun i=>?_
   have:=qG hb i
   rw[e,Nat.zero_testBit] at this
   have h6:=qH.1 hb i
   cases ha':a.testBit i<;>cases hb':b.testBit i<;>simp_all
  ·rw[qG hb,Bool.and_eq_true] at hi
   rw[qG hbm,qH.1 h3 i hi.1,hi.2];rfl
  ·rw[show m ^^^ b ^^^ (a ^^^ b)=m ^^^ a by
    rw[Nat.xor_comm a b,← Nat.xor_assoc,Nat.xor_assoc m b b,Nat.xor_self,Nat.xor_zero]]
   exact h5
 have:=h.2 _ hp
 simp only[List.length_cons] at this
 rw[List.length_erase_of_mem ha] at this
 have:0<F.length:=List.length_pos_of_mem ha
 omega
end Go.Proofs.YtcjcacbhkoainaaGreatDoor
