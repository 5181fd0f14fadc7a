/- Texts Dh0, Dh2, Dh3 in one. -/
import Derived.Test.YtbdockhccdkdiaaGreatLe
import Derived.Test.YtbdockhccdkdiaaGreatQd
import Derived.Test.YtbdockhccdkdiaaGreatDqN
/- Ropes, plain: when points hold a load, and how many may be missing. Nothing here speaks of the program. -/
set_option linter.constructorNameAsVariable false
set_option linter.unusedSimpArgs false
set_option linter.unusedVariables false
set_option linter.unusedSectionVars false
namespace Go.Proofs.YtbdockhccdkdiaaGreat
open Go Go.Proofs Go.RowKit
set_option maxHeartbeats 1000000
def shB(load:Int)(k:Nat)(s:Int):Bool:=decide (load≤(k:Int)*s)
def Hold(l:List Int)(load:Int):Prop:=∃k:Nat,0<k∧k≤l.countP (shB load k)
theorem qqJ{l m:List Int}{load:Int}(h:l.Perm m)(hl:Hold l load):Hold m load:=by
 obtain ⟨k,h0,h1⟩:=hl
 exact ⟨k,h0,by rw[← h.countP_eq];exact h1⟩
theorem qs4{load:Int}{k:Nat}{a b:Int}(h:a≤b)(ha:shB load k a=true):shB load k b=true:=by
 unfold shB at *
 rw[decide_eq_true_eq] at *
 exact Int.le_trans ha (Int.mul_le_mul_of_nonneg_left h (Int.natCast_nonneg k))
theorem qkH(load:Int):¬Hold [] load:=by
 rintro ⟨k,h0,h1⟩
 simp at h1
 omega
theorem qoq{l:List Int}{load:Int}(hs:l.Pairwise (fun a b=>b≤a)):(∃i,∃h:i<l.length,load≤((i:Int)+1)*l[i])↔Hold l load:=by
 constructor
 ·rintro ⟨i,hi,h⟩
  refine ⟨i+1,by omega,?_⟩
  have e:l.take (i+1)++l.drop (i+1)=l:=List.take_append_drop _ _
  have h1:(l.take (i+1)).countP (shB load (i+1))=(l.take (i+1)).length:=by
   rw[List.countP_eq_length]
   intro x hx
   obtain ⟨k,hk,rfl⟩:=List.getElem_of_mem hx
   rw[List.length_take] at hk
   rw[List.getElem_take]
   have:l[i]≤l[k]:=by
    by_cases hki:k=i
    ·subst hki;exact Int.le_refl _
    ·exact List.pairwise_iff_getElem.1 hs k i (by omega) hi (by omega)
   refine qs4 this ?_
   unfold shB
   rw[decide_eq_true_eq]
   rw[show ((i+1:Nat):Int)=(i:Int)+1 by omega]
   exact h
  have h2:l.countP (shB load (i+1))=(l.take (i+1)).countP (shB load (i+1))+(l.drop (i+1)).countP (shB load (i+1)):=by
   rw[← List.countP_append,e]
  rw[h2,h1,List.length_take]
  omega
 ·rintro ⟨k,h0,h1⟩
  have hkl:k≤l.length:=Nat.le_trans h1 List.countP_le_length
  refine ⟨k-1,by omega,?_⟩
  cases hb:shB load k (l[k-1]'(by omega)) with
  | true =>
   unfold shB at hb
   rw[decide_eq_true_eq] at hb
   rw[show ((k-1:Nat):Int)+1=(k:Int) by omega]
   exact hb
  | false =>
   exfalso
   have e:l.take (k-1)++l.drop (k-1)=l:=List.take_append_drop _ _
   have h2:l.countP (shB load k)=(l.take (k-1)).countP (shB load k)+(l.drop (k-1)).countP (shB load k):=by
    rw[← List.countP_append,e]
   have h3:(l.drop (k-1)).countP (shB load k)=0:=by
    rw[List.countP_eq_zero]
    intro x hx hx2
    obtain ⟨j,hj,rfl⟩:=List.getElem_of_mem hx
    rw[List.length_drop] at hj
    rw[List.getElem_drop] at hx2
    have:l[k-1+j]≤l[k-1]:=by
     by_cases hj0:j=0
     ·subst hj0;exact Int.le_refl _
     ·exact List.pairwise_iff_getElem.1 hs (k-1) (k-1+j) (by omega) (by omega) (by omega)
    rw[qs4 this hx2] at hb
    cases hb
   have h4:(l.take (k-1)).countP (shB load k)≤(l.take (k-1)).length:=List.countP_le_length
   rw[List.length_take] at h4
   omega
theorem qgr{α:Type}(l:List α){p q:Nat→Bool}:∀k,(∀i,i<k→p i=q i)→selT l p k=selT l q k
 | 0,_=>rfl
 | k+1,h=>by rw[qcc,qcc,qgr l k fun i hi=>h i (by omega),h k (by omega)]
theorem qoW{α β:Type}(f:α→β)(l:List α)(p:Nat→Bool):∀k,selT (l.map f) p k=(selT l p k).map f
 | 0=>rfl
 | k+1=>by
  rw[qcc,qcc,qoW f l p k,List.map_append,List.getElem?_map]
  cases p k with
  | false=>simp
  | true=>cases l[k]?<;>simp
theorem qr4{α:Type}(l:List α)(p:Nat→Bool):∀k,k≤l.length→(∀i,i<k→p i=true)→selT l p k=l.take k
 | 0,_,_=>by simp[selT]
 | k+1,hk,h=>by
  rw[qcc,qr4 l p k (by omega) fun i hi=>h i (by omega),h k (by omega),if_pos rfl,List.take_add_one]
theorem qqK{α:Type}(l:List α)(p:Nat→Bool):∀k,(∀i,i<k→p i=false)→selT l p k=[]
 | 0,_=>rfl
 | k+1,h=>by rw[qcc,qqK l p k fun i hi=>h i (by omega),h k (by omega)];rfl
def cntP(p:Nat→Bool):Nat→Nat
 | 0=>0
 | k+1=>cntP p k+(if p k=true then 1 else 0)
theorem qoX{α:Type}(l:List α)(p:Nat→Bool):∀k,k≤l.length→(selT l p k).length=cntP p k
 | 0,_=>rfl
 | k+1,hk=>by
  rw[qcc,List.length_append,qoX l p k (by omega),List.getElem?_eq_getElem (show k<l.length by omega)]
  show _=cntP p k+(if p k=true then 1 else 0)
  cases p k<;>simp
theorem qqL{p q:Nat→Bool}:∀k,(∀i,i<k→p i=q i)→cntP p k=cntP q k
 | 0,_=>rfl
 | k+1,h=>by unfold cntP;rw[qqL k fun i hi=>h i (by omega),h k (by omega)]
theorem qp8{α:Type}(l:List α)(p:Nat→Bool):∀(k:Nat),k≤l.length→∀t:List α,t.Sublist (selT l p k)→∃q:Nat→Bool,(∀i,i<k→q i=true→p i=true)∧t=selT l q k
 | 0,_,t,h=>⟨fun _=>false,⟨fun i hi=>by omega,List.sublist_nil.1 h⟩⟩
 | k+1,hk,t,h=>by
  rw[qcc] at h
  obtain ⟨t1,t2,rfl,h1,h2⟩:=List.sublist_append_iff.1 h
  obtain ⟨q,hq,rfl⟩:=qp8 l p k (by omega) t1 h1
  have hle:k<l.length:=by omega
  have hx:t2=[]∨(p k=true∧t2=(l[k]?).toList):=by
   cases hp:p k with
   | false=>rw[hp] at h2;simp at h2;exact .inl h2
   | true =>
    rw[hp,if_pos rfl,List.getElem?_eq_getElem hle] at h2
    rw[List.getElem?_eq_getElem hle]
    have h3:t2.Sublist [l[k]]:=h2
    cases t2 with
    | nil=>exact .inl rfl
    | cons a t2 =>
     have:=h3.length_le
     have e:t2=[]:=by simpa using this
     subst e
     have hm:=h3.subset (List.mem_cons_self)
     have:a=l[k]:=by simpa using hm
     subst this
     exact .inr ⟨rfl,rfl⟩
  rcases hx with rfl | ⟨hp,rfl⟩
  ·refine ⟨fun i=>decide (i<k)&&q i,fun i _ h=>?_,?_⟩
   ·rw[Bool.and_eq_true,decide_eq_true_eq] at h;exact hq i h.1 h.2
   ·rw[qcc,if_neg (by simp)]
    congr 1
    exact qgr l k fun i hi=>by simp[hi]
  ·refine ⟨fun i=>decide (i=k)||q i,fun i hi h=>?_,?_⟩
   ·rw[Bool.or_eq_true,decide_eq_true_eq] at h
    rcases h with rfl | h
    ·exact hp
    ·by_cases hik:i=k
     ·subst hik;exact hp
     ·exact hq i (by omega) h
   ·rw[qcc,if_pos (by simp)]
    congr 1
    exact qgr l k fun i hi=>by simp[show i≠k by omega]
theorem qs5{α:Type}(l:List α){p q:Nat→Bool}:∀(k:Nat),(∀i,i<k→q i=true→p i=true)→(selT l q k).Sublist (selT l p k)
 | 0,_=>List.Sublist.refl _
 | k+1,h=>by
  rw[qcc,qcc]
  refine (qs5 l k fun i hi=>h i (by omega)).append ?_
  have hk:=h k (by omega)
  cases hq:q k with
  | false=>simp
  | true=>rw[hk hq];exact List.Sublist.refl _
def qiB(p:Nat→Bool):Nat→Nat
 | 0=>0
 | k+1=>qiB p k+(if p k=true then 2 ^ k else 0)
theorem qkI(p:Nat→Bool):∀k,qiB p k<2 ^ k
 | 0=>Nat.one_pos
 | k+1=>by have:=qkI p k;unfold qiB;rw[Nat.pow_succ];split<;>omega
theorem qjF(p:Nat→Bool):∀(k i:Nat),i<k→(qiB p k).testBit i=p i
 | 0,i,h=>by omega
 | k+1,i,h=>by
  have hl:=qkI p k
  unfold qiB
  cases hp:p k with
  | false =>
   simp only[Bool.false_eq_true,if_false,Nat.add_zero]
   by_cases hik:i=k
   ·subst hik;rw[Nat.testBit_lt_two_pow hl,hp]
   ·exact qjF p k i (by omega)
  | true =>
   simp only[if_true]
   rw[Nat.add_comm]
   by_cases hik:i=k
   ·subst hik;rw[Nat.testBit_two_pow_add_eq,Nat.testBit_lt_two_pow hl,hp];rfl
   ·rw[Nat.testBit_two_pow_add_gt (by omega)]
    exact qjF p k i (by omega)
def Spr(l:List Int)(load:Int)(k:Int):Prop:=(∀t,t.Sublist l→¬Hold t load→k+1+t.length≤l.length)∧∃t,t.Sublist l∧¬Hold t load∧k+1+t.length=l.length
theorem Spr.uniq{l:List Int}{load k k':Int}(h:Spr l load k)(h':Spr l load k'):k=k':=by
 obtain ⟨a,t,b,c,d⟩:=h
 obtain ⟨a',t',b',c',d'⟩:=h'
 have:=a t' b' c'
 have:=a' t b c
 omega
theorem Spr.bd{l:List Int}{load k:Int}(h:Spr l load k):-1≤k∧k<l.length:=by
 obtain ⟨a,t,b,c,d⟩:=h
 have:=a [] (List.nil_sublist _) (qkH load)
 have:=b.length_le
 simp at *
 omega
theorem Spr.hold{l:List Int}{load k:Int}(h:Spr l load k){t:List Int}(ht:t.Sublist l)(hk:(l.length:Int)≤k+t.length):Hold t load:=by
 by_cases hh:Hold t load
 ·exact hh
 ·have:=h.1 t ht hh;omega
open Classical in
noncomputable def sprV(l:List Int)(load:Int):Int:=if h:∃k,Spr l load k then Classical.choose h else 0
theorem qs6{l:List Int}{load k:Int}(h:Spr l load k):sprV l load=k:=by
 unfold sprV
 rw[dif_pos ⟨k,h⟩]
 exact (Classical.choose_spec (⟨k,h⟩:∃k,Spr l load k)).uniq h
theorem qld(P:Nat→Prop):∀n,P n→∃m,m≤n∧P m∧∀j,j<m→¬P j
 | 0,h=>⟨0,Nat.le_refl _,h,fun j hj=>by omega⟩
 | n+1,h=>by
  by_cases hx:∃j,j≤n∧P j
  ·obtain ⟨j,hj,hp⟩:=hx
   obtain ⟨m,h1,h2,h3⟩:=qld P j hp
   exact ⟨m,by omega,h2,h3⟩
  ·exact ⟨n+1,Nat.le_refl _,h,fun j hj hp=>hx ⟨j,by omega,hp⟩⟩
theorem Spr.ex(l:List Int)(load:Int):∃k,Spr l load k:=by
 obtain ⟨m,h1,⟨t,h2,h3,h4⟩,h5⟩:=qld (fun m=>∃t,t.Sublist l∧¬Hold t load∧m+t.length=l.length) l.length ⟨[],List.nil_sublist _,qkH load,by simp⟩
 refine ⟨(m:Int)-1,fun t' ht' hh=>?_,t,h2,h3,by omega⟩
 have hl:=ht'.length_le
 rcases Nat.lt_or_ge (l.length-t'.length) m with h | h
 ·exact absurd ⟨t',ht',hh,by omega⟩ (h5 _ h)
 ·omega
theorem qv9(l:List Int)(load:Int):Spr l load (sprV l load):=by
 obtain ⟨k,hk⟩:=Spr.ex l load
 rw[qs6 hk]
 exact hk
noncomputable def qgP(l:List Int)(load:Int):Bool:=@decide (Hold l load) (Classical.propDecidable _)
theorem qjG{l:List Int}{load:Int}:qgP l load=true↔Hold l load:=@decide_eq_true_iff _ (Classical.propDecidable _)
theorem qlp{l:List Int}{load:Int}:qgP l load=false↔¬Hold l load:=@decide_eq_false_iff_not _ (Classical.propDecidable _)
theorem forN{σ ξ:Type}(step:(σ→Option ξ)→σ→Option ξ)(N:Nat)(I:Nat→σ)(r:Option ξ)(h:∀k,k<N→∀rec,step rec (I k)=rec (I (k+1)))(he:∀rec,step rec (I N)=r)(m:Nat)(hm:N<m):qn m step (I 0)=r:=by
 have go:∀(j k m:Nat),k+j=N→j<m→qn m step (I k)=r:=by
  intro j
  induction j with
  | zero =>
   intro k m hk hm
   obtain ⟨m,rfl⟩:∃j,m=j+1:=⟨m-1,by omega⟩
   have:k=N:=by omega
   subst this
   rw[qC,he]
  | succ j ih =>
   intro k m hk hm
   obtain ⟨m,rfl⟩:∃j,m=j+1:=⟨m-1,by omega⟩
   rw[qC,h k (by omega)]
   exact ih (k+1) m (by omega) (by omega)
 exact go N 0 m (by omega) hm
theorem iLtN{a b:Nat}(h:a<b):iLt (a:Int) (b:Int)=true:=decide_eq_true (by omega)
theorem qkg{a b:Nat}(h:b≤a):iLt (a:Int) (b:Int)=false:=decide_eq_false (by omega)
theorem qsv(n:Nat)(a:Int)(l:List Int):qeY n ((a::l:List Int),())=Option.bind (qH (Nat.ble (nAdd (0:Nat) (List.length (a::l))) 17592186044416)) fun _=>(some ((List.append [] (a::l)),())):=by kernel_rfl
theorem quQ(n:Nat):qe0 n ([],())=some ([],()):=by kernel_rfl
theorem quR(n:Nat)(a:Int)(l:List Int):qe0 n (a::l,())=qeY n ((a::l:List Int),()):=by kernel_rfl
theorem quS(n:Nat)(l:List Int)(hl:l.length≤1000):qe0 n (l,())=some (l,()):=by
 cases l with
 | nil=>exact quQ n
 | cons a l =>
  rw[quR]
  refine (qsv n a l).trans ?_
  rw[bleM (nAdd (0:Nat) (List.length (a::l))) 17592186044416 (Nat.le_trans (Nat.le_of_eq (Nat.zero_add _)) (Nat.le_trans hl (by decide)))]
  rfl
theorem rev0(n:Nat):qL (n+20) (([]:List Int),())=some ([],()):=by kernel_rfl
theorem rev1(n:Nat)(a:Int):qL (n+20) (([a]:List Int),())=some ([a],()):=by kernel_rfl
theorem rev2(n:Nat)(a b:Int):qL (n+20) (([a,b]:List Int),())=some ([b,a],()):=by kernel_rfl
theorem rev3(n:Nat)(a b c:Int):qL (n+20) (([a,b,c]:List Int),())=some ([c,b,a],()):=by kernel_rfl
theorem rev4(n:Nat)(a b c d:Int):qL (n+20) (([a,b,c,d]:List Int),())=some ([d,c,b,a],()):=by kernel_rfl
theorem rev5(n:Nat)(a b c d e:Int):qL (n+20) (([a,b,c,d,e]:List Int),())=some ([e,d,c,b,a],()):=by kernel_rfl
theorem rev6(n:Nat)(a b c d e f:Int):qL (n+20) (([a,b,c,d,e,f]:List Int),())=some ([f,e,d,c,b,a],()):=by kernel_rfl
theorem rev7(n:Nat)(a b c d e f g:Int):qL (n+20) (([a,b,c,d,e,f,g]:List Int),())=some ([g,f,e,d,c,b,a],()):=by kernel_rfl
theorem rev8(n:Nat)(a b c d e f g h:Int):qL (n+20) (([a,b,c,d,e,f,g,h]:List Int),())=some ([h,g,f,e,d,c,b,a],()):=by kernel_rfl
theorem qxy(n:Nat)(l:List Int)(hl:l.length≤8)(hn:20≤n):qL n (l,())=some (l.reverse,()):=by
 obtain ⟨m,rfl⟩:∃m,n=m+20:=⟨n-20,by omega⟩
 match l,hl with
 | [],_=>exact rev0 m
 | [a],_=>exact rev1 m a
 | [a,b],_=>exact rev2 m a b
 | [a,b,c],_=>exact rev3 m a b c
 | [a,b,c,d],_=>exact rev4 m a b c d
 | [a,b,c,d,e],_=>exact rev5 m a b c d e
 | [a,b,c,d,e,f],_=>exact rev6 m a b c d e f
 | [a,b,c,d,e,f,g],_=>exact rev7 m a b c d e f g
 | [a,b,c,d,e,f,g,h],_=>exact rev8 m a b c d e f g h
 | a::b::c::d::e::f::g::h::i::l,hl=>exact absurd hl (by simp)
def StrB(l:List Int):Prop:=∀s,s∈l→0≤s∧s≤5000
theorem qwa{k:Nat}{s:Int}(hk:k≤8)(h:0≤s∧s≤5000):iW (iMul (k:Int) s)=(k:Int)*s:=by
 have:=Int.mul_le_mul (show (k:Int)≤8 by omega) h.2 h.1 (by omega)
 have h0:0≤(k:Int)*s:=Int.mul_nonneg (by omega) h.1
 exact qip (by show _≤(k:Int)*s;omega) (by show (k:Int)*s≤_;omega)
theorem qoY(n:Nat)(l:List Int)(load:Int)(hl:l.length≤8)(hb:StrB l)(hn:2000≤n):qgt n (l,(load,()))=some (qgP l load,()):=by
 rw[qoS]
 simp only[quS n l (by omega),Option.bind_some,qxa n l (by omega) hn]
 have hp:=qtB (fun x y:Int=>decide (x<y)) l
 have hs:((qhg (fun x y:Int=>decide (x<y)) l).reverse).Pairwise (fun a b=>b≤a):=by
  rw[List.pairwise_reverse]
  exact qr3 (fun x y:Int=>decide (x<y)) (fun x=>x) l fun x y _ _=>⟨fun h=>by have:=of_decide_eq_true h;omega,fun h=>by have:=of_decide_eq_false h;omega⟩
 have hlen:(qhg (fun x y:Int=>decide (x<y)) l).length=l.length:=hp.length_eq
 rw[qxy n _ (by omega) (by omega)]
 simp only[Option.bind_some]
 have hp2:((qhg (fun x y:Int=>decide (x<y)) l).reverse).Perm l:=(List.reverse_perm _).trans hp
 have hlen2:((qhg (fun x y:Int=>decide (x<y)) l).reverse).length=l.length:=hp2.length_eq
 have hb2:StrB (qhg (fun x y:Int=>decide (x<y)) l).reverse:=fun s hs=>hb s (hp2.mem_iff.1 hs)
 have hH:qgP l load=qgP (qhg (fun x y:Int=>decide (x<y)) l).reverse load:=by
  rw[Bool.eq_iff_iff,qjG,qjG]
  exact ⟨qqJ hp2.symm,qqJ hp2⟩
 rw[hH]
 generalize (qhg (fun x y:Int=>decide (x<y)) l).reverse=m at *
 clear hp hlen
 have st:∀k (hk:k<m.length),∀rec,qfl n rec (load,(m,((m.length:Int),((k:Int),()))))=cond (decide (load≤((k:Int)+1)*m[k])) (some (Sum.inr (true,()))) (rec (load,(m,((m.length:Int),(((k+1:Nat):Int),()))))):=by
  intro k hk rec
  rw[qjB]
  simp only[iLtN hk,cond_true,qfQ m hk,Option.bind_some,qcm (show k<9223372036854775807 by omega),qwa (show k+1≤8 by omega) (hb2 _ (List.getElem_mem hk))]
  rw[show ((k+1:Nat):Int)=(k:Int)+1 by omega]
 cases hh:qgP m load with
 | true =>
  rw[qjG,← qoq hs] at hh
  obtain ⟨i,hi,h⟩:=hh
  obtain ⟨k,hki,⟨hk,hk2⟩,hmin⟩:=qld (fun k=>∃h:k<m.length,load≤((k:Int)+1)*m[k]) i ⟨hi,h⟩
  have:=forN (qfl n) k (fun k=>(load,(m,((m.length:Int),((k:Int),()))))) (some (Sum.inr (true,()))) (fun j hj rec=>by
   have:¬load≤((j:Int)+1)*m[j]:=fun hx=>hmin j hj ⟨by omega,hx⟩
   rw[st j (by omega),decide_eq_false this]
   rfl) (fun rec=>by rw[st k hk,decide_eq_true hk2];rfl) n (by omega)
  rw[show ((0:Nat):Int)=0 from rfl] at this
  rw[this]
  rfl
 | false =>
  rw[qlp,← qoq hs] at hh
  have:=forN (qfl n) m.length (fun k=>(load,(m,((m.length:Int),((k:Int),()))))) (some (Sum.inl ())) (fun j hj rec=>by
   rw[st j hj,decide_eq_false fun hx=>hh ⟨j,hj,hx⟩]
   rfl) (fun rec=>by
    rw[qjB]
    simp only[qkg (Nat.le_refl m.length),cond_false]) n (by omega)
  rw[show ((0:Nat):Int)=0 from rfl] at this
  rw[this]
  rfl
abbrev SpT:=Int×Int
def spOk(s:SpT):Bool:=qja s.1 s.2 0 5000
def areP(p:List SpT):Bool:=decide (p.length≤8)&&p.all spOk
def qeW(p:List SpT)(told:Bool):Int:=cond (areP p) (cond told 0 1) 92
theorem qqM{α:Type}{P:α→Bool}{p:List α}(h:p.all P=false):∃k,∃hk:k<p.length,P p[k]=false∧∀j (hj:j<k),P (p[j]'(by omega))=true:=by
 have hx:∃k,∃hk:k<p.length,P p[k]=false:=by
  rw[List.all_eq_false] at h
  obtain ⟨x,hx,h⟩:=h
  obtain ⟨k,hk,rfl⟩:=List.getElem_of_mem hx
  exact ⟨k,hk,by simpa using h⟩
 obtain ⟨n,hn⟩:=hx
 obtain ⟨k,_,⟨hk,h1⟩,h2⟩:=qld (fun k=>∃hk:k<p.length,P p[k]=false) n hn
 refine ⟨k,hk,h1,fun j hj=>?_⟩
 cases hp:P (p[j]'(by omega)) with
 | true=>rfl
 | false=>exact absurd ⟨by omega,hp⟩ (h2 j hj)
theorem quT{α:Type}{P:α→Bool}{p:List α}(h:p.all P=true)(k:Nat)(hk:k<p.length):P p[k]=true:=List.all_eq_true.1 h _ (List.getElem_mem hk)
theorem qjg(n:Nat)(p:List SpT)(told:Bool)(hn:100≤n):qcO n (p,(told,()))=some (qeW p told,()):=by
 rw[qlo]
 unfold qeW areP
 by_cases h8:p.length≤8
 ·rw[show iGt (p.length:Int) 8=false from decide_eq_false (by omega),decide_eq_true h8]
  simp only[cond_false,Bool.true_and]
  rw[qfH,qcq,qcy]
  have st:∀k (hk:k<p.length),∀rec,ql n rec (p,((p.length:Int),((k:Int),())))=cond (spOk p[k]) (rec (p,((p.length:Int),(((k+1:Nat):Int),())))) (some (Sum.inr ((k:Int),()))):=by
   intro k hk rec
   rw[qY]
   simp only[iLtN hk,cond_true,qfQ p hk,Option.bind_some,qfm,qkG,qtH,qcm (show k<9223372036854775807 by omega)]
   show cond (!spOk p[k]) _ _=_
   cases spOk p[k]<;>rfl
  cases ha:p.all spOk with
  | true =>
   have:=forN (ql n) p.length (fun k=>(p,((p.length:Int),((k:Int),())))) (some (Sum.inl ())) (fun j hj rec=>by rw[st j hj,quT ha j hj];rfl) (fun rec=>by
    rw[qY]
    simp only[qkg (Nat.le_refl p.length),cond_false]) n (by omega)
   rw[show ((0:Nat):Int)=0 from rfl] at this
   simp only[this,Option.bind_some,Sum.elim_inl]
   cases told<;>rfl
  | false =>
   obtain ⟨k,hk,hb,hbf⟩:=qqM ha
   have:=forN (ql n) k (fun k=>(p,((p.length:Int),((k:Int),())))) (some (Sum.inr ((k:Int),()))) (fun j hj rec=>by rw[st j (by omega),hbf j hj];rfl) (fun rec=>by rw[st k hk,hb];rfl) n (by omega)
   rw[show ((0:Nat):Int)=0 from rfl] at this
   simp only[this,Option.bind_some,Sum.elim_inr,show iGe (k:Int) 0=true from decide_eq_true (by omega)]
   rfl
 ·rw[show iGt (p.length:Int) 8=true from decide_eq_true (by omega),decide_eq_false h8]
  rfl
theorem qr5(n:Nat)(p:List SpT)(hl:p.length≤50)(hn:100≤n):qeU n (p,())=some (areP p,()):=by
 rw[qjD]
 have st:∀k (hk:k<p.length),∀rec,qb8 n rec (p,((k:Int),()))=cond (spOk p[k]) (rec (p,(((k+1:Nat):Int),()))) (some (Sum.inr (false,()))):=by
  intro k hk rec
  rw[qfF]
  simp only[iLtN hk,cond_true,qfQ p hk,Option.bind_some,qv5,qcm (show k<9223372036854775807 by omega)]
  show cond (!spOk p[k]) _ _=_
  cases spOk p[k]<;>rfl
 unfold areP
 cases ha:p.all spOk with
 | true =>
  have:=forN (qb8 n) p.length (fun k=>(p,((k:Int),()))) (some (Sum.inl (p,()))) (fun j hj rec=>by rw[st j hj,quT ha j hj];rfl) (fun rec=>by
   rw[qfF]
   simp only[qkg (Nat.le_refl p.length),cond_false]) n (by omega)
  rw[show ((0:Nat):Int)=0 from rfl] at this
  simp only[this,Option.bind_some,Sum.elim_inl,Bool.and_true]
  show some (decide ((p.length:Int)≤8),())=_
  rw[show decide ((p.length:Int)≤8)=decide (p.length≤8) from decide_eq_decide.2 (by omega)]
 | false =>
  obtain ⟨k,hk,hb,hbf⟩:=qqM ha
  have:=forN (qb8 n) k (fun k=>(p,((k:Int),()))) (some (Sum.inr (false,()))) (fun j hj rec=>by rw[st j (by omega),hbf j hj];rfl) (fun rec=>by rw[st k hk,hb];rfl) n (by omega)
  rw[show ((0:Nat):Int)=0 from rfl] at this
  simp only[this,Option.bind_some,Sum.elim_inr,Bool.and_false]
theorem qr6(n:Nat)(p:List SpT)(load:Int)(told:Bool)(hl:p.length≤50)(hn:100≤n):qeV n (p,(load,(told,())))=some (qeW p (qbN load 1 5000&&told),()):=by
 rw[qjE]
 simp only[qr5 n p hl hn,Option.bind_some,qtI]
 unfold qeW
 cases areP p<;>cases qbN load 1 5000<;>cases told<;>rfl
theorem qnE(n:Nat)(p:List SpT)(hl:p.length≤50)(hn:100≤n):qb0 n (p,(((),()),()))=some (p.map (·.1),()):=by
 rw[qiA]
 have:=forN (qdN n) p.length (fun k=>(((),()),(p,((p.length:Int),((k:Int),((p.take k).map (·.1),())))))) (some (p.map (·.1),())) (fun k hk rec=>by
  rw[qeR]
  simp only[iLtN hk,cond_true,qfQ p hk,Option.bind_some,qp7,bleM (nAdd ((p.take k).map (·.1)).length 1) 17592186044416 (by show ((p.take k).map (·.1)).length+1≤_;rw[List.length_map,List.length_take];omega),qcm (show k<9223372036854775807 by omega)]
  rw[List.take_add_one,List.map_append,List.getElem?_eq_getElem hk]
  rfl) (fun rec=>by
   rw[qeR]
   simp only[qkg (Nat.le_refl p.length),cond_false,List.take_length]) n (by omega)
 rw[show ((0:Nat):Int)=0 from rfl,List.take_zero,List.map_nil] at this
 rw[this]
 rfl
theorem qtM(n:Nat)(p:List SpT)(hl:p.length≤50)(hn:100≤n):qdZ n (p,(((),()),()))=some (p.map (·.2),()):=by
 rw[qie]
 have:=forN (qdB n) p.length (fun k=>(((),()),(p,((p.length:Int),((k:Int),((p.take k).map (·.2),())))))) (some (p.map (·.2),())) (fun k hk rec=>by
  rw[qeI]
  simp only[iLtN hk,cond_true,qfQ p hk,Option.bind_some,qpE,bleM (nAdd ((p.take k).map (·.2)).length 1) 17592186044416 (by show ((p.take k).map (·.2)).length+1≤_;rw[List.length_map,List.length_take];omega),qcm (show k<9223372036854775807 by omega)]
  rw[List.take_add_one,List.map_append,List.getElem?_eq_getElem hk]
  rfl) (fun rec=>by
   rw[qeI]
   simp only[qkg (Nat.le_refl p.length),cond_false,List.take_length]) n (by omega)
 rw[show ((0:Nat):Int)=0 from rfl,List.take_zero,List.map_nil] at this
 rw[this]
 rfl
def endT(up:Bool)(s:SpT):Int:=cond up s.2 s.1
theorem bit1(s:Int)(hs:0≤s)(k:Nat)(hk:k<60):iEq (bits .and .i64 (iShr s (IntKind.wrap .u64 (k:Int))) (1:Int)) (0:Int) = !s.toNat.testBit k:=by
 rw[qtK k (by omega),qs3,qr2,qs2 s hs k]
 cases s.toNat.testBit k<;>rfl
theorem qr7(L:Nat)(hL:L≤8):qH (iSh .i64 (IntKind.wrap .u64 (L:Int)))=some ()∧iW (iShl (1:Int) (IntKind.wrap .u64 (L:Int)))=((2 ^ L:Nat):Int)∧iW (iSub (iW (iShl (1:Int) (IntKind.wrap .u64 (L:Int)))) 1)=((2 ^ L:Nat):Int)-1:=by
 rcases (by omega:L=0∨L=1∨L=2∨L=3∨L=4∨L=5∨L=6∨L=7∨L=8) with rfl | rfl | rfl | rfl | rfl | rfl | rfl | rfl | rfl<;>decide
theorem qkn{p:List SpT}(h:areP p=true):p.length≤8∧∀s,s∈p→0≤s.1∧s.1≤s.2∧s.2≤5000:=by
 unfold areP at h
 rw[Bool.and_eq_true,decide_eq_true_eq,List.all_eq_true] at h
 refine ⟨h.1,fun s hs=>?_⟩
 have:=h.2 s hs
 unfold spOk qja at this
 rw[Bool.and_eq_true,Bool.and_eq_true,decide_eq_true_eq,decide_eq_true_eq,decide_eq_true_eq] at this
 omega
theorem qmA{p:List SpT}(h:∀s,s∈p→0≤s.1∧s.1≤s.2∧s.2≤5000)(up:Bool):StrB (p.map (endT up)):=by
 intro x hx
 obtain ⟨s,hs,rfl⟩:=List.mem_map.1 hx
 have:=h s hs
 cases up
 ·show 0≤s.1∧s.1≤5000;omega
 ·show 0≤s.2∧s.2≤5000;omega
theorem qr8{l:List Int}(h:StrB l)(q:Nat→Bool)(k:Nat):StrB (selT l q k):=fun x hx=>h x (qoR hx)
noncomputable def hldV(p:List SpT)(up:Bool)(load:Int):Bool:=decide (qeW p (qbN load 1 5000)=0)&&qgP (p.map (endT up)) load
theorem qhI{p:List SpT}{t:Bool}:qeW p t=0↔areP p=true∧t=true:=by
 unfold qeW
 cases areP p<;>cases t<;>simp
theorem qha(p:List SpT)(t:Bool):(qeW p t=0∧areP p=true∧t=true)∨(iNe (qeW p t) 0=true∧qeW p t≠0):=by
 unfold qeW
 cases areP p<;>cases t
 ·exact .inr ⟨rfl,by decide⟩
 ·exact .inr ⟨rfl,by decide⟩
 ·exact .inr ⟨rfl,by decide⟩
 ·exact .inl ⟨rfl,rfl,rfl⟩
theorem qwb(n:Nat)(p:List SpT)(load:Int)(hn:2000≤n):qgu n (p,(load,()))=some (hldV p false load,(hldV p true load,(qeW p (qbN load 1 5000),()))):=by
 rw[qoT]
 simp only[qnB,Option.bind_some,qjg n p _ (show 100≤n by omega)]
 unfold hldV
 rcases qha p (qbN load 1 5000) with ⟨h0,ha,hw⟩ | ⟨h1,h2⟩
 ·obtain ⟨hl,hb⟩:=qkn ha
  rw[h0]
  simp only[show iNe (0:Int) 0=false from rfl,cond_false,qnE n p (show p.length≤50 by omega) (show 100≤n by omega),qtM n p (show p.length≤50 by omega) (show 100≤n by omega),Option.bind_some]
  rw[qoY n (p.map (·.1)) load (by rw[List.length_map];omega) (qmA hb false) hn]
  simp only[Option.bind_some]
  rw[qoY n (p.map (·.2)) load (by rw[List.length_map];omega) (qmA hb true) hn]
  rfl
 ·rw[h1,decide_eq_false h2]
  rfl
end Go.Proofs.YtbdockhccdkdiaaGreat
