/- Texts Dh0, Dh2, Dh3 in one. -/
import Derived.Test.YtbdockhccdkdiaaGreatLe
import Derived.Test.YtbdockhccdkdiaaGreatQd
import Derived.Test.YtbdockhccdkdiaaGreatDqN
/- Ropes, plain: when points hold a load, and how many may be missing. Nothing here speaks of the program. -/
set_option linter.constructorNameAsVariable false
set_option linter.unusedSimpArgs false
set_option linter.unusedVariables false
set_option linter.unusedSectionVars false
namespace Go.Proofs.YtbdockhccdkdiaaGreat
open Go Go.Proofs Go.RowKit
set_option maxHeartbeats 1000000
def shB(load:Int)(k:Nat)(s:Int):Bool:=decide (load≤(k:Int)*s)
def Hold(l:List Int)(load:Int):Prop:=∃k:Nat,0<k∧k≤l.countP (shB load k)
theorem qqG{l m:List Int}{load:Int}(h:l.Perm m)(hl:Hold l load):Hold m load:=by
 obtain ⟨k,h0,h1⟩:=hl
 exact ⟨k,h0,by rw[← h.countP_eq];exact h1⟩
theorem qvY{l m:List Int}{load:Int}(h:l.Sublist m)(hl:Hold l load):Hold m load:=by
 obtain ⟨k,h0,h1⟩:=hl
 exact ⟨k,h0,Nat.le_trans h1 h.countP_le⟩
theorem qsZ{load:Int}{k:Nat}{a b:Int}(h:a≤b)(ha:shB load k a=true):shB load k b=true:=by
 unfold shB at *
 rw[decide_eq_true_eq] at *
 exact Int.le_trans ha (Int.mul_le_mul_of_nonneg_left h (Int.natCast_nonneg k))
theorem qks(load:Int):¬Hold [] load:=by
 rintro ⟨k,h0,h1⟩
 simp at h1
 omega
theorem qoi{l:List Int}{load:Int}(hs:l.Pairwise (fun a b=>b≤a)):(∃i,∃h:i<l.length,load≤((i:Int)+1)*l[i])↔Hold l load:=by
 constructor
 ·rintro ⟨i,hi,h⟩
  refine ⟨i+1,by omega,?_⟩
  have e:l.take (i+1)++l.drop (i+1)=l:=List.take_append_drop _ _
  have h1:(l.take (i+1)).countP (shB load (i+1))=(l.take (i+1)).length:=by
   rw[List.countP_eq_length]
   intro x hx
   obtain ⟨k,hk,rfl⟩:=List.getElem_of_mem hx
   rw[List.length_take] at hk
   rw[List.getElem_take]
   have:l[i]≤l[k]:=by
    by_cases hki:k=i
    ·subst hki;exact Int.le_refl _
    ·exact List.pairwise_iff_getElem.1 hs k i (by omega) hi (by omega)
   refine qsZ this ?_
   unfold shB
   rw[decide_eq_true_eq]
   rw[show ((i+1:Nat):Int)=(i:Int)+1 by omega]
   exact h
  have h2:l.countP (shB load (i+1))=(l.take (i+1)).countP (shB load (i+1))+(l.drop (i+1)).countP (shB load (i+1)):=by
   rw[← List.countP_append,e]
  rw[h2,h1,List.length_take]
  omega
 ·rintro ⟨k,h0,h1⟩
  have hkl:k≤l.length:=Nat.le_trans h1 List.countP_le_length
  refine ⟨k-1,by omega,?_⟩
  cases hb:shB load k (l[k-1]'(by omega)) with
  | true =>
   unfold shB at hb
   rw[decide_eq_true_eq] at hb
   rw[show ((k-1:Nat):Int)+1=(k:Int) by omega]
   exact hb
  | false =>
   exfalso
   have e:l.take (k-1)++l.drop (k-1)=l:=List.take_append_drop _ _
   have h2:l.countP (shB load k)=(l.take (k-1)).countP (shB load k)+(l.drop (k-1)).countP (shB load k):=by
    rw[← List.countP_append,e]
   have h3:(l.drop (k-1)).countP (shB load k)=0:=by
    rw[List.countP_eq_zero]
    intro x hx hx2
    obtain ⟨j,hj,rfl⟩:=List.getElem_of_mem hx
    rw[List.length_drop] at hj
    rw[List.getElem_drop] at hx2
    have:l[k-1+j]≤l[k-1]:=by
     by_cases hj0:j=0
     ·subst hj0;exact Int.le_refl _
     ·exact List.pairwise_iff_getElem.1 hs (k-1) (k-1+j) (by omega) (by omega) (by omega)
    rw[qsZ this hx2] at hb
    cases hb
   have h4:(l.take (k-1)).countP (shB load k)≤(l.take (k-1)).length:=List.countP_le_length
   rw[List.length_take] at h4
   omega
theorem qsp{l:List Int}{load:Int}(hp:∀s,s∈l→0≤s):Hold l load↔Hold (l.filter (shB load l.length)) load:=by
 constructor
 ·rintro ⟨k,h0,h1⟩
  refine ⟨k,h0,?_⟩
  have hkl:k≤l.length:=Nat.le_trans h1 List.countP_le_length
  rw[List.countP_filter]
  refine Nat.le_trans h1 (List.countP_mono_left fun x hx h2=>?_)
  rw[h2,Bool.true_and]
  unfold shB at *
  rw[decide_eq_true_eq] at *
  have:=Int.mul_le_mul_of_nonneg_right (show (k:Int)≤(l.length:Int) by omega) (hp x hx)
  omega
 ·exact qvY List.filter_sublist
theorem qvZ{l:List Int}{load:Int}(h:(l.filter (shB load l.length)).length=l.length):Hold l load↔0<l.length:=by
 constructor
 ·rintro ⟨k,h0,h1⟩
  have:=Nat.le_trans h1 List.countP_le_length
  omega
 ·intro h0
  refine ⟨l.length,h0,?_⟩
  rw[List.countP_eq_length_filter,h]
  exact Nat.le_refl _
theorem qiD{α:Type}(l:List α){p q:Nat→Bool}:∀k,(∀i,i<k→p i=q i)→selT l p k=selT l q k
 | 0,_=>rfl
 | k+1,h=>by rw[qcb,qcb,qiD l k fun i hi=>h i (by omega),h k (by omega)]
theorem qr1{α β:Type}(f:α→β)(l:List α)(p:Nat→Bool):∀k,selT (l.map f) p k=(selT l p k).map f
 | 0=>rfl
 | k+1=>by
  rw[qcb,qcb,qr1 f l p k,List.map_append,List.getElem?_map]
  cases p k with
  | false=>simp
  | true=>cases l[k]?<;>simp
theorem qoP{α:Type}(l:List α)(p:Nat→Bool):∀k,k≤l.length→(∀i,i<k→p i=true)→selT l p k=l.take k
 | 0,_,_=>by simp[selT]
 | k+1,hk,h=>by
  rw[qcb,qoP l p k (by omega) fun i hi=>h i (by omega),h k (by omega),if_pos rfl,List.take_add_one]
theorem qnv{α:Type}(l:List α)(p:Nat→Bool):∀k,(∀i,i<k→p i=false)→selT l p k=[]
 | 0,_=>rfl
 | k+1,h=>by rw[qcb,qnv l p k fun i hi=>h i (by omega),h k (by omega)];rfl
def cntP(p:Nat→Bool):Nat→Nat
 | 0=>0
 | k+1=>cntP p k+(if p k=true then 1 else 0)
theorem qoQ{α:Type}(l:List α)(p:Nat→Bool):∀k,k≤l.length→(selT l p k).length=cntP p k
 | 0,_=>rfl
 | k+1,hk=>by
  rw[qcb,List.length_append,qoQ l p k (by omega),List.getElem?_eq_getElem (show k<l.length by omega)]
  show _=cntP p k+(if p k=true then 1 else 0)
  cases p k<;>simp
theorem qqH{p q:Nat→Bool}:∀k,(∀i,i<k→q i=true→p i=true)→cntP p k=cntP q k+cntP (fun i=>p i && !q i) k
 | 0,_=>rfl
 | k+1,h=>by
  have ih:=qqH (p:=p) (q:=q) k fun i hi=>h i (by omega)
  have hk:=h k (by omega)
  show cntP p k+(if p k=true then 1 else 0)=(cntP q k+(if q k=true then 1 else 0))+(cntP (fun i=>p i && !q i) k+(if (p k && !q k)=true then 1 else 0))
  rw[ih]
  generalize cntP (fun i=>p i && !q i) k=D
  generalize p k=a at *
  generalize q k=b at *
  cases a<;>cases b
  ·simp
  ·exact absurd (hk rfl) (by simp)
  ·simp;omega
  ·simp;omega
theorem qpC(p:Nat→Bool):∀k,cntP p k≤k
 | 0=>Nat.le_refl _
 | k+1=>by have:=qpC p k;unfold cntP;split<;>omega
theorem qqI{p q:Nat→Bool}:∀k,(∀i,i<k→p i=q i)→cntP p k=cntP q k
 | 0,_=>rfl
 | k+1,h=>by unfold cntP;rw[qqI k fun i hi=>h i (by omega),h k (by omega)]
theorem qp4{α:Type}(l:List α)(p:Nat→Bool):∀(k:Nat),k≤l.length→∀t:List α,t.Sublist (selT l p k)→∃q:Nat→Bool,(∀i,i<k→q i=true→p i=true)∧t=selT l q k
 | 0,_,t,h=>⟨fun _=>false,⟨fun i hi=>by omega,List.sublist_nil.1 h⟩⟩
 | k+1,hk,t,h=>by
  rw[qcb] at h
  obtain ⟨t1,t2,rfl,h1,h2⟩:=List.sublist_append_iff.1 h
  obtain ⟨q,hq,rfl⟩:=qp4 l p k (by omega) t1 h1
  have hle:k<l.length:=by omega
  have hx:t2=[]∨(p k=true∧t2=(l[k]?).toList):=by
   cases hp:p k with
   | false=>rw[hp] at h2;simp at h2;exact .inl h2
   | true =>
    rw[hp,if_pos rfl,List.getElem?_eq_getElem hle] at h2
    rw[List.getElem?_eq_getElem hle]
    have h3:t2.Sublist [l[k]]:=h2
    cases t2 with
    | nil=>exact .inl rfl
    | cons a t2 =>
     have:=h3.length_le
     have e:t2=[]:=by simpa using this
     subst e
     have hm:=h3.subset (List.mem_cons_self)
     have:a=l[k]:=by simpa using hm
     subst this
     exact .inr ⟨rfl,rfl⟩
  rcases hx with rfl | ⟨hp,rfl⟩
  ·refine ⟨fun i=>decide (i<k)&&q i,fun i _ h=>?_,?_⟩
   ·rw[Bool.and_eq_true,decide_eq_true_eq] at h;exact hq i h.1 h.2
   ·rw[qcb,if_neg (by simp)]
    congr 1
    exact qiD l k fun i hi=>by simp[hi]
  ·refine ⟨fun i=>decide (i=k)||q i,fun i hi h=>?_,?_⟩
   ·rw[Bool.or_eq_true,decide_eq_true_eq] at h
    rcases h with rfl | h
    ·exact hp
    ·by_cases hik:i=k
     ·subst hik;exact hp
     ·exact hq i (by omega) h
   ·rw[qcb,if_pos (by simp)]
    congr 1
    exact qiD l k fun i hi=>by simp[show i≠k by omega]
theorem qp5{α:Type}(l:List α){p q:Nat→Bool}:∀(k:Nat),(∀i,i<k→q i=true→p i=true)→(selT l q k).Sublist (selT l p k)
 | 0,_=>List.Sublist.refl _
 | k+1,h=>by
  rw[qcb,qcb]
  refine (qp5 l k fun i hi=>h i (by omega)).append ?_
  have hk:=h k (by omega)
  cases hq:q k with
  | false=>simp
  | true=>rw[hk hq];exact List.Sublist.refl _
def qmr(p:Nat→Bool):Nat→Nat
 | 0=>0
 | k+1=>qmr p k+(if p k=true then 2 ^ k else 0)
theorem qms(p:Nat→Bool):∀k,qmr p k<2 ^ k
 | 0=>Nat.one_pos
 | k+1=>by have:=qms p k;unfold qmr;rw[Nat.pow_succ];split<;>omega
theorem qk2(p:Nat→Bool):∀(k i:Nat),i<k→(qmr p k).testBit i=p i
 | 0,i,h=>by omega
 | k+1,i,h=>by
  have hl:=qms p k
  unfold qmr
  cases hp:p k with
  | false =>
   simp only[Bool.false_eq_true,if_false,Nat.add_zero]
   by_cases hik:i=k
   ·subst hik;rw[Nat.testBit_lt_two_pow hl,hp]
   ·exact qk2 p k i (by omega)
  | true =>
   simp only[if_true]
   rw[Nat.add_comm]
   by_cases hik:i=k
   ·subst hik;rw[Nat.testBit_two_pow_add_eq,Nat.testBit_lt_two_pow hl,hp];rfl
   ·rw[Nat.testBit_two_pow_add_gt (by omega)]
    exact qk2 p k i (by omega)
def Spr(l:List Int)(load:Int)(k:Int):Prop:=(∀t,t.Sublist l→¬Hold t load→k+1+t.length≤l.length)∧∃t,t.Sublist l∧¬Hold t load∧k+1+t.length=l.length
theorem Spr.uniq{l:List Int}{load k k':Int}(h:Spr l load k)(h':Spr l load k'):k=k':=by
 obtain ⟨a,t,b,c,d⟩:=h
 obtain ⟨a',t',b',c',d'⟩:=h'
 have:=a t' b' c'
 have:=a' t b c
 omega
open Classical in
noncomputable def sprV(l:List Int)(load:Int):Int:=if h:∃k,Spr l load k then Classical.choose h else 0
theorem qs0{l:List Int}{load k:Int}(h:Spr l load k):sprV l load=k:=by
 unfold sprV
 rw[dif_pos ⟨k,h⟩]
 exact (Classical.choose_spec (⟨k,h⟩:∃k,Spr l load k)).uniq h
theorem qjB(P:Nat→Prop):∀n,P n→∃m,m≤n∧P m∧∀j,j<m→¬P j
 | 0,h=>⟨0,Nat.le_refl _,h,fun j hj=>by omega⟩
 | n+1,h=>by
  by_cases hx:∃j,j≤n∧P j
  ·obtain ⟨j,hj,hp⟩:=hx
   obtain ⟨m,h1,h2,h3⟩:=qjB P j hp
   exact ⟨m,by omega,h2,h3⟩
  ·exact ⟨n+1,Nat.le_refl _,h,fun j hj hp=>hx ⟨j,by omega,hp⟩⟩
noncomputable def qeT(l:List Int)(load:Int):Bool:=@decide (Hold l load) (Classical.propDecidable _)
theorem qg4{l:List Int}{load:Int}:qeT l load=true↔Hold l load:=@decide_eq_true_iff _ (Classical.propDecidable _)
theorem qhD{l:List Int}{load:Int}:qeT l load=false↔¬Hold l load:=@decide_eq_false_iff_not _ (Classical.propDecidable _)
theorem forN{σ ξ:Type}(step:(σ→Option ξ)→σ→Option ξ)(N:Nat)(I:Nat→σ)(r:Option ξ)(h:∀k,k<N→∀rec,step rec (I k)=rec (I (k+1)))(he:∀rec,step rec (I N)=r)(m:Nat)(hm:N<m):qn m step (I 0)=r:=by
 have go:∀(j k m:Nat),k+j=N→j<m→qn m step (I k)=r:=by
  intro j
  induction j with
  | zero =>
   intro k m hk hm
   obtain ⟨m,rfl⟩:∃j,m=j+1:=⟨m-1,by omega⟩
   have:k=N:=by omega
   subst this
   rw[qx,he]
  | succ j ih =>
   intro k m hk hm
   obtain ⟨m,rfl⟩:∃j,m=j+1:=⟨m-1,by omega⟩
   rw[qx,h k (by omega)]
   exact ih (k+1) m (by omega) (by omega)
 exact go N 0 m (by omega) hm
theorem iLtN{a b:Nat}(h:a<b):iLt (a:Int) (b:Int)=true:=decide_eq_true (by omega)
theorem qiE{a b:Nat}(h:b≤a):iLt (a:Int) (b:Int)=false:=decide_eq_false (by omega)
theorem qsq(n:Nat)(a:Int)(l:List Int):qeQ n ((a::l:List Int),())=Option.bind (qu (Nat.ble (nAdd (0:Nat) (List.length (a::l))) 17592186044416)) fun _=>(some ((List.append [] (a::l)),())):=by kernel_rfl
theorem quF(n:Nat):qeS n ([],())=some ([],()):=by kernel_rfl
theorem quG(n:Nat)(a:Int)(l:List Int):qeS n (a::l,())=qeQ n ((a::l:List Int),()):=by kernel_rfl
theorem quH(n:Nat)(l:List Int)(hl:l.length≤1000):qeS n (l,())=some (l,()):=by
 cases l with
 | nil=>exact quF n
 | cons a l =>
  rw[quG]
  refine (qsq n a l).trans ?_
  rw[bleM (nAdd (0:Nat) (List.length (a::l))) 17592186044416 (Nat.le_trans (Nat.le_of_eq (Nat.zero_add _)) (Nat.le_trans hl (by decide)))]
  rfl
theorem rev0(n:Nat):qH (n+20) (([]:List Int),())=some ([],()):=by kernel_rfl
theorem rev1(n:Nat)(a:Int):qH (n+20) (([a]:List Int),())=some ([a],()):=by kernel_rfl
theorem rev2(n:Nat)(a b:Int):qH (n+20) (([a,b]:List Int),())=some ([b,a],()):=by kernel_rfl
theorem rev3(n:Nat)(a b c:Int):qH (n+20) (([a,b,c]:List Int),())=some ([c,b,a],()):=by kernel_rfl
theorem rev4(n:Nat)(a b c d:Int):qH (n+20) (([a,b,c,d]:List Int),())=some ([d,c,b,a],()):=by kernel_rfl
theorem rev5(n:Nat)(a b c d e:Int):qH (n+20) (([a,b,c,d,e]:List Int),())=some ([e,d,c,b,a],()):=by kernel_rfl
theorem rev6(n:Nat)(a b c d e f:Int):qH (n+20) (([a,b,c,d,e,f]:List Int),())=some ([f,e,d,c,b,a],()):=by kernel_rfl
theorem rev7(n:Nat)(a b c d e f g:Int):qH (n+20) (([a,b,c,d,e,f,g]:List Int),())=some ([g,f,e,d,c,b,a],()):=by kernel_rfl
theorem rev8(n:Nat)(a b c d e f g h:Int):qH (n+20) (([a,b,c,d,e,f,g,h]:List Int),())=some ([h,g,f,e,d,c,b,a],()):=by kernel_rfl
theorem qxo(n:Nat)(l:List Int)(hl:l.length≤8)(hn:20≤n):qH n (l,())=some (l.reverse,()):=by
 obtain ⟨m,rfl⟩:∃m,n=m+20:=⟨n-20,by omega⟩
 match l,hl with
 | [],_=>exact rev0 m
 | [a],_=>exact rev1 m a
 | [a,b],_=>exact rev2 m a b
 | [a,b,c],_=>exact rev3 m a b c
 | [a,b,c,d],_=>exact rev4 m a b c d
 | [a,b,c,d,e],_=>exact rev5 m a b c d e
 | [a,b,c,d,e,f],_=>exact rev6 m a b c d e f
 | [a,b,c,d,e,f,g],_=>exact rev7 m a b c d e f g
 | [a,b,c,d,e,f,g,h],_=>exact rev8 m a b c d e f g h
 | a::b::c::d::e::f::g::h::i::l,hl=>exact absurd hl (by simp)
def StrB(l:List Int):Prop:=∀s,s∈l→0≤s∧s≤5000
theorem qr2{k:Nat}{s:Int}(hk:k≤8)(h:0≤s∧s≤5000):iW (iMul (k:Int) s)=(k:Int)*s:=by
 have:=Int.mul_le_mul (show (k:Int)≤8 by omega) h.2 h.1 (by omega)
 have h0:0≤(k:Int)*s:=Int.mul_nonneg (by omega) h.1
 exact qim (by show _≤(k:Int)*s;omega) (by show (k:Int)*s≤_;omega)
theorem qoR(n:Nat)(l:List Int)(load:Int)(hl:l.length≤8)(hb:StrB l)(hn:2000≤n):qgj n (l,(load,()))=some (qeT l load,()):=by
 rw[qoL]
 simp only[quH n l (by omega),Option.bind_some,qw0 n l (by omega) hn]
 have hp:=qtt (fun x y:Int=>decide (x<y)) l
 have hs:((qhb (fun x y:Int=>decide (x<y)) l).reverse).Pairwise (fun a b=>b≤a):=by
  rw[List.pairwise_reverse]
  exact qr0 (fun x y:Int=>decide (x<y)) (fun x=>x) l fun x y _ _=>⟨fun h=>by have:=of_decide_eq_true h;omega,fun h=>by have:=of_decide_eq_false h;omega⟩
 have hlen:(qhb (fun x y:Int=>decide (x<y)) l).length=l.length:=hp.length_eq
 rw[qxo n _ (by omega) (by omega)]
 simp only[Option.bind_some]
 have hp2:((qhb (fun x y:Int=>decide (x<y)) l).reverse).Perm l:=(List.reverse_perm _).trans hp
 have hlen2:((qhb (fun x y:Int=>decide (x<y)) l).reverse).length=l.length:=hp2.length_eq
 have hb2:StrB (qhb (fun x y:Int=>decide (x<y)) l).reverse:=fun s hs=>hb s (hp2.mem_iff.1 hs)
 have hH:qeT l load=qeT (qhb (fun x y:Int=>decide (x<y)) l).reverse load:=by
  rw[Bool.eq_iff_iff,qg4,qg4]
  exact ⟨qqG hp2.symm,qqG hp2⟩
 rw[hH]
 generalize (qhb (fun x y:Int=>decide (x<y)) l).reverse=m at *
 clear hp hlen
 have st:∀k (hk:k<m.length),∀rec,qfd n rec (load,(m,((m.length:Int),((k:Int),()))))=cond (decide (load≤((k:Int)+1)*m[k])) (some (Sum.inr (true,()))) (rec (load,(m,((m.length:Int),(((k+1:Nat):Int),()))))):=by
  intro k hk rec
  rw[qjx]
  simp only[iLtN hk,cond_true,qeI m hk,Option.bind_some,qbT (show k<9223372036854775807 by omega),qr2 (show k+1≤8 by omega) (hb2 _ (List.getElem_mem hk))]
  rw[show ((k+1:Nat):Int)=(k:Int)+1 by omega]
 cases hh:qeT m load with
 | true =>
  rw[qg4,← qoi hs] at hh
  obtain ⟨i,hi,h⟩:=hh
  obtain ⟨k,hki,⟨hk,hk2⟩,hmin⟩:=qjB (fun k=>∃h:k<m.length,load≤((k:Int)+1)*m[k]) i ⟨hi,h⟩
  have:=forN (qfd n) k (fun k=>(load,(m,((m.length:Int),((k:Int),()))))) (some (Sum.inr (true,()))) (fun j hj rec=>by
   have:¬load≤((j:Int)+1)*m[j]:=fun hx=>hmin j hj ⟨by omega,hx⟩
   rw[st j (by omega),decide_eq_false this]
   rfl) (fun rec=>by rw[st k hk,decide_eq_true hk2];rfl) n (by omega)
  rw[show ((0:Nat):Int)=0 from rfl] at this
  rw[this]
  rfl
 | false =>
  rw[qhD,← qoi hs] at hh
  have:=forN (qfd n) m.length (fun k=>(load,(m,((m.length:Int),((k:Int),()))))) (some (Sum.inl ())) (fun j hj rec=>by
   rw[st j hj,decide_eq_false fun hx=>hh ⟨j,hj,hx⟩]
   rfl) (fun rec=>by
    rw[qjx]
    simp only[qiE (Nat.le_refl m.length),cond_false]) n (by omega)
  rw[show ((0:Nat):Int)=0 from rfl] at this
  rw[this]
  rfl
theorem qqJ(n:Nat)(l:List Int)(load:Int)(hl:l.length≤8)(hb:StrB l)(hn:100≤n):qn n (qdW n) (load,(l,((0:Int),([],()))))=some (load,(l,(l.filter (shB load l.length),()))):=by
 refine forN (qdW n) l.length (fun k=>(load,(l,((k:Int),((l.take k).filter (shB load l.length),()))))) _ (fun k hk rec=>?_) (fun rec=>?_) n (by omega)
 ·have hlen:((l.take k).filter (shB load l.length)).length≤8:=by
   have h1:=List.length_filter_le (shB load l.length) (l.take k)
   rw[List.length_take] at h1
   omega
  rw[qgE]
  simp only[iLtN hk,cond_true,qeI l hk,Option.bind_some,qr2 hl (hb _ (List.getElem_mem hk)),bleM (nAdd ((l.take k).filter (shB load l.length)).length 1) 17592186044416 (by show ((l.take k).filter (shB load l.length)).length+1≤_;omega),qbT (show k<9223372036854775807 by omega)]
  rw[List.take_add_one,List.filter_append,List.getElem?_eq_getElem hk]
  show cond (shB load l.length l[k]) _ _=_
  cases hs:shB load l.length l[k] with
  | true=>simp[hs]
  | false=>simp[hs]
 ·rw[qgE]
  simp only[qiE (Nat.le_refl l.length),cond_false,List.take_length]
theorem quI(n:Nat)(load:Int)(hn:100≤n):∀(j:Nat) (l:List Int) (m:Nat),l.length≤j→j≤8→j<m→StrB l→qn m (qfo n) (load,(l,()))=some (qeT l load,()):=by
 intro j
 induction j with
 | zero =>
  intro l m hl hj hm hb
  obtain ⟨m,rfl⟩:∃j,m=j+1:=⟨m-1,by omega⟩
  have:l=[]:=List.eq_nil_of_length_eq_zero (by omega)
  subst this
  rw[qx,qgF,qqJ n [] load (by simp) hb hn]
  rw[qhD.2 (qks load)]
  rfl
 | succ j ih =>
  intro l m hl hj hm hb
  obtain ⟨m,rfl⟩:∃j,m=j+1:=⟨m-1,by omega⟩
  rw[qx,qgF,qqJ n l load (by omega) hb hn]
  simp only[Option.bind_some]
  have hle:=List.length_filter_le (shB load l.length) l
  by_cases h:(l.filter (shB load l.length)).length=l.length
  ·rw[h,show iEq (l.length:Int) (l.length:Int)=true by unfold iEq;simp]
   have:qeT l load=decide (0<l.length):=by rw[Bool.eq_iff_iff,qg4,qvZ h,decide_eq_true_eq]
   rw[this]
   show some (decide ((l.length:Int)>0),())=_
   rw[show decide ((l.length:Int)>0)=decide (0<l.length) from decide_eq_decide.2 (by omega)]
  ·rw[show iEq ((l.filter (shB load l.length)).length:Int) (l.length:Int)=false from beq_eq_false_iff_ne.2 (by omega)]
   have:=ih (l.filter (shB load l.length)) m (by omega) (by omega) (by omega) fun s hs=>hb s (List.mem_filter.1 hs).1
   simp only[cond_false]
   rw[this]
   have e:qeT l load=qeT (l.filter (shB load l.length)) load:=by
    rw[Bool.eq_iff_iff,qg4,qg4]
    exact qsp fun s hs=>(hb s hs).1
   rw[e]
theorem qnw(n:Nat)(l:List Int)(load:Int)(hl:l.length≤8)(hb:StrB l)(hn:2000≤n):qdq n (l,(load,()))=some (qeT l load,()):=by
 rw[qkB]
 rw[quI n load (by omega) 8 l n hl (by omega) (by omega) hb]
 rfl
abbrev SpT:=Int×Int
def spOk(s:SpT):Bool:=qi7 s.1 s.2 0 5000
def areP(p:List SpT):Bool:=decide (p.length≤8)&&p.all spOk
def qeO(p:List SpT)(told:Bool):Int:=cond (areP p) (cond told 0 1) 92
theorem qqK{α:Type}{P:α→Bool}{p:List α}(h:p.all P=false):∃k,∃hk:k<p.length,P p[k]=false∧∀j (hj:j<k),P (p[j]'(by omega))=true:=by
 have hx:∃k,∃hk:k<p.length,P p[k]=false:=by
  rw[List.all_eq_false] at h
  obtain ⟨x,hx,h⟩:=h
  obtain ⟨k,hk,rfl⟩:=List.getElem_of_mem hx
  exact ⟨k,hk,by simpa using h⟩
 obtain ⟨n,hn⟩:=hx
 obtain ⟨k,_,⟨hk,h1⟩,h2⟩:=qjB (fun k=>∃hk:k<p.length,P p[k]=false) n hn
 refine ⟨k,hk,h1,fun j hj=>?_⟩
 cases hp:P (p[j]'(by omega)) with
 | true=>rfl
 | false=>exact absurd ⟨by omega,hp⟩ (h2 j hj)
theorem quJ{α:Type}{P:α→Bool}{p:List α}(h:p.all P=true)(k:Nat)(hk:k<p.length):P p[k]=true:=List.all_eq_true.1 h _ (List.getElem_mem hk)
theorem qjc(n:Nat)(p:List SpT)(told:Bool)(hn:100≤n):qcK n (p,(told,()))=some (qeO p told,()):=by
 rw[qld]
 unfold qeO areP
 by_cases h8:p.length≤8
 ·rw[show iGt (p.length:Int) 8=false from decide_eq_false (by omega),decide_eq_true h8]
  simp only[cond_false,Bool.true_and]
  rw[qfz,qco,qcx]
  have st:∀k (hk:k<p.length),∀rec,ql n rec (p,((p.length:Int),((k:Int),())))=cond (spOk p[k]) (rec (p,((p.length:Int),(((k+1:Nat):Int),())))) (some (Sum.inr ((k:Int),()))):=by
   intro k hk rec
   rw[qV]
   simp only[iLtN hk,cond_true,qeI p hk,Option.bind_some,qfe,qkp,qty,qbT (show k<9223372036854775807 by omega)]
   show cond (!spOk p[k]) _ _=_
   cases spOk p[k]<;>rfl
  cases ha:p.all spOk with
  | true =>
   have:=forN (ql n) p.length (fun k=>(p,((p.length:Int),((k:Int),())))) (some (Sum.inl ())) (fun j hj rec=>by rw[st j hj,quJ ha j hj];rfl) (fun rec=>by
    rw[qV]
    simp only[qiE (Nat.le_refl p.length),cond_false]) n (by omega)
   rw[show ((0:Nat):Int)=0 from rfl] at this
   simp only[this,Option.bind_some,Sum.elim_inl]
   cases told<;>rfl
  | false =>
   obtain ⟨k,hk,hb,hbf⟩:=qqK ha
   have:=forN (ql n) k (fun k=>(p,((p.length:Int),((k:Int),())))) (some (Sum.inr ((k:Int),()))) (fun j hj rec=>by rw[st j (by omega),hbf j hj];rfl) (fun rec=>by rw[st k hk,hb];rfl) n (by omega)
   rw[show ((0:Nat):Int)=0 from rfl] at this
   simp only[this,Option.bind_some,Sum.elim_inr,show iGe (k:Int) 0=true from decide_eq_true (by omega)]
   rfl
 ·rw[show iGt (p.length:Int) 8=true from decide_eq_true (by omega),decide_eq_false h8]
  rfl
theorem qr3(n:Nat)(p:List SpT)(hl:p.length≤50)(hn:100≤n):qeN n (p,())=some (areP p,()):=by
 rw[qjz]
 have st:∀k (hk:k<p.length),∀rec,qb6 n rec (p,((k:Int),()))=cond (spOk p[k]) (rec (p,(((k+1:Nat):Int),()))) (some (Sum.inr (false,()))):=by
  intro k hk rec
  rw[qfx]
  simp only[iLtN hk,cond_true,qeI p hk,Option.bind_some,qvU,qbT (show k<9223372036854775807 by omega)]
  show cond (!spOk p[k]) _ _=_
  cases spOk p[k]<;>rfl
 unfold areP
 cases ha:p.all spOk with
 | true =>
  have:=forN (qb6 n) p.length (fun k=>(p,((k:Int),()))) (some (Sum.inl (p,()))) (fun j hj rec=>by rw[st j hj,quJ ha j hj];rfl) (fun rec=>by
   rw[qfx]
   simp only[qiE (Nat.le_refl p.length),cond_false]) n (by omega)
  rw[show ((0:Nat):Int)=0 from rfl] at this
  simp only[this,Option.bind_some,Sum.elim_inl,Bool.and_true]
  show some (decide ((p.length:Int)≤8),())=_
  rw[show decide ((p.length:Int)≤8)=decide (p.length≤8) from decide_eq_decide.2 (by omega)]
 | false =>
  obtain ⟨k,hk,hb,hbf⟩:=qqK ha
  have:=forN (qb6 n) k (fun k=>(p,((k:Int),()))) (some (Sum.inr (false,()))) (fun j hj rec=>by rw[st j (by omega),hbf j hj];rfl) (fun rec=>by rw[st k hk,hb];rfl) n (by omega)
  rw[show ((0:Nat):Int)=0 from rfl] at this
  simp only[this,Option.bind_some,Sum.elim_inr,Bool.and_false]
theorem qkt(n:Nat)(p:List SpT)(load:Int)(told:Bool)(hl:p.length≤50)(hn:100≤n):qcr n (p,(load,(told,())))=some (qeO p (qbN load 1 5000&&told),()):=by
 rw[qjA]
 simp only[qr3 n p hl hn,Option.bind_some,qpz]
 unfold qeO
 cases areP p<;>cases qbN load 1 5000<;>cases told<;>rfl
theorem qnx(n:Nat)(p:List SpT)(hl:p.length≤50)(hn:100≤n):qb0 n (p,(((),()),()))=some (p.map (·.1),()):=by
 rw[qix]
 have:=forN (qdD n) p.length (fun k=>(((),()),(p,((p.length:Int),((k:Int),((p.take k).map (·.1),())))))) (some (p.map (·.1),())) (fun k hk rec=>by
  rw[qeM]
  simp only[iLtN hk,cond_true,qeI p hk,Option.bind_some,qp3,bleM (nAdd ((p.take k).map (·.1)).length 1) 17592186044416 (by show ((p.take k).map (·.1)).length+1≤_;rw[List.length_map,List.length_take];omega),qbT (show k<9223372036854775807 by omega)]
  rw[List.take_add_one,List.map_append,List.getElem?_eq_getElem hk]
  rfl) (fun rec=>by
   rw[qeM]
   simp only[qiE (Nat.le_refl p.length),cond_false,List.take_length]) n (by omega)
 rw[show ((0:Nat):Int)=0 from rfl,List.take_zero,List.map_nil] at this
 rw[this]
 rfl
theorem qtB(n:Nat)(p:List SpT)(hl:p.length≤50)(hn:100≤n):qdP n (p,(((),()),()))=some (p.map (·.2),()):=by
 rw[qid]
 have:=forN (qdm n) p.length (fun k=>(((),()),(p,((p.length:Int),((k:Int),((p.take k).map (·.2),())))))) (some (p.map (·.2),())) (fun k hk rec=>by
  rw[qeA]
  simp only[iLtN hk,cond_true,qeI p hk,Option.bind_some,qpB,bleM (nAdd ((p.take k).map (·.2)).length 1) 17592186044416 (by show ((p.take k).map (·.2)).length+1≤_;rw[List.length_map,List.length_take];omega),qbT (show k<9223372036854775807 by omega)]
  rw[List.take_add_one,List.map_append,List.getElem?_eq_getElem hk]
  rfl) (fun rec=>by
   rw[qeA]
   simp only[qiE (Nat.le_refl p.length),cond_false,List.take_length]) n (by omega)
 rw[show ((0:Nat):Int)=0 from rfl,List.take_zero,List.map_nil] at this
 rw[this]
 rfl
def endT(up:Bool)(s:SpT):Int:=cond up s.2 s.1
theorem bit1(s:Int)(hs:0≤s)(k:Nat)(hk:k<60):iEq (bits .and .i64 (iShr s (IntKind.wrap .u64 (k:Int))) (1:Int)) (0:Int) = !s.toNat.testBit k:=by
 rw[qmp k (by omega),qlM,qoK,qsY s hs k]
 cases s.toNat.testBit k<;>rfl
theorem qp6(n:Nat)(p:List SpT)(s:Int)(up:Bool)(hs:0≤s)(hl:p.length≤8)(hn:100≤n):qdJ n (p,(s,(up,())))=some (selT (p.map (endT up)) s.toNat.testBit p.length,()):=by
 rw[qle]
 have:=forN (qej n) p.length (fun k=>(p,(s,(up,((k:Int),(selT (p.map (endT up)) s.toNat.testBit k,())))))) (some (selT (p.map (endT up)) s.toNat.testBit p.length,())) (fun k hk rec=>by
  have hlen:=qg0 (p.map (endT up)) s.toNat.testBit k
  have hmk:(p.map (endT up))[k]?=some (endT up p[k]):=by rw[List.getElem?_map,List.getElem?_eq_getElem hk];rfl
  rw[qg3]
  have hg:qu (iSh .i64 (IntKind.wrap .u64 (k:Int)))=some ():=by rw[qmp k (by omega)];exact shk k (by omega)
  simp only[iLtN hk,cond_true,hg,Option.bind_some,bit1 s hs k (by omega),qeI p hk,bleM (nAdd (selT (p.map (endT up)) s.toNat.testBit k).length 1) 17592186044416 (by show (selT (p.map (endT up)) s.toNat.testBit k).length+1≤_;omega),qbT (show k<9223372036854775807 by omega)]
  rw[qcb,hmk]
  cases hb:s.toNat.testBit k with
  | false=>simp
  | true=>cases up<;>rfl) (fun rec=>by
   rw[qg3]
   simp only[qiE (Nat.le_refl p.length),cond_false]) n (by omega)
 rw[show ((0:Nat):Int)=0 from rfl] at this
 show Option.bind (qn n (qej n) (p,(s,(up,((0:Int),(selT (p.map (endT up)) s.toNat.testBit 0,())))))) _=_
 rw[this]
 rfl
theorem qv0(L:Nat)(i:Nat)(h:i<L):(((2 ^ L:Nat):Int)-1).toNat.testBit i=true:=by
 have h2:=Nat.two_pow_pos L
 rw[show (((2 ^ L:Nat):Int)-1).toNat=2 ^ L-1 by omega,Nat.testBit_two_pow_sub_one,decide_eq_true h]
theorem qr4(L:Nat)(hL:L≤8):qu (iSh .i64 (IntKind.wrap .u64 (L:Int)))=some ()∧iW (iShl (1:Int) (IntKind.wrap .u64 (L:Int)))=((2 ^ L:Nat):Int)∧iW (iSub (iW (iShl (1:Int) (IntKind.wrap .u64 (L:Int)))) 1)=((2 ^ L:Nat):Int)-1:=by
 rcases (by omega:L=0∨L=1∨L=2∨L=3∨L=4∨L=5∨L=6∨L=7∨L=8) with rfl | rfl | rfl | rfl | rfl | rfl | rfl | rfl | rfl<;>decide
theorem qjd{p:List SpT}(h:areP p=true):p.length≤8∧∀s,s∈p→0≤s.1∧s.1≤s.2∧s.2≤5000:=by
 unfold areP at h
 rw[Bool.and_eq_true,decide_eq_true_eq,List.all_eq_true] at h
 refine ⟨h.1,fun s hs=>?_⟩
 have:=h.2 s hs
 unfold spOk qi7 at this
 rw[Bool.and_eq_true,Bool.and_eq_true,decide_eq_true_eq,decide_eq_true_eq,decide_eq_true_eq] at this
 omega
theorem qg5{p:List SpT}(h:∀s,s∈p→0≤s.1∧s.1≤s.2∧s.2≤5000)(up:Bool):StrB (p.map (endT up)):=by
 intro x hx
 obtain ⟨s,hs,rfl⟩:=List.mem_map.1 hx
 have:=h s hs
 cases up
 ·show 0≤s.1∧s.1≤5000;omega
 ·show 0≤s.2∧s.2≤5000;omega
theorem qoS{l:List Int}(h:StrB l)(q:Nat→Bool)(k:Nat):StrB (selT l q k):=fun x hx=>h x (qrX hx)
noncomputable def hldV(p:List SpT)(up:Bool)(load:Int):Bool:=decide (qeO p (qbN load 1 5000)=0)&&qeT (p.map (endT up)) load
theorem qd5(p:List SpT)(t:Bool):(qeO p t=0∧areP p=true∧t=true)∨(iNe (qeO p t) 0=true∧qeO p t≠0):=by
 unfold qeO
 cases areP p<;>cases t
 ·exact .inr ⟨rfl,by decide⟩
 ·exact .inr ⟨rfl,by decide⟩
 ·exact .inr ⟨rfl,by decide⟩
 ·exact .inl ⟨rfl,rfl,rfl⟩
theorem qv1(n:Nat)(p:List SpT)(load:Int)(hn:2000≤n):qgk n (p,(load,()))=some (hldV p false load,(hldV p true load,(qeO p (qbN load 1 5000),()))):=by
 rw[qoM]
 simp only[qns,Option.bind_some,qjc n p _ (show 100≤n by omega)]
 unfold hldV
 rcases qd5 p (qbN load 1 5000) with ⟨h0,ha,hw⟩ | ⟨h1,h2⟩
 ·obtain ⟨hl,hb⟩:=qjd ha
  rw[h0]
  simp only[show iNe (0:Int) 0=false from rfl,cond_false,qnx n p (show p.length≤50 by omega) (show 100≤n by omega),qtB n p (show p.length≤50 by omega) (show 100≤n by omega),Option.bind_some]
  rw[qoR n (p.map (·.1)) load (by rw[List.length_map];omega) (qg5 hb false) hn]
  simp only[Option.bind_some]
  rw[qoR n (p.map (·.2)) load (by rw[List.length_map];omega) (qg5 hb true) hn]
  rfl
 ·rw[h1,decide_eq_false h2]
  rfl
theorem qr5(p:List SpT)(up:Bool):selT (p.map (endT up)) (((2 ^ p.length:Nat):Int)-1).toNat.testBit p.length=p.map (endT up):=by
 rw[qoP _ _ p.length (by rw[List.length_map];exact Nat.le_refl _) fun i hi=>qv0 p.length i hi]
 exact List.take_of_length_le (by rw[List.length_map];exact Nat.le_refl _)
theorem quK(n:Nat)(p:List SpT)(load:Int)(hlp:p.length≤50)(hn:2000≤n):qdr n (p,(load,()))=some (hldV p false load,(hldV p true load,(qeO p (qbN load 1 5000),()))):=by
 rw[qkC]
 simp only[Option.bind_some,qkt n p load true hlp (show 100≤n by omega),Bool.and_true]
 unfold hldV
 rcases qd5 p (qbN load 1 5000) with ⟨h0,ha,hw⟩ | ⟨h1,h2⟩
 ·obtain ⟨hl,hb⟩:=qjd ha
  obtain ⟨g1,g2,g3⟩:=qr4 p.length hl
  have hpos:=Nat.two_pow_pos p.length
  rw[h0]
  simp only[show iNe (0:Int) 0=false from rfl,cond_false,g1,g3,Option.bind_some,qp6 n p (((2 ^ p.length:Nat):Int)-1) false (by omega) hl (by omega),qp6 n p (((2 ^ p.length:Nat):Int)-1) true (by omega) hl (by omega),qr5]
  rw[qnw n (p.map (endT false)) load (by rw[List.length_map];omega) (qg5 hb false) hn]
  simp only[Option.bind_some]
  rw[qnw n (p.map (endT true)) load (by rw[List.length_map];omega) (qg5 hb true) hn]
  rfl
 ·rw[h1,decide_eq_false h2]
  rfl
end Go.Proofs.YtbdockhccdkdiaaGreat
