/- Texts Dh0, Dh2, Dh3 in one. -/
import Derived.Test.YtbdockhccdkdiaaGreatLe
import Derived.Test.YtbdockhccdkdiaaGreatQd
import Derived.Test.YtbdockhccdkdiaaGreatDqN
/- Ropes, plain: when points hold a load, and how many may be missing. Nothing here speaks of the program. -/
set_option linter.constructorNameAsVariable false
set_option linter.unusedSimpArgs false
set_option linter.unusedVariables false
set_option linter.unusedSectionVars false
namespace Go.Proofs.YtbdockhccdkdiaaGreat
open Go Go.Proofs Go.RowKit
set_option maxHeartbeats 1000000
def shB(load:Int)(k:Nat)(s:Int):Bool:=decide (load≤(k:Int)*s)
def Hold(l:List Int)(load:Int):Prop:=∃k:Nat,0<k∧k≤l.countP (shB load k)
theorem qo2{l m:List Int}{load:Int}(h:l.Perm m)(hl:Hold l load):Hold m load:=by
 obtain ⟨k,h0,h1⟩:=hl
 exact ⟨k,h0,by rw[← h.countP_eq];exact h1⟩
theorem qqg{l m:List Int}{load:Int}(h:l.Sublist m)(hl:Hold l load):Hold m load:=by
 obtain ⟨k,h0,h1⟩:=hl
 exact ⟨k,h0,Nat.le_trans h1 h.countP_le⟩
theorem qsE{l:List Int}{load low:Int}(h:low≤load)(hl:Hold l load):Hold l low:=by
 obtain ⟨k,h0,h1⟩:=hl
 refine ⟨k,h0,Nat.le_trans h1 (List.countP_mono_left fun x _ hx=>?_)⟩
 unfold shB at *
 rw[decide_eq_true_eq] at *
 omega
theorem qos{load:Int}{k:Nat}{a b:Int}(h:a≤b)(ha:shB load k a=true):shB load k b=true:=by
 unfold shB at *
 rw[decide_eq_true_eq] at *
 exact Int.le_trans ha (Int.mul_le_mul_of_nonneg_left h (Int.natCast_nonneg k))
theorem qn1{load:Int}{k:Nat}:∀l m:List Int,l.length=m.length→(∀i (h:i<l.length) (h':i<m.length),l[i]≤m[i])→l.countP (shB load k)≤m.countP (shB load k)
 | [],_,_,_=>by simp
 | a::l,[],h,_=>by simp at h
 | a::l,b::m,h,hle=>by
  have h0:=hle 0 (by simp) (by simp)
  simp only[List.getElem_cons_zero] at h0
  have ih:=qn1 (load:=load) (k:=k) l m (by simpa using h) fun i hi hi'=>by
   have:=hle (i+1) (by simpa using hi) (by simpa using hi')
   simpa using this
  rw[List.countP_cons,List.countP_cons]
  cases ha:shB load k a with
  | true=>rw[qos h0 ha];simp;exact ih
  | false=>cases shB load k b<;>simp<;>omega
theorem qo3{l m:List Int}{load:Int}(h:l.length=m.length)(hle:∀i (h:i<l.length) (h':i<m.length),l[i]≤m[i])(hl:Hold l load):Hold m load:=by
 obtain ⟨k,h0,h1⟩:=hl
 exact ⟨k,h0,Nat.le_trans h1 (qn1 l m h hle)⟩
theorem qqh(load:Int):¬Hold [] load:=by
 rintro ⟨k,h0,h1⟩
 simp at h1
 omega
theorem qmU{l:List Int}{load:Int}(hs:l.Pairwise (fun a b=>b≤a)):(∃i,∃h:i<l.length,load≤((i:Int)+1)*l[i])↔Hold l load:=by
 constructor
 ·rintro ⟨i,hi,h⟩
  refine ⟨i+1,by omega,?_⟩
  have e:l.take (i+1)++l.drop (i+1)=l:=List.take_append_drop _ _
  have h1:(l.take (i+1)).countP (shB load (i+1))=(l.take (i+1)).length:=by
   rw[List.countP_eq_length]
   intro x hx
   obtain ⟨k,hk,rfl⟩:=List.getElem_of_mem hx
   rw[List.length_take] at hk
   rw[List.getElem_take]
   have:l[i]≤l[k]:=by
    by_cases hki:k=i
    ·subst hki;exact Int.le_refl _
    ·exact List.pairwise_iff_getElem.1 hs k i (by omega) hi (by omega)
   refine qos this ?_
   unfold shB
   rw[decide_eq_true_eq]
   rw[show ((i+1:Nat):Int)=(i:Int)+1 by omega]
   exact h
  have h2:l.countP (shB load (i+1))=(l.take (i+1)).countP (shB load (i+1))+(l.drop (i+1)).countP (shB load (i+1)):=by
   rw[← List.countP_append,e]
  rw[h2,h1,List.length_take]
  omega
 ·rintro ⟨k,h0,h1⟩
  have hkl:k≤l.length:=Nat.le_trans h1 List.countP_le_length
  refine ⟨k-1,by omega,?_⟩
  cases hb:shB load k (l[k-1]'(by omega)) with
  | true =>
   unfold shB at hb
   rw[decide_eq_true_eq] at hb
   rw[show ((k-1:Nat):Int)+1=(k:Int) by omega]
   exact hb
  | false =>
   exfalso
   have e:l.take (k-1)++l.drop (k-1)=l:=List.take_append_drop _ _
   have h2:l.countP (shB load k)=(l.take (k-1)).countP (shB load k)+(l.drop (k-1)).countP (shB load k):=by
    rw[← List.countP_append,e]
   have h3:(l.drop (k-1)).countP (shB load k)=0:=by
    rw[List.countP_eq_zero]
    intro x hx hx2
    obtain ⟨j,hj,rfl⟩:=List.getElem_of_mem hx
    rw[List.length_drop] at hj
    rw[List.getElem_drop] at hx2
    have:l[k-1+j]≤l[k-1]:=by
     by_cases hj0:j=0
     ·subst hj0;exact Int.le_refl _
     ·exact List.pairwise_iff_getElem.1 hs (k-1) (k-1+j) (by omega) (by omega) (by omega)
    rw[qos this hx2] at hb
    cases hb
   have h4:(l.take (k-1)).countP (shB load k)≤(l.take (k-1)).length:=List.countP_le_length
   rw[List.length_take] at h4
   omega
theorem qqC{l:List Int}{load:Int}(hp:∀s,s∈l→0≤s):Hold l load↔Hold (l.filter (shB load l.length)) load:=by
 constructor
 ·rintro ⟨k,h0,h1⟩
  refine ⟨k,h0,?_⟩
  have hkl:k≤l.length:=Nat.le_trans h1 List.countP_le_length
  rw[List.countP_filter]
  refine Nat.le_trans h1 (List.countP_mono_left fun x hx h2=>?_)
  rw[h2,Bool.true_and]
  unfold shB at *
  rw[decide_eq_true_eq] at *
  have:=Int.mul_le_mul_of_nonneg_right (show (k:Int)≤(l.length:Int) by omega) (hp x hx)
  omega
 ·exact qqg List.filter_sublist
theorem qtV{l:List Int}{load:Int}(h:(l.filter (shB load l.length)).length=l.length):Hold l load↔0<l.length:=by
 constructor
 ·rintro ⟨k,h0,h1⟩
  have:=Nat.le_trans h1 List.countP_le_length
  omega
 ·intro h0
  refine ⟨l.length,h0,?_⟩
  rw[List.countP_eq_length_filter,h]
  exact Nat.le_refl _
open Classical in
theorem qjR(P:Nat→Prop):∀n,P n→∃m,m≤n∧P m∧∀j,j<m→¬P j
 | 0,h=>⟨0,Nat.le_refl _,h,fun j hj=>by omega⟩
 | n+1,h=>by
  by_cases hx:∃j,j≤n∧P j
  ·obtain ⟨j,hj,hp⟩:=hx
   obtain ⟨m,h1,h2,h3⟩:=qjR P j hp
   exact ⟨m,by omega,h2,h3⟩
  ·exact ⟨n+1,Nat.le_refl _,h,fun j hj hp=>hx ⟨j,by omega,hp⟩⟩
noncomputable def qb3(l:List Int)(load:Int):Bool:=@decide (Hold l load) (Classical.propDecidable _)
theorem qef{l:List Int}{load:Int}:qb3 l load=true↔Hold l load:=@decide_eq_true_iff _ (Classical.propDecidable _)
theorem qmV{l:List Int}{load:Int}:qb3 l load=false↔¬Hold l load:=@decide_eq_false_iff_not _ (Classical.propDecidable _)
theorem forN{σ ξ:Type}(step:(σ→Option ξ)→σ→Option ξ)(N:Nat)(I:Nat→σ)(r:Option ξ)(h:∀k,k<N→∀rec,step rec (I k)=rec (I (k+1)))(he:∀rec,step rec (I N)=r)(m:Nat)(hm:N<m):qN m step (I 0)=r:=by
 have go:∀(j k m:Nat),k+j=N→j<m→qN m step (I k)=r:=by
  intro j
  induction j with
  | zero =>
   intro k m hk hm
   obtain ⟨m,rfl⟩:∃j,m=j+1:=⟨m-1,by omega⟩
   have:k=N:=by omega
   subst this
   rw[qbt,he]
  | succ j ih =>
   intro k m hk hm
   obtain ⟨m,rfl⟩:∃j,m=j+1:=⟨m-1,by omega⟩
   rw[qbt,h k (by omega)]
   exact ih (k+1) m (by omega) (by omega)
 exact go N 0 m (by omega) hm
theorem iLtN{a b:Nat}(h:a<b):iLt (a:Int) (b:Int)=true:=decide_eq_true (by omega)
theorem qk8{a b:Nat}(h:b≤a):iLt (a:Int) (b:Int)=false:=decide_eq_false (by omega)
theorem qqD(n:Nat)(a:Int)(l:List Int):qeu n ((a::l:List Int),())=Option.bind (qD (Nat.ble (nAdd (0:Nat) (List.length (a::l))) 17592186044416)) fun _=>(some ((List.append [] (a::l)),())):=by kernel_rfl
theorem qsF(n:Nat):qev n ([],())=some ([],()):=by kernel_rfl
theorem qsG(n:Nat)(a:Int)(l:List Int):qev n (a::l,())=qeu n ((a::l:List Int),()):=by kernel_rfl
theorem qsH(n:Nat)(l:List Int)(hl:l.length≤1000):qev n (l,())=some (l,()):=by
 cases l with
 | nil=>exact qsF n
 | cons a l =>
  rw[qsG]
  refine (qqD n a l).trans ?_
  rw[bleM (nAdd (0:Nat) (List.length (a::l))) 17592186044416 (Nat.le_trans (Nat.le_of_eq (Nat.zero_add _)) (Nat.le_trans hl (by decide)))]
  rfl
theorem rev0(n:Nat):qJ (n+20) (([]:List Int),())=some ([],()):=by kernel_rfl
theorem rev1(n:Nat)(a:Int):qJ (n+20) (([a]:List Int),())=some ([a],()):=by kernel_rfl
theorem rev2(n:Nat)(a b:Int):qJ (n+20) (([a,b]:List Int),())=some ([b,a],()):=by kernel_rfl
theorem rev3(n:Nat)(a b c:Int):qJ (n+20) (([a,b,c]:List Int),())=some ([c,b,a],()):=by kernel_rfl
theorem rev4(n:Nat)(a b c d:Int):qJ (n+20) (([a,b,c,d]:List Int),())=some ([d,c,b,a],()):=by kernel_rfl
theorem rev5(n:Nat)(a b c d e:Int):qJ (n+20) (([a,b,c,d,e]:List Int),())=some ([e,d,c,b,a],()):=by kernel_rfl
theorem rev6(n:Nat)(a b c d e f:Int):qJ (n+20) (([a,b,c,d,e,f]:List Int),())=some ([f,e,d,c,b,a],()):=by kernel_rfl
theorem rev7(n:Nat)(a b c d e f g:Int):qJ (n+20) (([a,b,c,d,e,f,g]:List Int),())=some ([g,f,e,d,c,b,a],()):=by kernel_rfl
theorem rev8(n:Nat)(a b c d e f g h:Int):qJ (n+20) (([a,b,c,d,e,f,g,h]:List Int),())=some ([h,g,f,e,d,c,b,a],()):=by kernel_rfl
theorem qva(n:Nat)(l:List Int)(hl:l.length≤8)(hn:20≤n):qJ n (l,())=some (l.reverse,()):=by
 obtain ⟨m,rfl⟩:∃m,n=m+20:=⟨n-20,by omega⟩
 match l,hl with
 | [],_=>exact rev0 m
 | [a],_=>exact rev1 m a
 | [a,b],_=>exact rev2 m a b
 | [a,b,c],_=>exact rev3 m a b c
 | [a,b,c,d],_=>exact rev4 m a b c d
 | [a,b,c,d,e],_=>exact rev5 m a b c d e
 | [a,b,c,d,e,f],_=>exact rev6 m a b c d e f
 | [a,b,c,d,e,f,g],_=>exact rev7 m a b c d e f g
 | [a,b,c,d,e,f,g,h],_=>exact rev8 m a b c d e f g h
 | a::b::c::d::e::f::g::h::i::l,hl=>exact absurd hl (by simp)
def StrB(l:List Int):Prop:=∀s,s∈l→0≤s∧s≤5000
theorem qqi{k:Nat}{s:Int}(hk:k≤8)(h:0≤s∧s≤5000):iW (iMul (k:Int) s)=(k:Int)*s:=by
 have:=Int.mul_le_mul (show (k:Int)≤8 by omega) h.2 h.1 (by omega)
 have h0:0≤(k:Int)*s:=Int.mul_nonneg (by omega) h.1
 exact qnR (by show _≤(k:Int)*s;omega) (by show (k:Int)*s≤_;omega)
theorem qqj(n:Nat)(l:List Int)(load:Int)(hl:l.length≤8)(hb:StrB l)(hn:2000≤n):qgT n (l,(load,()))=some (qb3 l load,()):=by
 rw[qnk]
 simp only[qsH n l (by omega),Option.bind_some,quO n l (by omega) hn]
 have hp:=qry (fun x y:Int=>decide (x<y)) l
 have hs:((qgy (fun x y:Int=>decide (x<y)) l).reverse).Pairwise (fun a b=>b≤a):=by
  rw[List.pairwise_reverse]
  exact qqf (fun x y:Int=>decide (x<y)) (fun x=>x) l fun x y _ _=>⟨fun h=>by have:=of_decide_eq_true h;omega,fun h=>by have:=of_decide_eq_false h;omega⟩
 have hlen:(qgy (fun x y:Int=>decide (x<y)) l).length=l.length:=hp.length_eq
 rw[qva n _ (by omega) (by omega)]
 simp only[Option.bind_some]
 have hp2:((qgy (fun x y:Int=>decide (x<y)) l).reverse).Perm l:=(List.reverse_perm _).trans hp
 have hlen2:((qgy (fun x y:Int=>decide (x<y)) l).reverse).length=l.length:=hp2.length_eq
 have hb2:StrB (qgy (fun x y:Int=>decide (x<y)) l).reverse:=fun s hs=>hb s (hp2.mem_iff.1 hs)
 have hH:qb3 l load=qb3 (qgy (fun x y:Int=>decide (x<y)) l).reverse load:=by
  rw[Bool.eq_iff_iff,qef,qef]
  exact ⟨qo2 hp2.symm,qo2 hp2⟩
 rw[hH]
 generalize (qgy (fun x y:Int=>decide (x<y)) l).reverse=m at *
 clear hp hlen
 have st:∀k (hk:k<m.length),∀rec,qeL n rec (load,(m,((m.length:Int),((k:Int),()))))=cond (decide (load≤((k:Int)+1)*m[k])) (some (Sum.inr (true,()))) (rec (load,(m,((m.length:Int),(((k+1:Nat):Int),()))))):=by
  intro k hk rec
  rw[qix]
  simp only[iLtN hk,cond_true,qff m hk,Option.bind_some,qeC (show k<9223372036854775807 by omega),qqi (show k+1≤8 by omega) (hb2 _ (List.getElem_mem hk))]
  rw[show ((k+1:Nat):Int)=(k:Int)+1 by omega]
 cases hh:qb3 m load with
 | true =>
  rw[qef,← qmU hs] at hh
  obtain ⟨i,hi,h⟩:=hh
  obtain ⟨k,hki,⟨hk,hk2⟩,hmin⟩:=qjR (fun k=>∃h:k<m.length,load≤((k:Int)+1)*m[k]) i ⟨hi,h⟩
  have:=forN (qeL n) k (fun k=>(load,(m,((m.length:Int),((k:Int),()))))) (some (Sum.inr (true,()))) (fun j hj rec=>by
   have:¬load≤((j:Int)+1)*m[j]:=fun hx=>hmin j hj ⟨by omega,hx⟩
   rw[st j (by omega),decide_eq_false this]
   rfl) (fun rec=>by rw[st k hk,decide_eq_true hk2];rfl) n (by omega)
  rw[show ((0:Nat):Int)=0 from rfl] at this
  rw[this]
  rfl
 | false =>
  rw[qmV,← qmU hs] at hh
  have:=forN (qeL n) m.length (fun k=>(load,(m,((m.length:Int),((k:Int),()))))) (some (Sum.inl ())) (fun j hj rec=>by
   rw[st j hj,decide_eq_false fun hx=>hh ⟨j,hj,hx⟩]
   rfl) (fun rec=>by
    rw[qix]
    simp only[qk8 (Nat.le_refl m.length),cond_false]) n (by omega)
  rw[show ((0:Nat):Int)=0 from rfl] at this
  rw[this]
  rfl
theorem qo4(n:Nat)(l:List Int)(load:Int)(hl:l.length≤8)(hb:StrB l)(hn:100≤n):qN n (qdJ n) (load,(l,((0:Int),([],()))))=some (load,(l,(l.filter (shB load l.length),()))):=by
 refine forN (qdJ n) l.length (fun k=>(load,(l,((k:Int),((l.take k).filter (shB load l.length),()))))) _ (fun k hk rec=>?_) (fun rec=>?_) n (by omega)
 ·have hlen:((l.take k).filter (shB load l.length)).length≤8:=by
   have h1:=List.length_filter_le (shB load l.length) (l.take k)
   rw[List.length_take] at h1
   omega
  rw[qf7]
  simp only[iLtN hk,cond_true,qff l hk,Option.bind_some,qqi hl (hb _ (List.getElem_mem hk)),bleM (nAdd ((l.take k).filter (shB load l.length)).length 1) 17592186044416 (by show ((l.take k).filter (shB load l.length)).length+1≤_;omega),qeC (show k<9223372036854775807 by omega)]
  rw[List.take_add_one,List.filter_append,List.getElem?_eq_getElem hk]
  show cond (shB load l.length l[k]) _ _=_
  cases hs:shB load l.length l[k] with
  | true=>simp[hs]
  | false=>simp[hs]
 ·rw[qf7]
  simp only[qk8 (Nat.le_refl l.length),cond_false,List.take_length]
theorem qsI(n:Nat)(load:Int)(hn:100≤n):∀(j:Nat) (l:List Int) (m:Nat),l.length≤j→j≤8→j<m→StrB l→qN m (qeV n) (load,(l,()))=some (qb3 l load,()):=by
 intro j
 induction j with
 | zero =>
  intro l m hl hj hm hb
  obtain ⟨m,rfl⟩:∃j,m=j+1:=⟨m-1,by omega⟩
  have:l=[]:=List.eq_nil_of_length_eq_zero (by omega)
  subst this
  rw[qbt,qf8,qo4 n [] load (by simp) hb hn]
  rw[qmV.2 (qqh load)]
  rfl
 | succ j ih =>
  intro l m hl hj hm hb
  obtain ⟨m,rfl⟩:∃j,m=j+1:=⟨m-1,by omega⟩
  rw[qbt,qf8,qo4 n l load (by omega) hb hn]
  simp only[Option.bind_some]
  have hle:=List.length_filter_le (shB load l.length) l
  by_cases h:(l.filter (shB load l.length)).length=l.length
  ·rw[h,show iEq (l.length:Int) (l.length:Int)=true by unfold iEq;simp]
   have:qb3 l load=decide (0<l.length):=by rw[Bool.eq_iff_iff,qef,qtV h,decide_eq_true_eq]
   rw[this]
   show some (decide ((l.length:Int)>0),())=_
   rw[show decide ((l.length:Int)>0)=decide (0<l.length) from decide_eq_decide.2 (by omega)]
  ·rw[show iEq ((l.filter (shB load l.length)).length:Int) (l.length:Int)=false from beq_eq_false_iff_ne.2 (by omega)]
   have:=ih (l.filter (shB load l.length)) m (by omega) (by omega) (by omega) fun s hs=>hb s (List.mem_filter.1 hs).1
   simp only[cond_false]
   rw[this]
   have e:qb3 l load=qb3 (l.filter (shB load l.length)) load:=by
    rw[Bool.eq_iff_iff,qef,qef]
    exact qqC fun s hs=>(hb s hs).1
   rw[e]
theorem qsJ(n:Nat)(l:List Int)(load:Int)(hl:l.length≤8)(hb:StrB l)(hn:2000≤n):qfK n (l,(load,()))=some (qb3 l load,()):=by
 rw[qjt]
 rw[qsI n load (by omega) 8 l n hl (by omega) (by omega) hb]
 rfl
abbrev SpT:=Int×Int
def spOk(s:SpT):Bool:=qh9 s.1 s.2 0 5000
def areP(p:List SpT):Bool:=decide (p.length≤8)&&p.all spOk
def qfO(p:List SpT)(told:Bool):Int:=cond (areP p) (cond told 0 1) 92
theorem qo5{α:Type}{P:α→Bool}{p:List α}(h:p.all P=false):∃k,∃hk:k<p.length,P p[k]=false∧∀j (hj:j<k),P (p[j]'(by omega))=true:=by
 have hx:∃k,∃hk:k<p.length,P p[k]=false:=by
  rw[List.all_eq_false] at h
  obtain ⟨x,hx,h⟩:=h
  obtain ⟨k,hk,rfl⟩:=List.getElem_of_mem hx
  exact ⟨k,hk,by simpa using h⟩
 obtain ⟨n,hn⟩:=hx
 obtain ⟨k,_,⟨hk,h1⟩,h2⟩:=qjR (fun k=>∃hk:k<p.length,P p[k]=false) n hn
 refine ⟨k,hk,h1,fun j hj=>?_⟩
 cases hp:P (p[j]'(by omega)) with
 | true=>rfl
 | false=>exact absurd ⟨by omega,hp⟩ (h2 j hj)
theorem qsK{α:Type}{P:α→Bool}{p:List α}(h:p.all P=true)(k:Nat)(hk:k<p.length):P p[k]=true:=List.all_eq_true.1 h _ (List.getElem_mem hk)
theorem qot(n:Nat)(p:List SpT)(told:Bool)(hn:100≤n):qfZ n (p,(told,()))=some (qfO p told,()):=by
 rw[qj1]
 unfold qfO areP
 by_cases h8:p.length≤8
 ·rw[show iGt (p.length:Int) 8=false from decide_eq_false (by omega),decide_eq_true h8]
  simp only[cond_false,Bool.true_and]
  rw[qe7,qci,qcp]
  have st:∀k (hk:k<p.length),∀rec,ql n rec (p,((p.length:Int),((k:Int),())))=cond (spOk p[k]) (rec (p,((p.length:Int),(((k+1:Nat):Int),())))) (some (Sum.inr ((k:Int),()))):=by
   intro k hk rec
   rw[qY]
   simp only[iLtN hk,cond_true,qff p hk,Option.bind_some,qeM,qjk,qrD,qeC (show k<9223372036854775807 by omega)]
   show cond (!spOk p[k]) _ _=_
   cases spOk p[k]<;>rfl
  cases ha:p.all spOk with
  | true =>
   have:=forN (ql n) p.length (fun k=>(p,((p.length:Int),((k:Int),())))) (some (Sum.inl ())) (fun j hj rec=>by rw[st j hj,qsK ha j hj];rfl) (fun rec=>by
    rw[qY]
    simp only[qk8 (Nat.le_refl p.length),cond_false]) n (by omega)
   rw[show ((0:Nat):Int)=0 from rfl] at this
   simp only[this,Option.bind_some,Sum.elim_inl]
   cases told<;>rfl
  | false =>
   obtain ⟨k,hk,hb,hbf⟩:=qo5 ha
   have:=forN (ql n) k (fun k=>(p,((p.length:Int),((k:Int),())))) (some (Sum.inr ((k:Int),()))) (fun j hj rec=>by rw[st j (by omega),hbf j hj];rfl) (fun rec=>by rw[st k hk,hb];rfl) n (by omega)
   rw[show ((0:Nat):Int)=0 from rfl] at this
   simp only[this,Option.bind_some,Sum.elim_inr,show iGe (k:Int) 0=true from decide_eq_true (by omega)]
   rfl
 ·rw[show iGt (p.length:Int) 8=true from decide_eq_true (by omega),decide_eq_false h8]
  rfl
theorem qma(n:Nat)(p:List SpT)(hl:p.length≤50)(hn:100≤n):qr n (p,())=some (areP p,()):=by
 rw[qiy]
 have st:∀k (hk:k<p.length),∀rec,qb2 n rec (p,((k:Int),()))=cond (spOk p[k]) (rec (p,(((k+1:Nat):Int),()))) (some (Sum.inr (false,()))):=by
  intro k hk rec
  rw[qe4]
  simp only[iLtN hk,cond_true,qff p hk,Option.bind_some,qtS,qeC (show k<9223372036854775807 by omega)]
  show cond (!spOk p[k]) _ _=_
  cases spOk p[k]<;>rfl
 unfold areP
 cases ha:p.all spOk with
 | true =>
  have:=forN (qb2 n) p.length (fun k=>(p,((k:Int),()))) (some (Sum.inl (p,()))) (fun j hj rec=>by rw[st j hj,qsK ha j hj];rfl) (fun rec=>by
   rw[qe4]
   simp only[qk8 (Nat.le_refl p.length),cond_false]) n (by omega)
  rw[show ((0:Nat):Int)=0 from rfl] at this
  simp only[this,Option.bind_some,Sum.elim_inl,Bool.and_true]
  show some (decide ((p.length:Int)≤8),())=_
  rw[show decide ((p.length:Int)≤8)=decide (p.length≤8) from decide_eq_decide.2 (by omega)]
 | false =>
  obtain ⟨k,hk,hb,hbf⟩:=qo5 ha
  have:=forN (qb2 n) k (fun k=>(p,((k:Int),()))) (some (Sum.inr (false,()))) (fun j hj rec=>by rw[st j (by omega),hbf j hj];rfl) (fun rec=>by rw[st k hk,hb];rfl) n (by omega)
  rw[show ((0:Nat):Int)=0 from rfl] at this
  simp only[this,Option.bind_some,Sum.elim_inr,Bool.and_false]
theorem qqk(n:Nat)(p:List SpT)(load:Int)(told:Bool)(hl:p.length≤50)(hn:100≤n):qes n (p,(load,(told,())))=some (qfO p (qdD load 1 5000&&told),()):=by
 rw[qiz]
 simp only[qma n p hl hn,Option.bind_some,qrE]
 unfold qfO
 cases areP p<;>cases qdD load 1 5000<;>cases told<;>rfl
theorem qsL(n:Nat)(p:List SpT)(hl:p.length≤50)(hn:100≤n):qdR n (p,(((),()),()))=some (p.map (·.1),()):=by
 rw[qhD]
 have:=forN (qds n) p.length (fun k=>(((),()),(p,((p.length:Int),((k:Int),((p.take k).map (·.1),())))))) (some (p.map (·.1),())) (fun k hk rec=>by
  rw[qem]
  simp only[iLtN hk,cond_true,qff p hk,Option.bind_some,qor,bleM (nAdd ((p.take k).map (·.1)).length 1) 17592186044416 (by show ((p.take k).map (·.1)).length+1≤_;rw[List.length_map,List.length_take];omega),qeC (show k<9223372036854775807 by omega)]
  rw[List.take_add_one,List.map_append,List.getElem?_eq_getElem hk]
  rfl) (fun rec=>by
   rw[qem]
   simp only[qk8 (Nat.le_refl p.length),cond_false,List.take_length]) n (by omega)
 rw[show ((0:Nat):Int)=0 from rfl,List.take_zero,List.map_nil] at this
 rw[this]
 rfl
theorem qrG(n:Nat)(p:List SpT)(hl:p.length≤50)(hn:100≤n):qdE n (p,(((),()),()))=some (p.map (·.2),()):=by
 rw[qhk]
 have:=forN (qdh n) p.length (fun k=>(((),()),(p,((p.length:Int),((k:Int),((p.take k).map (·.2),())))))) (some (p.map (·.2),())) (fun k hk rec=>by
  rw[qee]
  simp only[iLtN hk,cond_true,qff p hk,Option.bind_some,qn0,bleM (nAdd ((p.take k).map (·.2)).length 1) 17592186044416 (by show ((p.take k).map (·.2)).length+1≤_;rw[List.length_map,List.length_take];omega),qeC (show k<9223372036854775807 by omega)]
  rw[List.take_add_one,List.map_append,List.getElem?_eq_getElem hk]
  rfl) (fun rec=>by
   rw[qee]
   simp only[qk8 (Nat.le_refl p.length),cond_false,List.take_length]) n (by omega)
 rw[show ((0:Nat):Int)=0 from rfl,List.take_zero,List.map_nil] at this
 rw[this]
 rfl
def endT(up:Bool)(s:SpT):Int:=cond up s.2 s.1
theorem qq6{p:List SpT}(h:areP p=true):p.length≤8∧∀s,s∈p→0≤s.1∧s.1≤s.2∧s.2≤5000:=by
 unfold areP at h
 rw[Bool.and_eq_true,decide_eq_true_eq,List.all_eq_true] at h
 refine ⟨h.1,fun s hs=>?_⟩
 have:=h.2 s hs
 unfold spOk qh9 at this
 rw[Bool.and_eq_true,Bool.and_eq_true,decide_eq_true_eq,decide_eq_true_eq,decide_eq_true_eq] at this
 omega
theorem qql{p:List SpT}(h:∀s,s∈p→0≤s.1∧s.1≤s.2∧s.2≤5000)(up:Bool):StrB (p.map (endT up)):=by
 intro x hx
 obtain ⟨s,hs,rfl⟩:=List.mem_map.1 hx
 have:=h s hs
 cases up
 ·show 0≤s.1∧s.1≤5000;omega
 ·show 0≤s.2∧s.2≤5000;omega
noncomputable def hldV(p:List SpT)(up:Bool)(load:Int):Bool:=decide (qfO p (qdD load 1 5000)=0)&&qb3 (p.map (endT up)) load
theorem qj2{p:List SpT}{t:Bool}:qfO p t=0↔areP p=true∧t=true:=by
 unfold qfO
 cases areP p<;>cases t<;>simp
theorem qmb(p:List SpT)(t:Bool):(qfO p t=0∧areP p=true∧t=true)∨(iNe (qfO p t) 0=true∧qfO p t≠0):=by
 unfold qfO
 cases areP p<;>cases t
 ·exact .inr ⟨rfl,by decide⟩
 ·exact .inr ⟨rfl,by decide⟩
 ·exact .inr ⟨rfl,by decide⟩
 ·exact .inl ⟨rfl,rfl,rfl⟩
theorem qnm(n:Nat)(p:List SpT)(load:Int)(hn:2000≤n):qfM n (p,(load,()))=some (hldV p false load,(hldV p true load,(qfO p (qdD load 1 5000),()))):=by
 rw[qnl]
 simp only[qsD,Option.bind_some,qot n p _ (show 100≤n by omega)]
 unfold hldV
 rcases qmb p (qdD load 1 5000) with ⟨h0,ha,hw⟩ | ⟨h1,h2⟩
 ·obtain ⟨hl,hb⟩:=qq6 ha
  rw[h0]
  simp only[show iNe (0:Int) 0=false from rfl,cond_false,qsL n p (show p.length≤50 by omega) (show 100≤n by omega),qrG n p (show p.length≤50 by omega) (show 100≤n by omega),Option.bind_some]
  rw[qqj n (p.map (·.1)) load (by rw[List.length_map];omega) (qql hb false) hn]
  simp only[Option.bind_some]
  rw[qqj n (p.map (·.2)) load (by rw[List.length_map];omega) (qql hb true) hn]
  rfl
 ·rw[h1,decide_eq_false h2]
  rfl
end Go.Proofs.YtbdockhccdkdiaaGreat
