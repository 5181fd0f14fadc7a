/- Texts Dp12, Dp13, Dp14, Dp15, Dp16 in one. -/
import Derived.Test.YtklkodbibffohaaGreatPb
/- Beds, plain: the reference's queue, and what requests need. -/
set_option linter.constructorNameAsVariable false
set_option linter.unusedSimpArgs false
set_option linter.unusedVariables false
set_option linter.unusedSectionVars false
namespace Go.Proofs.YtklkodbibffohaaGreat
open Go Go.Proofs Go.RowKit
set_option maxHeartbeats 1000000
theorem qJY{α β:Type}(g:β→List α):∀(l:List β) (b:List α),l.foldl (fun b x=>b++g x) b=b++l.flatMap g
 | [],b=>by simp
 | x::l,b=>by rw[List.foldl_cons,qJY g l];simp
theorem qUe{α:Type}{l:List α}{p:α→Bool}{k:Nat}(hk:k<l.length)(h:p l[k]=true)(h':(l.take k).any p=false):l.find? p=some l[k]:=by
 rw[List.find?_eq_some_iff_getElem]
 refine ⟨h,k,hk,rfl,fun j hj=>?_⟩
 rw[List.any_eq_false] at h'
 have:=h' l[j] (List.mem_take_iff_getElem.2 ⟨j,by omega,rfl⟩)
 simpa using this
def isIK(i k:Int)(m:Msg):Bool:=decide (m.2.1=i)&&decide (m.1=k)
def qru(l:List Msg)(i k:Int):List Msg:=(l.find? (isIK i k)).toList
theorem qFV(l:List Msg)(i k:Int):(qru l i k).length≤1:=by unfold qru;cases l.find? (isIK i k)<;>simp
theorem qTw(n:Nat)(l out:List Msg)(i k:Int)(hl:l.length≤1000)(ho:out.length≤1000)(hn:2000≤n):qe n (qlj n) (l,(i,(k,((0:Int),(out,())))))=some (l,(i,(k,(out++qru l i k,())))):=by
 have h:=qhv (step:=qlj n) l (fun j=>(l,(i,(k,((j:Int),(out,())))))) (isIK i k) (fun j=>(l,(i,(k,(out++(l[j]?).toList,()))))) (l,(i,(k,(out,())))) (fun rec j hj=>by
  rw[qtq]
  simp only[qN hj,cond_true,qZ l hj,Option.bind_some,qw (show j<9223372036854775807 by omega)]
  unfold isIK
  rw[qcS (by rw[Nat.ble_eq];unfold nAdd;omega)]
  by_cases h1:l[j].2.1=i
  ·by_cases h2:l[j].1=k
   ·rw[qdp h1,qdp h2];simp[h1,h2,List.getElem?_eq_getElem hj]
   ·rw[qdp h1,qhw h2];simp[h2]
  ·rw[qhw h1];simp[h1]) (fun rec=>by
  rw[qtq]
  simp only[qT,cond_false]) (n:=n) (by omega)
 unfold qru
 rcases h with ⟨h1,h2⟩ | ⟨j,hj,h1,h2,h3⟩
 ·rw[List.find?_eq_none.2 (fun x hx=>by rw[List.any_eq_false] at h1;exact h1 x hx)]
  simpa using h2
 ·rw[qUe hj h1 h2]
  rw[List.getElem?_eq_getElem hj] at h3
  exact h3
def refD(l:List Msg):List Msg:=(List.range 100).flatMap fun i:Nat=>qru l i 1++qru l i 2
theorem qQw{β α:Type}(g:β→List α)(c:Nat):∀l:List β,(∀x,x∈l→(g x).length≤c)→(l.flatMap g).length≤c*l.length
 | [],_=>by simp
 | x::l,h=>by
  have h1:=qQw g c l fun y hy=>h y (List.mem_cons_of_mem _ hy)
  have h2:=h x List.mem_cons_self
  rw[List.flatMap_cons,List.length_append,List.length_cons,Nat.mul_add]
  omega
theorem qPA(n:Nat)(l:List Msg)(hl:l.length≤1000)(hn:2000≤n):qqW n (l,())=some (refD l,()):=by
 rw[qDR]
 have h:=qpc (step:=qo8 n) (List.range 100) (fun k b=>(l,((k:Int),(b,())))) (fun b (i:Nat)=>b++(qru l i 1++qru l i 2)) [] (fun b=>(b,())) (fun rec k b hk hb=>by
  have hk':k<100:=by simpa using hk
  have hbl:b.length≤200:=by
   rw[hb,qJY]
   have:=qQw (fun i:Nat=>qru l i 1++qru l i 2) 2 ((List.range 100).take k) fun i _=>by
    have:=qFV l i 1
    have:=qFV l i 2
    simp
    omega
   have h2:((List.range 100).take k).length≤100:=by simp;omega
   simp at this ⊢
   omega
  have p1:=qFV l (k:Int) 1
  have p2:=qFV l (k:Int) 2
  obtain ⟨n,rfl⟩:∃m,n=m+3:=⟨n-3,by omega⟩
  rw[qtr]
  rw[show iLe (k:Int) 99=true from decide_eq_true (by omega)]
  simp only[cond_true]
  rw[ql,qmQ]
  simp only[show iLe (1:Int) 2=true from rfl,cond_true,qTw (n+3) l b k 1 hl (by omega) hn,Option.bind_some]
  rw[show iW (iAdd 1 1)=2 from rfl,ql,qmQ]
  simp only[show iLe (2:Int) 2=true from rfl,cond_true,qTw (n+3) l (b++qru l k 1) k 2 hl (by simp;omega) hn,Option.bind_some]
  rw[show iW (iAdd 2 1)=3 from rfl,ql,qmQ]
  simp only[show iLe (3:Int) 2=false from rfl,cond_false,Option.bind_some,qw (show k<9223372036854775807 by omega),List.getElem_range,List.append_assoc]) (fun rec b=>by
  rw[qtr]
  simp only[List.length_range]
  rfl) (n:=n) (by simp;omega)
 show Option.bind (qe n _ (l,(((0:Nat):Int),([],())))) _=_
 rw[h,qJY]
 rfl
theorem qPB{i k:Int}{m:Msg}:isIK i k m=true↔m.2.1=i∧m.1=k:=by unfold isIK;simp
theorem qw0{l:List Msg}{i k:Int}{x:Msg}(h:x∈qru l i k):x∈l∧x.2.1=i∧x.1=k:=by
 unfold qru at h
 rw[Option.mem_toList] at h
 exact ⟨List.mem_of_find?_eq_some h,qPB.1 (List.find?_some h)⟩
theorem qW3{l:List Msg}(M:Msgs l){x:Msg}(h:x∈l):x∈qru l x.2.1 x.1:=by
 unfold qru
 rw[Option.mem_toList]
 cases hf:l.find? (isIK x.2.1 x.1) with
 | none =>
  rw[List.find?_eq_none] at hf
  exact absurd (qPB.2 ⟨rfl,rfl⟩) (hf x h)
 | some y =>
  have h1:=qPB.1 (List.find?_some hf)
  rw[M.cl y x (List.mem_of_find?_eq_some hf) h h1.1 h1.2]
theorem qYb{l:List Msg}(M:Msgs l):refD l=qeB l:=by
 refine qEG key1 _ _ ?_ (qFU M) fun x=>?_
 ·unfold refD
  rw[List.pairwise_flatMap]
  refine ⟨fun i _=>?_,?_⟩
  ·rw[List.pairwise_append]
   have one:∀k,(qru l i k).Pairwise (fun a b=>key1 a<key1 b):=fun k=>by
    have:=qFV l i k
    match qru l i k,this with
    | [],_=>exact List.Pairwise.nil
    | [x],_=>exact List.pairwise_singleton _ _
   refine ⟨one 1,one 2,fun a ha b hb=>?_⟩
   have h1:=qw0 ha
   have h2:=qw0 hb
   unfold key1
   omega
  ·refine List.Pairwise.imp (fun {i j} hij a ha b hb=>?_) (List.pairwise_lt_range (n:=100))
   have h1:a∈l∧a.2.1=(i:Int)∧(a.1=1∨a.1=2):=by
    rcases List.mem_append.1 ha with h | h
    ·have:=qw0 h;exact ⟨this.1,this.2.1,.inl this.2.2⟩
    ·have:=qw0 h;exact ⟨this.1,this.2.1,.inr this.2.2⟩
   have h2:b∈l∧b.2.1=(j:Int)∧(b.1=1∨b.1=2):=by
    rcases List.mem_append.1 hb with h | h
    ·have:=qw0 h;exact ⟨this.1,this.2.1,.inl this.2.2⟩
    ·have:=qw0 h;exact ⟨this.1,this.2.1,.inr this.2.2⟩
   unfold key1
   omega
 ·rw[qfn]
  unfold refD
  rw[List.mem_flatMap]
  constructor
  ·rintro ⟨i,_,hx⟩
   rcases List.mem_append.1 hx with h | h
   ·exact (qw0 h).1
   ·exact (qw0 h).1
  ·intro hx
   have h1:=M.id x hx
   refine ⟨x.2.1.toNat,by simp;omega,?_⟩
   have h2:=qW3 M hx
   rw[show ((x.2.1.toNat:Nat):Int)=x.2.1 by omega]
   rcases M.kd x hx with h | h<;>rw[h] at h2<;>simp[h2]
def qlo(m x:Msg):Bool:=decide (x.2.2.1<m.2.2.1)||(decide (x.2.2.1=m.2.2.1)&&decide (x.2.1<m.2.1))
def insS(m:Msg)(out:List Msg):List Msg:=out.takeWhile (qlo m)++m::out.dropWhile (qlo m)
theorem qZa(n:Nat)(all:List Msg)(i:Int)(m:Msg):∀(B A:List Msg) (n':Nat),A.length+B.length≤1000→B.length<n' →
  qe n' (qkh n) (all,(i,((A.length:Int),(m,(A++B,())))))=some (all,(i,(((A++B.takeWhile (qlo m)).length:Int),(m,(A++B,()))))):=by
 intro B
 induction B with
 | nil =>
  intro A n' hl hn
  obtain ⟨n',rfl⟩:∃m,n'=m+1:=⟨n'-1,by omega⟩
  rw[ql,qvX]
  simp only[List.append_nil,qT,cond_false,List.takeWhile_nil]
 | cons x B ih =>
  intro A n' hl hn
  simp only[List.length_cons] at hl hn
  obtain ⟨n',rfl⟩:∃m,n'=m+1:=⟨n'-1,by omega⟩
  rw[ql,qvX]
  have hk:A.length<(A++x::B).length:=by simp
  have hx:(A++x::B)[A.length]?=some x:=by simp
  have ih':=ih (A++[x]) n' (by simp;omega) (by omega)
  simp only[List.length_append,List.length_cons,List.length_nil,Nat.zero_add,List.append_assoc,List.cons_append,List.nil_append] at ih'
  simp only[qN hk,cond_true,qn3,qrt,hx,Option.bind_some,qw (show A.length<9223372036854775807 by omega)]
  rw[List.takeWhile_cons]
  by_cases h1:x.2.2.1<m.2.2.1
  ·rw[show iLt x.2.2.1 m.2.2.1=true from decide_eq_true h1,show qlo m x=true by unfold qlo;simp[h1]]
   simp only[cond_true,if_true,List.length_append,List.length_cons]
   rw[ih']
  ·rw[show iLt x.2.2.1 m.2.2.1=false from decide_eq_false h1]
   by_cases h2:x.2.2.1=m.2.2.1
   ·rw[qdp h2]
    by_cases h3:x.2.1<m.2.1
    ·rw[show iLt x.2.1 m.2.1=true from decide_eq_true h3,show qlo m x=true by unfold qlo;simp[h2,h3]]
     simp only[cond_true,cond_false,if_true,List.length_append,List.length_cons]
     rw[ih']
    ·rw[show iLt x.2.1 m.2.1=false from decide_eq_false h3,show qlo m x=false by unfold qlo;simp[h2,h3]]
     simp
   ·rw[qhw h2,show qlo m x=false by unfold qlo;simp[h1,h2]]
    simp
def qqA(all:List Msg)(m:Msg):Bool:=decide (m.1=1) && !all.any fun y=>decide (y.1=2)&&decide (y.2.1=m.2.1)
theorem qQx(m:Msg)(out:List Msg):(insS m out).Perm (m::out):=by
 unfold insS
 refine List.perm_middle.trans (List.Perm.cons m ?_)
 rw[List.takeWhile_append_dropWhile]
theorem qxw(p:Msg→Bool):∀(l out:List Msg),(l.foldl (fun b m=>cond (p m) (insS m b) b) out).Perm (out++l.filter p)
 | [],out=>by simp
 | x::l,out=>by
  rw[List.foldl_cons,List.filter_cons]
  cases h:p x with
  | true =>
   simp only[cond_true,if_true]
   refine (qxw p l _).trans (((qQx x out).append_right _).trans ?_)
   exact List.perm_middle.symm
  | false=>simpa using qxw p l out
theorem qSM{m:Msg}{out:List Msg}(hm:0≤m.2.1∧m.2.1≤99)(ho:∀x,x∈out→0≤x.2.1∧x.2.1≤99)(h:out.Pairwise (fun a b=>key2 a≤key2 b)):(insS m out).Pairwise (fun a b=>key2 a≤key2 b):=by
 unfold insS
 have hlo:∀x,x∈out→(qlo m x=true→key2 x≤key2 m)∧(qlo m x=false→key2 m≤key2 x):=fun x hx=>by
  have:=ho x hx
  unfold qlo key2
  simp only[Bool.or_eq_true,Bool.and_eq_true,decide_eq_true_eq,Bool.or_eq_false_iff,Bool.and_eq_false_iff,decide_eq_false_iff_not]
  omega
 rw[List.pairwise_append,List.pairwise_cons]
 have h1:=h.sublist (List.takeWhile_sublist (qlo m))
 have h2:=h.sublist (List.dropWhile_sublist (qlo m))
 have hA:∀x,x∈out.takeWhile (qlo m)→key2 x≤key2 m:=fun x hx=>(hlo x ((List.takeWhile_sublist _).subset hx)).1 (by
  have:=List.all_takeWhile (p:=qlo m) (l:=out)
  rw[List.all_eq_true] at this
  exact this x hx)
 have hB:∀x,x∈out.dropWhile (qlo m)→key2 m≤key2 x:=fun x hx=>by
  cases hd:out.dropWhile (qlo m) with
  | nil=>rw[hd] at hx;cases hx
  | cons y r =>
   have hy:qlo m y=false:=by
    have:=List.head?_dropWhile_not (qlo m) out
    rw[hd] at this
    simpa using this
   have hym:y∈out:=(List.dropWhile_sublist (qlo m)).subset (by rw[hd];exact List.mem_cons_self)
   have h3:=(hlo y hym).2 hy
   rw[hd] at hx h2
   rcases List.mem_cons.1 hx with rfl | hx
   ·exact h3
   ·exact Int.le_trans h3 ((List.pairwise_cons.1 h2).1 x hx)
 refine ⟨h1,⟨hB,h2⟩,fun a ha b hb=>?_⟩
 rcases List.mem_cons.1 hb with rfl | hb
 ·exact hA a ha
 ·exact Int.le_trans (hA a ha) (hB b hb)
theorem qzk(p:Msg→Bool):∀(l out:List Msg),(∀x,x∈out++l→0≤x.2.1∧x.2.1≤99)→out.Pairwise (fun a b=>key2 a≤key2 b)→(l.foldl (fun b m=>cond (p m) (insS m b) b) out).Pairwise (fun a b=>key2 a≤key2 b)
 | [],out,_,h=>h
 | x::l,out,hid,h=>by
  rw[List.foldl_cons]
  cases hp:p x with
  | true =>
   refine qzk p l _ (fun y hy=>?_) (qSM (hid x (by simp)) (fun y hy=>hid y (by simp[hy])) h)
   rcases List.mem_append.1 hy with hy | hy
   ·rcases List.mem_cons.1 ((qQx x out).mem_iff.1 hy) with rfl | hy
    ·exact hid _ (by simp)
    ·exact hid _ (by simp[hy])
   ·exact hid _ (by simp[hy])
  | false=>exact qzk p l out (fun y hy=>hid y (by rcases List.mem_append.1 hy with hy | hy<;>simp[hy])) h
theorem qPC{all:List Msg}(M:Msgs all)(hs:all.Pairwise (fun a b=>key1 a<key1 b)){k:Nat}(hk:k<all.length)(h1:all[k].1=1):(all.any fun y=>decide (y.1=2)&&decide (y.2.1=all[k].2.1))=true↔∃h:k+1<all.length,all[k+1].2.1=all[k].2.1:=by
 rw[List.pairwise_iff_getElem] at hs
 rw[List.any_eq_true]
 constructor
 ·rintro ⟨y,hy,h2⟩
  simp only[Bool.and_eq_true,decide_eq_true_eq] at h2
  obtain ⟨j,hj,rfl⟩:=List.mem_iff_getElem.1 hy
  have hkj:k<j:=by
   rcases Nat.lt_trichotomy k j with h | h | h
   ·exact h
   ·subst h;omega
   ·have:=hs j k hj hk h
    unfold key1 at this
    omega
  have hj1:j=k+1:=by
   rcases Nat.lt_or_ge (k+1) j with h | h
   ·have e1:=hs k (k+1) hk (by omega) (by omega)
    have e2:=hs (k+1) j (by omega) hj h
    unfold key1 at e1 e2
    omega
   ·omega
  subst hj1
  exact ⟨hj,h2.2⟩
 ·rintro ⟨h,h2⟩
  refine ⟨all[k+1],List.getElem_mem h,?_⟩
  have e1:=hs k (k+1) hk h (by omega)
  have e2:=M.kd all[k+1] (List.getElem_mem h)
  unfold key1 at e1
  simp only[Bool.and_eq_true,decide_eq_true_eq]
  omega
theorem qSN(n:Nat)(all:List Msg)(M:Msgs all)(hs:all.Pairwise (fun a b=>key1 a<key1 b))(hl:all.length≤900)(hn:2000≤n) :
  qe n (qm7 n) (all,((0:Int),([],())))=some (all.foldl (fun b m=>cond (qqA all m) (insS m b) b) [],()):=by
 refine qpc (step:=qm7 n) all (fun k b=>(all,((k:Int),(b,())))) (fun b m=>cond (qqA all m) (insS m b) b) [] (fun b=>(b,())) (fun rec k b hk hb=>?_) (fun rec b=>by
  rw[qvY]
  simp only[qT,cond_false]) (n:=n) (by omega)
 have hbl:b.length≤k:=by
  rw[hb,(qxw _ _ _).length_eq]
  have:=List.length_filter_le (qqA all) (all.take k)
  simp at this ⊢
  omega
 rw[qvY]
 simp only[qN hk,cond_true,qZ all hk,Option.bind_some,qw (show k<9223372036854775807 by omega)]
 have ins:(Option.bind (qe n (qkh n) (all,((k:Int),((0:Int),(all[k],(b,())))))) fun y1=>(Option.bind (cutO (List.length y1.2.2.2.2.1) y1.2.2.1) fun y2=>(Option.bind (cutO (List.length y1.2.2.2.2.1) y1.2.2.1) fun y3=>(Option.bind (q9 (Nat.ble (y3+((List.length y1.2.2.2.2.1)-y3)) (List.length y1.2.2.2.2.1))) fun _=>(Option.bind (q9 (Nat.ble (nAdd (1:Nat) (List.length (List.take ((List.length y1.2.2.2.2.1)-y3) (List.drop y3 y1.2.2.2.2.1)))) 2513169434916)) fun _=>(Option.bind (q9 (Nat.ble y2 (List.length y1.2.2.2.2.1))) fun _=>(Option.bind (q9 (Nat.ble (nAdd (List.length (List.take y2 y1.2.2.2.2.1)) (List.length (List.append (y1.2.2.2.1::[]) (List.take ((List.length y1.2.2.2.2.1)-y3) (List.drop y3 y1.2.2.2.2.1))))) 2513169434916)) fun _=>(rec (y1.1,((iW (iAdd y1.2.1 (1:Int))),((List.append (List.take y2 y1.2.2.2.2.1) (List.append (y1.2.2.2.1::[]) (List.take ((List.length y1.2.2.2.2.1)-y3) (List.drop y3 y1.2.2.2.2.1)))),())))))))))))=rec (all,(((k+1:Nat):Int),(insS all[k] b,()))):=by
  have h:=qZa n all k all[k] b [] n (by simp;omega) (by omega)
  simp only[List.nil_append,List.length_nil] at h
  rw[show ((0:Nat):Int)=0 from rfl] at h
  rw[h]
  simp only[Option.bind_some]
  obtain ⟨A,B,hA,hB,hAB⟩:∃A B,b.takeWhile (qlo all[k])=A∧b.dropWhile (qlo all[k])=B∧b=A++B:=⟨_,_,rfl,rfl,(List.takeWhile_append_dropWhile).symm⟩
  unfold insS
  rw[hA,hB]
  have hlen:A.length≤b.length:=by rw[hAB];simp
  have htk:List.take A.length b=A:=by rw[hAB];simp
  have hdr:List.drop A.length b=B:=by rw[hAB];simp
  have hBl:b.length-A.length=B.length:=by rw[hAB];simp
  have hbl2:A.length+B.length=b.length:=by omega
  rw[qCr hlen]
  simp only[Option.bind_some,htk,hdr,hBl,List.take_length]
  rw[qcS (by rw[Nat.ble_eq];omega),qcS (by rw[Nat.ble_eq];unfold nAdd;omega),qcS (by rw[Nat.ble_eq];omega),qcS (by rw[Nat.ble_eq];unfold nAdd;simp[List.append_eq];omega)]
  simp only[Option.bind_some,qw (show k<9223372036854775807 by omega)]
  rfl
 by_cases h1:all[k].1=1
 ·rw[qh4 h1]
  simp only[cond_false]
  by_cases h2:k+1<all.length
  ·rw[qN h2]
   simp only[cond_true,qZ all h2,Option.bind_some]
   by_cases h3:all[k+1].2.1=all[k].2.1
   ·rw[qdp h3]
    have:qqA all all[k]=false:=by unfold qqA;rw[(qPC M hs hk h1).2 ⟨h2,h3⟩];simp
    rw[this];rfl
   ·rw[qhw h3]
    have:qqA all all[k]=true:=by
     unfold qqA
     have:(all.any fun y=>decide (y.1=2)&&decide (y.2.1=all[k].2.1))=false:=by
      rw[← Bool.not_eq_true]
      exact fun h=>by obtain ⟨_,h⟩:=(qPC M hs hk h1).1 h;exact h3 h
     rw[this];simp[h1]
    rw[this]
    simp only[cond_false,cond_true]
    exact ins
  ·rw[show iLt ((k+1:Nat):Int) (all.length:Int)=false from decide_eq_false (by omega)]
   have:qqA all all[k]=true:=by
    unfold qqA
    have:(all.any fun y=>decide (y.1=2)&&decide (y.2.1=all[k].2.1))=false:=by
     rw[← Bool.not_eq_true]
     exact fun h=>by obtain ⟨h,_⟩:=(qPC M hs hk h1).1 h;exact h2 h
    rw[this];simp[h1]
   rw[this]
   simp only[cond_false,cond_true]
   exact ins
 ·rw[qpd h1]
  have:qqA all all[k]=false:=by unfold qqA;simp[h1]
  rw[this];rfl
theorem qSO(n:Nat)(l:List Msg)(M:Msgs l)(hl:l.length≤900)(hn:2000≤n):quA n (l,())=some (qeC l,()):=by
 have hs:=qFU M
 have M':Msgs (qeB l):=⟨fun m hm=>M.kd m (qfn.1 hm),fun m hm=>M.id m (qfn.1 hm),fun x y hx hy=>M.cl x y (qfn.1 hx) (qfn.1 hy)⟩
 have hdl:=qDg l
 rw[qGy,qPA n l (by omega) hn,qYb M]
 simp only[Option.bind_some]
 rw[qSN n _ M' hs (by omega) hn]
 simp only[Option.bind_some]
 have hp:=qxw (qqA (qeB l)) (qeB l) []
 rw[List.nil_append] at hp
 have h1:=qzk (qqA (qeB l)) (qeB l) [] (fun x hx=>M'.id x (by simpa using hx)) List.Pairwise.nil
 have h2:((qeB l).filter (qqA (qeB l))).Pairwise (fun a b=>a≠b):=(hs.sublist List.filter_sublist).imp fun {a b} h e=>by subst e;omega
 have hm:∀x,x∈(qeB l).foldl (fun b m=>cond (qqA (qeB l) m) (insS m b) b) []↔x∈qeB l∧qqA (qeB l) x=true:=fun x=>by rw[hp.mem_iff,List.mem_filter]
 have h3:=qQv key2 h1 (hp.symm.pairwise h2 (fun {a b} h e=>h e.symm)) fun x y hx hy h=>by
  have hx':=(hm x).1 hx
  have hy':=(hm y).1 hy
  have i1:=M'.id x hx'.1
  have i2:=M'.id y hy'.1
  unfold qqA at hx' hy'
  simp only[Bool.and_eq_true,decide_eq_true_eq] at hx' hy'
  unfold key2 at h
  exact M'.cl x y hx'.1 hy'.1 (by omega) (by rw[hx'.2.1,hy'.2.1])
 congr 2
 refine qEG key2 _ _ h3 (qy1 M) fun x=>?_
 rw[hm,qm9]
 unfold qqA Live
 simp only[Bool.and_eq_true,Bool.not_eq_true',decide_eq_true_eq,qfn]
 rw[List.any_eq_false]
 constructor
 ·rintro ⟨h1,h2,h3⟩
  refine ⟨h1,by omega,fun y hy h4 h5=>h3 y (qfn.2 hy) (by simp[h4,h5])⟩
 ·rintro ⟨h1,h2,h3⟩
  refine ⟨h1,by rcases M.kd x h1 with h | h;exact h;exact absurd h h2,fun y hy h4=>?_⟩
  simp only[Bool.and_eq_true,decide_eq_true_eq] at h4
  exact h3 y (qfn.1 hy) h4.1 h4.2
end Go.Proofs.YtklkodbibffohaaGreat
/- Beds, plain: what requests need; the beds that a cancellation frees. -/
namespace Go.Proofs.YtklkodbibffohaaGreat
open Go Go.Proofs Go.RowKit
set_option maxHeartbeats 1000000
end Go.Proofs.YtklkodbibffohaaGreat
/- Beds, plain: queues. -/
namespace Go.Proofs.YtklkodbibffohaaGreat
open Go Go.Proofs Go.RowKit
set_option maxHeartbeats 1000000
theorem qSk{l:List Msg}(M:Msgs l){x y:Msg}(hx:x∈qeC l)(hy:y∈qeC l)(h:x.2.1=y.2.1):x=y:=by
 have h1:=qm9.1 hx
 have h2:=qm9.1 hy
 have k1:=M.kd x h1.1
 have k2:=M.kd y h2.1
 have e1:x.1=1:=by rcases k1 with k | k;exact k;exact absurd k h1.2.1
 have e2:y.1=1:=by rcases k2 with k | k;exact k;exact absurd k h2.2.1
 exact M.cl x y h1.1 h2.1 h (by rw[e1,e2])
theorem qSP{l:List Msg}(M:Msgs l):(qeC l).Pairwise (fun a b=>a≠b):=(qy1 M).imp fun {a b} h e=>by subst e;omega
theorem qQJ{c:Chn}{l:List Msg}(V:Vld c l){id:Int}(hid:0≤id∧id≤99)(hl:l.length≤30):qeC (qif l [id])=(qeC l).filter fun m=>!decide (m.2.1=id):=by
 have V1:Vld c (qif l [id]):=V.without (fun i hi=>by simp at hi;omega) (by simp;omega)
 refine qEG key2 _ _ (qy1 V1.msgs) ((qy1 V.msgs).sublist List.filter_sublist) fun x=>?_
 rw[qm9,qLU,List.mem_filter,qm9]
 simp
theorem qQy{c:Chn}{m:Msg}(h:mesB c m=true)(hk:m.1≠2):qqd c.1.length c.2 (-1) m.2.2.2.2=true:=by
 unfold mesB canB reqB at h
 rw[show decide (m.1=2)=false from decide_eq_false hk] at h
 simp only[Bool.false_and,Bool.false_or,Bool.and_eq_true] at h
 exact h.2.2.2.2.2
end Go.Proofs.YtklkodbibffohaaGreat
/- Beds, plain: why a request waits. -/
namespace Go.Proofs.YtklkodbibffohaaGreat
open Go Go.Proofs Go.RowKit
set_option maxHeartbeats 1000000
def qID(q:List Msg)(id:Int):List Msg:=q.takeWhile fun m=>!decide (m.2.1=id)
theorem qPD(c:Chn):∀(q:List Msg) (d:DecS),∃a w,(q.foldl (dcF c) d).1=d.1++a∧(q.foldl (dcF c) d).2.1=d.2.1++w∧(∀x,x∈a→x∈q)∧∀x,x∈w→x∈q
 | [],d=>⟨[],[],by simp,by simp,by simp,by simp⟩
 | m::q,d=>by
  obtain ⟨a,w,h1,h2,h3,h4⟩:=qPD c q (dcF c d m)
  rw[List.foldl_cons,h1,h2]
  unfold dcF
  split
  ·exact ⟨a,m::w,rfl,by simp,fun x hx=>List.mem_cons_of_mem _ (h3 x hx),fun x hx=>by rcases List.mem_cons.1 hx with rfl | hx;exact List.mem_cons_self;exact List.mem_cons_of_mem _ (h4 x hx)⟩
  ·exact ⟨m::a,w,by simp,rfl,fun x hx=>by rcases List.mem_cons.1 hx with rfl | hx;exact List.mem_cons_self;exact List.mem_cons_of_mem _ (h3 x hx),fun x hx=>List.mem_cons_of_mem _ (h4 x hx)⟩
theorem qQz{c:Chn}{l:List Msg}(M:Msgs l){A B:List Msg}{m:Msg}(h:qeC l=A++m::B):(m.2.1∈accL c l↔qA1 c (dcL c A).2.2 m=false)∧(m.2.1∈qQ4 c l↔qA1 c (dcL c A).2.2 m=true):=by
 have hnd:=qSP M
 rw[h,List.pairwise_append,List.pairwise_cons] at hnd
 have hmA:m∉A:=fun hx=>hnd.2.2 m hx m List.mem_cons_self rfl
 have hmB:m∉B:=fun hx=>hnd.2.1.1 m hx rfl
 have hmq:m∈qeC l:=by rw[h];simp
 have e:offL c l=B.foldl (dcF c) (dcF c (dcL c A) m):=by unfold offL dcL;rw[h,List.foldl_append,List.foldl_cons]
 obtain ⟨a1,w1,g1,g2,g3,g4⟩:=qPD c A ([],([],[]))
 obtain ⟨a2,w2,g5,g6,g7,g8⟩:=qPD c B (dcF c (dcL c A) m)
 have ga:∀x,x∈(dcL c A).1→x∈A:=fun x hx=>by unfold dcL at hx;rw[g1] at hx;exact g3 x (by simpa using hx)
 have gw:∀x,x∈(dcL c A).2.1→x∈A:=fun x hx=>by unfold dcL at hx;rw[g2] at hx;exact g4 x (by simpa using hx)
 have one:∀x,Live l x→x.2.1=m.2.1→x=m:=fun x hx e=>qSk M (qm9.2 hx) hmq e
 have acc:m.2.1∈accL c l↔m∈(offL c l).1:=by
  rw[qNF]
  constructor
  ·rintro ⟨x,h1,h2⟩
   rw[← one x (qJX.1 (.inl h1)) h2];exact h1
  ·exact fun h=>⟨m,h,rfl⟩
 have wai:m.2.1∈qQ4 c l↔m∈(offL c l).2.1:=by
  rw[qVq]
  constructor
  ·rintro ⟨x,h1,h2⟩
   rw[← one x (qJX.1 (.inr h1)) h2];exact h1
  ·exact fun h=>⟨m,h,rfl⟩
 rw[acc,wai,e,g5,g6]
 cases hs:qA1 c (dcL c A).2.2 m with
 | true =>
  have e2:dcF c (dcL c A) m=((dcL c A).1,((dcL c A).2.1++[m],(dcL c A).2.2)):=by unfold dcF;rw[if_pos hs]
  rw[e2]
  simp only[List.mem_append,List.mem_singleton,or_true,true_or,iff_true]
  refine ⟨?_,trivial⟩
  simp only[Bool.true_eq_false,iff_false]
  rintro (h | h)
  ·exact hmA (ga _ h)
  ·exact hmB (g7 _ h)
 | false =>
  have e2:dcF c (dcL c A) m=((dcL c A).1++[m],((dcL c A).2.1,addU m.2.2.2.1 (qfq m.2.2.2.2) (dcL c A).2.2)):=by unfold dcF;rw[if_neg (by rw[hs];simp)]
  rw[e2]
  simp only[List.mem_append,List.mem_singleton,or_true,true_or,iff_true,true_and,Bool.false_eq_true,iff_false]
  rintro (h | h)
  ·exact hmA (gw _ h)
  ·exact hmB (g8 _ h)
end Go.Proofs.YtklkodbibffohaaGreat
/- Beds, plain: parts of queues. -/
namespace Go.Proofs.YtklkodbibffohaaGreat
open Go Go.Proofs Go.RowKit
set_option maxHeartbeats 1000000
theorem qNG{l:List Msg}(M:Msgs l){m:Msg}(h:m∈qeC l):m.1=1:=by
 have h1:=qm9.1 h
 rcases M.kd m h1.1 with k | k
 ·exact k
 ·exact absurd k h1.2.1
end Go.Proofs.YtklkodbibffohaaGreat
