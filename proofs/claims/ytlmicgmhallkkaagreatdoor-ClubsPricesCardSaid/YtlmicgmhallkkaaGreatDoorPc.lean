/- Texts Dp12, Dp13, Dp14, Dp15, Dp16 in one. -/
import Derived.Test.YtlmicgmhallkkaaGreatDoorPb
/- Beds, plain: the reference's queue, and what requests need. -/
set_option linter.constructorNameAsVariable false
set_option linter.unusedSimpArgs false
set_option linter.unusedVariables false
set_option linter.unusedSectionVars false
namespace Go.Proofs.YtlmicgmhallkkaaGreatDoor
open Go Go.Proofs Go.RowKit
set_option maxHeartbeats 1000000
theorem qvN{α β:Type}(g:β→List α):∀(l:List β) (b:List α),l.foldl (fun b x=>b++g x) b=b++l.flatMap g
 | [],b=>by simp
 | x::l,b=>by rw[List.foldl_cons,qvN g l];simp
theorem qEE{α:Type}{l:List α}{p:α→Bool}{k:Nat}(hk:k<l.length)(h:p l[k]=true)(h':(l.take k).any p=false):l.find? p=some l[k]:=by
 rw[List.find?_eq_some_iff_getElem]
 refine ⟨h,k,hk,rfl,fun j hj=>?_⟩
 rw[List.any_eq_false] at h'
 have:=h' l[j] (List.mem_take_iff_getElem.2 ⟨j,by omega,rfl⟩)
 simpa using this
def isIK(i k:Int)(m:Msg):Bool:=decide (m.2.1=i)&&decide (m.1=k)
def qj6(l:List Msg)(i k:Int):List Msg:=(l.find? (isIK i k)).toList
theorem qs9(l:List Msg)(i k:Int):(qj6 l i k).length≤1:=by unfold qj6;cases l.find? (isIK i k)<;>simp
theorem qDT(n:Nat)(l out:List Msg)(i k:Int)(hl:l.length≤1000)(ho:out.length≤1000)(hn:2000≤n):qb n (qfW n) (l,(i,(k,((0:Int),(out,())))))=some (l,(i,(k,(out++qj6 l i k,())))):=by
 have h:=qcX (step:=qfW n) l (fun j=>(l,(i,(k,((j:Int),(out,())))))) (isIK i k) (fun j=>(l,(i,(k,(out++(l[j]?).toList,()))))) (l,(i,(k,(out,())))) (fun rec j hj=>by
  rw[qkX]
  simp only[qk hj,cond_true,qm l hj,Option.bind_some,qg (show j<9223372036854775807 by omega)]
  unfold isIK
  rw[q8 (by rw[Nat.ble_eq];unfold nAdd;omega)]
  by_cases h1:l[j].2.1=i
  ·by_cases h2:l[j].1=k
   ·rw[qbn h1,qbn h2];simp[h1,h2,List.getElem?_eq_getElem hj]
   ·rw[qbn h1,qdT h2];simp[h2]
  ·rw[qdT h1];simp[h1]) (fun rec=>by
  rw[qkX]
  simp only[ql,cond_false]) (n:=n) (by omega)
 unfold qj6
 rcases h with ⟨h1,h2⟩ | ⟨j,hj,h1,h2,h3⟩
 ·rw[List.find?_eq_none.2 (fun x hx=>by rw[List.any_eq_false] at h1;exact h1 x hx)]
  simpa using h2
 ·rw[qEE hj h1 h2]
  rw[List.getElem?_eq_getElem hj] at h3
  exact h3
def refD(l:List Msg):List Msg:=(List.range 100).flatMap fun i:Nat=>qj6 l i 1++qj6 l i 2
theorem qA9{β α:Type}(g:β→List α)(c:Nat):∀l:List β,(∀x,x∈l→(g x).length≤c)→(l.flatMap g).length≤c*l.length
 | [],_=>by simp
 | x::l,h=>by
  have h1:=qA9 g c l fun y hy=>h y (List.mem_cons_of_mem _ hy)
  have h2:=h x List.mem_cons_self
  rw[List.flatMap_cons,List.length_append,List.length_cons,Nat.mul_add]
  omega
theorem qAl(n:Nat)(l:List Msg)(hl:l.length≤1000)(hn:2000≤n):qjx n (l,())=some (refD l,()):=by
 rw[qrT]
 have h:=qhs (step:=qin n) (List.range 100) (fun k b=>(l,((k:Int),(b,())))) (fun b (i:Nat)=>b++(qj6 l i 1++qj6 l i 2)) [] (fun b=>(b,())) (fun rec k b hk hb=>by
  have hk':k<100:=by simpa using hk
  have hbl:b.length≤200:=by
   rw[hb,qvN]
   have:=qA9 (fun i:Nat=>qj6 l i 1++qj6 l i 2) 2 ((List.range 100).take k) fun i _=>by
    have:=qs9 l i 1
    have:=qs9 l i 2
    simp
    omega
   have h2:((List.range 100).take k).length≤100:=by simp;omega
   simp at this ⊢
   omega
  have p1:=qs9 l (k:Int) 1
  have p2:=qs9 l (k:Int) 2
  obtain ⟨n,rfl⟩:∃m,n=m+3:=⟨n-3,by omega⟩
  rw[qkY]
  rw[show iLe (k:Int) 99=true from decide_eq_true (by omega)]
  simp only[cond_true]
  rw[qc,qhb]
  simp only[show iLe (1:Int) 2=true from rfl,cond_true,qDT (n+3) l b k 1 hl (by omega) hn,Option.bind_some]
  rw[show iW (iAdd 1 1)=2 from rfl,qc,qhb]
  simp only[show iLe (2:Int) 2=true from rfl,cond_true,qDT (n+3) l (b++qj6 l k 1) k 2 hl (by simp;omega) hn,Option.bind_some]
  rw[show iW (iAdd 2 1)=3 from rfl,qc,qhb]
  simp only[show iLe (3:Int) 2=false from rfl,cond_false,Option.bind_some,qg (show k<9223372036854775807 by omega),List.getElem_range,List.append_assoc]) (fun rec b=>by
  rw[qkY]
  simp only[List.length_range]
  rfl) (n:=n) (by simp;omega)
 show Option.bind (qb n _ (l,(((0:Nat):Int),([],())))) _=_
 rw[h,qvN]
 rfl
theorem qAm{i k:Int}{m:Msg}:isIK i k m=true↔m.2.1=i∧m.1=k:=by unfold isIK;simp
theorem qnB{l:List Msg}{i k:Int}{x:Msg}(h:x∈qj6 l i k):x∈l∧x.2.1=i∧x.1=k:=by
 unfold qj6 at h
 rw[Option.mem_toList] at h
 exact ⟨List.mem_of_find?_eq_some h,qAm.1 (List.find?_some h)⟩
theorem qHK{l:List Msg}(M:Msgs l){x:Msg}(h:x∈l):x∈qj6 l x.2.1 x.1:=by
 unfold qj6
 rw[Option.mem_toList]
 cases hf:l.find? (isIK x.2.1 x.1) with
 | none =>
  rw[List.find?_eq_none] at hf
  exact absurd (qAm.2 ⟨rfl,rfl⟩) (hf x h)
 | some y =>
  have h1:=qAm.1 (List.find?_some hf)
  rw[M.cl y x (List.mem_of_find?_eq_some hf) h h1.1 h1.2]
theorem qI1{l:List Msg}(M:Msgs l):refD l=qcg l:=by
 refine qvL key1 _ _ ?_ (qs8 M) fun x=>?_
 ·unfold refD
  rw[List.pairwise_flatMap]
  refine ⟨fun i _=>?_,?_⟩
  ·rw[List.pairwise_append]
   have one:∀k,(qj6 l i k).Pairwise (fun a b=>key1 a<key1 b):=fun k=>by
    have:=qs9 l i k
    match qj6 l i k,this with
    | [],_=>exact List.Pairwise.nil
    | [x],_=>exact List.pairwise_singleton _ _
   refine ⟨one 1,one 2,fun a ha b hb=>?_⟩
   have h1:=qnB ha
   have h2:=qnB hb
   unfold key1
   omega
  ·refine List.Pairwise.imp (fun {i j} hij a ha b hb=>?_) (List.pairwise_lt_range (n:=100))
   have h1:a∈l∧a.2.1=(i:Int)∧(a.1=1∨a.1=2):=by
    rcases List.mem_append.1 ha with h | h
    ·have:=qnB h;exact ⟨this.1,this.2.1,.inl this.2.2⟩
    ·have:=qnB h;exact ⟨this.1,this.2.1,.inr this.2.2⟩
   have h2:b∈l∧b.2.1=(j:Int)∧(b.1=1∨b.1=2):=by
    rcases List.mem_append.1 hb with h | h
    ·have:=qnB h;exact ⟨this.1,this.2.1,.inl this.2.2⟩
    ·have:=qnB h;exact ⟨this.1,this.2.1,.inr this.2.2⟩
   unfold key1
   omega
 ·rw[qcK]
  unfold refD
  rw[List.mem_flatMap]
  constructor
  ·rintro ⟨i,_,hx⟩
   rcases List.mem_append.1 hx with h | h
   ·exact (qnB h).1
   ·exact (qnB h).1
  ·intro hx
   have h1:=M.id x hx
   refine ⟨x.2.1.toNat,by simp;omega,?_⟩
   have h2:=qHK M hx
   rw[show ((x.2.1.toNat:Nat):Int)=x.2.1 by omega]
   rcases M.kd x hx with h | h<;>rw[h] at h2<;>simp[h2]
def qlo(m x:Msg):Bool:=decide (x.2.2.1<m.2.2.1)||(decide (x.2.2.1=m.2.2.1)&&decide (x.2.1<m.2.1))
def insS(m:Msg)(out:List Msg):List Msg:=out.takeWhile (qlo m)++m::out.dropWhile (qlo m)
theorem qKh(n:Nat)(all:List Msg)(i:Int)(m:Msg):∀(B A:List Msg) (n':Nat),A.length+B.length≤1000→B.length<n' →
  qb n' (qfs n) (all,(i,((A.length:Int),(m,(A++B,())))))=some (all,(i,(((A++B.takeWhile (qlo m)).length:Int),(m,(A++B,()))))):=by
 intro B
 induction B with
 | nil =>
  intro A n' hl hn
  obtain ⟨n',rfl⟩:∃m,n'=m+1:=⟨n'-1,by omega⟩
  rw[qc,qmF]
  simp only[List.append_nil,ql,cond_false,List.takeWhile_nil]
 | cons x B ih =>
  intro A n' hl hn
  simp only[List.length_cons] at hl hn
  obtain ⟨n',rfl⟩:∃m,n'=m+1:=⟨n'-1,by omega⟩
  rw[qc,qmF]
  have hk:A.length<(A++x::B).length:=by simp
  have hx:(A++x::B)[A.length]?=some x:=by simp
  have ih':=ih (A++[x]) n' (by simp;omega) (by omega)
  simp only[List.length_append,List.length_cons,List.length_nil,Nat.zero_add,List.append_assoc,List.cons_append,List.nil_append] at ih'
  simp only[qk hk,cond_true,qfj,qj5,hx,Option.bind_some,qg (show A.length<9223372036854775807 by omega)]
  rw[List.takeWhile_cons]
  by_cases h1:x.2.2.1<m.2.2.1
  ·rw[show iLt x.2.2.1 m.2.2.1=true from decide_eq_true h1,show qlo m x=true by unfold qlo;simp[h1]]
   simp only[cond_true,if_true,List.length_append,List.length_cons]
   rw[ih']
  ·rw[show iLt x.2.2.1 m.2.2.1=false from decide_eq_false h1]
   by_cases h2:x.2.2.1=m.2.2.1
   ·rw[qbn h2]
    by_cases h3:x.2.1<m.2.1
    ·rw[show iLt x.2.1 m.2.1=true from decide_eq_true h3,show qlo m x=true by unfold qlo;simp[h2,h3]]
     simp only[cond_true,cond_false,if_true,List.length_append,List.length_cons]
     rw[ih']
    ·rw[show iLt x.2.1 m.2.1=false from decide_eq_false h3,show qlo m x=false by unfold qlo;simp[h2,h3]]
     simp
   ·rw[qdT h2,show qlo m x=false by unfold qlo;simp[h1,h2]]
    simp
def qjc(all:List Msg)(m:Msg):Bool:=decide (m.1=1) && !all.any fun y=>decide (y.1=2)&&decide (y.2.1=m.2.1)
theorem qBa(m:Msg)(out:List Msg):(insS m out).Perm (m::out):=by
 unfold insS
 refine List.perm_middle.trans (List.Perm.cons m ?_)
 rw[List.takeWhile_append_dropWhile]
theorem qnR(p:Msg→Bool):∀(l out:List Msg),(l.foldl (fun b m=>cond (p m) (insS m b) b) out).Perm (out++l.filter p)
 | [],out=>by simp
 | x::l,out=>by
  rw[List.foldl_cons,List.filter_cons]
  cases h:p x with
  | true =>
   simp only[cond_true,if_true]
   refine (qnR p l _).trans (((qBa x out).append_right _).trans ?_)
   exact List.perm_middle.symm
  | false=>simpa using qnR p l out
theorem qDb{m:Msg}{out:List Msg}(hm:0≤m.2.1∧m.2.1≤99)(ho:∀x,x∈out→0≤x.2.1∧x.2.1≤99)(h:out.Pairwise (fun a b=>key2 a≤key2 b)):(insS m out).Pairwise (fun a b=>key2 a≤key2 b):=by
 unfold insS
 have hlo:∀x,x∈out→(qlo m x=true→key2 x≤key2 m)∧(qlo m x=false→key2 m≤key2 x):=fun x hx=>by
  have:=ho x hx
  unfold qlo key2
  simp only[Bool.or_eq_true,Bool.and_eq_true,decide_eq_true_eq,Bool.or_eq_false_iff,Bool.and_eq_false_iff,decide_eq_false_iff_not]
  omega
 rw[List.pairwise_append,List.pairwise_cons]
 have h1:=h.sublist (List.takeWhile_sublist (qlo m))
 have h2:=h.sublist (List.dropWhile_sublist (qlo m))
 have hA:∀x,x∈out.takeWhile (qlo m)→key2 x≤key2 m:=fun x hx=>(hlo x ((List.takeWhile_sublist _).subset hx)).1 (by
  have:=List.all_takeWhile (p:=qlo m) (l:=out)
  rw[List.all_eq_true] at this
  exact this x hx)
 have hB:∀x,x∈out.dropWhile (qlo m)→key2 m≤key2 x:=fun x hx=>by
  cases hd:out.dropWhile (qlo m) with
  | nil=>rw[hd] at hx;cases hx
  | cons y r =>
   have hy:qlo m y=false:=by
    have:=List.head?_dropWhile_not (qlo m) out
    rw[hd] at this
    simpa using this
   have hym:y∈out:=(List.dropWhile_sublist (qlo m)).subset (by rw[hd];exact List.mem_cons_self)
   have h3:=(hlo y hym).2 hy
   rw[hd] at hx h2
   rcases List.mem_cons.1 hx with rfl | hx
   ·exact h3
   ·exact Int.le_trans h3 ((List.pairwise_cons.1 h2).1 x hx)
 refine ⟨h1,⟨hB,h2⟩,fun a ha b hb=>?_⟩
 rcases List.mem_cons.1 hb with rfl | hb
 ·exact hA a ha
 ·exact Int.le_trans (hA a ha) (hB b hb)
theorem qoM(p:Msg→Bool):∀(l out:List Msg),(∀x,x∈out++l→0≤x.2.1∧x.2.1≤99)→out.Pairwise (fun a b=>key2 a≤key2 b)→(l.foldl (fun b m=>cond (p m) (insS m b) b) out).Pairwise (fun a b=>key2 a≤key2 b)
 | [],out,_,h=>h
 | x::l,out,hid,h=>by
  rw[List.foldl_cons]
  cases hp:p x with
  | true =>
   refine qoM p l _ (fun y hy=>?_) (qDb (hid x (by simp)) (fun y hy=>hid y (by simp[hy])) h)
   rcases List.mem_append.1 hy with hy | hy
   ·rcases List.mem_cons.1 ((qBa x out).mem_iff.1 hy) with rfl | hy
    ·exact hid _ (by simp)
    ·exact hid _ (by simp[hy])
   ·exact hid _ (by simp[hy])
  | false=>exact qoM p l out (fun y hy=>hid y (by rcases List.mem_append.1 hy with hy | hy<;>simp[hy])) h
theorem qAn{all:List Msg}(M:Msgs all)(hs:all.Pairwise (fun a b=>key1 a<key1 b)){k:Nat}(hk:k<all.length)(h1:all[k].1=1):(all.any fun y=>decide (y.1=2)&&decide (y.2.1=all[k].2.1))=true↔∃h:k+1<all.length,all[k+1].2.1=all[k].2.1:=by
 rw[List.pairwise_iff_getElem] at hs
 rw[List.any_eq_true]
 constructor
 ·rintro ⟨y,hy,h2⟩
  simp only[Bool.and_eq_true,decide_eq_true_eq] at h2
  obtain ⟨j,hj,rfl⟩:=List.mem_iff_getElem.1 hy
  have hkj:k<j:=by
   rcases Nat.lt_trichotomy k j with h | h | h
   ·exact h
   ·subst h;omega
   ·have:=hs j k hj hk h
    unfold key1 at this
    omega
  have hj1:j=k+1:=by
   rcases Nat.lt_or_ge (k+1) j with h | h
   ·have e1:=hs k (k+1) hk (by omega) (by omega)
    have e2:=hs (k+1) j (by omega) hj h
    unfold key1 at e1 e2
    omega
   ·omega
  subst hj1
  exact ⟨hj,h2.2⟩
 ·rintro ⟨h,h2⟩
  refine ⟨all[k+1],List.getElem_mem h,?_⟩
  have e1:=hs k (k+1) hk h (by omega)
  have e2:=M.kd all[k+1] (List.getElem_mem h)
  unfold key1 at e1
  simp only[Bool.and_eq_true,decide_eq_true_eq]
  omega
theorem qDc(n:Nat)(all:List Msg)(M:Msgs all)(hs:all.Pairwise (fun a b=>key1 a<key1 b))(hl:all.length≤900)(hn:2000≤n) :
  qb n (qhi n) (all,((0:Int),([],())))=some (all.foldl (fun b m=>cond (qjc all m) (insS m b) b) [],()):=by
 refine qhs (step:=qhi n) all (fun k b=>(all,((k:Int),(b,())))) (fun b m=>cond (qjc all m) (insS m b) b) [] (fun b=>(b,())) (fun rec k b hk hb=>?_) (fun rec b=>by
  rw[qmG]
  simp only[ql,cond_false]) (n:=n) (by omega)
 have hbl:b.length≤k:=by
  rw[hb,(qnR _ _ _).length_eq]
  have:=List.length_filter_le (qjc all) (all.take k)
  simp at this ⊢
  omega
 rw[qmG]
 simp only[qk hk,cond_true,qm all hk,Option.bind_some,qg (show k<9223372036854775807 by omega)]
 have ins:(Option.bind (qb n (qfs n) (all,((k:Int),((0:Int),(all[k],(b,())))))) fun y1=>(Option.bind (cutO (List.length y1.2.2.2.2.1) y1.2.2.1) fun y2=>(Option.bind (cutO (List.length y1.2.2.2.2.1) y1.2.2.1) fun y3=>(Option.bind (qq (Nat.ble (y3+((List.length y1.2.2.2.2.1)-y3)) (List.length y1.2.2.2.2.1))) fun _=>(Option.bind (qq (Nat.ble (nAdd (1:Nat) (List.length (List.take ((List.length y1.2.2.2.2.1)-y3) (List.drop y3 y1.2.2.2.2.1)))) 2513169434916)) fun _=>(Option.bind (qq (Nat.ble y2 (List.length y1.2.2.2.2.1))) fun _=>(Option.bind (qq (Nat.ble (nAdd (List.length (List.take y2 y1.2.2.2.2.1)) (List.length (List.append (y1.2.2.2.1::[]) (List.take ((List.length y1.2.2.2.2.1)-y3) (List.drop y3 y1.2.2.2.2.1))))) 2513169434916)) fun _=>(rec (y1.1,((iW (iAdd y1.2.1 (1:Int))),((List.append (List.take y2 y1.2.2.2.2.1) (List.append (y1.2.2.2.1::[]) (List.take ((List.length y1.2.2.2.2.1)-y3) (List.drop y3 y1.2.2.2.2.1)))),())))))))))))=rec (all,(((k+1:Nat):Int),(insS all[k] b,()))):=by
  have h:=qKh n all k all[k] b [] n (by simp;omega) (by omega)
  simp only[List.nil_append,List.length_nil] at h
  rw[show ((0:Nat):Int)=0 from rfl] at h
  rw[h]
  simp only[Option.bind_some]
  obtain ⟨A,B,hA,hB,hAB⟩:∃A B,b.takeWhile (qlo all[k])=A∧b.dropWhile (qlo all[k])=B∧b=A++B:=⟨_,_,rfl,rfl,(List.takeWhile_append_dropWhile).symm⟩
  unfold insS
  rw[hA,hB]
  have hlen:A.length≤b.length:=by rw[hAB];simp
  have htk:List.take A.length b=A:=by rw[hAB];simp
  have hdr:List.drop A.length b=B:=by rw[hAB];simp
  have hBl:b.length-A.length=B.length:=by rw[hAB];simp
  have hbl2:A.length+B.length=b.length:=by omega
  rw[qq3 hlen]
  simp only[Option.bind_some,htk,hdr,hBl,List.take_length]
  rw[q8 (by rw[Nat.ble_eq];omega),q8 (by rw[Nat.ble_eq];unfold nAdd;omega),q8 (by rw[Nat.ble_eq];omega),q8 (by rw[Nat.ble_eq];unfold nAdd;simp[List.append_eq];omega)]
  simp only[Option.bind_some,qg (show k<9223372036854775807 by omega)]
  rfl
 by_cases h1:all[k].1=1
 ·rw[qc3 h1]
  simp only[cond_false]
  by_cases h2:k+1<all.length
  ·rw[qk h2]
   simp only[cond_true,qm all h2,Option.bind_some]
   by_cases h3:all[k+1].2.1=all[k].2.1
   ·rw[qbn h3]
    have:qjc all all[k]=false:=by unfold qjc;rw[(qAn M hs hk h1).2 ⟨h2,h3⟩];simp
    rw[this];rfl
   ·rw[qdT h3]
    have:qjc all all[k]=true:=by
     unfold qjc
     have:(all.any fun y=>decide (y.1=2)&&decide (y.2.1=all[k].2.1))=false:=by
      rw[← Bool.not_eq_true]
      exact fun h=>by obtain ⟨_,h⟩:=(qAn M hs hk h1).1 h;exact h3 h
     rw[this];simp[h1]
    rw[this]
    simp only[cond_false,cond_true]
    exact ins
  ·rw[show iLt ((k+1:Nat):Int) (all.length:Int)=false from decide_eq_false (by omega)]
   have:qjc all all[k]=true:=by
    unfold qjc
    have:(all.any fun y=>decide (y.1=2)&&decide (y.2.1=all[k].2.1))=false:=by
     rw[← Bool.not_eq_true]
     exact fun h=>by obtain ⟨h,_⟩:=(qAn M hs hk h1).1 h;exact h2 h
    rw[this];simp[h1]
   rw[this]
   simp only[cond_false,cond_true]
   exact ins
 ·rw[qf3 h1]
  have:qjc all all[k]=false:=by unfold qjc;simp[h1]
  rw[this];rfl
theorem qDd(n:Nat)(l:List Msg)(M:Msgs l)(hl:l.length≤900)(hn:2000≤n):qlB n (l,())=some (qgu l,()):=by
 have hs:=qs8 M
 have M':Msgs (qcg l):=⟨fun m hm=>M.kd m (qcK.1 hm),fun m hm=>M.id m (qcK.1 hm),fun x y hx hy=>M.cl x y (qcK.1 hx) (qcK.1 hy)⟩
 have hdl:=qrB l
 rw[qtl,qAl n l (by omega) hn,qI1 M]
 simp only[Option.bind_some]
 rw[qDc n _ M' hs (by omega) hn]
 simp only[Option.bind_some]
 have hp:=qnR (qjc (qcg l)) (qcg l) []
 rw[List.nil_append] at hp
 have h1:=qoM (qjc (qcg l)) (qcg l) [] (fun x hx=>M'.id x (by simpa using hx)) List.Pairwise.nil
 have h2:((qcg l).filter (qjc (qcg l))).Pairwise (fun a b=>a≠b):=(hs.sublist List.filter_sublist).imp fun {a b} h e=>by subst e;omega
 have hm:∀x,x∈(qcg l).foldl (fun b m=>cond (qjc (qcg l) m) (insS m b) b) []↔x∈qcg l∧qjc (qcg l) x=true:=fun x=>by rw[hp.mem_iff,List.mem_filter]
 have h3:=qA7 key2 h1 (hp.symm.pairwise h2 (fun {a b} h e=>h e.symm)) fun x y hx hy h=>by
  have hx':=(hm x).1 hx
  have hy':=(hm y).1 hy
  have i1:=M'.id x hx'.1
  have i2:=M'.id y hy'.1
  unfold qjc at hx' hy'
  simp only[Bool.and_eq_true,decide_eq_true_eq] at hx' hy'
  unfold key2 at h
  exact M'.cl x y hx'.1 hy'.1 (by omega) (by rw[hx'.2.1,hy'.2.1])
 congr 2
 refine qvL key2 _ _ h3 (qBp M) fun x=>?_
 rw[hm,qmb]
 unfold qjc Live
 simp only[Bool.and_eq_true,Bool.not_eq_true',decide_eq_true_eq,qcK]
 rw[List.any_eq_false]
 constructor
 ·rintro ⟨h1,h2,h3⟩
  refine ⟨h1,by omega,fun y hy h4 h5=>h3 y (qcK.2 hy) (by simp[h4,h5])⟩
 ·rintro ⟨h1,h2,h3⟩
  refine ⟨h1,by rcases M.kd x h1 with h | h;exact h;exact absurd h h2,fun y hy h4=>?_⟩
  simp only[Bool.and_eq_true,decide_eq_true_eq] at h4
  exact h3 y (qcK.1 hy) h4.1 h4.2
def qkG(h t:Int)(s:Stay):Bool:=decide (s.1=h)&&wi t s.2.1 s.2.2
def qsr(m:Msg)(h t:Int):Int:=((m.2.2.2.2.filter (qkG h t)).length:Int)*m.2.2.2.1
def qem(l:List Msg)(h t:Int):Int:=l.foldl (fun b m=>b+qsr m h t) 0
theorem qJN{k:Nat}{p:Int}(hk:k≤1000)(h0:0≤p)(h1:p≤1000):0≤(k:Int)*p∧(k:Int)*p≤1000*(k:Int):=by
 constructor
 ·exact Int.mul_nonneg (by omega) h0
 ·rw[Int.mul_comm 1000];exact Int.mul_le_mul_of_nonneg_left h1 (by omega)
theorem qI2(n:Nat)(l:List Msg)(h t:Int)(i:Nat)(m:Msg)(hi:l[i]?=some m)(hp:0≤m.2.2.2.1∧m.2.2.2.1≤1000):∀(B A:List Stay) (acc:Int) (n':Nat),m.2.2.2.2=A++B→0≤acc→acc+1000*(B.length:Int)≤1000000000→A.length+B.length≤1000→B.length<n' →
  qb n' (qjy n) (l,(h,(t,(acc,((i:Int),((A.length:Int),()))))))=some (l,(h,(t,(acc+((B.filter (qkG h t)).length:Int)*m.2.2.2.1,((i:Int),()))))):=by
 intro B
 induction B with
 | nil =>
  intro A acc n' hm h0 h1 hl hn
  obtain ⟨n',rfl⟩:∃m,n'=m+1:=⟨n'-1,by omega⟩
  rw[List.append_nil] at hm
  rw[qc,qlU]
  simp only[qfj,hi,Option.bind_some,hm,ql,cond_false,List.filter_nil,List.length_nil]
  simp
 | cons s B ih =>
  intro A acc n' hm h0 h1 hl hn
  simp only[List.length_cons] at h1 hl hn
  obtain ⟨n',rfl⟩:∃m,n'=m+1:=⟨n'-1,by omega⟩
  rw[qc,qlU]
  have hk:A.length<(A++s::B).length:=by simp
  have hs:(A++s::B)[A.length]?=some s:=by simp
  have hm':m.2.2.2.2=(A++[s])++B:=by rw[hm];simp
  simp only[qfj,hi,Option.bind_some,hm,qk hk,cond_true,hs,qnA,qg (show A.length<9223372036854775807 by omega)]
  have ih1:=ih (A++[s]) (acc+m.2.2.2.1) n' hm' (by omega) (by omega) (by simp;omega) (by omega)
  have ih2:=ih (A++[s]) acc n' hm' h0 (by omega) (by simp;omega) (by omega)
  simp only[List.length_append,List.length_cons,List.length_nil,Nat.zero_add] at ih1 ih2
  rw[List.filter_cons]
  by_cases e1:s.1=h
  ·rw[qbn e1]
   simp only[cond_true]
   cases e2:wi t s.2.1 s.2.2 with
   | true =>
    rw[show qkG h t s=true by unfold qkG;simp[e1,e2]]
    simp only[cond_true,if_true,List.length_cons]
    rw[show iW (iAdd acc m.2.2.2.1)=acc+m.2.2.2.1 from qbm (by unfold iAdd;omega) (by unfold iAdd;omega),ih1]
    have:((((B.filter (qkG h t)).length+1:Nat)):Int)*m.2.2.2.1=((B.filter (qkG h t)).length:Int)*m.2.2.2.1+m.2.2.2.1:=by
     rw[Int.natCast_add,Int.add_mul];simp
    rw[this,Int.add_assoc,Int.add_comm m.2.2.2.1]
   | false =>
    rw[show qkG h t s=false by unfold qkG;simp[e2]]
    simp only[cond_false]
    rw[ih2]
    rfl
  ·rw[qdT e1,show qkG h t s=false by unfold qkG;simp[e1]]
   simp only[cond_false]
   rw[ih2]
   rfl
def qtX(m:Msg):Prop:=(0≤m.2.2.2.1∧m.2.2.2.1≤1000)∧m.2.2.2.2.length≤500
theorem qHL{m:Msg}(h:qtX m)(x t:Int):0≤qsr m x t∧qsr m x t≤500000:=by
 have h1:=List.length_filter_le (qkG x t) m.2.2.2.2
 have h3:=h.2
 have h2:=qJN (k:=(m.2.2.2.2.filter (qkG x t)).length) (by omega) h.1.1 h.1.2
 unfold qsr
 omega
theorem qtY(h t:Int):∀(l:List Msg) (b:Int),l.foldl (fun b m=>b+qsr m h t) b=b+qem l h t
 | [],b=>by simp[qem]
 | m::l,b=>by
  unfold qem
  rw[List.foldl_cons,List.foldl_cons,qtY h t l,qtY h t l]
  omega
theorem qss(m:Msg)(l:List Msg)(h t:Int):qem (m::l) h t=qsr m h t+qem l h t:=by
 unfold qem
 rw[List.foldl_cons,qtY]
 unfold qem
 omega
theorem qFV(a b:List Msg)(h t:Int):qem (a++b) h t=qem a h t+qem b h t:=by
 induction a with
 | nil=>simp[qem]
 | cons m a ih=>rw[List.cons_append,qss,qss,ih];omega
theorem qCC{l:List Msg}(hs:∀m,m∈l→qtX m)(h t:Int):0≤qem l h t∧qem l h t≤500000*l.length:=by
 induction l with
 | nil=>simp[qem]
 | cons m l ih =>
  have h1:=qHL (hs m List.mem_cons_self) h t
  have h2:=ih fun x hx=>hs x (List.mem_cons_of_mem _ hx)
  rw[qss,List.length_cons]
  omega
theorem qFW(n:Nat)(l:List Msg)(h t:Int)(hs:∀m,m∈l→qtX m)(hl:l.length≤500)(hn:2000≤n):qkT n (l,(h,(t,())))=some (qem l h t,()):=by
 rw[qsW]
 have h1:=qhs (step:=qjz n) l (fun k b=>(l,(h,(t,(b,((k:Int),())))))) (fun b m=>b+qsr m h t) 0 (fun b=>(b,())) (fun rec k b hk hb=>by
  have hbb:0≤b∧b≤500000*500:=by
   rw[qtY] at hb
   have:=qCC (l:=l.take k) (fun m hm=>hs m (List.mem_of_mem_take hm)) h t
   have h2:(l.take k).length≤500:=by simp;omega
   omega
  have hm:=hs l[k] (List.getElem_mem hk)
  have hm2:=hm.2
  rw[qlV]
  simp only[qk hk,cond_true]
  rw[show (0:Int)=(([]:List Stay).length:Int) from rfl,qI2 n l h t k l[k] (List.getElem?_eq_getElem hk) hm.1 l[k].2.2.2.2 [] b n rfl hbb.1 (by omega) (by simp;omega) (by omega)]
  simp only[Option.bind_some,qg (show k<9223372036854775807 by omega)]
  rfl) (fun rec b=>by
  rw[qlV]
  simp only[ql,cond_false]) (n:=n) (by omega)
 show Option.bind (qb n _ (l,(h,(t,(0,(((0:Nat):Int),())))))) _=_
 rw[h1]
 rfl
theorem qyd(h:Int):∀(n:Nat) (lo:Int) (x t:Int),(x,t)∈qgx h lo n↔x=h∧lo≤t∧t<lo+n
 | 0,lo,x,t=>by simp[qgx];try omega
 | n+1,lo,x,t=>by
  unfold qgx
  rw[List.mem_cons,qyd h n]
  simp only[Prod.mk.injEq]
  omega
theorem qzE(s:Stay)(x t:Int):(x,t)∈qof s↔qkG x t s=true:=by
 unfold qof qkG wi
 rw[qyd]
 simp only[Bool.and_eq_true,decide_eq_true_eq]
 omega
theorem qye(x t:Int):∀ss:List Stay,(qY ss).Nodup→(ss.filter (qkG x t)).length=if (x,t)∈qY ss then 1 else 0
 | [],_=>by simp[qY]
 | s::ss,h=>by
  unfold qY at h ⊢
  rw[List.nodup_append] at h
  have ih:=qye x t ss h.2.1
  rw[List.filter_cons]
  cases hm:qkG x t s with
  | true =>
   have h1:=(qzE s x t).2 hm
   have h2:(x,t)∉qY ss:=fun h3=>h.2.2 _ h1 _ h3 rfl
   rw[if_neg h2] at ih
   simp only[if_true,List.length_cons,ih,List.mem_append,h1,true_or]
  | false =>
   have h1:(x,t)∉qof s:=fun h3=>by rw[(qzE s x t).1 h3] at hm;cases hm
   simp only[Bool.false_eq_true,if_false,ih,List.mem_append,h1,false_or]
theorem qHM{c:Chn}{m:Msg}(hm:MsgOk c m)(x t:Int):qsr m x t=if (x,t)∈qY m.2.2.2.2 then m.2.2.2.1 else 0:=by
 unfold qsr
 rw[qye x t _ hm.nd]
 split<;>simp
def qrD(d:DecS):Prop:=∀x t,valL (x,t) d.2.2=qem d.1 x t
theorem qEF{c:Chn}{d:DecS}{m:Msg}(hm:MsgOk c m)(h:qrD d):qrD (dcF c d m):=fun x t=>by
 unfold dcF
 split
 ·exact h x t
 ·show valL (x,t) (addU m.2.2.2.1 (qY m.2.2.2.2) d.2.2)=qem (d.1++[m]) x t
  rw[qyL _ _ _ _ hm.nd,qFV,qss,qHM hm,h x t]
  have:qem [] x t=0:=rfl
  rw[this]
  split<;>omega
theorem qyf{c:Chn}:∀(q:List Msg) (d:DecS),(∀m,m∈q→MsgOk c m)→qrD d→qrD (q.foldl (dcF c) d)
 | [],_,_,h=>h
 | m::q,d,hq,h=>qyf q _ (fun x hx=>hq x (List.mem_cons_of_mem _ hx)) (qEF (hq m List.mem_cons_self) h)
theorem qEG{c:Chn}{q:List Msg}(hq:∀m,m∈q→MsgOk c m):qrD (dcL c q):=qyf q _ hq fun x t=>rfl
theorem MsgOk.small{c:Chn}{m:Msg}(h:MsgOk c m)(hl:m.2.2.2.2.length≤500):qtX m:=⟨⟨by have:=h.p1;omega,by have:=h.p2;omega⟩,hl⟩
theorem qxb{c:Chn}{m:Msg}(h:mesB c m=true)(hk:m.1≠2):qi5 c.1.length c.2 (-1) m.2.2.2.2=true:=by
 unfold mesB canB reqB at h
 rw[show decide (m.1=2)=false from decide_eq_false hk] at h
 simp only[Bool.false_and,Bool.false_or,Bool.and_eq_true] at h
 exact h.2.2.2.2.2
def qov(c:Chn)(u:Used)(m:Msg):Spot×Int:=match (qY m.2.2.2.2).find? fun s=>decide (m.2.2.2.1-lft c u s>0) with
 | some s=>(s,m.2.2.2.1-lft c u s)
 | none=>((0,0),0)
theorem qFX{c:Chn}{u:Used}{m:Msg}(h:ql2 c u m=true):(qov c u m).1∈qY m.2.2.2.2∧(qov c u m).2=m.2.2.2.1-lft c u (qov c u m).1∧0<(qov c u m).2:=by
 unfold ql2 at h
 unfold qov
 cases hf:(qY m.2.2.2.2).find? fun s=>decide (m.2.2.2.1-lft c u s>0) with
 | none =>
  rw[List.find?_eq_none] at hf
  rw[List.any_eq_true] at h
  obtain ⟨s,h1,h2⟩:=h
  exact absurd h2 (hf s h1)
 | some s =>
  refine ⟨List.mem_of_find?_eq_some hf,rfl,?_⟩
  have:=List.find?_some hf
  simpa using this
def qu2(q:List Msg)(id:Int):List Msg:=q.takeWhile fun m=>!decide (m.2.1=id)
theorem qDU(c:Chn):∀(q:List Msg) (d:DecS),∃a w,(q.foldl (dcF c) d).1=d.1++a∧(q.foldl (dcF c) d).2.1=d.2.1++w∧(∀x,x∈a→x∈q)∧∀x,x∈w→x∈q
 | [],d=>⟨[],[],by simp,by simp,by simp,by simp⟩
 | m::q,d=>by
  obtain ⟨a,w,h1,h2,h3,h4⟩:=qDU c q (dcF c d m)
  rw[List.foldl_cons,h1,h2]
  unfold dcF
  split
  ·exact ⟨a,m::w,rfl,by simp,fun x hx=>List.mem_cons_of_mem _ (h3 x hx),fun x hx=>by rcases List.mem_cons.1 hx with rfl | hx;exact List.mem_cons_self;exact List.mem_cons_of_mem _ (h4 x hx)⟩
  ·exact ⟨m::a,w,by simp,rfl,fun x hx=>by rcases List.mem_cons.1 hx with rfl | hx;exact List.mem_cons_self;exact List.mem_cons_of_mem _ (h3 x hx),fun x hx=>List.mem_cons_of_mem _ (h4 x hx)⟩
theorem qyM{l:List Msg}(M:Msgs l){m:Msg}(h:m∈qgu l):m.1=1:=by
 have h1:=qmb.1 h
 rcases M.kd m h1.1 with k | k
 ·exact k
 ·exact absurd k h1.2.1
end Go.Proofs.YtlmicgmhallkkaaGreatDoor
