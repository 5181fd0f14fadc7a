/- Texts Dp12, Dp13, Dp14, Dp15, Dp16 in one. -/
import Derived.Test.YtcjgodgpaokbnaaPb
import Derived.Test.YtcjgodgpaokbnaaDq3
/- Beds, plain: the reference's queue, and what requests need. -/
set_option linter.constructorNameAsVariable false
set_option linter.unusedSimpArgs false
set_option linter.unusedVariables false
set_option linter.unusedSectionVars false
namespace Go.Proofs.Ytcjgodgpaokbnaa
open Go Go.Proofs Go.RowKit
set_option maxHeartbeats 1000000
theorem qCY{α β:Type}(g:β→List α):∀(l:List β) (b:List α),l.foldl (fun b x=>b++g x) b=b++l.flatMap g
 | [],b=>by simp
 | x::l,b=>by rw[List.foldl_cons,qCY g l];simp
theorem qLF{α:Type}{l:List α}{p:α→Bool}{k:Nat}(hk:k<l.length)(h:p l[k]=true)(h':(l.take k).any p=false):l.find? p=some l[k]:=by
 rw[List.find?_eq_some_iff_getElem]
 refine ⟨h,k,hk,rfl,fun j hj=>?_⟩
 rw[List.any_eq_false] at h'
 have:=h' l[j] (List.mem_take_iff_getElem.2 ⟨j,by omega,rfl⟩)
 simpa using this
def isIK(i k:Int)(m:Msg):Bool:=decide (m.2.1=i)&&decide (m.1=k)
def qps(l:List Msg)(i k:Int):List Msg:=(l.find? (isIK i k)).toList
theorem qzL(l:List Msg)(i k:Int):(qps l i k).length≤1:=by unfold qps;cases l.find? (isIK i k)<;>simp
theorem qK3(n:Nat)(l out:List Msg)(i k:Int)(hl:l.length≤1000)(ho:out.length≤1000)(hn:2000≤n):qh n (qjZ n) (l,(i,(k,((0:Int),(out,())))))=some (l,(i,(k,(out++qps l i k,())))):=by
 have h:=qtp (step:=qjZ n) l (fun j=>(l,(i,(k,((j:Int),(out,())))))) (isIK i k) (fun j=>(l,(i,(k,(out++(l[j]?).toList,()))))) (l,(i,(k,(out,())))) (fun rec j hj=>by
  rw[qqN]
  simp only[qcY hj,cond_true,qeH l hj,Option.bind_some,qbE (show j<9223372036854775807 by omega)]
  unfold isIK
  rw[qi1 (by rw[Nat.ble_eq];unfold nAdd;omega)]
  by_cases h1:l[j].2.1=i
  ·by_cases h2:l[j].1=k
   ·rw[qhs h1,qhs h2];simp[h1,h2,List.getElem?_eq_getElem hj]
   ·rw[qhs h1,qj0 h2];simp[h2]
  ·rw[qj0 h1];simp[h1]) (fun rec=>by
  rw[qqN]
  simp only[qdk,cond_false]) (n:=n) (by omega)
 unfold qps
 rcases h with ⟨h1,h2⟩ | ⟨j,hj,h1,h2,h3⟩
 ·rw[List.find?_eq_none.2 (fun x hx=>by rw[List.any_eq_false] at h1;exact h1 x hx)]
  simpa using h2
 ·rw[qLF hj h1 h2]
  rw[List.getElem?_eq_getElem hj] at h3
  exact h3
def refD(l:List Msg):List Msg:=(List.range 100).flatMap fun i:Nat=>qps l i 1++qps l i 2
theorem qIo{β α:Type}(g:β→List α)(c:Nat):∀l:List β,(∀x,x∈l→(g x).length≤c)→(l.flatMap g).length≤c*l.length
 | [],_=>by simp
 | x::l,h=>by
  have h1:=qIo g c l fun y hy=>h y (List.mem_cons_of_mem _ hy)
  have h2:=h x List.mem_cons_self
  rw[List.flatMap_cons,List.length_append,List.length_cons,Nat.mul_add]
  omega
theorem qHG(n:Nat)(l:List Msg)(hl:l.length≤1000)(hn:2000≤n):qoY n (l,())=some (refD l,()):=by
 rw[qx0]
 have h:=qpp (step:=qnF n) (List.range 100) (fun k b=>(l,((k:Int),(b,())))) (fun b (i:Nat)=>b++(qps l i 1++qps l i 2)) [] (fun b=>(b,())) (fun rec k b hk hb=>by
  have hk':k<100:=by simpa using hk
  have hbl:b.length≤200:=by
   rw[hb,qCY]
   have:=qIo (fun i:Nat=>qps l i 1++qps l i 2) 2 ((List.range 100).take k) fun i _=>by
    have:=qzL l i 1
    have:=qzL l i 2
    simp
    omega
   have h2:((List.range 100).take k).length≤100:=by simp;omega
   simp at this ⊢
   omega
  have p1:=qzL l (k:Int) 1
  have p2:=qzL l (k:Int) 2
  obtain ⟨n,rfl⟩:∃m,n=m+3:=⟨n-3,by omega⟩
  rw[qqO]
  rw[show iLe (k:Int) 99=true from decide_eq_true (by omega)]
  simp only[cond_true]
  rw[qM,qlu]
  simp only[show iLe (1:Int) 2=true from rfl,cond_true,qK3 (n+3) l b k 1 hl (by omega) hn,Option.bind_some]
  rw[show iW (iAdd 1 1)=2 from rfl,qM,qlu]
  simp only[show iLe (2:Int) 2=true from rfl,cond_true,qK3 (n+3) l (b++qps l k 1) k 2 hl (by simp;omega) hn,Option.bind_some]
  rw[show iW (iAdd 2 1)=3 from rfl,qM,qlu]
  simp only[show iLe (3:Int) 2=false from rfl,cond_false,Option.bind_some,qbE (show k<9223372036854775807 by omega),List.getElem_range,List.append_assoc]) (fun rec b=>by
  rw[qqO]
  simp only[List.length_range]
  rfl) (n:=n) (by simp;omega)
 show Option.bind (qh n _ (l,(((0:Nat):Int),([],())))) _=_
 rw[h,qCY]
 rfl
theorem qHH{i k:Int}{m:Msg}:isIK i k m=true↔m.2.1=i∧m.1=k:=by unfold isIK;simp
theorem qtg{l:List Msg}{i k:Int}{x:Msg}(h:x∈qps l i k):x∈l∧x.2.1=i∧x.1=k:=by
 unfold qps at h
 rw[Option.mem_toList] at h
 exact ⟨List.mem_of_find?_eq_some h,qHH.1 (List.find?_some h)⟩
theorem qOe{l:List Msg}(M:Msgs l){x:Msg}(h:x∈l):x∈qps l x.2.1 x.1:=by
 unfold qps
 rw[Option.mem_toList]
 cases hf:l.find? (isIK x.2.1 x.1) with
 | none =>
  rw[List.find?_eq_none] at hf
  exact absurd (qHH.2 ⟨rfl,rfl⟩) (hf x h)
 | some y =>
  have h1:=qHH.1 (List.find?_some hf)
  rw[M.cl y x (List.mem_of_find?_eq_some hf) h h1.1 h1.2]
theorem qPj{l:List Msg}(M:Msgs l):refD l=qc5 l:=by
 refine qG0 key1 _ _ ?_ (qJZ M) fun x=>?_
 ·unfold refD
  rw[List.pairwise_flatMap]
  refine ⟨fun i _=>?_,?_⟩
  ·rw[List.pairwise_append]
   have one:∀k,(qps l i k).Pairwise (fun a b=>key1 a<key1 b):=fun k=>by
    have:=qzL l i k
    match qps l i k,this with
    | [],_=>exact List.Pairwise.nil
    | [x],_=>exact List.pairwise_singleton _ _
   refine ⟨one 1,one 2,fun a ha b hb=>?_⟩
   have h1:=qtg ha
   have h2:=qtg hb
   unfold key1
   omega
  ·refine List.Pairwise.imp (fun {i j} hij a ha b hb=>?_) (List.pairwise_lt_range (n:=100))
   have h1:a∈l∧a.2.1=(i:Int)∧(a.1=1∨a.1=2):=by
    rcases List.mem_append.1 ha with h | h
    ·have:=qtg h;exact ⟨this.1,this.2.1,.inl this.2.2⟩
    ·have:=qtg h;exact ⟨this.1,this.2.1,.inr this.2.2⟩
   have h2:b∈l∧b.2.1=(j:Int)∧(b.1=1∨b.1=2):=by
    rcases List.mem_append.1 hb with h | h
    ·have:=qtg h;exact ⟨this.1,this.2.1,.inl this.2.2⟩
    ·have:=qtg h;exact ⟨this.1,this.2.1,.inr this.2.2⟩
   unfold key1
   omega
 ·rw[qhG]
  unfold refD
  rw[List.mem_flatMap]
  constructor
  ·rintro ⟨i,_,hx⟩
   rcases List.mem_append.1 hx with h | h
   ·exact (qtg h).1
   ·exact (qtg h).1
  ·intro hx
   have h1:=M.id x hx
   refine ⟨x.2.1.toNat,by simp;omega,?_⟩
   have h2:=qOe M hx
   rw[show ((x.2.1.toNat:Nat):Int)=x.2.1 by omega]
   rcases M.kd x hx with h | h<;>rw[h] at h2<;>simp[h2]
end Go.Proofs.Ytcjgodgpaokbnaa
/- Beds, plain: what requests need; the beds that a cancellation frees. -/
namespace Go.Proofs.Ytcjgodgpaokbnaa
open Go Go.Proofs Go.RowKit
set_option maxHeartbeats 1000000
end Go.Proofs.Ytcjgodgpaokbnaa
/- Beds, plain: queues. -/
namespace Go.Proofs.Ytcjgodgpaokbnaa
open Go Go.Proofs Go.RowKit
set_option maxHeartbeats 1000000
end Go.Proofs.Ytcjgodgpaokbnaa
/- Beds, plain: why a request waits. -/
namespace Go.Proofs.Ytcjgodgpaokbnaa
open Go Go.Proofs Go.RowKit
set_option maxHeartbeats 1000000
def qEr(q:List Msg)(id:Int):List Msg:=q.takeWhile fun m=>!decide (m.2.1=id)
end Go.Proofs.Ytcjgodgpaokbnaa
/- Beds, plain: parts of queues. -/
namespace Go.Proofs.Ytcjgodgpaokbnaa
open Go Go.Proofs Go.RowKit
set_option maxHeartbeats 1000000
end Go.Proofs.Ytcjgodgpaokbnaa
