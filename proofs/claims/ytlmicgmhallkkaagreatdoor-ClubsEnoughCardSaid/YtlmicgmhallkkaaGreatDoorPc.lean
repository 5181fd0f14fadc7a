/- Texts Dp12, Dp13, Dp14, Dp15, Dp16 in one. -/
import Derived.Test.YtlmicgmhallkkaaGreatDoorPb
/- Beds, plain: the reference's queue, and what requests need. -/
set_option linter.constructorNameAsVariable false
set_option linter.unusedSimpArgs false
set_option linter.unusedVariables false
set_option linter.unusedSectionVars false
namespace Go.Proofs.YtlmicgmhallkkaaGreatDoor
open Go Go.Proofs Go.RowKit
set_option maxHeartbeats 1000000
theorem quE{α β:Type}(g:β→List α):∀(l:List β) (b:List α),l.foldl (fun b x=>b++g x) b=b++l.flatMap g
 | [],b=>by simp
 | x::l,b=>by rw[List.foldl_cons,quE g l];simp
theorem qC2{α:Type}{l:List α}{p:α→Bool}{k:Nat}(hk:k<l.length)(h:p l[k]=true)(h':(l.take k).any p=false):l.find? p=some l[k]:=by
 rw[List.find?_eq_some_iff_getElem]
 refine ⟨h,k,hk,rfl,fun j hj=>?_⟩
 rw[List.any_eq_false] at h'
 have:=h' l[j] (List.mem_take_iff_getElem.2 ⟨j,by omega,rfl⟩)
 simpa using this
def isIK(i k:Int)(m:Msg):Bool:=decide (m.2.1=i)&&decide (m.1=k)
def qjr(l:List Msg)(i k:Int):List Msg:=(l.find? (isIK i k)).toList
theorem qr4(l:List Msg)(i k:Int):(qjr l i k).length≤1:=by unfold qjr;cases l.find? (isIK i k)<;>simp
theorem qCk(n:Nat)(l out:List Msg)(i k:Int)(hl:l.length≤1000)(ho:out.length≤1000)(hn:2000≤n):qb n (qfA n) (l,(i,(k,((0:Int),(out,())))))=some (l,(i,(k,(out++qjr l i k,())))):=by
 have h:=qdL (step:=qfA n) l (fun j=>(l,(i,(k,((j:Int),(out,())))))) (isIK i k) (fun j=>(l,(i,(k,(out++(l[j]?).toList,()))))) (l,(i,(k,(out,())))) (fun rec j hj=>by
  rw[qkp]
  simp only[qy hj,cond_true,qK l hj,Option.bind_some,qj (show j<9223372036854775807 by omega)]
  unfold isIK
  rw[qbL (by rw[Nat.ble_eq];unfold nAdd;omega)]
  by_cases h1:l[j].2.1=i
  ·by_cases h2:l[j].1=k
   ·rw[qbP h1,qbP h2];simp[h1,h2,List.getElem?_eq_getElem hj]
   ·rw[qbP h1,qdM h2];simp[h2]
  ·rw[qdM h1];simp[h1]) (fun rec=>by
  rw[qkp]
  simp only[qC,cond_false]) (n:=n) (by omega)
 unfold qjr
 rcases h with ⟨h1,h2⟩ | ⟨j,hj,h1,h2,h3⟩
 ·rw[List.find?_eq_none.2 (fun x hx=>by rw[List.any_eq_false] at h1;exact h1 x hx)]
  simpa using h2
 ·rw[qC2 hj h1 h2]
  rw[List.getElem?_eq_getElem hj] at h3
  exact h3
def refD(l:List Msg):List Msg:=(List.range 100).flatMap fun i:Nat=>qjr l i 1++qjr l i 2
theorem qzI{β α:Type}(g:β→List α)(c:Nat):∀l:List β,(∀x,x∈l→(g x).length≤c)→(l.flatMap g).length≤c*l.length
 | [],_=>by simp
 | x::l,h=>by
  have h1:=qzI g c l fun y hy=>h y (List.mem_cons_of_mem _ hy)
  have h2:=h x List.mem_cons_self
  rw[List.flatMap_cons,List.length_append,List.length_cons,Nat.mul_add]
  omega
theorem qyV(n:Nat)(l:List Msg)(hl:l.length≤1000)(hn:2000≤n):qiW n (l,())=some (refD l,()):=by
 rw[qqM]
 have h:=qhV (step:=qhO n) (List.range 100) (fun k b=>(l,((k:Int),(b,())))) (fun b (i:Nat)=>b++(qjr l i 1++qjr l i 2)) [] (fun b=>(b,())) (fun rec k b hk hb=>by
  have hk':k<100:=by simpa using hk
  have hbl:b.length≤200:=by
   rw[hb,quE]
   have:=qzI (fun i:Nat=>qjr l i 1++qjr l i 2) 2 ((List.range 100).take k) fun i _=>by
    have:=qr4 l i 1
    have:=qr4 l i 2
    simp
    omega
   have h2:((List.range 100).take k).length≤100:=by simp;omega
   simp at this ⊢
   omega
  have p1:=qr4 l (k:Int) 1
  have p2:=qr4 l (k:Int) 2
  obtain ⟨n,rfl⟩:∃m,n=m+3:=⟨n-3,by omega⟩
  rw[qkq]
  rw[show iLe (k:Int) 99=true from decide_eq_true (by omega)]
  simp only[cond_true]
  rw[qe,qgE]
  simp only[show iLe (1:Int) 2=true from rfl,cond_true,qCk (n+3) l b k 1 hl (by omega) hn,Option.bind_some]
  rw[show iW (iAdd 1 1)=2 from rfl,qe,qgE]
  simp only[show iLe (2:Int) 2=true from rfl,cond_true,qCk (n+3) l (b++qjr l k 1) k 2 hl (by simp;omega) hn,Option.bind_some]
  rw[show iW (iAdd 2 1)=3 from rfl,qe,qgE]
  simp only[show iLe (3:Int) 2=false from rfl,cond_false,Option.bind_some,qj (show k<9223372036854775807 by omega),List.getElem_range,List.append_assoc]) (fun rec b=>by
  rw[qkq]
  simp only[List.length_range]
  rfl) (n:=n) (by simp;omega)
 show Option.bind (qb n _ (l,(((0:Nat):Int),([],())))) _=_
 rw[h,quE]
 rfl
theorem qyW{i k:Int}{m:Msg}:isIK i k m=true↔m.2.1=i∧m.1=k:=by unfold isIK;simp
theorem qmD{l:List Msg}{i k:Int}{x:Msg}(h:x∈qjr l i k):x∈l∧x.2.1=i∧x.1=k:=by
 unfold qjr at h
 rw[Option.mem_toList] at h
 exact ⟨List.mem_of_find?_eq_some h,qyW.1 (List.find?_some h)⟩
theorem qF8{l:List Msg}(M:Msgs l){x:Msg}(h:x∈l):x∈qjr l x.2.1 x.1:=by
 unfold qjr
 rw[Option.mem_toList]
 cases hf:l.find? (isIK x.2.1 x.1) with
 | none =>
  rw[List.find?_eq_none] at hf
  exact absurd (qyW.2 ⟨rfl,rfl⟩) (hf x h)
 | some y =>
  have h1:=qyW.1 (List.find?_some hf)
  rw[M.cl y x (List.mem_of_find?_eq_some hf) h h1.1 h1.2]
theorem qHq{l:List Msg}(M:Msgs l):refD l=qcc l:=by
 refine quC key1 _ _ ?_ (qr3 M) fun x=>?_
 ·unfold refD
  rw[List.pairwise_flatMap]
  refine ⟨fun i _=>?_,?_⟩
  ·rw[List.pairwise_append]
   have one:∀k,(qjr l i k).Pairwise (fun a b=>key1 a<key1 b):=fun k=>by
    have:=qr4 l i k
    match qjr l i k,this with
    | [],_=>exact List.Pairwise.nil
    | [x],_=>exact List.pairwise_singleton _ _
   refine ⟨one 1,one 2,fun a ha b hb=>?_⟩
   have h1:=qmD ha
   have h2:=qmD hb
   unfold key1
   omega
  ·refine List.Pairwise.imp (fun {i j} hij a ha b hb=>?_) (List.pairwise_lt_range (n:=100))
   have h1:a∈l∧a.2.1=(i:Int)∧(a.1=1∨a.1=2):=by
    rcases List.mem_append.1 ha with h | h
    ·have:=qmD h;exact ⟨this.1,this.2.1,.inl this.2.2⟩
    ·have:=qmD h;exact ⟨this.1,this.2.1,.inr this.2.2⟩
   have h2:b∈l∧b.2.1=(j:Int)∧(b.1=1∨b.1=2):=by
    rcases List.mem_append.1 hb with h | h
    ·have:=qmD h;exact ⟨this.1,this.2.1,.inl this.2.2⟩
    ·have:=qmD h;exact ⟨this.1,this.2.1,.inr this.2.2⟩
   unfold key1
   omega
 ·rw[qcG]
  unfold refD
  rw[List.mem_flatMap]
  constructor
  ·rintro ⟨i,_,hx⟩
   rcases List.mem_append.1 hx with h | h
   ·exact (qmD h).1
   ·exact (qmD h).1
  ·intro hx
   have h1:=M.id x hx
   refine ⟨x.2.1.toNat,by simp;omega,?_⟩
   have h2:=qF8 M hx
   rw[show ((x.2.1.toNat:Nat):Int)=x.2.1 by omega]
   rcases M.kd x hx with h | h<;>rw[h] at h2<;>simp[h2]
def qlo(m x:Msg):Bool:=decide (x.2.2.1<m.2.2.1)||(decide (x.2.2.1=m.2.2.1)&&decide (x.2.1<m.2.1))
def insS(m:Msg)(out:List Msg):List Msg:=out.takeWhile (qlo m)++m::out.dropWhile (qlo m)
theorem qIs(n:Nat)(all:List Msg)(i:Int)(m:Msg):∀(B A:List Msg) (n':Nat),A.length+B.length≤1000→B.length<n' →
  qb n' (qfc n) (all,(i,((A.length:Int),(m,(A++B,())))))=some (all,(i,(((A++B.takeWhile (qlo m)).length:Int),(m,(A++B,()))))):=by
 intro B
 induction B with
 | nil =>
  intro A n' hl hn
  obtain ⟨n',rfl⟩:∃m,n'=m+1:=⟨n'-1,by omega⟩
  rw[qe,qlV]
  simp only[List.append_nil,qC,cond_false,List.takeWhile_nil]
 | cons x B ih =>
  intro A n' hl hn
  simp only[List.length_cons] at hl hn
  obtain ⟨n',rfl⟩:∃m,n'=m+1:=⟨n'-1,by omega⟩
  rw[qe,qlV]
  have hk:A.length<(A++x::B).length:=by simp
  have hx:(A++x::B)[A.length]?=some x:=by simp
  have ih':=ih (A++[x]) n' (by simp;omega) (by omega)
  simp only[List.length_append,List.length_cons,List.length_nil,Nat.zero_add,List.append_assoc,List.cons_append,List.nil_append] at ih'
  simp only[qy hk,cond_true,qe4,qjq,hx,Option.bind_some,qj (show A.length<9223372036854775807 by omega)]
  rw[List.takeWhile_cons]
  by_cases h1:x.2.2.1<m.2.2.1
  ·rw[show iLt x.2.2.1 m.2.2.1=true from decide_eq_true h1,show qlo m x=true by unfold qlo;simp[h1]]
   simp only[cond_true,if_true,List.length_append,List.length_cons]
   rw[ih']
  ·rw[show iLt x.2.2.1 m.2.2.1=false from decide_eq_false h1]
   by_cases h2:x.2.2.1=m.2.2.1
   ·rw[qbP h2]
    by_cases h3:x.2.1<m.2.1
    ·rw[show iLt x.2.1 m.2.1=true from decide_eq_true h3,show qlo m x=true by unfold qlo;simp[h2,h3]]
     simp only[cond_true,cond_false,if_true,List.length_append,List.length_cons]
     rw[ih']
    ·rw[show iLt x.2.1 m.2.1=false from decide_eq_false h3,show qlo m x=false by unfold qlo;simp[h2,h3]]
     simp
   ·rw[qdM h2,show qlo m x=false by unfold qlo;simp[h1,h2]]
    simp
def qiF(all:List Msg)(m:Msg):Bool:=decide (m.1=1) && !all.any fun y=>decide (y.1=2)&&decide (y.2.1=m.2.1)
theorem qzJ(m:Msg)(out:List Msg):(insS m out).Perm (m::out):=by
 unfold insS
 refine List.perm_middle.trans (List.Perm.cons m ?_)
 rw[List.takeWhile_append_dropWhile]
theorem qmU(p:Msg→Bool):∀(l out:List Msg),(l.foldl (fun b m=>cond (p m) (insS m b) b) out).Perm (out++l.filter p)
 | [],out=>by simp
 | x::l,out=>by
  rw[List.foldl_cons,List.filter_cons]
  cases h:p x with
  | true =>
   simp only[cond_true,if_true]
   refine (qmU p l _).trans (((qzJ x out).append_right _).trans ?_)
   exact List.perm_middle.symm
  | false=>simpa using qmU p l out
theorem qBE{m:Msg}{out:List Msg}(hm:0≤m.2.1∧m.2.1≤99)(ho:∀x,x∈out→0≤x.2.1∧x.2.1≤99)(h:out.Pairwise (fun a b=>key2 a≤key2 b)):(insS m out).Pairwise (fun a b=>key2 a≤key2 b):=by
 unfold insS
 have hlo:∀x,x∈out→(qlo m x=true→key2 x≤key2 m)∧(qlo m x=false→key2 m≤key2 x):=fun x hx=>by
  have:=ho x hx
  unfold qlo key2
  simp only[Bool.or_eq_true,Bool.and_eq_true,decide_eq_true_eq,Bool.or_eq_false_iff,Bool.and_eq_false_iff,decide_eq_false_iff_not]
  omega
 rw[List.pairwise_append,List.pairwise_cons]
 have h1:=h.sublist (List.takeWhile_sublist (qlo m))
 have h2:=h.sublist (List.dropWhile_sublist (qlo m))
 have hA:∀x,x∈out.takeWhile (qlo m)→key2 x≤key2 m:=fun x hx=>(hlo x ((List.takeWhile_sublist _).subset hx)).1 (by
  have:=List.all_takeWhile (p:=qlo m) (l:=out)
  rw[List.all_eq_true] at this
  exact this x hx)
 have hB:∀x,x∈out.dropWhile (qlo m)→key2 m≤key2 x:=fun x hx=>by
  cases hd:out.dropWhile (qlo m) with
  | nil=>rw[hd] at hx;cases hx
  | cons y r =>
   have hy:qlo m y=false:=by
    have:=List.head?_dropWhile_not (qlo m) out
    rw[hd] at this
    simpa using this
   have hym:y∈out:=(List.dropWhile_sublist (qlo m)).subset (by rw[hd];exact List.mem_cons_self)
   have h3:=(hlo y hym).2 hy
   rw[hd] at hx h2
   rcases List.mem_cons.1 hx with rfl | hx
   ·exact h3
   ·exact Int.le_trans h3 ((List.pairwise_cons.1 h2).1 x hx)
 refine ⟨h1,⟨hB,h2⟩,fun a ha b hb=>?_⟩
 rcases List.mem_cons.1 hb with rfl | hb
 ·exact hA a ha
 ·exact Int.le_trans (hA a ha) (hB b hb)
theorem qnV(p:Msg→Bool):∀(l out:List Msg),(∀x,x∈out++l→0≤x.2.1∧x.2.1≤99)→out.Pairwise (fun a b=>key2 a≤key2 b)→(l.foldl (fun b m=>cond (p m) (insS m b) b) out).Pairwise (fun a b=>key2 a≤key2 b)
 | [],out,_,h=>h
 | x::l,out,hid,h=>by
  rw[List.foldl_cons]
  cases hp:p x with
  | true =>
   refine qnV p l _ (fun y hy=>?_) (qBE (hid x (by simp)) (fun y hy=>hid y (by simp[hy])) h)
   rcases List.mem_append.1 hy with hy | hy
   ·rcases List.mem_cons.1 ((qzJ x out).mem_iff.1 hy) with rfl | hy
    ·exact hid _ (by simp)
    ·exact hid _ (by simp[hy])
   ·exact hid _ (by simp[hy])
  | false=>exact qnV p l out (fun y hy=>hid y (by rcases List.mem_append.1 hy with hy | hy<;>simp[hy])) h
theorem qyX{all:List Msg}(M:Msgs all)(hs:all.Pairwise (fun a b=>key1 a<key1 b)){k:Nat}(hk:k<all.length)(h1:all[k].1=1):(all.any fun y=>decide (y.1=2)&&decide (y.2.1=all[k].2.1))=true↔∃h:k+1<all.length,all[k+1].2.1=all[k].2.1:=by
 rw[List.pairwise_iff_getElem] at hs
 rw[List.any_eq_true]
 constructor
 ·rintro ⟨y,hy,h2⟩
  simp only[Bool.and_eq_true,decide_eq_true_eq] at h2
  obtain ⟨j,hj,rfl⟩:=List.mem_iff_getElem.1 hy
  have hkj:k<j:=by
   rcases Nat.lt_trichotomy k j with h | h | h
   ·exact h
   ·subst h;omega
   ·have:=hs j k hj hk h
    unfold key1 at this
    omega
  have hj1:j=k+1:=by
   rcases Nat.lt_or_ge (k+1) j with h | h
   ·have e1:=hs k (k+1) hk (by omega) (by omega)
    have e2:=hs (k+1) j (by omega) hj h
    unfold key1 at e1 e2
    omega
   ·omega
  subst hj1
  exact ⟨hj,h2.2⟩
 ·rintro ⟨h,h2⟩
  refine ⟨all[k+1],List.getElem_mem h,?_⟩
  have e1:=hs k (k+1) hk h (by omega)
  have e2:=M.kd all[k+1] (List.getElem_mem h)
  unfold key1 at e1
  simp only[Bool.and_eq_true,decide_eq_true_eq]
  omega
theorem qBF(n:Nat)(all:List Msg)(M:Msgs all)(hs:all.Pairwise (fun a b=>key1 a<key1 b))(hl:all.length≤900)(hn:2000≤n) :
  qb n (qgN n) (all,((0:Int),([],())))=some (all.foldl (fun b m=>cond (qiF all m) (insS m b) b) [],()):=by
 refine qhV (step:=qgN n) all (fun k b=>(all,((k:Int),(b,())))) (fun b m=>cond (qiF all m) (insS m b) b) [] (fun b=>(b,())) (fun rec k b hk hb=>?_) (fun rec b=>by
  rw[qlW]
  simp only[qC,cond_false]) (n:=n) (by omega)
 have hbl:b.length≤k:=by
  rw[hb,(qmU _ _ _).length_eq]
  have:=List.length_filter_le (qiF all) (all.take k)
  simp at this ⊢
  omega
 rw[qlW]
 simp only[qy hk,cond_true,qK all hk,Option.bind_some,qj (show k<9223372036854775807 by omega)]
 have ins:(Option.bind (qb n (qfc n) (all,((k:Int),((0:Int),(all[k],(b,())))))) fun y1=>(Option.bind (cutO (List.length y1.2.2.2.2.1) y1.2.2.1) fun y2=>(Option.bind (cutO (List.length y1.2.2.2.2.1) y1.2.2.1) fun y3=>(Option.bind (qF (Nat.ble (y3+((List.length y1.2.2.2.2.1)-y3)) (List.length y1.2.2.2.2.1))) fun _=>(Option.bind (qF (Nat.ble (nAdd (1:Nat) (List.length (List.take ((List.length y1.2.2.2.2.1)-y3) (List.drop y3 y1.2.2.2.2.1)))) 2513169434916)) fun _=>(Option.bind (qF (Nat.ble y2 (List.length y1.2.2.2.2.1))) fun _=>(Option.bind (qF (Nat.ble (nAdd (List.length (List.take y2 y1.2.2.2.2.1)) (List.length (List.append (y1.2.2.2.1::[]) (List.take ((List.length y1.2.2.2.2.1)-y3) (List.drop y3 y1.2.2.2.2.1))))) 2513169434916)) fun _=>(rec (y1.1,((iW (iAdd y1.2.1 (1:Int))),((List.append (List.take y2 y1.2.2.2.2.1) (List.append (y1.2.2.2.1::[]) (List.take ((List.length y1.2.2.2.2.1)-y3) (List.drop y3 y1.2.2.2.2.1)))),())))))))))))=rec (all,(((k+1:Nat):Int),(insS all[k] b,()))):=by
  have h:=qIs n all k all[k] b [] n (by simp;omega) (by omega)
  simp only[List.nil_append,List.length_nil] at h
  rw[show ((0:Nat):Int)=0 from rfl] at h
  rw[h]
  simp only[Option.bind_some]
  obtain ⟨A,B,hA,hB,hAB⟩:∃A B,b.takeWhile (qlo all[k])=A∧b.dropWhile (qlo all[k])=B∧b=A++B:=⟨_,_,rfl,rfl,(List.takeWhile_append_dropWhile).symm⟩
  unfold insS
  rw[hA,hB]
  have hlen:A.length≤b.length:=by rw[hAB];simp
  have htk:List.take A.length b=A:=by rw[hAB];simp
  have hdr:List.drop A.length b=B:=by rw[hAB];simp
  have hBl:b.length-A.length=B.length:=by rw[hAB];simp
  have hbl2:A.length+B.length=b.length:=by omega
  rw[qp1 hlen]
  simp only[Option.bind_some,htk,hdr,hBl,List.take_length]
  rw[qbL (by rw[Nat.ble_eq];omega),qbL (by rw[Nat.ble_eq];unfold nAdd;omega),qbL (by rw[Nat.ble_eq];omega),qbL (by rw[Nat.ble_eq];unfold nAdd;simp[List.append_eq];omega)]
  simp only[Option.bind_some,qj (show k<9223372036854775807 by omega)]
  rfl
 by_cases h1:all[k].1=1
 ·rw[qd2 h1]
  simp only[cond_false]
  by_cases h2:k+1<all.length
  ·rw[qy h2]
   simp only[cond_true,qK all h2,Option.bind_some]
   by_cases h3:all[k+1].2.1=all[k].2.1
   ·rw[qbP h3]
    have:qiF all all[k]=false:=by unfold qiF;rw[(qyX M hs hk h1).2 ⟨h2,h3⟩];simp
    rw[this];rfl
   ·rw[qdM h3]
    have:qiF all all[k]=true:=by
     unfold qiF
     have:(all.any fun y=>decide (y.1=2)&&decide (y.2.1=all[k].2.1))=false:=by
      rw[← Bool.not_eq_true]
      exact fun h=>by obtain ⟨_,h⟩:=(qyX M hs hk h1).1 h;exact h3 h
     rw[this];simp[h1]
    rw[this]
    simp only[cond_false,cond_true]
    exact ins
  ·rw[show iLt ((k+1:Nat):Int) (all.length:Int)=false from decide_eq_false (by omega)]
   have:qiF all all[k]=true:=by
    unfold qiF
    have:(all.any fun y=>decide (y.1=2)&&decide (y.2.1=all[k].2.1))=false:=by
     rw[← Bool.not_eq_true]
     exact fun h=>by obtain ⟨h,_⟩:=(qyX M hs hk h1).1 h;exact h2 h
    rw[this];simp[h1]
   rw[this]
   simp only[cond_false,cond_true]
   exact ins
 ·rw[qgo h1]
  have:qiF all all[k]=false:=by unfold qiF;simp[h1]
  rw[this];rfl
theorem qBG(n:Nat)(l:List Msg)(M:Msgs l)(hl:l.length≤900)(hn:2000≤n):qkV n (l,())=some (qfY l,()):=by
 have hs:=qr3 M
 have M':Msgs (qcc l):=⟨fun m hm=>M.kd m (qcG.1 hm),fun m hm=>M.id m (qcG.1 hm),fun x y hx hy=>M.cl x y (qcG.1 hx) (qcG.1 hy)⟩
 have hdl:=qqv l
 rw[qsh,qyV n l (by omega) hn,qHq M]
 simp only[Option.bind_some]
 rw[qBF n _ M' hs (by omega) hn]
 simp only[Option.bind_some]
 have hp:=qmU (qiF (qcc l)) (qcc l) []
 rw[List.nil_append] at hp
 have h1:=qnV (qiF (qcc l)) (qcc l) [] (fun x hx=>M'.id x (by simpa using hx)) List.Pairwise.nil
 have h2:((qcc l).filter (qiF (qcc l))).Pairwise (fun a b=>a≠b):=(hs.sublist List.filter_sublist).imp fun {a b} h e=>by subst e;omega
 have hm:∀x,x∈(qcc l).foldl (fun b m=>cond (qiF (qcc l) m) (insS m b) b) []↔x∈qcc l∧qiF (qcc l) x=true:=fun x=>by rw[hp.mem_iff,List.mem_filter]
 have h3:=qzG key2 h1 (hp.symm.pairwise h2 (fun {a b} h e=>h e.symm)) fun x y hx hy h=>by
  have hx':=(hm x).1 hx
  have hy':=(hm y).1 hy
  have i1:=M'.id x hx'.1
  have i2:=M'.id y hy'.1
  unfold qiF at hx' hy'
  simp only[Bool.and_eq_true,decide_eq_true_eq] at hx' hy'
  unfold key2 at h
  exact M'.cl x y hx'.1 hy'.1 (by omega) (by rw[hx'.2.1,hy'.2.1])
 congr 2
 refine quC key2 _ _ h3 (qzZ M) fun x=>?_
 rw[hm,qlr]
 unfold qiF Live
 simp only[Bool.and_eq_true,Bool.not_eq_true',decide_eq_true_eq,qcG]
 rw[List.any_eq_false]
 constructor
 ·rintro ⟨h1,h2,h3⟩
  refine ⟨h1,by omega,fun y hy h4 h5=>h3 y (qcG.2 hy) (by simp[h4,h5])⟩
 ·rintro ⟨h1,h2,h3⟩
  refine ⟨h1,by rcases M.kd x h1 with h | h;exact h;exact absurd h h2,fun y hy h4=>?_⟩
  simp only[Bool.and_eq_true,decide_eq_true_eq] at h4
  exact h3 y (qcG.1 hy) h4.1 h4.2
def qj3(h t:Int)(s:Stay):Bool:=decide (s.1=h)&&wi t s.2.1 s.2.2
def qri(m:Msg)(h t:Int):Int:=((m.2.2.2.2.filter (qj3 h t)).length:Int)*m.2.2.2.1
def qef(l:List Msg)(h t:Int):Int:=l.foldl (fun b m=>b+qri m h t) 0
theorem qH3{k:Nat}{p:Int}(hk:k≤1000)(h0:0≤p)(h1:p≤1000):0≤(k:Int)*p∧(k:Int)*p≤1000*(k:Int):=by
 constructor
 ·exact Int.mul_nonneg (by omega) h0
 ·rw[Int.mul_comm 1000];exact Int.mul_le_mul_of_nonneg_left h1 (by omega)
theorem qHr(n:Nat)(l:List Msg)(h t:Int)(i:Nat)(m:Msg)(hi:l[i]?=some m)(hp:0≤m.2.2.2.1∧m.2.2.2.1≤1000):∀(B A:List Stay) (acc:Int) (n':Nat),m.2.2.2.2=A++B→0≤acc→acc+1000*(B.length:Int)≤1000000000→A.length+B.length≤1000→B.length<n' →
  qb n' (qiX n) (l,(h,(t,(acc,((i:Int),((A.length:Int),()))))))=some (l,(h,(t,(acc+((B.filter (qj3 h t)).length:Int)*m.2.2.2.1,((i:Int),()))))):=by
 intro B
 induction B with
 | nil =>
  intro A acc n' hm h0 h1 hl hn
  obtain ⟨n',rfl⟩:∃m,n'=m+1:=⟨n'-1,by omega⟩
  rw[List.append_nil] at hm
  rw[qe,qle]
  simp only[qe4,hi,Option.bind_some,hm,qC,cond_false,List.filter_nil,List.length_nil]
  simp
 | cons s B ih =>
  intro A acc n' hm h0 h1 hl hn
  simp only[List.length_cons] at h1 hl hn
  obtain ⟨n',rfl⟩:∃m,n'=m+1:=⟨n'-1,by omega⟩
  rw[qe,qle]
  have hk:A.length<(A++s::B).length:=by simp
  have hs:(A++s::B)[A.length]?=some s:=by simp
  have hm':m.2.2.2.2=(A++[s])++B:=by rw[hm];simp
  simp only[qe4,hi,Option.bind_some,hm,qy hk,cond_true,hs,qmC,qj (show A.length<9223372036854775807 by omega)]
  have ih1:=ih (A++[s]) (acc+m.2.2.2.1) n' hm' (by omega) (by omega) (by simp;omega) (by omega)
  have ih2:=ih (A++[s]) acc n' hm' h0 (by omega) (by simp;omega) (by omega)
  simp only[List.length_append,List.length_cons,List.length_nil,Nat.zero_add] at ih1 ih2
  rw[List.filter_cons]
  by_cases e1:s.1=h
  ·rw[qbP e1]
   simp only[cond_true]
   cases e2:wi t s.2.1 s.2.2 with
   | true =>
    rw[show qj3 h t s=true by unfold qj3;simp[e1,e2]]
    simp only[cond_true,if_true,List.length_cons]
    rw[show iW (iAdd acc m.2.2.2.1)=acc+m.2.2.2.1 from qbd (by unfold iAdd;omega) (by unfold iAdd;omega),ih1]
    have:((((B.filter (qj3 h t)).length+1:Nat)):Int)*m.2.2.2.1=((B.filter (qj3 h t)).length:Int)*m.2.2.2.1+m.2.2.2.1:=by
     rw[Int.natCast_add,Int.add_mul];simp
    rw[this,Int.add_assoc,Int.add_comm m.2.2.2.1]
   | false =>
    rw[show qj3 h t s=false by unfold qj3;simp[e2]]
    simp only[cond_false]
    rw[ih2]
    rfl
  ·rw[qdM e1,show qj3 h t s=false by unfold qj3;simp[e1]]
   simp only[cond_false]
   rw[ih2]
   rfl
def qsS(m:Msg):Prop:=(0≤m.2.2.2.1∧m.2.2.2.1≤1000)∧m.2.2.2.2.length≤500
theorem qF9{m:Msg}(h:qsS m)(x t:Int):0≤qri m x t∧qri m x t≤500000:=by
 have h1:=List.length_filter_le (qj3 x t) m.2.2.2.2
 have h3:=h.2
 have h2:=qH3 (k:=(m.2.2.2.2.filter (qj3 x t)).length) (by omega) h.1.1 h.1.2
 unfold qri
 omega
theorem qsT(h t:Int):∀(l:List Msg) (b:Int),l.foldl (fun b m=>b+qri m h t) b=b+qef l h t
 | [],b=>by simp[qef]
 | m::l,b=>by
  unfold qef
  rw[List.foldl_cons,List.foldl_cons,qsT h t l,qsT h t l]
  omega
theorem qrj(m:Msg)(l:List Msg)(h t:Int):qef (m::l) h t=qri m h t+qef l h t:=by
 unfold qef
 rw[List.foldl_cons,qsT]
 unfold qef
 omega
theorem qEk(a b:List Msg)(h t:Int):qef (a++b) h t=qef a h t+qef b h t:=by
 induction a with
 | nil=>simp[qef]
 | cons m a ih=>rw[List.cons_append,qrj,qrj,ih];omega
theorem qA8{l:List Msg}(hs:∀m,m∈l→qsS m)(h t:Int):0≤qef l h t∧qef l h t≤500000*l.length:=by
 induction l with
 | nil=>simp[qef]
 | cons m l ih =>
  have h1:=qF9 (hs m List.mem_cons_self) h t
  have h2:=ih fun x hx=>hs x (List.mem_cons_of_mem _ hx)
  rw[qrj,List.length_cons]
  omega
theorem qEl(n:Nat)(l:List Msg)(h t:Int)(hs:∀m,m∈l→qsS m)(hl:l.length≤500)(hn:2000≤n):qkl n (l,(h,(t,())))=some (qef l h t,()):=by
 rw[qrQ]
 have h1:=qhV (step:=qiY n) l (fun k b=>(l,(h,(t,(b,((k:Int),())))))) (fun b m=>b+qri m h t) 0 (fun b=>(b,())) (fun rec k b hk hb=>by
  have hbb:0≤b∧b≤500000*500:=by
   rw[qsT] at hb
   have:=qA8 (l:=l.take k) (fun m hm=>hs m (List.mem_of_mem_take hm)) h t
   have h2:(l.take k).length≤500:=by simp;omega
   omega
  have hm:=hs l[k] (List.getElem_mem hk)
  have hm2:=hm.2
  rw[qlf]
  simp only[qy hk,cond_true]
  rw[show (0:Int)=(([]:List Stay).length:Int) from rfl,qHr n l h t k l[k] (List.getElem?_eq_getElem hk) hm.1 l[k].2.2.2.2 [] b n rfl hbb.1 (by omega) (by simp;omega) (by omega)]
  simp only[Option.bind_some,qj (show k<9223372036854775807 by omega)]
  rfl) (fun rec b=>by
  rw[qlf]
  simp only[qC,cond_false]) (n:=n) (by omega)
 show Option.bind (qb n _ (l,(h,(t,(0,(((0:Nat):Int),())))))) _=_
 rw[h1]
 rfl
theorem qwR(h:Int):∀(n:Nat) (lo:Int) (x t:Int),(x,t)∈qf1 h lo n↔x=h∧lo≤t∧t<lo+n
 | 0,lo,x,t=>by simp[qf1];try omega
 | n+1,lo,x,t=>by
  unfold qf1
  rw[List.mem_cons,qwR h n]
  simp only[Prod.mk.injEq]
  omega
theorem qyg(s:Stay)(x t:Int):(x,t)∈qnk s↔qj3 x t s=true:=by
 unfold qnk qj3 wi
 rw[qwR]
 simp only[Bool.and_eq_true,decide_eq_true_eq]
 omega
theorem qwS(x t:Int):∀ss:List Stay,(qW ss).Nodup→(ss.filter (qj3 x t)).length=if (x,t)∈qW ss then 1 else 0
 | [],_=>by simp[qW]
 | s::ss,h=>by
  unfold qW at h ⊢
  rw[List.nodup_append] at h
  have ih:=qwS x t ss h.2.1
  rw[List.filter_cons]
  cases hm:qj3 x t s with
  | true =>
   have h1:=(qyg s x t).2 hm
   have h2:(x,t)∉qW ss:=fun h3=>h.2.2 _ h1 _ h3 rfl
   rw[if_neg h2] at ih
   simp only[if_true,List.length_cons,ih,List.mem_append,h1,true_or]
  | false =>
   have h1:(x,t)∉qnk s:=fun h3=>by rw[(qyg s x t).1 h3] at hm;cases hm
   simp only[Bool.false_eq_true,if_false,ih,List.mem_append,h1,false_or]
theorem qGa{c:Chn}{m:Msg}(hm:MsgOk c m)(x t:Int):qri m x t=if (x,t)∈qW m.2.2.2.2 then m.2.2.2.1 else 0:=by
 unfold qri
 rw[qwS x t _ hm.nd]
 split<;>simp
def qqx(d:DecS):Prop:=∀x t,valL (x,t) d.2.2=qef d.1 x t
theorem qC3{c:Chn}{d:DecS}{m:Msg}(hm:MsgOk c m)(h:qqx d):qqx (dcF c d m):=fun x t=>by
 unfold dcF
 split
 ·exact h x t
 ·show valL (x,t) (addU m.2.2.2.1 (qW m.2.2.2.2) d.2.2)=qef (d.1++[m]) x t
  rw[qxm _ _ _ _ hm.nd,qEk,qrj,qGa hm,h x t]
  have:qef [] x t=0:=rfl
  rw[this]
  split<;>omega
theorem qwT{c:Chn}:∀(q:List Msg) (d:DecS),(∀m,m∈q→MsgOk c m)→qqx d→qqx (q.foldl (dcF c) d)
 | [],_,_,h=>h
 | m::q,d,hq,h=>qwT q _ (fun x hx=>hq x (List.mem_cons_of_mem _ hx)) (qC3 (hq m List.mem_cons_self) h)
theorem qC4{c:Chn}{q:List Msg}(hq:∀m,m∈q→MsgOk c m):qqx (dcL c q):=qwT q _ hq fun x t=>rfl
theorem MsgOk.small{c:Chn}{m:Msg}(h:MsgOk c m)(hl:m.2.2.2.2.length≤500):qsS m:=⟨⟨by have:=h.p1;omega,by have:=h.p2;omega⟩,hl⟩
theorem qsU{c:Chn}{m:Msg}(h:mesB c m=true)(hk:m.1≠2):qiw c.1.length c.2 (-1) m.2.2.2.2=true:=by
 unfold mesB canB reqB at h
 rw[show decide (m.1=2)=false from decide_eq_false hk] at h
 simp only[Bool.false_and,Bool.false_or,Bool.and_eq_true] at h
 exact h.2.2.2.2.2
def qnE(c:Chn)(u:Used)(m:Msg):Spot×Int:=match (qW m.2.2.2.2).find? fun s=>decide (m.2.2.2.1-lft c u s>0) with
 | some s=>(s,m.2.2.2.1-lft c u s)
 | none=>((0,0),0)
theorem qEm{c:Chn}{u:Used}{m:Msg}(h:qli c u m=true):(qnE c u m).1∈qW m.2.2.2.2∧(qnE c u m).2=m.2.2.2.1-lft c u (qnE c u m).1∧0<(qnE c u m).2:=by
 unfold qli at h
 unfold qnE
 cases hf:(qW m.2.2.2.2).find? fun s=>decide (m.2.2.2.1-lft c u s>0) with
 | none =>
  rw[List.find?_eq_none] at hf
  rw[List.any_eq_true] at h
  obtain ⟨s,h1,h2⟩:=h
  exact absurd h2 (hf s h1)
 | some s =>
  refine ⟨List.mem_of_find?_eq_some hf,rfl,?_⟩
  have:=List.find?_some hf
  simpa using this
def qmE(q:List Msg)(id:Int):List Msg:=q.takeWhile fun m=>!decide (m.2.1=id)
theorem qCl(c:Chn):∀(q:List Msg) (d:DecS),∃a w,(q.foldl (dcF c) d).1=d.1++a∧(q.foldl (dcF c) d).2.1=d.2.1++w∧(∀x,x∈a→x∈q)∧∀x,x∈w→x∈q
 | [],d=>⟨[],[],by simp,by simp,by simp,by simp⟩
 | m::q,d=>by
  obtain ⟨a,w,h1,h2,h3,h4⟩:=qCl c q (dcF c d m)
  rw[List.foldl_cons,h1,h2]
  unfold dcF
  split
  ·exact ⟨a,m::w,rfl,by simp,fun x hx=>List.mem_cons_of_mem _ (h3 x hx),fun x hx=>by rcases List.mem_cons.1 hx with rfl | hx;exact List.mem_cons_self;exact List.mem_cons_of_mem _ (h4 x hx)⟩
  ·exact ⟨m::a,w,by simp,rfl,fun x hx=>by rcases List.mem_cons.1 hx with rfl | hx;exact List.mem_cons_self;exact List.mem_cons_of_mem _ (h3 x hx),fun x hx=>List.mem_cons_of_mem _ (h4 x hx)⟩
theorem qxo{l:List Msg}(M:Msgs l){m:Msg}(h:m∈qfY l):m.1=1:=by
 have h1:=qlr.1 h
 rcases M.kd m h1.1 with k | k
 ·exact k
 ·exact absurd k h1.2.1
end Go.Proofs.YtlmicgmhallkkaaGreatDoor
