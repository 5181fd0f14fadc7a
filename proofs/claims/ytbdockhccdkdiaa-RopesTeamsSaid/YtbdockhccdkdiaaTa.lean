/- Texts Dt2, Dt3, Dt4 in one. -/
import Derived.Test.YtbdockhccdkdiaaLd
import Derived.Test.YtbdockhccdkdiaaQe
/- Ropes: what outings are valid: the program and the reference alike. -/
set_option linter.constructorNameAsVariable false
set_option linter.unusedSimpArgs false
set_option linter.unusedVariables false
set_option linter.unusedSectionVars false
namespace Go.Proofs.Ytbdockhccdkdiaa
open Go Go.Proofs Go.RowKit
set_option maxHeartbeats 1000000
theorem forN{σ ξ:Type}(step:(σ→Option ξ)→σ→Option ξ)(N:Nat)(I:Nat→σ)(r:Option ξ)(h:∀k,k<N→∀rec,step rec (I k)=rec (I (k+1)))(he:∀rec,step rec (I N)=r)(m:Nat)(hm:N<m):ql m step (I 0)=r:=by
 have go:∀(j k m:Nat),k+j=N→j<m→ql m step (I k)=r:=by
  intro j
  induction j with
  | zero =>
   intro k m hk hm
   obtain ⟨m,rfl⟩:∃j,m=j+1:=⟨m-1,by omega⟩
   have:k=N:=by omega
   subst this
   rw[qbJ,he]
  | succ j ih =>
   intro k m hk hm
   obtain ⟨m,rfl⟩:∃j,m=j+1:=⟨m-1,by omega⟩
   rw[qbJ,h k (by omega)]
   exact ih (k+1) m (by omega) (by omega)
 exact go N 0 m (by omega) hm
theorem iLtN{a b:Nat}(h:a<b):iLt (a:Int) (b:Int)=true:=decide_eq_true (by omega)
theorem qcW{a b:Nat}(h:b≤a):iLt (a:Int) (b:Int)=false:=decide_eq_false (by omega)
theorem bleT(a b:Nat)(h:a≤b):qbA (Nat.ble a b)=some ():=by
 rw[Nat.ble_eq_true_of_le h];rfl
theorem qth(P:Nat→Bool):∀N,(List.range N).all P=false→∃k,k<N∧P k=false∧∀j,j<k→P j=true
 | 0,h=>by simp at h
 | N+1,h=>by
  rw[List.range_succ,List.all_append] at h
  cases h1:(List.range N).all P with
  | false =>
   obtain ⟨k,a,b,c⟩:=qth P N h1
   exact ⟨k,by omega,b,c⟩
  | true =>
   rw[h1] at h
   refine ⟨N,by omega,by simpa using h,fun j hj=>List.all_eq_true.1 h1 j (List.mem_range.2 hj)⟩
theorem qmm{σ ξ:Type}(step:(σ→Option ξ)→σ→Option ξ)(N:Nat)(I:Nat→σ)(P:Nat→Bool)(good:Option ξ)(bad:Nat→Option ξ)(h:∀k,k<N→(∀j,j<k→P j=true)→∀rec,step rec (I k)=cond (P k) (rec (I (k+1))) (bad k))(he:(List.range N).all P=true→∀rec,step rec (I N)=good)(m:Nat)(hm:N<m) :
  ((List.range N).all P=true∧ql m step (I 0)=good)∨((List.range N).all P=false∧∃k,k<N∧ql m step (I 0)=bad k):=by
 cases ha:(List.range N).all P with
 | true =>
  have hP:∀j,j<N→P j=true:=fun j hj=>List.all_eq_true.1 ha j (List.mem_range.2 hj)
  exact .inl ⟨rfl,forN step N I good (fun k hk rec=>by rw[h k hk (fun j hj=>hP j (by omega)),hP k hk];rfl) (he ha) m hm⟩
 | false =>
  obtain ⟨k,hk,hb,hbf⟩:=qth P N ha
  exact .inr ⟨rfl,k,hk,forN step k I (bad k) (fun j hj rec=>by rw[h j (by omega) (fun i hi=>hbf i (by omega)),hbf j hj];rfl) (fun rec=>by rw[h k hk hbf,hb];rfl) m (by omega)⟩
theorem qjz{σ ξ α:Type}(step:(σ→Option ξ)→σ→Option ξ)(l:List α)(p:α→Bool)(I:Nat→σ)(good:Option ξ)(bad:Nat→Option ξ)(h:∀k (hk:k<l.length),∀rec,step rec (I k)=cond (p l[k]) (rec (I (k+1))) (bad k))(he:∀rec,step rec (I l.length)=good)(m:Nat)(hm:l.length<m) :
  (l.all p=true∧ql m step (I 0)=good)∨(l.all p=false∧∃k,k<l.length∧ql m step (I 0)=bad k):=by
 have e:(List.range l.length).all (fun k=>((l[k]?).map p).getD true)=l.all p:=by
  rw[Bool.eq_iff_iff,List.all_eq_true,List.all_eq_true]
  constructor
  ·intro h x hx
   obtain ⟨k,hk,rfl⟩:=List.getElem_of_mem hx
   have:=h k (List.mem_range.2 hk)
   simpa[List.getElem?_eq_getElem hk] using this
  ·intro h k hk
   rw[List.mem_range] at hk
   simp[List.getElem?_eq_getElem hk,h _ (List.getElem_mem hk)]
 have:=qmm step l.length I (fun k=>((l[k]?).map p).getD true) good bad (fun k hk _ rec=>by rw[h k hk];simp[List.getElem?_eq_getElem hk]) (fun _=>he) m hm
 rwa [e] at this
abbrev qmn:=Int×Int
abbrev MdlT:=Int×(Int×(Int×List qmn))
abbrev FalT:=Int×((Int×Int)×(Int×Int))
abbrev RopT:=Int×(Int×(Int×List FalT))
abbrev GuiT:=Int×(Int×Int)
abbrev qp:=Int×(Int×(Int×(List GuiT×(List Int×(MdlT×List RopT)))))
def prF(l:List qmn)(k:Nat):Int:=if k=0 then 0 else ((l[k-1]?).map (·.1)).getD 0
def prD(l:List qmn)(k:Nat):Int:=if k=0 then 0 else ((l[k-1]?).map (·.2)).getD 0
def qlc(l:List qmn)(k:Nat):Bool:=match l[k]? with
 | none=>true
 | some y=>qf y.1 (prF l k+1) 200&&qf y.2 (prD l k) 100
def mOk(m:MdlT):Bool:=qf m.1 1 10000&&qf m.2.1 1 10000&&qf m.2.2.1 0 100&&decide (m.2.2.2.length≤6)&&(List.range m.2.2.2.length).all (qlc m.2.2.2)
theorem qbK{x lo hi:Int}:qf x lo hi=true↔lo≤x∧x≤hi:=by
 unfold qf
 rw[Bool.and_eq_true,decide_eq_true_eq,decide_eq_true_eq]
theorem qus{l:List qmn}{k:Nat}(h:∀j,j<k→qlc l j=true)(hk:k≤l.length):0≤prF l k∧prF l k≤200∧0≤prD l k∧prD l k≤100∧(0<k→1≤prF l k):=by
 induction k with
 | zero=>unfold prF prD;simp
 | succ k ih =>
  have ih:=ih (fun j hj=>h j (by omega)) (by omega)
  have hp:=h k (by omega)
  have hkl:k<l.length:=by omega
  unfold qlc at hp
  rw[List.getElem?_eq_getElem hkl] at hp
  simp only[Bool.and_eq_true,qbK] at hp
  have e1:prF l (k+1)=l[k].1:=by unfold prF;simp[List.getElem?_eq_getElem hkl]
  have e2:prD l (k+1)=l[k].2:=by unfold prD;simp[List.getElem?_eq_getElem hkl]
  rw[e1,e2]
  omega
theorem qut{l:List qmn}{k:Nat}(hk:k<l.length):prF l (k+1)=l[k].1∧prD l (k+1)=l[k].2:=by
 unfold prF prD;simp[List.getElem?_eq_getElem hk]
theorem qu1(n:Nat)(m:MdlT)(hl:m.2.2.2.length≤50)(hn:100≤n):qjn n (m,())=some (mOk m,()):=by
 rw[qo3]
 have:=qmm (qe2 n) m.2.2.2.length (fun k=>(prF m.2.2.2 k,(prD m.2.2.2 k,(m.2.2.2,((m.2.2.2.length:Int),((k:Int),(m,()))))))) (qlc m.2.2.2) (some (Sum.inl (m,()))) (fun _=>some (Sum.inr (false,()))) (fun k hk hj rec=>by
  have hb:=qus hj (by omega)
  obtain ⟨e1,e2⟩:=qut hk
  rw[qjo]
  simp only[iLtN hk,cond_true,qJ m.2.2.2 hk,Option.bind_some,qhI,show iW (iAdd (prF m.2.2.2 k) 1)=prF m.2.2.2 k+1 from qh0 (by unfold iAdd;omega) (by unfold iAdd;omega),qC (show k<9223372036854775807 by omega),e1,e2]
  have e3:qlc m.2.2.2 k=(qf m.2.2.2[k].1 (prF m.2.2.2 k+1) 200&&qf m.2.2.2[k].2 (prD m.2.2.2 k) 100):=by unfold qlc;rw[List.getElem?_eq_getElem hk]
  rw[e3]
  cases qf m.2.2.2[k].1 (prF m.2.2.2 k+1) 200<;>cases qf m.2.2.2[k].2 (prD m.2.2.2 k) 100<;>rfl) (fun _ rec=>by
   rw[qjo]
   simp only[qcW (Nat.le_refl m.2.2.2.length),cond_false]) n (by omega)
 have e0:ql n (qe2 n) ((0:Int),((0:Int),(m.2.2.2,((m.2.2.2.length:Int),((0:Int),(m,()))))))=ql n (qe2 n) (prF m.2.2.2 0,(prD m.2.2.2 0,(m.2.2.2,((m.2.2.2.length:Int),(((0:Nat):Int),(m,())))))):=rfl
 simp only[e0]
 unfold mOk
 have e6:iLe (m.2.2.2.length:Int) 6=decide (m.2.2.2.length≤6):=decide_eq_decide.2 (by omega)
 rcases this with ⟨h1,h2⟩ | ⟨h1,k,_,h2⟩
 ·rw[h1,h2]
  simp only[Option.bind_some,Sum.elim_inl,qhI,e6]
  cases qf m.1 1 10000<;>cases qf m.2.1 1 10000<;>cases qf m.2.2.1 0 100<;>simp
 ·rw[h1,h2]
  simp
theorem qtP(n:Nat)(m:MdlT)(hl:m.2.2.2.length≤50)(hn:100≤n):qga n (m,())=some (mOk m,()):=by
 rw[qk9]
 have:=qmm (qfy n) m.2.2.2.length (fun k=>((k:Int),(m,()))) (qlc m.2.2.2) (some (Sum.inl ())) (fun _=>some (Sum.inr (false,()))) (fun k hk hj rec=>by
  have hb:=qus hj (by omega)
  rw[qgB]
  have e3:qlc m.2.2.2 k=(qf m.2.2.2[k].1 (prF m.2.2.2 k+1) 200&&qf m.2.2.2[k].2 (prD m.2.2.2 k) 100):=by unfold qlc;rw[List.getElem?_eq_getElem hk]
  simp only[iLtN hk,cond_true,qJ m.2.2.2 hk,Option.bind_some,qe9,qC (show k<9223372036854775807 by omega)]
  rw[e3]
  cases k with
  | zero =>
   simp only[show iGt ((0:Nat):Int) 0=false from rfl,cond_false,show prF m.2.2.2 0=0 from rfl,show prD m.2.2.2 0=0 from rfl,show (0:Int)+1=1 from rfl]
   cases qf m.2.2.2[0].1 1 200<;>cases qf m.2.2.2[0].2 0 100<;>rfl
  | succ k =>
   obtain ⟨e1,e2⟩:=qut (show k<m.2.2.2.length by omega)
   simp only[show iGt ((k+1:Nat):Int) 0=true from decide_eq_true (by omega),cond_true,qpu (show k<9223372036854775807 by omega),qJ m.2.2.2 (show k<m.2.2.2.length by omega),Option.bind_some]
   rw[e1,e2] at hb ⊢
   generalize m.2.2.2[k+1].1=a at *
   generalize m.2.2.2[k+1].2=b at *
   have f1:qf a (m.2.2.2[k].1+1) 200=(qf a 1 200 && !iLe a m.2.2.2[k].1):=by
    rw[Bool.eq_iff_iff,Bool.and_eq_true,qbK,qbK,Bool.not_eq_true',show iLe a m.2.2.2[k].1=decide (a≤m.2.2.2[k].1) from rfl,decide_eq_false_iff_not]
    omega
   have f2:qf b m.2.2.2[k].2 100=(qf b 0 100 && !iLt b m.2.2.2[k].2):=by
    rw[Bool.eq_iff_iff,Bool.and_eq_true,qbK,qbK,Bool.not_eq_true',show iLt b m.2.2.2[k].2=decide (b<m.2.2.2[k].2) from rfl,decide_eq_false_iff_not]
    omega
   rw[f1,f2]
   cases qf a 1 200<;>cases qf b 0 100<;>cases iLe a m.2.2.2[k].1<;>cases iLt b m.2.2.2[k].2<;>rfl) (fun _ rec=>by
   rw[qgB]
   simp only[qcW (Nat.le_refl m.2.2.2.length),cond_false]) n (by omega)
 rw[show ((0:Nat):Int)=0 from rfl] at this
 simp only[qe9,Option.bind_some]
 unfold mOk
 by_cases h6:m.2.2.2.length≤6
 ·rw[show iGt (m.2.2.2.length:Int) 6=false from decide_eq_false (by omega),decide_eq_true h6]
  rcases this with ⟨h1,h2⟩ | ⟨h1,k,_,h2⟩
  ·rw[h1,h2]
   cases qf m.1 1 10000<;>cases qf m.2.1 1 10000<;>cases qf m.2.2.1 0 100<;>rfl
  ·rw[h1,h2]
   cases qf m.1 1 10000<;>cases qf m.2.1 1 10000<;>cases qf m.2.2.1 0 100<;>rfl
 ·rw[show iGt (m.2.2.2.length:Int) 6=true from decide_eq_true (by omega),decide_eq_false h6]
  cases qf m.1 1 10000<;>cases qf m.2.1 1 10000<;>cases qf m.2.2.1 0 100<;>rfl
def qhT(r:RopT)(k:Nat):Int:=if k=0 then r.2.1 else ((r.2.2.2[k-1]?).map (·.1)).getD 0
def qkk(r:RopT)(k:Nat):Bool:=match r.2.2.2[k]? with
 | none=>true
 | some f=>qf f.1 (qhT r k) 99999&&(qdL f.2.1.1 f.2.1.2 1 1000&&qdL f.2.2.1 f.2.2.2 1 1000)
def rOk(r:RopT):Bool:=qf r.1 0 99999&&((decide (r.2.1 = -1)||qf r.2.1 r.1 99999)&&(qf r.2.2.1 1 100&&(decide (r.2.2.2.length≤10)&&((!decide (r.2.1 = -1)||decide (r.2.2.2.length=0))&&(List.range r.2.2.2.length).all (qkk r)))))
theorem qo5{r:RopT}{k:Nat}(hk:k<r.2.2.2.length):qhT r (k+1)=r.2.2.2[k].1:=by
 unfold qhT;simp[List.getElem?_eq_getElem hk]
theorem qnX{r:RopT}{k:Nat}(hk:k<r.2.2.2.length):qkk r k=(qf r.2.2.2[k].1 (qhT r k) 99999&&(qdL r.2.2.2[k].2.1.1 r.2.2.2[k].2.1.2 1 1000&&qdL r.2.2.2[k].2.2.1 r.2.2.2[k].2.2.2 1 1000)):=by
 unfold qkk;rw[List.getElem?_eq_getElem hk]
theorem qyg{r:RopT}{k:Nat}(h:∀j,j<k→qkk r j=true)(hk:k≤r.2.2.2.length):r.2.1≤qhT r k:=by
 induction k with
 | zero=>exact Int.le_refl _
 | succ k ih =>
  have ih:=ih (fun j hj=>h j (by omega)) (by omega)
  have hp:=h k (by omega)
  rw[qnX (by omega)] at hp
  simp only[Bool.and_eq_true,qbK] at hp
  rw[qo5 (by omega)]
  omega
theorem qu2(n:Nat)(r:RopT)(hl:r.2.2.2.length≤50)(hn:100≤n):∃u,qP n (r.2.2.2,(r.2.1,()))=some ((List.range r.2.2.2.length).all (qkk r),u):=by
 rw[qhb,qdj,qdE]
 have:=qmm (qH n) r.2.2.2.length (fun k=>(r.2.2.2,((r.2.2.2.length:Int),((k:Int),(qhT r k,()))))) (qkk r) (some (Sum.inl (qhT r r.2.2.2.length,()))) (fun k=>some (Sum.inr ((k:Int),(qhT r (k+1),())))) (fun k hk hj rec=>by
  rw[qbo,qnX hk]
  simp only[iLtN hk,cond_true,qJ r.2.2.2 hk,Option.bind_some,qgK,qnR,qhI,qu0,qC (show k<9223372036854775807 by omega),qo5 hk]
  cases qf r.2.2.2[k].1 (qhT r k) 99999<;>cases qdL r.2.2.2[k].2.1.1 r.2.2.2[k].2.1.2 1 1000<;>cases qdL r.2.2.2[k].2.2.1 r.2.2.2[k].2.2.2 1 1000<;>rfl) (fun _ rec=>by
   rw[qbo]
   simp only[qcW (Nat.le_refl r.2.2.2.length),cond_false]) n (by omega)
 have e0:qhT r 0=r.2.1:=rfl
 rw[show ((0:Nat):Int)=0 from rfl,e0] at this
 rcases this with ⟨h1,h2⟩ | ⟨h1,k,_,h2⟩
 ·rw[h1,h2]
  exact ⟨_,rfl⟩
 ·rw[h1,h2]
  simp only[Option.bind_some,Sum.elim_inr,show iGe (k:Int) 0=true from decide_eq_true (by omega)]
  exact ⟨_,rfl⟩
theorem qv1(n:Nat)(r:RopT)(hl:r.2.2.2.length≤50)(hn:100≤n):qj8 n (r,())=some (rOk r,()):=by
 obtain ⟨u,hu⟩:=qu2 n r hl hn
 rw[qpC]
 simp only[qhI,Option.bind_some,hu]
 unfold rOk
 have e1:iNe r.2.1 (Int.negSucc 0) = !decide (r.2.1 = -1):=by unfold iNe;rw[Bool.eq_iff_iff];simp
 have e2:iEq r.2.1 (Int.negSucc 0)=decide (r.2.1 = -1):=by unfold iEq;rw[Bool.eq_iff_iff];simp
 have e3:iGt (r.2.2.2.length:Int) 10 = !decide (r.2.2.2.length≤10):=by rw[Bool.eq_iff_iff];show decide ((r.2.2.2.length:Int)>10)=true↔_;simp;omega
 have e4:iGt (r.2.2.2.length:Int) 0 = !decide (r.2.2.2.length=0):=by rw[Bool.eq_iff_iff,Bool.not_eq_true',decide_eq_false_iff_not];show decide ((r.2.2.2.length:Int)>0)=true↔_;rw[decide_eq_true_eq];omega
 rw[e1,e2,e3,e4]
 generalize (List.range r.2.2.2.length).all (qkk r)=A
 generalize decide (r.2.1 = -1)=B
 generalize decide (r.2.2.2.length≤10)=C
 generalize decide (r.2.2.2.length=0)=D
 generalize qf r.1 0 99999=E
 generalize qf r.2.1 r.1 99999=F
 generalize qf r.2.2.1 1 100=G
 cases E<;>cases B<;>cases F<;>cases G<;>cases C<;>cases D<;>rfl
theorem qu3(n:Nat)(r:RopT)(hl:r.2.2.2.length≤50)(hn:100≤n):qgt n (r,())=some (rOk r,()):=by
 have hloop:=qmm (qb5 n) r.2.2.2.length (fun k=>((k:Int),(r,()))) (qkk r) (some (Sum.inl ())) (fun _=>some (Sum.inr (false,()))) (fun k hk hj rec=>by
  have hge:=qyg hj (by omega)
  rw[qgZ,qnX hk]
  simp only[iLtN hk,cond_true,qJ r.2.2.2 hk,Option.bind_some,qe9,qxo,qC (show k<9223372036854775807 by omega)]
  cases k with
  | zero =>
   simp only[show iGt ((0:Nat):Int) 0=false from rfl,cond_false,show qhT r 0=r.2.1 from rfl]
   cases qf r.2.2.2[0].1 r.2.1 99999<;>cases qdL r.2.2.2[0].2.1.1 r.2.2.2[0].2.1.2 1 1000<;>cases qdL r.2.2.2[0].2.2.1 r.2.2.2[0].2.2.2 1 1000<;>rfl
  | succ k =>
   simp only[show iGt ((k+1:Nat):Int) 0=true from decide_eq_true (by omega),cond_true,qpu (show k<9223372036854775807 by omega),qJ r.2.2.2 (show k<r.2.2.2.length by omega),Option.bind_some]
   rw[qo5 (show k<r.2.2.2.length by omega)] at hge ⊢
   have f1:qf r.2.2.2[k+1].1 r.2.2.2[k].1 99999=(qf r.2.2.2[k+1].1 r.2.1 99999 && !iLt r.2.2.2[k+1].1 r.2.2.2[k].1):=by
    rw[Bool.eq_iff_iff,Bool.and_eq_true,qbK,qbK,Bool.not_eq_true',show iLt r.2.2.2[k+1].1 r.2.2.2[k].1=decide (r.2.2.2[k+1].1<r.2.2.2[k].1) from rfl,decide_eq_false_iff_not]
    omega
   rw[f1]
   cases qf r.2.2.2[k+1].1 r.2.1 99999<;>cases iLt r.2.2.2[k+1].1 r.2.2.2[k].1<;>cases qdL r.2.2.2[k+1].2.1.1 r.2.2.2[k+1].2.1.2 1 1000<;>cases qdL r.2.2.2[k+1].2.2.1 r.2.2.2[k+1].2.2.2 1 1000<;>rfl) (fun _ rec=>by
   rw[qgZ]
   simp only[qcW (Nat.le_refl r.2.2.2.length),cond_false]) n (by omega)
 rw[show ((0:Nat):Int)=0 from rfl] at hloop
 rw[qlH]
 simp only[qe9,Option.bind_some]
 unfold rOk
 have e1:iNe r.2.1 (Int.negSucc 0) = !decide (r.2.1 = -1):=by unfold iNe;rw[Bool.eq_iff_iff];simp
 have e2:iEq r.2.1 (Int.negSucc 0)=decide (r.2.1 = -1):=by unfold iEq;rw[Bool.eq_iff_iff];simp
 have e3:iGt (r.2.2.2.length:Int) 10 = !decide (r.2.2.2.length≤10):=by rw[Bool.eq_iff_iff];show decide ((r.2.2.2.length:Int)>10)=true↔_;simp;omega
 have e4:iGt (r.2.2.2.length:Int) 0 = !decide (r.2.2.2.length=0):=by rw[Bool.eq_iff_iff,Bool.not_eq_true',decide_eq_false_iff_not];show decide ((r.2.2.2.length:Int)>0)=true↔_;rw[decide_eq_true_eq];omega
 rw[e1,e2,e3,e4]
 have hlp:Option.bind (ql n (qb5 n) ((0:Int),(r,()))) (fun y3=>(Sum.elim (fun _=>(some (true,()))) (fun b=>(some b)) y3))=some ((List.range r.2.2.2.length).all (qkk r),()):=by
  rcases hloop with ⟨h1,h2⟩ | ⟨h1,k,_,h2⟩
  ·rw[h1,h2];rfl
  ·rw[h1,h2];rfl
 rw[hlp]
 generalize (List.range r.2.2.2.length).all (qkk r)=A
 generalize decide (r.2.1 = -1)=B
 generalize decide (r.2.2.2.length≤10)=C
 generalize decide (r.2.2.2.length=0)=D
 generalize qf r.1 0 99999=E
 generalize qf r.2.1 r.1 99999=F
 generalize qf r.2.2.1 1 100=G
 cases E<;>cases B<;>cases F<;>cases G<;>cases C<;>cases D<;>rfl
def gOk(g:GuiT):Bool:=qf g.1 1 6&&(qf g.2.1 0 99999&&qf g.2.2 0 20)
def cOk(c:Int):Bool:=qf c 1 20
def dOk(d:Int)(r:RopT):Bool:=decide (r.1≤d)
def oOk(o:qp):Bool:=qf o.1 0 99999&&(qf o.2.1 1 6&&(qf o.2.2.1 1 100&&(decide (o.2.2.2.1.length≤4)&&(o.2.2.2.1.all gOk&&(decide (o.2.2.2.2.1.length≤6)&&(o.2.2.2.2.1.all cOk&&(decide (o.2.2.2.2.2.2.length≤6)&&o.2.2.2.2.2.2.all (dOk o.1))))))))
def chkE(o:qp):Int:=cond (mOk o.2.2.2.2.2.1) (cond (o.2.2.2.2.2.2.all rOk) (cond (oOk o) 0 93) 91) 90
def qkl(o:qp):Prop:=o.2.2.2.1.length≤20∧o.2.2.2.2.1.length≤20∧o.2.2.2.2.2.2.length≤20∧o.2.2.2.2.2.1.2.2.2.length≤50∧∀r,r∈o.2.2.2.2.2.2→r.2.2.2.length≤50
theorem qyh(n:Nat)(l:List GuiT)(hl:l.length≤50)(hn:100≤n):qc8 n (l,(((),()),()))=some (l.all gOk,()):=by
 rw[qhc,qdb,qdB]
 have:=qjz (qD n) l gOk (fun k=>(l,((l.length:Int),((k:Int),())))) (some (Sum.inl ())) (fun k=>some (Sum.inr ((k:Int),()))) (fun k hk rec=>by
  rw[qbk]
  simp only[iLtN hk,cond_true,qJ l hk,Option.bind_some,qgL,qog,qhI,qC (show k<9223372036854775807 by omega)]
  unfold gOk
  cases qf l[k].1 1 6<;>cases qf l[k].2.1 0 99999<;>cases qf l[k].2.2 0 20<;>rfl) (fun rec=>by
   rw[qbk]
   simp only[qcW (Nat.le_refl l.length),cond_false]) n (by omega)
 rw[show ((0:Nat):Int)=0 from rfl] at this
 rcases this with ⟨h1,h2⟩ | ⟨h1,k,_,h2⟩
 ·simp only[h1,h2];rfl
 ·simp only[h1,h2,Option.bind_some,Sum.elim_inr,show iGe (k:Int) 0=true from decide_eq_true (by omega)];rfl
theorem qyi(n:Nat)(l:List Int)(hl:l.length≤50)(hn:100≤n):qd4 n (l,(((),()),()))=some (l.all cOk,()):=by
 rw[qim,qea,qep]
 have:=qjz (q8 n) l cOk (fun k=>(l,((l.length:Int),((k:Int),())))) (some (Sum.inl ())) (fun k=>some (Sum.inr ((k:Int),()))) (fun k hk rec=>by
  rw[qcm]
  simp only[iLtN hk,cond_true,qJ l hk,Option.bind_some,qh2,qoh,qhI,qC (show k<9223372036854775807 by omega)]
  unfold cOk
  cases qf l[k] 1 20<;>rfl) (fun rec=>by
   rw[qcm]
   simp only[qcW (Nat.le_refl l.length),cond_false]) n (by omega)
 rw[show ((0:Nat):Int)=0 from rfl] at this
 rcases this with ⟨h1,h2⟩ | ⟨h1,k,_,h2⟩
 ·simp only[h1,h2];rfl
 ·simp only[h1,h2,Option.bind_some,Sum.elim_inr,show iGe (k:Int) 0=true from decide_eq_true (by omega)];rfl
theorem qyj(n:Nat)(o:qp)(l:List RopT)(hl:l.length≤50)(hn:100≤n):qdi n (l,(o,()))=some (l.all (dOk o.1),(o,())):=by
 rw[qhs,qdq,qdJ]
 have:=qjz (qK n) l (dOk o.1) (fun k=>(l,((l.length:Int),((k:Int),(o,()))))) (some (Sum.inl (o,()))) (fun k=>some (Sum.inr ((k:Int),(o,())))) (fun k hk rec=>by
  rw[qbv]
  simp only[iLtN hk,cond_true,qJ l hk,Option.bind_some,qgX,qoi,qC (show k<9223372036854775807 by omega)]
  show cond (!dOk o.1 l[k]) _ _=_
  cases dOk o.1 l[k]<;>rfl) (fun rec=>by
   rw[qbv]
   simp only[qcW (Nat.le_refl l.length),cond_false]) n (by omega)
 rw[show ((0:Nat):Int)=0 from rfl] at this
 rcases this with ⟨h1,h2⟩ | ⟨h1,k,_,h2⟩
 ·simp only[h1,h2];rfl
 ·simp only[h1,h2,Option.bind_some,Sum.elim_inr,show iGe (k:Int) 0=true from decide_eq_true (by omega)];rfl
theorem qyk(n:Nat)(l:List RopT)(hl:l.length≤50)(hf:∀r,r∈l→r.2.2.2.length≤50)(hn:100≤n):qdA n (l,(((),()),()))=some (l.all rOk,()):=by
 rw[qhF,qdC,qdP]
 have:=qjz (qO n) l rOk (fun k=>(l,((l.length:Int),((k:Int),())))) (some (Sum.inl ())) (fun k=>some (Sum.inr ((k:Int),()))) (fun k hk rec=>by
  rw[qbz]
  simp only[iLtN hk,cond_true,qJ l hk,Option.bind_some,qhd,qv1 n l[k] (hf _ (List.getElem_mem hk)) hn,qC (show k<9223372036854775807 by omega)]
  cases rOk l[k]<;>rfl) (fun rec=>by
   rw[qbz]
   simp only[qcW (Nat.le_refl l.length),cond_false]) n (by omega)
 rw[show ((0:Nat):Int)=0 from rfl] at this
 rcases this with ⟨h1,h2⟩ | ⟨h1,k,_,h2⟩
 ·simp only[h1,h2];rfl
 ·simp only[h1,h2,Option.bind_some,Sum.elim_inr,show iGe (k:Int) 0=true from decide_eq_true (by omega)];rfl
theorem qqR(a b:Nat):iGt (a:Int) (b:Int) = !decide (a≤b):=by
 rw[Bool.eq_iff_iff,Bool.not_eq_true',decide_eq_false_iff_not];show decide ((a:Int)>(b:Int))=true↔_;rw[decide_eq_true_eq];omega
theorem qti(n:Nat)(o:qp)(hs:qkl o)(hn:100≤n):qiz n (o,())=some (chkE o,()):=by
 obtain ⟨h1,h2,h3,h4,h5⟩:=hs
 rw[qqc]
 simp only[qu1 n o.2.2.2.2.2.1 h4 hn,qyk n o.2.2.2.2.2.2 (show o.2.2.2.2.2.2.length≤50 by omega) h5 hn,qyh n o.2.2.2.1 (show o.2.2.2.1.length≤50 by omega) hn,qyi n o.2.2.2.2.1 (show o.2.2.2.2.1.length≤50 by omega) hn,qyj n o o.2.2.2.2.2.2 (show o.2.2.2.2.2.2.length≤50 by omega) hn,qhI,Option.bind_some]
 unfold chkE oOk
 rw[show (4:Int)=((4:Nat):Int) from rfl,show (6:Int)=((6:Nat):Int) from rfl,qqR,qqR,qqR]
 generalize mOk o.2.2.2.2.2.1=A
 generalize o.2.2.2.2.2.2.all rOk=B
 generalize qf o.1 0 99999=C
 generalize qf o.2.1 1 ((6:Nat):Int)=D
 generalize qf o.2.2.1 1 100=E
 generalize decide (o.2.2.2.1.length≤4)=F
 generalize o.2.2.2.1.all gOk=G
 generalize decide (o.2.2.2.2.1.length≤6)=H
 generalize o.2.2.2.2.1.all cOk=I
 generalize decide (o.2.2.2.2.2.2.length≤6)=J
 generalize o.2.2.2.2.2.2.all (dOk o.1)=K
 cases A
 ·rfl
 cases B
 ·rfl
 cases C
 ·rfl
 cases D
 ·rfl
 cases E
 ·rfl
 cases F
 ·rfl
 cases G
 ·rfl
 cases H
 ·rfl
 cases I
 ·rfl
 cases J
 ·rfl
 cases K<;>rfl
theorem qo6(n:Nat)(o:qp)(hs:qkl o)(hn:100≤n):qd5 n (o,())=some (chkE o,()):=by
 obtain ⟨h1,h2,h3,h4,h5⟩:=hs
 have l0:=qjz (qgb n) o.2.2.2.2.2.2 rOk (fun k=>((k:Int),(o,()))) (some (Sum.inl (o,()))) (fun k=>some (Sum.inr (91,()))) (fun k hk rec=>by
  rw[qhk]
  simp only[iLtN hk,cond_true,qJ o.2.2.2.2.2.2 hk,Option.bind_some,qu3 n o.2.2.2.2.2.2[k] (h5 _ (List.getElem_mem hk)) hn,qC (show k<9223372036854775807 by omega)]
  cases rOk o.2.2.2.2.2.2[k]<;>rfl) (fun rec=>by
   rw[qhk]
   simp only[qcW (Nat.le_refl o.2.2.2.2.2.2.length),cond_false]) n (by omega)
 have l1:=qjz (qgc n) o.2.2.2.1 gOk (fun k=>((k:Int),(o,()))) (some (Sum.inl (o,()))) (fun k=>some (Sum.inr (93,()))) (fun k hk rec=>by
  rw[qhl]
  simp only[iLtN hk,cond_true,qJ o.2.2.2.1 hk,Option.bind_some,qe9,qC (show k<9223372036854775807 by omega)]
  unfold gOk
  cases qf o.2.2.2.1[k].1 1 6<;>cases qf o.2.2.2.1[k].2.1 0 99999<;>cases qf o.2.2.2.1[k].2.2 0 20<;>rfl) (fun rec=>by
   rw[qhl]
   simp only[qcW (Nat.le_refl o.2.2.2.1.length),cond_false]) n (by omega)
 have l2:=qjz (qgd n) o.2.2.2.2.1 cOk (fun k=>((k:Int),(o,()))) (some (Sum.inl (o,()))) (fun k=>some (Sum.inr (93,()))) (fun k hk rec=>by
  rw[qhm]
  simp only[iLtN hk,cond_true,qJ o.2.2.2.2.1 hk,Option.bind_some,qe9,qC (show k<9223372036854775807 by omega)]
  unfold cOk
  cases qf o.2.2.2.2.1[k] 1 20<;>rfl) (fun rec=>by
   rw[qhm]
   simp only[qcW (Nat.le_refl o.2.2.2.2.1.length),cond_false]) n (by omega)
 have l3:=qjz (qge n) o.2.2.2.2.2.2 (dOk o.1) (fun k=>((k:Int),(o,()))) (some (Sum.inl ())) (fun k=>some (Sum.inr (93,()))) (fun k hk rec=>by
  rw[qhn]
  simp only[iLtN hk,cond_true,qJ o.2.2.2.2.2.2 hk,Option.bind_some,qC (show k<9223372036854775807 by omega)]
  have e:iGt o.2.2.2.2.2.2[k].1 o.1 = !dOk o.1 o.2.2.2.2.2.2[k]:=by
   unfold dOk
   rw[Bool.eq_iff_iff];show decide (o.2.2.2.2.2.2[k].1>o.1)=true↔_;simp
  rw[e]
  cases dOk o.1 o.2.2.2.2.2.2[k]<;>rfl) (fun rec=>by
   rw[qhn]
   simp only[qcW (Nat.le_refl o.2.2.2.2.2.2.length),cond_false]) n (by omega)
 rw[show ((0:Nat):Int)=0 from rfl] at l0 l1 l2 l3
 rw[qlY]
 simp only[qtP n o.2.2.2.2.2.1 h4 hn,qe9,Option.bind_some]
 unfold chkE oOk
 rw[show (4:Int)=((4:Nat):Int) from rfl,show (6:Int)=((6:Nat):Int) from rfl]
 cases mOk o.2.2.2.2.2.1
 ·rfl
 rcases l0 with ⟨a0,b0⟩ | ⟨a0,k,_,b0⟩
 rotate_left
 ·rw[a0,b0];rfl
 rw[a0,b0]
 simp only[Option.bind_some,Sum.elim_inl,cond_true,Bool.not_true,cond_false,qqR]
 generalize qf o.1 0 99999=C
 generalize qf o.2.1 1 ((6:Nat):Int)=D
 generalize qf o.2.2.1 1 100=E
 generalize decide (o.2.2.2.1.length≤4)=F
 generalize decide (o.2.2.2.2.1.length≤6)=H
 generalize decide (o.2.2.2.2.2.2.length≤6)=J
 rcases l1 with ⟨a1,b1⟩ | ⟨a1,k,_,b1⟩
 rotate_left
 ·rw[a1,b1]
  cases C<;>cases D<;>cases E<;>cases F<;>cases H<;>cases J<;>rfl
 rcases l2 with ⟨a2,b2⟩ | ⟨a2,k,_,b2⟩
 rotate_left
 ·rw[a1,b1,a2]
  simp only[Option.bind_some,Sum.elim_inl,b2]
  cases C<;>cases D<;>cases E<;>cases F<;>cases H<;>cases J<;>rfl
 rcases l3 with ⟨a3,b3⟩ | ⟨a3,k,_,b3⟩
 rotate_left
 ·rw[a1,b1,a2,a3]
  simp only[Option.bind_some,Sum.elim_inl,b2,b3]
  cases C<;>cases D<;>cases E<;>cases F<;>cases H<;>cases J<;>rfl
 ·rw[a1,b1,a2,a3]
  simp only[Option.bind_some,Sum.elim_inl,b2,b3]
  cases C<;>cases D<;>cases E<;>cases F<;>cases H<;>cases J<;>rfl
def qiw(l:List qmn)(fac:Int):Nat→Int
 | 0=>0
 | k+1=>match l[k]? with
  | some y=>cond (iLe y.1 fac) y.2 (qiw l fac k)
  | none=>qiw l fac k
def qmo(m:MdlT)(fac:Int):Int:=qiw m.2.2.2 fac m.2.2.2.length
def facV(h out:Int):Int:=iMin 200 (iW (Int.tdiv (iW (iSub (iW (iAdd (iW (iMul 100 h)) out)) 1)) out))
theorem qpQ{l:List qmn}{fac:Int}{k:Nat}(hk:k<l.length):qiw l fac (k+1)=cond (iLe l[k].1 fac) l[k].2 (qiw l fac k):=by
 conv=>lhs;unfold qiw
 rw[List.getElem?_eq_getElem hk]
theorem qtj{x:Int}(h:x≠0):qbA (iNe x 0)=some ():=by
 have:iNe x 0=true:=by unfold iNe;simp[h]
 rw[this];rfl
theorem quu(n:Nat)(m:MdlT)(h out:Int)(ho:out≠0)(hl:m.2.2.2.length≤50)(hn:100≤n):qf0 n ((m,()),(h,(out,())))=some (qmo m (facV h out),()):=by
 rw[qm8]
 simp only[qtj ho,Option.bind_some]
 have:=forN (qe6 n) m.2.2.2.length (fun k=>(facV h out,(qiw m.2.2.2 (facV h out) k,(m.2.2.2,((m.2.2.2.length:Int),((k:Int),())))))) (some (qmo m (facV h out),())) (fun k hk rec=>by
  rw[qh6,qpQ hk]
  simp only[iLtN hk,cond_true,qJ m.2.2.2 hk,Option.bind_some,qC (show k<9223372036854775807 by omega)]
  cases iLe m.2.2.2[k].1 (facV h out)<;>rfl) (fun rec=>by
   rw[qh6]
   simp only[qcW (Nat.le_refl m.2.2.2.length),cond_false]
   rfl) n (by omega)
 show Option.bind (ql n (qe6 n) (facV h out,(qiw m.2.2.2 (facV h out) 0,(m.2.2.2,((m.2.2.2.length:Int),(((0:Nat):Int),())))))) _=_
 rw[this]
 rfl
theorem qqS(n:Nat)(h out:Int)(ho:out≠0):qeT n (h,(out,()))=some (facV h out,()):=by
 rw[qlI]
 simp only[qtj ho,Option.bind_some]
 rfl
theorem qxp(n:Nat)(m:MdlT)(fac:Int)(hl:m.2.2.2.length≤50)(hn:100≤n):qfF n (m,(fac,()))=some (qmo m fac,()):=by
 rw[qmI]
 have:=forN (qeU n) m.2.2.2.length (fun k=>(fac,(qiw m.2.2.2 fac k,((k:Int),(m,()))))) (some (qmo m fac,())) (fun k hk rec=>by
  rw[qhP,qpQ hk]
  simp only[iLtN hk,cond_true,qJ m.2.2.2 hk,Option.bind_some,qC (show k<9223372036854775807 by omega)]
  cases iLe m.2.2.2[k].1 fac<;>rfl) (fun rec=>by
   rw[qhP]
   simp only[qcW (Nat.le_refl m.2.2.2.length),cond_false]
   rfl) n (by omega)
 show Option.bind (ql n (qeU n) (fac,(qiw m.2.2.2 fac 0,(((0:Nat):Int),(m,()))))) _=_
 rw[this]
 rfl
def qhq(m:MdlT)(l:List FalT)(day:Int):Nat→Int×Int
 | 0=>(0,0)
 | k+1=>match l[k]? with
  | some f=>cond (iLe f.1 day) (iW (iAdd (qhq m l day k).1 (qmo m (facV f.2.1.1 f.2.2.2))),iW (iAdd (qhq m l day k).2 (qmo m (facV f.2.1.2 f.2.2.1)))) (qhq m l day k)
  | none=>qhq m l day k
def dmgV(m:MdlT)(r:RopT)(day:Int):Int×Int:=qhq m r.2.2.2 day r.2.2.2.length
theorem qqT{m:MdlT}{l:List FalT}{day:Int}{k:Nat}(hk:k<l.length):qhq m l day (k+1)=cond (iLe l[k].1 day) (iW (iAdd (qhq m l day k).1 (qmo m (facV l[k].2.1.1 l[k].2.2.2))),iW (iAdd (qhq m l day k).2 (qmo m (facV l[k].2.1.2 l[k].2.2.1)))) (qhq m l day k):=by
 conv=>lhs;unfold qhq
 rw[List.getElem?_eq_getElem hk]
def qu4(r:RopT):Prop:=∀f,f∈r.2.2.2→f.2.2.1≠0∧f.2.2.2≠0
theorem qmp{r:RopT}(h:rOk r=true):(0≤r.1∧r.1≤99999)∧(r.2.1 = -1∨(r.1≤r.2.1∧r.2.1≤99999))∧(1≤r.2.2.1∧r.2.2.1≤100)∧r.2.2.2.length≤10∧qu4 r:=by
 unfold rOk at h
 simp only[Bool.and_eq_true,Bool.or_eq_true,decide_eq_true_eq,qbK,Bool.not_eq_true'] at h
 obtain ⟨h1,h2,h3,h4,h5,h6⟩:=h
 refine ⟨h1,h2,h3,h4,fun f hf=>?_⟩
 obtain ⟨k,hk,rfl⟩:=List.getElem_of_mem hf
 have:=List.all_eq_true.1 h6 k (List.mem_range.2 hk)
 rw[qnX hk] at this
 unfold qdL at this
 simp only[Bool.and_eq_true,decide_eq_true_eq] at this
 omega
theorem qv2(n:Nat)(m:MdlT)(r:RopT)(day:Int)(ho:qu4 r)(hl:m.2.2.2.length≤50)(hr:r.2.2.2.length≤50)(hn:100≤n):qe7 n ((m,()),(r,(day,())))=some (dmgV m r day,()):=by
 rw[qlP]
 have:=forN (qev n) r.2.2.2.length (fun k=>(day,(r.2.2.2,((r.2.2.2.length:Int),((k:Int),((m,()),(qhq m r.2.2.2 day k,()))))))) (some (dmgV m r day,())) (fun k hk rec=>by
  obtain ⟨o1,o2⟩:=ho _ (List.getElem_mem hk)
  rw[qhj,qqT hk]
  simp only[iLtN hk,cond_true,qJ r.2.2.2 hk,Option.bind_some,quu n m r.2.2.2[k].2.1.1 r.2.2.2[k].2.2.2 o2 hl hn,quu n m r.2.2.2[k].2.1.2 r.2.2.2[k].2.2.1 o1 hl hn,qC (show k<9223372036854775807 by omega)]
  cases iLe r.2.2.2[k].1 day<;>rfl) (fun rec=>by
   rw[qhj]
   simp only[qcW (Nat.le_refl r.2.2.2.length),cond_false]
   rfl) n (by omega)
 show Option.bind (ql n (qev n) (day,(r.2.2.2,((r.2.2.2.length:Int),(((0:Nat):Int),((m,()),(qhq m r.2.2.2 day 0,()))))))) _=_
 rw[this]
 rfl
theorem qu5(n:Nat)(m:MdlT)(r:RopT)(day:Int)(ho:qu4 r)(hl:m.2.2.2.length≤50)(hr:r.2.2.2.length≤50)(hn:100≤n):qgu n (m,(r,(day,())))=some (dmgV m r day,()):=by
 rw[qlJ]
 have:=forN (qej n) r.2.2.2.length (fun k=>(day,((k:Int),(m,(r,(((0:Int),(0:Int)),(qhq m r.2.2.2 day k,()))))))) (some (((0:Int),(0:Int)),(dmgV m r day,()))) (fun k hk rec=>by
  obtain ⟨o1,o2⟩:=ho _ (List.getElem_mem hk)
  rw[qg0,qqT hk]
  simp only[iLtN hk,cond_true,qJ r.2.2.2 hk,Option.bind_some,qqS n r.2.2.2[k].2.1.1 r.2.2.2[k].2.2.2 o2,qqS n r.2.2.2[k].2.1.2 r.2.2.2[k].2.2.1 o1,qxp n m _ hl hn,qC (show k<9223372036854775807 by omega)]
  cases iLe r.2.2.2[k].1 day<;>rfl) (fun rec=>by
   rw[qg0]
   simp only[qcW (Nat.le_refl r.2.2.2.length),cond_false]
   rfl) n (by omega)
 show Option.bind (ql n (qej n) (day,(((0:Nat):Int),(m,(r,(((0:Int),(0:Int)),(qhq m r.2.2.2 day 0,()))))))) _=_
 rw[this]
 rfl
def fitB(m:MdlT)(r:RopT)(day d:Int):Bool:=decide (day≤r.1+m.1)&&((decide (r.2.1 = -1)||(decide (day<r.2.1)||decide (day≤r.2.1+m.2.1)))&&decide (d≤m.2.2.1))
theorem qmq{m:MdlT}(h:mOk m=true):(1≤m.1∧m.1≤10000)∧(1≤m.2.1∧m.2.1≤10000)∧m.2.2.2.length≤6:=by
 unfold mOk at h
 simp only[Bool.and_eq_true,decide_eq_true_eq,qbK] at h
 exact ⟨h.1.1.1.1,h.1.1.1.2,h.1.2⟩
theorem quv(a b:Int):iMin a b=min a b:=by
 unfold iMin
 split<;>omega
theorem qv3(n:Nat)(m:MdlT)(r:RopT)(day d:Int)(hm:mOk m=true)(hr:rOk r=true):qgQ n (m,(r,(day,(d,()))))=some (fitB m r day d,()):=by
 obtain ⟨m1,m2,m3⟩:=qmq hm
 obtain ⟨r1,r2,_⟩:=qmp hr
 rw[qlZ]
 rw[show iW (iAdd r.1 m.1)=r.1+m.1 from qh0 (by unfold iAdd;omega) (by unfold iAdd;omega),show iW (iAdd r.2.1 m.2.1)=r.2.1+m.2.1 from qh0 (by unfold iAdd;omega) (by unfold iAdd;omega)]
 unfold fitB
 have e2:iEq r.2.1 (Int.negSucc 0)=decide (r.2.1 = -1):=by unfold iEq;rw[Bool.eq_iff_iff];simp
 rw[e2]
 show cond (decide (day≤r.1+m.1)) (cond (decide (r.2.1 = -1)) (some (decide (d≤m.2.2.1),())) (cond (decide (r.2.1>day)) (some (decide (d≤m.2.2.1),())) (cond (decide (day≤r.2.1+m.2.1)) (some (decide (d≤m.2.2.1),())) _))) _=_
 rw[show decide (r.2.1>day)=decide (day<r.2.1) from rfl]
 generalize decide (day≤r.1+m.1)=A
 generalize decide (r.2.1 = -1)=B
 generalize decide (day<r.2.1)=C
 generalize decide (day≤r.2.1+m.2.1)=D
 generalize decide (d≤m.2.2.1)=E
 cases A<;>cases B<;>cases C<;>cases D<;>cases E<;>rfl
theorem qyM(n:Nat)(m:MdlT)(r:RopT)(day d:Int)(hm:mOk m=true)(hr:rOk r=true)(hd:0≤day∧day≤99999):qgk n ((m,()),(r,(day,(d,()))))=some (fitB m r day d,()):=by
 obtain ⟨m1,m2,m3⟩:=qmq hm
 obtain ⟨r1,r2,_⟩:=qmp hr
 have w1:iW (iAdd r.1 m.1)=r.1+m.1:=qh0 (by unfold iAdd;omega) (by unfold iAdd;omega)
 have w2:iW (iAdd r.2.1 m.2.1)=r.2.1+m.2.1:=qh0 (by unfold iAdd;omega) (by unfold iAdd;omega)
 have en:qeA n ((m,()),(r,((Int.negSucc 0),())))=some (min 99999 (r.1+m.1),()):=by
  rw[qiV]
  simp only[show iGe (Int.negSucc 0) 0=false from rfl,cond_false,w1,quv]
 have ef:qeA n ((m,()),(r,(r.2.1,())))=some (if r.2.1 = -1 then min 99999 (r.1+m.1) else min (min 99999 (r.1+m.1)) (r.2.1+m.2.1),()):=by
  rw[qiV]
  simp only[w1,w2,quv]
  by_cases h:r.2.1 = -1
  ·rw[show iGe r.2.1 0=false from decide_eq_false (by omega),if_pos h];rfl
  ·rw[show iGe r.2.1 0=true from decide_eq_true (by omega),if_neg h];rfl
 rw[qnS]
 simp only[en,ef,Option.bind_some]
 unfold fitB
 have key:∀(e:Int) (b:Bool),(decide (day≤e)=b)→(cond (iLe day e) (some (iLe d m.2.2.1,())) (some (false,())):Option (Bool×Unit))=some (b&&decide (d≤m.2.2.1),()):=by
  intro e b h
  subst h
  show cond (decide (day≤e)) (some (decide (d≤m.2.2.1),())) _=_
  cases decide (day≤e)<;>rfl
 rw[← Bool.and_assoc]
 by_cases hg:day<r.2.1
 ·rw[show iGt r.2.1 day=true from decide_eq_true hg]
  simp only[cond_true]
  refine key _ _ ?_
  rw[Bool.eq_iff_iff]
  simp only[Bool.and_eq_true,Bool.or_eq_true,decide_eq_true_eq]
  omega
 ·rw[show iGt r.2.1 day=false from decide_eq_false hg]
  simp only[cond_false]
  refine key _ _ ?_
  rw[Bool.eq_iff_iff]
  simp only[Bool.and_eq_true,Bool.or_eq_true,decide_eq_true_eq]
  split<;>omega
def fits(o:qp)(r:RopT):Bool:=fitB o.2.2.2.2.2.1 r o.1 (dmgV o.2.2.2.2.2.1 r o.1).2
def qgU(o:qp):Nat→List Int
 | 0=>[]
 | k+1=>match o.2.2.2.2.2.2[k]? with
  | some r=>cond (fits o r) (qgU o k++[(k:Int)]) (qgU o k)
  | none=>qgU o k
def fitI(o:qp):List Int:=qgU o o.2.2.2.2.2.2.length
theorem qnY{o:qp}{k:Nat}(hk:k<o.2.2.2.2.2.2.length):qgU o (k+1)=cond (fits o o.2.2.2.2.2.2[k]) (qgU o k++[(k:Int)]) (qgU o k):=by
 conv=>lhs;unfold qgU
 rw[List.getElem?_eq_getElem hk]
theorem qo7(o:qp):∀k,(qgU o k).length≤k
 | 0=>Nat.le_refl _
 | k+1=>by
  have:=qo7 o k
  unfold qgU
  split
  ·next r _=>cases fits o r<;>simp<;>omega
  ·omega
theorem qo8(o:qp)(x:Int):∀k,k≤o.2.2.2.2.2.2.length→(x∈qgU o k↔∃i:Nat,x=i∧i<k∧∃h:i<o.2.2.2.2.2.2.length,fits o o.2.2.2.2.2.2[i]=true)
 | 0,_=>by
  constructor
  ·intro h;cases h
  ·rintro ⟨i,_,h,_⟩;omega
 | k+1,hk=>by
  rw[qnY (by omega)]
  have ih:=qo8 o x k (by omega)
  cases hf:fits o o.2.2.2.2.2.2[k] with
  | true =>
   simp only[cond_true,List.mem_append,List.mem_singleton,ih]
   constructor
   ·rintro (⟨i,a,b,c⟩ | h)
    ·exact ⟨i,a,by omega,c⟩
    ·exact ⟨k,h,by omega,by omega,hf⟩
   ·rintro ⟨i,a,b,c⟩
    by_cases hik:i=k
    ·subst hik;exact .inr a
    ·exact .inl ⟨i,a,by omega,c⟩
  | false =>
   simp only[cond_false,ih]
   constructor
   ·rintro ⟨i,a,b,c⟩;exact ⟨i,a,by omega,c⟩
   ·rintro ⟨i,a,b,c,d⟩
    by_cases hik:i=k
    ·subst hik;rw[hf] at d;cases d
    ·exact ⟨i,a,by omega,c,d⟩
theorem qpR(o:qp):∀k,k≤o.2.2.2.2.2.2.length→(qgU o k).Nodup
 | 0,_=>List.nodup_nil
 | k+1,hk=>by
  rw[qnY (by omega)]
  have ih:=qpR o k (by omega)
  cases fits o o.2.2.2.2.2.2[k] with
  | false=>exact ih
  | true =>
   simp only[cond_true]
   rw[List.nodup_append]
   refine ⟨ih,by simp,fun a ha b hb=>?_⟩
   rw[List.mem_singleton] at hb
   subst hb
   obtain ⟨i,h1,h2,_⟩:=(qo8 o a k (by omega)).1 ha
   omega
def qcK(o:qp)(i:Int):Int:=((o.2.2.2.2.2.2[i.toNat]?).map (·.2.2.1)).getD 0
def fitS(o:qp):List Int:=(qiA (fun i=>-qcK o i) [] (fitI o)).reverse
theorem qo9(o:qp):(fitS o).Perm (fitI o):=by
 have:=qk7 (fun i=>-qcK o i) (fitI o) []
 rw[List.nil_append] at this
 exact (List.reverse_perm _).trans this
theorem qtQ(o:qp):(fitS o).Pairwise fun a b=>qcK o b≤qcK o a:=by
 unfold fitS
 rw[List.pairwise_reverse]
 refine List.Pairwise.imp ?_ (qlE (fun i=>-qcK o i) (fitI o) (Q:=[]) List.Pairwise.nil)
 intro a b h
 omega
theorem qqf(o:qp)(x:Int):x∈fitS o↔∃i:Nat,x=i∧∃h:i<o.2.2.2.2.2.2.length,fits o o.2.2.2.2.2.2[i]=true:=by
 rw[(qo9 o).mem_iff]
 unfold fitI
 rw[qo8 o x _ (Nat.le_refl _)]
 constructor
 ·rintro ⟨i,a,_,c⟩;exact ⟨i,a,c⟩
 ·rintro ⟨i,a,c,d⟩;exact ⟨i,a,c,c,d⟩
theorem qqU(o:qp):(fitS o).Nodup:=(qo9 o).nodup_iff.2 (qpR o _ (Nat.le_refl _))
theorem qnZ(o:qp)(x:Int)(hx:x∈fitS o):0≤x∧x<(o.2.2.2.2.2.2.length:Int):=by
 obtain ⟨i,h1,h2,_⟩:=(qqf o x).1 hx
 omega
structure Okay9 (o:qp):Prop where
 mdl:mOk o.2.2.2.2.2.1=true
 rps:∀r,r∈o.2.2.2.2.2.2→rOk r=true
 oth:oOk o=true
theorem qkB{o:qp}(h:chkE o=0):Okay9 o:=by
 unfold chkE at h
 cases hm:mOk o.2.2.2.2.2.1 with
 | false=>rw[hm] at h;exact absurd h (show ¬(90:Int)=0 by decide)
 | true =>
  rw[hm] at h
  cases hr:o.2.2.2.2.2.2.all rOk with
  | false=>rw[hr] at h;exact absurd h (show ¬(91:Int)=0 by decide)
  | true =>
   rw[hr] at h
   cases ho:oOk o with
   | false=>rw[ho] at h;exact absurd h (show ¬(93:Int)=0 by decide)
   | true=>exact ⟨hm,fun r hrm=>List.all_eq_true.1 hr r hrm,ho⟩
theorem Okay9.oth'{o:qp}(h:Okay9 o):(0≤o.1∧o.1≤99999)∧(1≤o.2.2.1∧o.2.2.1≤100)∧o.2.2.2.1.length≤4∧(∀g,g∈o.2.2.2.1→0≤g.2.2∧g.2.2≤20)∧o.2.2.2.2.1.length≤6∧(∀c,c∈o.2.2.2.2.1→1≤c∧c≤20)∧o.2.2.2.2.2.2.length≤6∧∀r,r∈o.2.2.2.2.2.2→r.1≤o.1:=by
 have h:=h.oth
 unfold oOk at h
 simp only[Bool.and_eq_true,decide_eq_true_eq,qbK,List.all_eq_true] at h
 obtain ⟨h1,h2,h3,h4,h5,h6,h7,h8,h9⟩:=h
 refine ⟨h1,h3,h4,fun g hg=>?_,h6,fun c hc=>?_,h8,fun r hr=>?_⟩
 ·have:=h5 g hg
  unfold gOk at this
  simp only[Bool.and_eq_true,qbK] at this
  exact this.2.2
 ·have:=h7 c hc
  unfold cOk at this
  exact qbK.1 this
 ·have:=h9 r hr
  unfold dOk at this
  exact of_decide_eq_true this
theorem qyl(n:Nat)(o:qp)(r:RopT)(h:Okay9 o)(hr:rOk r=true)(hn:100≤n):qe7 n ((o.2.2.2.2.2.1,()),(r,(o.1,())))=some (dmgV o.2.2.2.2.2.1 r o.1,())∧qgk n ((o.2.2.2.2.2.1,()),(r,(o.1,((dmgV o.2.2.2.2.2.1 r o.1).2,()))))=some (fits o r,()):=by
 obtain ⟨_,_,_,r4,r5⟩:=qmp hr
 have m3:=(qmq h.mdl).2.2
 exact ⟨qv2 n _ r o.1 r5 (by omega) (by omega) hn,qyM n _ r o.1 _ h.mdl hr h.oth'.1⟩
theorem qn0(n:Nat)(o:qp)(hs:qkl o)(hn:2000≤n):qdK n (o,())=if chkE o=0 then some (Sum.inl ((o,fitS o),(0,()))) else some (Sum.inr (chkE o,())):=by
 rw[qoj]
 simp only[qti n o hs (show 100≤n by omega),Option.bind_some]
 by_cases hc:chkE o=0
 rotate_left
 ·rw[show iNe (chkE o) 0=true by unfold iNe;simp[hc],if_neg hc]
  rfl
 rw[if_pos hc,hc]
 simp only[show iNe (0:Int) 0=false from rfl,cond_false]
 have hk:=qkB hc
 obtain ⟨_,_,_,_,_,_,o7,_⟩:=hk.oth'
 have:=forN (qf2 n) o.2.2.2.2.2.2.length (fun k=>(o.2.2.2.2.2.2,((o.2.2.2.2.2.2.length:Int),((k:Int),(o,(o,(qgU o k,((o.2.2.2.2.2.1,()),())))))))) (some (o,(o,(fitI o,())))) (fun k hk2 rec=>by
  have hr:=hk.rps _ (List.getElem_mem hk2)
  obtain ⟨f1,f2⟩:=qyl n o o.2.2.2.2.2.2[k] hk hr (by omega)
  have hlen:=qo7 o k
  rw[qiW,qnY hk2]
  simp only[iLtN hk2,cond_true,qJ o.2.2.2.2.2.2 hk2,Option.bind_some,f1,f2,bleT (nAdd (qgU o k).length 1) 17592186044416 (by show (qgU o k).length+1≤_;omega),qC (show k<9223372036854775807 by omega)]
  cases fits o o.2.2.2.2.2.2[k]<;>rfl) (fun rec=>by
   rw[qiW]
   simp only[qcW (Nat.le_refl o.2.2.2.2.2.2.length),cond_false]
   rfl) n (by omega)
 have e0:ql n (qf2 n) (o.2.2.2.2.2.2,((o.2.2.2.2.2.2.length:Int),((0:Int),(o,(o,([],((o.2.2.2.2.2.1,()),())))))))=some (o,(o,(fitI o,()))):=this
 rw[e0]
 simp only[Option.bind_some]
 have hfl:(fitI o).length≤6:=Nat.le_trans (qo7 o _) o7
 rw[qxk n (fun i=>-qcK o i) (fun i=>0≤i∧i<(o.2.2.2.2.2.2.length:Int)) (o,()) (fun m x y hx hy=>by
  obtain ⟨v,hv,hv'⟩:=qky hx
  obtain ⟨w,hw,hw'⟩:=qky hy
  rw[qm9]
  simp only[hv,hw,Option.bind_some,quq,qqd]
  unfold qcK
  rw[hv',hw']
  rfl) (fitI o) (fun x hx=>qnZ o x ((qo9 o).mem_iff.2 hx)) (by omega) hn]
 rfl
end Go.Proofs.Ytbdockhccdkdiaa
