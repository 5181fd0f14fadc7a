/- Texts Dt2, Dt3, Dt4 in one. -/
import Derived.Test.YtfnflenkeljkiaaGreatDl5
import Derived.Test.YtfnflenkeljkiaaGreatQe
/- Ropes: what outings are valid: the program and the reference alike. -/
set_option linter.constructorNameAsVariable false
set_option linter.unusedSimpArgs false
set_option linter.unusedVariables false
set_option linter.unusedSectionVars false
namespace Go.Proofs.YtfnflenkeljkiaaGreat
open Go Go.Proofs Go.RowKit
set_option maxHeartbeats 1000000
theorem forN{σ ξ:Type}(step:(σ→Option ξ)→σ→Option ξ)(N:Nat)(I:Nat→σ)(r:Option ξ)(h:∀k,k<N→∀rec,step rec (I k)=rec (I (k+1)))(he:∀rec,step rec (I N)=r)(m:Nat)(hm:N<m):qg m step (I 0)=r:=by
 have go:∀(j k m:Nat),k+j=N→j<m→qg m step (I k)=r:=by
  intro j
  induction j with
  | zero =>
   intro k m hk hm
   obtain ⟨m,rfl⟩:∃j,m=j+1:=⟨m-1,by omega⟩
   have:k=N:=by omega
   subst this
   rw[qU,he]
  | succ j ih =>
   intro k m hk hm
   obtain ⟨m,rfl⟩:∃j,m=j+1:=⟨m-1,by omega⟩
   rw[qU,h k (by omega)]
   exact ih (k+1) m (by omega) (by omega)
 exact go N 0 m (by omega) hm
theorem iLtN{a b:Nat}(h:a<b):iLt (a:Int) (b:Int)=true:=decide_eq_true (by omega)
theorem qcu{a b:Nat}(h:b≤a):iLt (a:Int) (b:Int)=false:=decide_eq_false (by omega)
theorem bleT(a b:Nat)(h:a≤b):qdo (Nat.ble a b)=some ():=by
 rw[Nat.ble_eq_true_of_le h];rfl
theorem quS(P:Nat→Bool):∀N,(List.range N).all P=false→∃k,k<N∧P k=false∧∀j,j<k→P j=true
 | 0,h=>by simp at h
 | N+1,h=>by
  rw[List.range_succ,List.all_append] at h
  cases h1:(List.range N).all P with
  | false =>
   obtain ⟨k,a,b,c⟩:=quS P N h1
   exact ⟨k,by omega,b,c⟩
  | true =>
   rw[h1] at h
   refine ⟨N,by omega,by simpa using h,fun j hj=>List.all_eq_true.1 h1 j (List.mem_range.2 hj)⟩
theorem qoQ{σ ξ:Type}(step:(σ→Option ξ)→σ→Option ξ)(N:Nat)(I:Nat→σ)(P:Nat→Bool)(good:Option ξ)(bad:Nat→Option ξ)(h:∀k,k<N→(∀j,j<k→P j=true)→∀rec,step rec (I k)=cond (P k) (rec (I (k+1))) (bad k))(he:(List.range N).all P=true→∀rec,step rec (I N)=good)(m:Nat)(hm:N<m) :
  ((List.range N).all P=true∧qg m step (I 0)=good)∨((List.range N).all P=false∧∃k,k<N∧qg m step (I 0)=bad k):=by
 cases ha:(List.range N).all P with
 | true =>
  have hP:∀j,j<N→P j=true:=fun j hj=>List.all_eq_true.1 ha j (List.mem_range.2 hj)
  exact .inl ⟨rfl,forN step N I good (fun k hk rec=>by rw[h k hk (fun j hj=>hP j (by omega)),hP k hk];rfl) (he ha) m hm⟩
 | false =>
  obtain ⟨k,hk,hb,hbf⟩:=quS P N ha
  exact .inr ⟨rfl,k,hk,forN step k I (bad k) (fun j hj rec=>by rw[h j (by omega) (fun i hi=>hbf i (by omega)),hbf j hj];rfl) (fun rec=>by rw[h k hk hbf,hb];rfl) m (by omega)⟩
theorem qgZ{σ ξ α:Type}(step:(σ→Option ξ)→σ→Option ξ)(l:List α)(p:α→Bool)(I:Nat→σ)(good:Option ξ)(bad:Nat→Option ξ)(h:∀k (hk:k<l.length),∀rec,step rec (I k)=cond (p l[k]) (rec (I (k+1))) (bad k))(he:∀rec,step rec (I l.length)=good)(m:Nat)(hm:l.length<m) :
  (l.all p=true∧qg m step (I 0)=good)∨(l.all p=false∧∃k,k<l.length∧qg m step (I 0)=bad k):=by
 have e:(List.range l.length).all (fun k=>((l[k]?).map p).getD true)=l.all p:=by
  rw[Bool.eq_iff_iff,List.all_eq_true,List.all_eq_true]
  constructor
  ·intro h x hx
   obtain ⟨k,hk,rfl⟩:=List.getElem_of_mem hx
   have:=h k (List.mem_range.2 hk)
   simpa[List.getElem?_eq_getElem hk] using this
  ·intro h k hk
   rw[List.mem_range] at hk
   simp[List.getElem?_eq_getElem hk,h _ (List.getElem_mem hk)]
 have:=qoQ step l.length I (fun k=>((l[k]?).map p).getD true) good bad (fun k hk _ rec=>by rw[h k hk];simp[List.getElem?_eq_getElem hk]) (fun _=>he) m hm
 rwa [e] at this
abbrev qm9:=Int×Int
abbrev MdlT:=Int×(Int×(Int×List qm9))
abbrev FalT:=Int×((Int×Int)×(Int×Int))
abbrev RopT:=Int×(Int×(Int×List FalT))
abbrev GuiT:=Int×(Int×Int)
abbrev qz:=Int×(Int×(Int×(List GuiT×(List Int×(MdlT×List RopT)))))
def prF(l:List qm9)(k:Nat):Int:=if k=0 then 0 else ((l[k-1]?).map (·.1)).getD 0
def prD(l:List qm9)(k:Nat):Int:=if k=0 then 0 else ((l[k-1]?).map (·.2)).getD 0
def ql0(l:List qm9)(k:Nat):Bool:=match l[k]? with
 | none=>true
 | some y=>qc y.1 (prF l k+1) 200&&qc y.2 (prD l k) 100
def mOk(m:MdlT):Bool:=qc m.1 1 10000&&qc m.2.1 1 10000&&qc m.2.2.1 0 100&&decide (m.2.2.2.length≤6)&&(List.range m.2.2.2.length).all (ql0 m.2.2.2)
theorem qy{x lo hi:Int}:qc x lo hi=true↔lo≤x∧x≤hi:=by
 unfold qc
 rw[Bool.and_eq_true,decide_eq_true_eq,decide_eq_true_eq]
theorem qvX{l:List qm9}{k:Nat}(h:∀j,j<k→ql0 l j=true)(hk:k≤l.length):0≤prF l k∧prF l k≤200∧0≤prD l k∧prD l k≤100∧(0<k→1≤prF l k):=by
 induction k with
 | zero=>unfold prF prD;simp
 | succ k ih =>
  have ih:=ih (fun j hj=>h j (by omega)) (by omega)
  have hp:=h k (by omega)
  have hkl:k<l.length:=by omega
  unfold ql0 at hp
  rw[List.getElem?_eq_getElem hkl] at hp
  simp only[Bool.and_eq_true,qy] at hp
  have e1:prF l (k+1)=l[k].1:=by unfold prF;simp[List.getElem?_eq_getElem hkl]
  have e2:prD l (k+1)=l[k].2:=by unfold prD;simp[List.getElem?_eq_getElem hkl]
  rw[e1,e2]
  omega
theorem qvY{l:List qm9}{k:Nat}(hk:k<l.length):prF l (k+1)=l[k].1∧prD l (k+1)=l[k].2:=by
 unfold prF prD;simp[List.getElem?_eq_getElem hk]
theorem qwA(n:Nat)(m:MdlT)(hl:m.2.2.2.length≤50)(hn:100≤n):qkg n (m,())=some (mOk m,()):=by
 rw[qpX]
 have:=qoQ (qfz n) m.2.2.2.length (fun k=>(prF m.2.2.2 k,(prD m.2.2.2 k,(m.2.2.2,((m.2.2.2.length:Int),((k:Int),(m,()))))))) (ql0 m.2.2.2) (some (Sum.inl (m,()))) (fun _=>some (Sum.inr (false,()))) (fun k hk hj rec=>by
  have hb:=qvX hj (by omega)
  obtain ⟨e1,e2⟩:=qvY hk
  rw[qkh]
  simp only[iLtN hk,cond_true,qr m.2.2.2 hk,Option.bind_some,qiA,show iW (iAdd (prF m.2.2.2 k) 1)=prF m.2.2.2 k+1 from qfF (by unfold iAdd;omega) (by unfold iAdd;omega),qQ (show k<9223372036854775807 by omega),e1,e2]
  have e3:ql0 m.2.2.2 k=(qc m.2.2.2[k].1 (prF m.2.2.2 k+1) 200&&qc m.2.2.2[k].2 (prD m.2.2.2 k) 100):=by unfold ql0;rw[List.getElem?_eq_getElem hk]
  rw[e3]
  cases qc m.2.2.2[k].1 (prF m.2.2.2 k+1) 200<;>cases qc m.2.2.2[k].2 (prD m.2.2.2 k) 100<;>rfl) (fun _ rec=>by
   rw[qkh]
   simp only[qcu (Nat.le_refl m.2.2.2.length),cond_false]) n (by omega)
 have e0:qg n (qfz n) ((0:Int),((0:Int),(m.2.2.2,((m.2.2.2.length:Int),((0:Int),(m,()))))))=qg n (qfz n) (prF m.2.2.2 0,(prD m.2.2.2 0,(m.2.2.2,((m.2.2.2.length:Int),(((0:Nat):Int),(m,())))))):=rfl
 simp only[e0]
 unfold mOk
 have e6:iLe (m.2.2.2.length:Int) 6=decide (m.2.2.2.length≤6):=decide_eq_decide.2 (by omega)
 rcases this with ⟨h1,h2⟩ | ⟨h1,k,_,h2⟩
 ·rw[h1,h2]
  simp only[Option.bind_some,Sum.elim_inl,qiA,e6]
  cases qc m.1 1 10000<;>cases qc m.2.1 1 10000<;>cases qc m.2.2.1 0 100<;>simp
 ·rw[h1,h2]
  simp
theorem qvp(n:Nat)(m:MdlT)(hl:m.2.2.2.length≤50)(hn:100≤n):qgM n (m,())=some (mOk m,()):=by
 rw[qlY]
 have:=qoQ (qf9 n) m.2.2.2.length (fun k=>((k:Int),(m,()))) (ql0 m.2.2.2) (some (Sum.inl ())) (fun _=>some (Sum.inr (false,()))) (fun k hk hj rec=>by
  have hb:=qvX hj (by omega)
  rw[qhk]
  have e3:ql0 m.2.2.2 k=(qc m.2.2.2[k].1 (prF m.2.2.2 k+1) 200&&qc m.2.2.2[k].2 (prD m.2.2.2 k) 100):=by unfold ql0;rw[List.getElem?_eq_getElem hk]
  simp only[iLtN hk,cond_true,qr m.2.2.2 hk,Option.bind_some,qfJ,qQ (show k<9223372036854775807 by omega)]
  rw[e3]
  cases k with
  | zero =>
   simp only[show iGt ((0:Nat):Int) 0=false from rfl,cond_false,show prF m.2.2.2 0=0 from rfl,show prD m.2.2.2 0=0 from rfl,show (0:Int)+1=1 from rfl]
   cases qc m.2.2.2[0].1 1 200<;>cases qc m.2.2.2[0].2 0 100<;>rfl
  | succ k =>
   obtain ⟨e1,e2⟩:=qvY (show k<m.2.2.2.length by omega)
   simp only[show iGt ((k+1:Nat):Int) 0=true from decide_eq_true (by omega),cond_true,qqw (show k<9223372036854775807 by omega),qr m.2.2.2 (show k<m.2.2.2.length by omega),Option.bind_some]
   rw[e1,e2] at hb ⊢
   generalize m.2.2.2[k+1].1=a at *
   generalize m.2.2.2[k+1].2=b at *
   have f1:qc a (m.2.2.2[k].1+1) 200=(qc a 1 200 && !iLe a m.2.2.2[k].1):=by
    rw[Bool.eq_iff_iff,Bool.and_eq_true,qy,qy,Bool.not_eq_true',show iLe a m.2.2.2[k].1=decide (a≤m.2.2.2[k].1) from rfl,decide_eq_false_iff_not]
    omega
   have f2:qc b m.2.2.2[k].2 100=(qc b 0 100 && !iLt b m.2.2.2[k].2):=by
    rw[Bool.eq_iff_iff,Bool.and_eq_true,qy,qy,Bool.not_eq_true',show iLt b m.2.2.2[k].2=decide (b<m.2.2.2[k].2) from rfl,decide_eq_false_iff_not]
    omega
   rw[f1,f2]
   cases qc a 1 200<;>cases qc b 0 100<;>cases iLe a m.2.2.2[k].1<;>cases iLt b m.2.2.2[k].2<;>rfl) (fun _ rec=>by
   rw[qhk]
   simp only[qcu (Nat.le_refl m.2.2.2.length),cond_false]) n (by omega)
 rw[show ((0:Nat):Int)=0 from rfl] at this
 simp only[qfJ,Option.bind_some]
 unfold mOk
 by_cases h6:m.2.2.2.length≤6
 ·rw[show iGt (m.2.2.2.length:Int) 6=false from decide_eq_false (by omega),decide_eq_true h6]
  rcases this with ⟨h1,h2⟩ | ⟨h1,k,_,h2⟩
  ·rw[h1,h2]
   cases qc m.1 1 10000<;>cases qc m.2.1 1 10000<;>cases qc m.2.2.1 0 100<;>rfl
  ·rw[h1,h2]
   cases qc m.1 1 10000<;>cases qc m.2.1 1 10000<;>cases qc m.2.2.1 0 100<;>rfl
 ·rw[show iGt (m.2.2.2.length:Int) 6=true from decide_eq_true (by omega),decide_eq_false h6]
  cases qc m.1 1 10000<;>cases qc m.2.1 1 10000<;>cases qc m.2.2.1 0 100<;>rfl
def qiI(r:RopT)(k:Nat):Int:=if k=0 then r.2.1 else ((r.2.2.2[k-1]?).map (·.1)).getD 0
def qk7(r:RopT)(k:Nat):Bool:=match r.2.2.2[k]? with
 | none=>true
 | some f=>qc f.1 (qiI r k) 99999&&(qW f.2.1.1 f.2.1.2 1 1000&&qW f.2.2.1 f.2.2.2 1 1000)
def rOk(r:RopT):Bool:=qc r.1 0 99999&&((decide (r.2.1 = -1)||qc r.2.1 r.1 99999)&&(qc r.2.2.1 1 100&&(decide (r.2.2.2.length≤10)&&((!decide (r.2.1 = -1)||decide (r.2.2.2.length=0))&&(List.range r.2.2.2.length).all (qk7 r)))))
theorem qpZ{r:RopT}{k:Nat}(hk:k<r.2.2.2.length):qiI r (k+1)=r.2.2.2[k].1:=by
 unfold qiI;simp[List.getElem?_eq_getElem hk]
theorem qoR{r:RopT}{k:Nat}(hk:k<r.2.2.2.length):qk7 r k=(qc r.2.2.2[k].1 (qiI r k) 99999&&(qW r.2.2.2[k].2.1.1 r.2.2.2[k].2.1.2 1 1000&&qW r.2.2.2[k].2.2.1 r.2.2.2[k].2.2.2 1 1000)):=by
 unfold qk7;rw[List.getElem?_eq_getElem hk]
theorem qAb{r:RopT}{k:Nat}(h:∀j,j<k→qk7 r j=true)(hk:k≤r.2.2.2.length):r.2.1≤qiI r k:=by
 induction k with
 | zero=>exact Int.le_refl _
 | succ k ih =>
  have ih:=ih (fun j hj=>h j (by omega)) (by omega)
  have hp:=h k (by omega)
  rw[qoR (by omega)] at hp
  simp only[Bool.and_eq_true,qy] at hp
  rw[qpZ (by omega)]
  omega
theorem qwB(n:Nat)(r:RopT)(hl:r.2.2.2.length≤50)(hn:100≤n):∃u,qbg n (r.2.2.2,(r.2.1,()))=some ((List.range r.2.2.2.length).all (qk7 r),u):=by
 rw[qhY,qdx,qdU]
 have:=qoQ (qba n) r.2.2.2.length (fun k=>(r.2.2.2,((r.2.2.2.length:Int),((k:Int),(qiI r k,()))))) (qk7 r) (some (Sum.inl (qiI r r.2.2.2.length,()))) (fun k=>some (Sum.inr ((k:Int),(qiI r (k+1),())))) (fun k hk hj rec=>by
  rw[qbO,qoR hk]
  simp only[iLtN hk,cond_true,qr r.2.2.2 hk,Option.bind_some,qhr,qoN,qiA,qwz,qQ (show k<9223372036854775807 by omega),qpZ hk]
  cases qc r.2.2.2[k].1 (qiI r k) 99999<;>cases qW r.2.2.2[k].2.1.1 r.2.2.2[k].2.1.2 1 1000<;>cases qW r.2.2.2[k].2.2.1 r.2.2.2[k].2.2.2 1 1000<;>rfl) (fun _ rec=>by
   rw[qbO]
   simp only[qcu (Nat.le_refl r.2.2.2.length),cond_false]) n (by omega)
 have e0:qiI r 0=r.2.1:=rfl
 rw[show ((0:Nat):Int)=0 from rfl,e0] at this
 rcases this with ⟨h1,h2⟩ | ⟨h1,k,_,h2⟩
 ·rw[h1,h2]
  exact ⟨_,rfl⟩
 ·rw[h1,h2]
  simp only[Option.bind_some,Sum.elim_inr,show iGe (k:Int) 0=true from decide_eq_true (by omega)]
  exact ⟨_,rfl⟩
theorem qxC(n:Nat)(r:RopT)(hl:r.2.2.2.length≤50)(hn:100≤n):qkT n (r,())=some (rOk r,()):=by
 obtain ⟨u,hu⟩:=qwB n r hl hn
 rw[qqI]
 simp only[qiA,Option.bind_some,hu]
 unfold rOk
 have e1:iNe r.2.1 (Int.negSucc 0) = !decide (r.2.1 = -1):=by unfold iNe;rw[Bool.eq_iff_iff];simp
 have e2:iEq r.2.1 (Int.negSucc 0)=decide (r.2.1 = -1):=by unfold iEq;rw[Bool.eq_iff_iff];simp
 have e3:iGt (r.2.2.2.length:Int) 10 = !decide (r.2.2.2.length≤10):=by rw[Bool.eq_iff_iff];show decide ((r.2.2.2.length:Int)>10)=true↔_;simp;omega
 have e4:iGt (r.2.2.2.length:Int) 0 = !decide (r.2.2.2.length=0):=by rw[Bool.eq_iff_iff,Bool.not_eq_true',decide_eq_false_iff_not];show decide ((r.2.2.2.length:Int)>0)=true↔_;rw[decide_eq_true_eq];omega
 rw[e1,e2,e3,e4]
 generalize (List.range r.2.2.2.length).all (qk7 r)=A
 generalize decide (r.2.1 = -1)=B
 generalize decide (r.2.2.2.length≤10)=C
 generalize decide (r.2.2.2.length=0)=D
 generalize qc r.1 0 99999=E
 generalize qc r.2.1 r.1 99999=F
 generalize qc r.2.2.1 1 100=G
 cases E<;>cases B<;>cases F<;>cases G<;>cases C<;>cases D<;>rfl
theorem qwC(n:Nat)(r:RopT)(hl:r.2.2.2.length≤50)(hn:100≤n):qg9 n (r,())=some (rOk r,()):=by
 have hloop:=qoQ (qcg n) r.2.2.2.length (fun k=>((k:Int),(r,()))) (qk7 r) (some (Sum.inl ())) (fun _=>some (Sum.inr (false,()))) (fun k hk hj rec=>by
  have hge:=qAb hj (by omega)
  rw[qhN,qoR hk]
  simp only[iLtN hk,cond_true,qr r.2.2.2 hk,Option.bind_some,qfJ,qy9,qQ (show k<9223372036854775807 by omega)]
  cases k with
  | zero =>
   simp only[show iGt ((0:Nat):Int) 0=false from rfl,cond_false,show qiI r 0=r.2.1 from rfl]
   cases qc r.2.2.2[0].1 r.2.1 99999<;>cases qW r.2.2.2[0].2.1.1 r.2.2.2[0].2.1.2 1 1000<;>cases qW r.2.2.2[0].2.2.1 r.2.2.2[0].2.2.2 1 1000<;>rfl
  | succ k =>
   simp only[show iGt ((k+1:Nat):Int) 0=true from decide_eq_true (by omega),cond_true,qqw (show k<9223372036854775807 by omega),qr r.2.2.2 (show k<r.2.2.2.length by omega),Option.bind_some]
   rw[qpZ (show k<r.2.2.2.length by omega)] at hge ⊢
   have f1:qc r.2.2.2[k+1].1 r.2.2.2[k].1 99999=(qc r.2.2.2[k+1].1 r.2.1 99999 && !iLt r.2.2.2[k+1].1 r.2.2.2[k].1):=by
    rw[Bool.eq_iff_iff,Bool.and_eq_true,qy,qy,Bool.not_eq_true',show iLt r.2.2.2[k+1].1 r.2.2.2[k].1=decide (r.2.2.2[k+1].1<r.2.2.2[k].1) from rfl,decide_eq_false_iff_not]
    omega
   rw[f1]
   cases qc r.2.2.2[k+1].1 r.2.1 99999<;>cases iLt r.2.2.2[k+1].1 r.2.2.2[k].1<;>cases qW r.2.2.2[k+1].2.1.1 r.2.2.2[k+1].2.1.2 1 1000<;>cases qW r.2.2.2[k+1].2.2.1 r.2.2.2[k+1].2.2.2 1 1000<;>rfl) (fun _ rec=>by
   rw[qhN]
   simp only[qcu (Nat.le_refl r.2.2.2.length),cond_false]) n (by omega)
 rw[show ((0:Nat):Int)=0 from rfl] at hloop
 rw[qms]
 simp only[qfJ,Option.bind_some]
 unfold rOk
 have e1:iNe r.2.1 (Int.negSucc 0) = !decide (r.2.1 = -1):=by unfold iNe;rw[Bool.eq_iff_iff];simp
 have e2:iEq r.2.1 (Int.negSucc 0)=decide (r.2.1 = -1):=by unfold iEq;rw[Bool.eq_iff_iff];simp
 have e3:iGt (r.2.2.2.length:Int) 10 = !decide (r.2.2.2.length≤10):=by rw[Bool.eq_iff_iff];show decide ((r.2.2.2.length:Int)>10)=true↔_;simp;omega
 have e4:iGt (r.2.2.2.length:Int) 0 = !decide (r.2.2.2.length=0):=by rw[Bool.eq_iff_iff,Bool.not_eq_true',decide_eq_false_iff_not];show decide ((r.2.2.2.length:Int)>0)=true↔_;rw[decide_eq_true_eq];omega
 rw[e1,e2,e3,e4]
 have hlp:Option.bind (qg n (qcg n) ((0:Int),(r,()))) (fun y3=>(Sum.elim (fun _=>(some (true,()))) (fun b=>(some b)) y3))=some ((List.range r.2.2.2.length).all (qk7 r),()):=by
  rcases hloop with ⟨h1,h2⟩ | ⟨h1,k,_,h2⟩
  ·rw[h1,h2];rfl
  ·rw[h1,h2];rfl
 rw[hlp]
 generalize (List.range r.2.2.2.length).all (qk7 r)=A
 generalize decide (r.2.1 = -1)=B
 generalize decide (r.2.2.2.length≤10)=C
 generalize decide (r.2.2.2.length=0)=D
 generalize qc r.1 0 99999=E
 generalize qc r.2.1 r.1 99999=F
 generalize qc r.2.2.1 1 100=G
 cases E<;>cases B<;>cases F<;>cases G<;>cases C<;>cases D<;>rfl
def gOk(g:GuiT):Bool:=qc g.1 1 6&&(qc g.2.1 0 99999&&qc g.2.2 0 20)
def cOk(c:Int):Bool:=qc c 1 20
def dOk(d:Int)(r:RopT):Bool:=decide (r.1≤d)
def oOk(o:qz):Bool:=qc o.1 0 99999&&(qc o.2.1 1 6&&(qc o.2.2.1 1 100&&(decide (o.2.2.2.1.length≤4)&&(o.2.2.2.1.all gOk&&(decide (o.2.2.2.2.1.length≤6)&&(o.2.2.2.2.1.all cOk&&(decide (o.2.2.2.2.2.2.length≤6)&&o.2.2.2.2.2.2.all (dOk o.1))))))))
def chkE(o:qz):Int:=cond (mOk o.2.2.2.2.2.1) (cond (o.2.2.2.2.2.2.all rOk) (cond (oOk o) 0 93) 91) 90
def qoS(o:qz):Prop:=o.2.2.2.1.length≤20∧o.2.2.2.2.1.length≤20∧o.2.2.2.2.2.2.length≤20∧o.2.2.2.2.2.1.2.2.2.length≤50∧∀r,r∈o.2.2.2.2.2.2→r.2.2.2.length≤50
theorem qAc(n:Nat)(l:List GuiT)(hl:l.length≤50)(hn:100≤n):qdm n (l,(((),()),()))=some (l.all gOk,()):=by
 rw[qhZ,qdq,qdN]
 have:=qgZ (qX n) l gOk (fun k=>(l,((l.length:Int),((k:Int),())))) (some (Sum.inl ())) (fun k=>some (Sum.inr ((k:Int),()))) (fun k hk rec=>by
  rw[qbJ]
  simp only[iLtN hk,cond_true,qr l hk,Option.bind_some,qhs,qpb,qiA,qQ (show k<9223372036854775807 by omega)]
  unfold gOk
  cases qc l[k].1 1 6<;>cases qc l[k].2.1 0 99999<;>cases qc l[k].2.2 0 20<;>rfl) (fun rec=>by
   rw[qbJ]
   simp only[qcu (Nat.le_refl l.length),cond_false]) n (by omega)
 rw[show ((0:Nat):Int)=0 from rfl] at this
 rcases this with ⟨h1,h2⟩ | ⟨h1,k,_,h2⟩
 ·simp only[h1,h2];rfl
 ·simp only[h1,h2,Option.bind_some,Sum.elim_inr,show iGe (k:Int) 0=true from decide_eq_true (by omega)];rfl
theorem qAd(n:Nat)(l:List Int)(hl:l.length≤50)(hn:100≤n):qeq n (l,(((),()),()))=some (l.all cOk,()):=by
 rw[qjj,qew,qeO]
 have:=qgZ (qbv n) l cOk (fun k=>(l,((l.length:Int),((k:Int),())))) (some (Sum.inl ())) (fun k=>some (Sum.inr ((k:Int),()))) (fun k hk rec=>by
  rw[qcw]
  simp only[iLtN hk,cond_true,qr l hk,Option.bind_some,qiU,qpc,qiA,qQ (show k<9223372036854775807 by omega)]
  unfold cOk
  cases qc l[k] 1 20<;>rfl) (fun rec=>by
   rw[qcw]
   simp only[qcu (Nat.le_refl l.length),cond_false]) n (by omega)
 rw[show ((0:Nat):Int)=0 from rfl] at this
 rcases this with ⟨h1,h2⟩ | ⟨h1,k,_,h2⟩
 ·simp only[h1,h2];rfl
 ·simp only[h1,h2,Option.bind_some,Sum.elim_inr,show iGe (k:Int) 0=true from decide_eq_true (by omega)];rfl
theorem qAe(n:Nat)(o:qz)(l:List RopT)(hl:l.length≤50)(hn:100≤n):qdw n (l,(o,()))=some (l.all (dOk o.1),(o,())):=by
 rw[qil,qdF,qd0]
 have:=qgZ (qbc n) l (dOk o.1) (fun k=>(l,((l.length:Int),((k:Int),(o,()))))) (some (Sum.inl (o,()))) (fun k=>some (Sum.inr ((k:Int),(o,())))) (fun k hk rec=>by
  rw[qbT]
  simp only[iLtN hk,cond_true,qr l hk,Option.bind_some,qhL,qpd,qQ (show k<9223372036854775807 by omega)]
  show cond (!dOk o.1 l[k]) _ _=_
  cases dOk o.1 l[k]<;>rfl) (fun rec=>by
   rw[qbT]
   simp only[qcu (Nat.le_refl l.length),cond_false]) n (by omega)
 rw[show ((0:Nat):Int)=0 from rfl] at this
 rcases this with ⟨h1,h2⟩ | ⟨h1,k,_,h2⟩
 ·simp only[h1,h2];rfl
 ·simp only[h1,h2,Option.bind_some,Sum.elim_inr,show iGe (k:Int) 0=true from decide_eq_true (by omega)];rfl
theorem qAf(n:Nat)(l:List RopT)(hl:l.length≤50)(hf:∀r,r∈l→r.2.2.2.length≤50)(hn:100≤n):qdM n (l,(((),()),()))=some (l.all rOk,()):=by
 rw[qix,qdO,qd9]
 have:=qgZ (qbf n) l rOk (fun k=>(l,((l.length:Int),((k:Int),())))) (some (Sum.inl ())) (fun k=>some (Sum.inr ((k:Int),()))) (fun k hk rec=>by
  rw[qbW]
  simp only[iLtN hk,cond_true,qr l hk,Option.bind_some,qh0,qxC n l[k] (hf _ (List.getElem_mem hk)) hn,qQ (show k<9223372036854775807 by omega)]
  cases rOk l[k]<;>rfl) (fun rec=>by
   rw[qbW]
   simp only[qcu (Nat.le_refl l.length),cond_false]) n (by omega)
 rw[show ((0:Nat):Int)=0 from rfl] at this
 rcases this with ⟨h1,h2⟩ | ⟨h1,k,_,h2⟩
 ·simp only[h1,h2];rfl
 ·simp only[h1,h2,Option.bind_some,Sum.elim_inr,show iGe (k:Int) 0=true from decide_eq_true (by omega)];rfl
theorem qn4(a b:Nat):iGt (a:Int) (b:Int) = !decide (a≤b):=by
 rw[Bool.eq_iff_iff,Bool.not_eq_true',decide_eq_false_iff_not];show decide ((a:Int)>(b:Int))=true↔_;rw[decide_eq_true_eq];omega
theorem qza(n:Nat)(o:qz)(hs:qoS o)(hn:100≤n):qlv n (o,())=some (chkE o,()):=by
 obtain ⟨h1,h2,h3,h4,h5⟩:=hs
 rw[qrt]
 simp only[qwA n o.2.2.2.2.2.1 h4 hn,qAf n o.2.2.2.2.2.2 (show o.2.2.2.2.2.2.length≤50 by omega) h5 hn,qAc n o.2.2.2.1 (show o.2.2.2.1.length≤50 by omega) hn,qAd n o.2.2.2.2.1 (show o.2.2.2.2.1.length≤50 by omega) hn,qAe n o o.2.2.2.2.2.2 (show o.2.2.2.2.2.2.length≤50 by omega) hn,qiA,Option.bind_some]
 unfold chkE oOk
 rw[show (4:Int)=((4:Nat):Int) from rfl,show (6:Int)=((6:Nat):Int) from rfl,qn4,qn4,qn4]
 generalize mOk o.2.2.2.2.2.1=A
 generalize o.2.2.2.2.2.2.all rOk=B
 generalize qc o.1 0 99999=C
 generalize qc o.2.1 1 ((6:Nat):Int)=D
 generalize qc o.2.2.1 1 100=E
 generalize decide (o.2.2.2.1.length≤4)=F
 generalize o.2.2.2.1.all gOk=G
 generalize decide (o.2.2.2.2.1.length≤6)=H
 generalize o.2.2.2.2.1.all cOk=I
 generalize decide (o.2.2.2.2.2.2.length≤6)=J
 generalize o.2.2.2.2.2.2.all (dOk o.1)=K
 cases A
 ·rfl
 cases B
 ·rfl
 cases C
 ·rfl
 cases D
 ·rfl
 cases E
 ·rfl
 cases F
 ·rfl
 cases G
 ·rfl
 cases H
 ·rfl
 cases I
 ·rfl
 cases J
 ·rfl
 cases K<;>rfl
theorem qtD(n:Nat)(o:qz)(hs:qoS o)(hn:100≤n):qfL n (o,())=some (chkE o,()):=by
 obtain ⟨h1,h2,h3,h4,h5⟩:=hs
 have l0:=qgZ (qgN n) o.2.2.2.2.2.2 rOk (fun k=>((k:Int),(o,()))) (some (Sum.inl (o,()))) (fun k=>some (Sum.inr (91,()))) (fun k hk rec=>by
  rw[qh9]
  simp only[iLtN hk,cond_true,qr o.2.2.2.2.2.2 hk,Option.bind_some,qwC n o.2.2.2.2.2.2[k] (h5 _ (List.getElem_mem hk)) hn,qQ (show k<9223372036854775807 by omega)]
  cases rOk o.2.2.2.2.2.2[k]<;>rfl) (fun rec=>by
   rw[qh9]
   simp only[qcu (Nat.le_refl o.2.2.2.2.2.2.length),cond_false]) n (by omega)
 have l1:=qgZ (qgO n) o.2.2.2.1 gOk (fun k=>((k:Int),(o,()))) (some (Sum.inl (o,()))) (fun k=>some (Sum.inr (93,()))) (fun k hk rec=>by
  rw[qia]
  simp only[iLtN hk,cond_true,qr o.2.2.2.1 hk,Option.bind_some,qfJ,qQ (show k<9223372036854775807 by omega)]
  unfold gOk
  cases qc o.2.2.2.1[k].1 1 6<;>cases qc o.2.2.2.1[k].2.1 0 99999<;>cases qc o.2.2.2.1[k].2.2 0 20<;>rfl) (fun rec=>by
   rw[qia]
   simp only[qcu (Nat.le_refl o.2.2.2.1.length),cond_false]) n (by omega)
 have l2:=qgZ (qgP n) o.2.2.2.2.1 cOk (fun k=>((k:Int),(o,()))) (some (Sum.inl (o,()))) (fun k=>some (Sum.inr (93,()))) (fun k hk rec=>by
  rw[qib]
  simp only[iLtN hk,cond_true,qr o.2.2.2.2.1 hk,Option.bind_some,qfJ,qQ (show k<9223372036854775807 by omega)]
  unfold cOk
  cases qc o.2.2.2.2.1[k] 1 20<;>rfl) (fun rec=>by
   rw[qib]
   simp only[qcu (Nat.le_refl o.2.2.2.2.1.length),cond_false]) n (by omega)
 have l3:=qgZ (qgQ n) o.2.2.2.2.2.2 (dOk o.1) (fun k=>((k:Int),(o,()))) (some (Sum.inl ())) (fun k=>some (Sum.inr (93,()))) (fun k hk rec=>by
  rw[qic]
  simp only[iLtN hk,cond_true,qr o.2.2.2.2.2.2 hk,Option.bind_some,qQ (show k<9223372036854775807 by omega)]
  have e:iGt o.2.2.2.2.2.2[k].1 o.1 = !dOk o.1 o.2.2.2.2.2.2[k]:=by
   unfold dOk
   rw[Bool.eq_iff_iff];show decide (o.2.2.2.2.2.2[k].1>o.1)=true↔_;simp
  rw[e]
  cases dOk o.1 o.2.2.2.2.2.2[k]<;>rfl) (fun rec=>by
   rw[qic]
   simp only[qcu (Nat.le_refl o.2.2.2.2.2.2.length),cond_false]) n (by omega)
 rw[show ((0:Nat):Int)=0 from rfl] at l0 l1 l2 l3
 rw[qmJ]
 simp only[qvp n o.2.2.2.2.2.1 h4 hn,qfJ,Option.bind_some]
 unfold chkE oOk
 rw[show (4:Int)=((4:Nat):Int) from rfl,show (6:Int)=((6:Nat):Int) from rfl]
 cases mOk o.2.2.2.2.2.1
 ·rfl
 rcases l0 with ⟨a0,b0⟩ | ⟨a0,k,_,b0⟩
 rotate_left
 ·rw[a0,b0];rfl
 rw[a0,b0]
 simp only[Option.bind_some,Sum.elim_inl,cond_true,Bool.not_true,cond_false,qn4]
 generalize qc o.1 0 99999=C
 generalize qc o.2.1 1 ((6:Nat):Int)=D
 generalize qc o.2.2.1 1 100=E
 generalize decide (o.2.2.2.1.length≤4)=F
 generalize decide (o.2.2.2.2.1.length≤6)=H
 generalize decide (o.2.2.2.2.2.2.length≤6)=J
 rcases l1 with ⟨a1,b1⟩ | ⟨a1,k,_,b1⟩
 rotate_left
 ·rw[a1,b1]
  cases C<;>cases D<;>cases E<;>cases F<;>cases H<;>cases J<;>rfl
 rcases l2 with ⟨a2,b2⟩ | ⟨a2,k,_,b2⟩
 rotate_left
 ·rw[a1,b1,a2]
  simp only[Option.bind_some,Sum.elim_inl,b2]
  cases C<;>cases D<;>cases E<;>cases F<;>cases H<;>cases J<;>rfl
 rcases l3 with ⟨a3,b3⟩ | ⟨a3,k,_,b3⟩
 rotate_left
 ·rw[a1,b1,a2,a3]
  simp only[Option.bind_some,Sum.elim_inl,b2,b3]
  cases C<;>cases D<;>cases E<;>cases F<;>cases H<;>cases J<;>rfl
 ·rw[a1,b1,a2,a3]
  simp only[Option.bind_some,Sum.elim_inl,b2,b3]
  cases C<;>cases D<;>cases E<;>cases F<;>cases H<;>cases J<;>rfl
def qjr(l:List qm9)(fac:Int):Nat→Int
 | 0=>0
 | k+1=>match l[k]? with
  | some y=>cond (iLe y.1 fac) y.2 (qjr l fac k)
  | none=>qjr l fac k
def qna(m:MdlT)(fac:Int):Int:=qjr m.2.2.2 fac m.2.2.2.length
def facV(h out:Int):Int:=iMin 200 (iW (Int.tdiv (iW (iSub (iW (iAdd (iW (iMul 100 h)) out)) 1)) out))
theorem qq5{l:List qm9}{fac:Int}{k:Nat}(hk:k<l.length):qjr l fac (k+1)=cond (iLe l[k].1 fac) l[k].2 (qjr l fac k):=by
 conv=>lhs;unfold qjr
 rw[List.getElem?_eq_getElem hk]
theorem quT{x:Int}(h:x≠0):qdo (iNe x 0)=some ():=by
 have:iNe x 0=true:=by unfold iNe;simp[h]
 rw[this];rfl
theorem qvZ(n:Nat)(m:MdlT)(h out:Int)(ho:out≠0)(hl:m.2.2.2.length≤50)(hn:100≤n):qgz n ((m,()),(h,(out,())))=some (qna m (facV h out),()):=by
 rw[qnW]
 simp only[quT ho,Option.bind_some]
 have:=forN (qfH n) m.2.2.2.length (fun k=>(facV h out,(qjr m.2.2.2 (facV h out) k,(m.2.2.2,((m.2.2.2.length:Int),((k:Int),())))))) (some (qna m (facV h out),())) (fun k hk rec=>by
  rw[qiY,qq5 hk]
  simp only[iLtN hk,cond_true,qr m.2.2.2 hk,Option.bind_some,qQ (show k<9223372036854775807 by omega)]
  cases iLe m.2.2.2[k].1 (facV h out)<;>rfl) (fun rec=>by
   rw[qiY]
   simp only[qcu (Nat.le_refl m.2.2.2.length),cond_false]
   rfl) n (by omega)
 show Option.bind (qg n (qfH n) (facV h out,(qjr m.2.2.2 (facV h out) 0,(m.2.2.2,((m.2.2.2.length:Int),(((0:Nat):Int),())))))) _=_
 rw[this]
 rfl
theorem qsg(n:Nat)(h out:Int)(ho:out≠0):qfn n (h,(out,()))=some (facV h out,()):=by
 rw[qmt]
 simp only[quT ho,Option.bind_some]
 rfl
theorem qzb(n:Nat)(m:MdlT)(fac:Int)(hl:m.2.2.2.length≤50)(hn:100≤n):qgg n (m,(fac,()))=some (qna m fac,()):=by
 rw[qns]
 have:=forN (qfo n) m.2.2.2.length (fun k=>(fac,(qjr m.2.2.2 fac k,((k:Int),(m,()))))) (some (qna m fac,())) (fun k hk rec=>by
  rw[qiG,qq5 hk]
  simp only[iLtN hk,cond_true,qr m.2.2.2 hk,Option.bind_some,qQ (show k<9223372036854775807 by omega)]
  cases iLe m.2.2.2[k].1 fac<;>rfl) (fun rec=>by
   rw[qiG]
   simp only[qcu (Nat.le_refl m.2.2.2.length),cond_false]
   rfl) n (by omega)
 show Option.bind (qg n (qfo n) (fac,(qjr m.2.2.2 fac 0,(((0:Nat):Int),(m,()))))) _=_
 rw[this]
 rfl
def qid(m:MdlT)(l:List FalT)(day:Int):Nat→Int×Int
 | 0=>(0,0)
 | k+1=>match l[k]? with
  | some f=>cond (iLe f.1 day) (iW (iAdd (qid m l day k).1 (qna m (facV f.2.1.1 f.2.2.2))),iW (iAdd (qid m l day k).2 (qna m (facV f.2.1.2 f.2.2.1)))) (qid m l day k)
  | none=>qid m l day k
def dmgV(m:MdlT)(r:RopT)(day:Int):Int×Int:=qid m r.2.2.2 day r.2.2.2.length
theorem qsh{m:MdlT}{l:List FalT}{day:Int}{k:Nat}(hk:k<l.length):qid m l day (k+1)=cond (iLe l[k].1 day) (iW (iAdd (qid m l day k).1 (qna m (facV l[k].2.1.1 l[k].2.2.2))),iW (iAdd (qid m l day k).2 (qna m (facV l[k].2.1.2 l[k].2.2.1)))) (qid m l day k):=by
 conv=>lhs;unfold qid
 rw[List.getElem?_eq_getElem hk]
def qwD(r:RopT):Prop:=∀f,f∈r.2.2.2→f.2.2.1≠0∧f.2.2.2≠0
theorem qnb{r:RopT}(h:rOk r=true):(0≤r.1∧r.1≤99999)∧(r.2.1 = -1∨(r.1≤r.2.1∧r.2.1≤99999))∧(1≤r.2.2.1∧r.2.2.1≤100)∧r.2.2.2.length≤10∧qwD r:=by
 unfold rOk at h
 simp only[Bool.and_eq_true,Bool.or_eq_true,decide_eq_true_eq,qy,Bool.not_eq_true'] at h
 obtain ⟨h1,h2,h3,h4,h5,h6⟩:=h
 refine ⟨h1,h2,h3,h4,fun f hf=>?_⟩
 obtain ⟨k,hk,rfl⟩:=List.getElem_of_mem hf
 have:=List.all_eq_true.1 h6 k (List.mem_range.2 hk)
 rw[qoR hk] at this
 unfold qW at this
 simp only[Bool.and_eq_true,decide_eq_true_eq] at this
 omega
theorem qxD(n:Nat)(m:MdlT)(r:RopT)(day:Int)(ho:qwD r)(hl:m.2.2.2.length≤50)(hr:r.2.2.2.length≤50)(hn:100≤n):qfI n ((m,()),(r,(day,())))=some (dmgV m r day,()):=by
 rw[qmE]
 have:=forN (qeX n) r.2.2.2.length (fun k=>(day,(r.2.2.2,((r.2.2.2.length:Int),((k:Int),((m,()),(qid m r.2.2.2 day k,()))))))) (some (dmgV m r day,())) (fun k hk rec=>by
  obtain ⟨o1,o2⟩:=ho _ (List.getElem_mem hk)
  rw[qh8,qsh hk]
  simp only[iLtN hk,cond_true,qr r.2.2.2 hk,Option.bind_some,qvZ n m r.2.2.2[k].2.1.1 r.2.2.2[k].2.2.2 o2 hl hn,qvZ n m r.2.2.2[k].2.1.2 r.2.2.2[k].2.2.1 o1 hl hn,qQ (show k<9223372036854775807 by omega)]
  cases iLe r.2.2.2[k].1 day<;>rfl) (fun rec=>by
   rw[qh8]
   simp only[qcu (Nat.le_refl r.2.2.2.length),cond_false]
   rfl) n (by omega)
 show Option.bind (qg n (qeX n) (day,(r.2.2.2,((r.2.2.2.length:Int),(((0:Nat):Int),((m,()),(qid m r.2.2.2 day 0,()))))))) _=_
 rw[this]
 rfl
theorem qwE(n:Nat)(m:MdlT)(r:RopT)(day:Int)(ho:qwD r)(hl:m.2.2.2.length≤50)(hr:r.2.2.2.length≤50)(hn:100≤n):qha n (m,(r,(day,())))=some (dmgV m r day,()):=by
 rw[qmu]
 have:=forN (qeE n) r.2.2.2.length (fun k=>(day,((k:Int),(m,(r,(((0:Int),(0:Int)),(qid m r.2.2.2 day k,()))))))) (some (((0:Int),(0:Int)),(dmgV m r day,()))) (fun k hk rec=>by
  obtain ⟨o1,o2⟩:=ho _ (List.getElem_mem hk)
  rw[qhO,qsh hk]
  simp only[iLtN hk,cond_true,qr r.2.2.2 hk,Option.bind_some,qsg n r.2.2.2[k].2.1.1 r.2.2.2[k].2.2.2 o2,qsg n r.2.2.2[k].2.1.2 r.2.2.2[k].2.2.1 o1,qzb n m _ hl hn,qQ (show k<9223372036854775807 by omega)]
  cases iLe r.2.2.2[k].1 day<;>rfl) (fun rec=>by
   rw[qhO]
   simp only[qcu (Nat.le_refl r.2.2.2.length),cond_false]
   rfl) n (by omega)
 show Option.bind (qg n (qeE n) (day,(((0:Nat):Int),(m,(r,(((0:Int),(0:Int)),(qid m r.2.2.2 day 0,()))))))) _=_
 rw[this]
 rfl
def fitB(m:MdlT)(r:RopT)(day d:Int):Bool:=decide (day≤r.1+m.1)&&((decide (r.2.1 = -1)||(decide (day<r.2.1)||decide (day≤r.2.1+m.2.1)))&&decide (d≤m.2.2.1))
theorem qnc{m:MdlT}(h:mOk m=true):(1≤m.1∧m.1≤10000)∧(1≤m.2.1∧m.2.1≤10000)∧m.2.2.2.length≤6:=by
 unfold mOk at h
 simp only[Bool.and_eq_true,decide_eq_true_eq,qy] at h
 exact ⟨h.1.1.1.1,h.1.1.1.2,h.1.2⟩
theorem qsV(a b:Int):iMin a b=min a b:=by
 unfold iMin
 split<;>omega
theorem qxE(n:Nat)(m:MdlT)(r:RopT)(day d:Int)(hm:mOk m=true)(hr:rOk r=true):qhx n (m,(r,(day,(d,()))))=some (fitB m r day d,()):=by
 obtain ⟨m1,m2,m3⟩:=qnc hm
 obtain ⟨r1,r2,_⟩:=qnb hr
 rw[qmK]
 rw[show iW (iAdd r.1 m.1)=r.1+m.1 from qfF (by unfold iAdd;omega) (by unfold iAdd;omega),show iW (iAdd r.2.1 m.2.1)=r.2.1+m.2.1 from qfF (by unfold iAdd;omega) (by unfold iAdd;omega)]
 unfold fitB
 have e2:iEq r.2.1 (Int.negSucc 0)=decide (r.2.1 = -1):=by unfold iEq;rw[Bool.eq_iff_iff];simp
 rw[e2]
 show cond (decide (day≤r.1+m.1)) (cond (decide (r.2.1 = -1)) (some (decide (d≤m.2.2.1),())) (cond (decide (r.2.1>day)) (some (decide (d≤m.2.2.1),())) (cond (decide (day≤r.2.1+m.2.1)) (some (decide (d≤m.2.2.1),())) _))) _=_
 rw[show decide (r.2.1>day)=decide (day<r.2.1) from rfl]
 generalize decide (day≤r.1+m.1)=A
 generalize decide (r.2.1 = -1)=B
 generalize decide (day<r.2.1)=C
 generalize decide (day≤r.2.1+m.2.1)=D
 generalize decide (d≤m.2.2.1)=E
 cases A<;>cases B<;>cases C<;>cases D<;>cases E<;>rfl
theorem qAK(n:Nat)(m:MdlT)(r:RopT)(day d:Int)(hm:mOk m=true)(hr:rOk r=true)(hd:0≤day∧day≤99999):qgY n ((m,()),(r,(day,(d,()))))=some (fitB m r day d,()):=by
 obtain ⟨m1,m2,m3⟩:=qnc hm
 obtain ⟨r1,r2,_⟩:=qnb hr
 have w1:iW (iAdd r.1 m.1)=r.1+m.1:=qfF (by unfold iAdd;omega) (by unfold iAdd;omega)
 have w2:iW (iAdd r.2.1 m.2.1)=r.2.1+m.2.1:=qfF (by unfold iAdd;omega) (by unfold iAdd;omega)
 have en:qe3 n ((m,()),(r,((Int.negSucc 0),())))=some (min 99999 (r.1+m.1),()):=by
  rw[qjR]
  simp only[show iGe (Int.negSucc 0) 0=false from rfl,cond_false,w1,qsV]
 have ef:qe3 n ((m,()),(r,(r.2.1,())))=some (if r.2.1 = -1 then min 99999 (r.1+m.1) else min (min 99999 (r.1+m.1)) (r.2.1+m.2.1),()):=by
  rw[qjR]
  simp only[w1,w2,qsV]
  by_cases h:r.2.1 = -1
  ·rw[show iGe r.2.1 0=false from decide_eq_false (by omega),if_pos h];rfl
  ·rw[show iGe r.2.1 0=true from decide_eq_true (by omega),if_neg h];rfl
 rw[qoO]
 simp only[en,ef,Option.bind_some]
 unfold fitB
 have key:∀(e:Int) (b:Bool),(decide (day≤e)=b)→(cond (iLe day e) (some (iLe d m.2.2.1,())) (some (false,())):Option (Bool×Unit))=some (b&&decide (d≤m.2.2.1),()):=by
  intro e b h
  subst h
  show cond (decide (day≤e)) (some (decide (d≤m.2.2.1),())) _=_
  cases decide (day≤e)<;>rfl
 rw[← Bool.and_assoc]
 by_cases hg:day<r.2.1
 ·rw[show iGt r.2.1 day=true from decide_eq_true hg]
  simp only[cond_true]
  refine key _ _ ?_
  rw[Bool.eq_iff_iff]
  simp only[Bool.and_eq_true,Bool.or_eq_true,decide_eq_true_eq]
  omega
 ·rw[show iGt r.2.1 day=false from decide_eq_false hg]
  simp only[cond_false]
  refine key _ _ ?_
  rw[Bool.eq_iff_iff]
  simp only[Bool.and_eq_true,Bool.or_eq_true,decide_eq_true_eq]
  split<;>omega
def fits(o:qz)(r:RopT):Bool:=fitB o.2.2.2.2.2.1 r o.1 (dmgV o.2.2.2.2.2.1 r o.1).2
def qhB(o:qz):Nat→List Int
 | 0=>[]
 | k+1=>match o.2.2.2.2.2.2[k]? with
  | some r=>cond (fits o r) (qhB o k++[(k:Int)]) (qhB o k)
  | none=>qhB o k
def fitI(o:qz):List Int:=qhB o o.2.2.2.2.2.2.length
theorem qoT{o:qz}{k:Nat}(hk:k<o.2.2.2.2.2.2.length):qhB o (k+1)=cond (fits o o.2.2.2.2.2.2[k]) (qhB o k++[(k:Int)]) (qhB o k):=by
 conv=>lhs;unfold qhB
 rw[List.getElem?_eq_getElem hk]
theorem qp0(o:qz):∀k,(qhB o k).length≤k
 | 0=>Nat.le_refl _
 | k+1=>by
  have:=qp0 o k
  unfold qhB
  split
  ·next r _=>cases fits o r<;>simp<;>omega
  ·omega
theorem qp1(o:qz)(x:Int):∀k,k≤o.2.2.2.2.2.2.length→(x∈qhB o k↔∃i:Nat,x=i∧i<k∧∃h:i<o.2.2.2.2.2.2.length,fits o o.2.2.2.2.2.2[i]=true)
 | 0,_=>by
  constructor
  ·intro h;cases h
  ·rintro ⟨i,_,h,_⟩;omega
 | k+1,hk=>by
  rw[qoT (by omega)]
  have ih:=qp1 o x k (by omega)
  cases hf:fits o o.2.2.2.2.2.2[k] with
  | true =>
   simp only[cond_true,List.mem_append,List.mem_singleton,ih]
   constructor
   ·rintro (⟨i,a,b,c⟩ | h)
    ·exact ⟨i,a,by omega,c⟩
    ·exact ⟨k,h,by omega,by omega,hf⟩
   ·rintro ⟨i,a,b,c⟩
    by_cases hik:i=k
    ·subst hik;exact .inr a
    ·exact .inl ⟨i,a,by omega,c⟩
  | false =>
   simp only[cond_false,ih]
   constructor
   ·rintro ⟨i,a,b,c⟩;exact ⟨i,a,by omega,c⟩
   ·rintro ⟨i,a,b,c,d⟩
    by_cases hik:i=k
    ·subst hik;rw[hf] at d;cases d
    ·exact ⟨i,a,by omega,c,d⟩
theorem qq6(o:qz):∀k,k≤o.2.2.2.2.2.2.length→(qhB o k).Nodup
 | 0,_=>List.nodup_nil
 | k+1,hk=>by
  rw[qoT (by omega)]
  have ih:=qq6 o k (by omega)
  cases fits o o.2.2.2.2.2.2[k] with
  | false=>exact ih
  | true =>
   simp only[cond_true]
   rw[List.nodup_append]
   refine ⟨ih,by simp,fun a ha b hb=>?_⟩
   rw[List.mem_singleton] at hb
   subst hb
   obtain ⟨i,h1,h2,_⟩:=(qp1 o a k (by omega)).1 ha
   omega
def qcV(o:qz)(i:Int):Int:=((o.2.2.2.2.2.2[i.toNat]?).map (·.2.2.1)).getD 0
def fitS(o:qz):List Int:=(qju (fun i=>-qcV o i) [] (fitI o)).reverse
theorem qp2(o:qz):(fitS o).Perm (fitI o):=by
 have:=qlX (fun i=>-qcV o i) (fitI o) []
 rw[List.nil_append] at this
 exact (List.reverse_perm _).trans this
theorem qvq(o:qz):(fitS o).Pairwise fun a b=>qcV o b≤qcV o a:=by
 unfold fitS
 rw[List.pairwise_reverse]
 refine List.Pairwise.imp ?_ (qmr (fun i=>-qcV o i) (fitI o) (Q:=[]) List.Pairwise.nil)
 intro a b h
 omega
theorem qrw(o:qz)(x:Int):x∈fitS o↔∃i:Nat,x=i∧∃h:i<o.2.2.2.2.2.2.length,fits o o.2.2.2.2.2.2[i]=true:=by
 rw[(qp2 o).mem_iff]
 unfold fitI
 rw[qp1 o x _ (Nat.le_refl _)]
 constructor
 ·rintro ⟨i,a,_,c⟩;exact ⟨i,a,c⟩
 ·rintro ⟨i,a,c,d⟩;exact ⟨i,a,c,c,d⟩
theorem qsi(o:qz):(fitS o).Nodup:=(qp2 o).nodup_iff.2 (qq6 o _ (Nat.le_refl _))
theorem qoU(o:qz)(x:Int)(hx:x∈fitS o):0≤x∧x<(o.2.2.2.2.2.2.length:Int):=by
 obtain ⟨i,h1,h2,_⟩:=(qrw o x).1 hx
 omega
structure Okay9 (o:qz):Prop where
 mdl:mOk o.2.2.2.2.2.1=true
 rps:∀r,r∈o.2.2.2.2.2.2→rOk r=true
 oth:oOk o=true
theorem qp3{o:qz}(h:chkE o=0):Okay9 o:=by
 unfold chkE at h
 cases hm:mOk o.2.2.2.2.2.1 with
 | false=>rw[hm] at h;exact absurd h (show ¬(90:Int)=0 by decide)
 | true =>
  rw[hm] at h
  cases hr:o.2.2.2.2.2.2.all rOk with
  | false=>rw[hr] at h;exact absurd h (show ¬(91:Int)=0 by decide)
  | true =>
   rw[hr] at h
   cases ho:oOk o with
   | false=>rw[ho] at h;exact absurd h (show ¬(93:Int)=0 by decide)
   | true=>exact ⟨hm,fun r hrm=>List.all_eq_true.1 hr r hrm,ho⟩
theorem Okay9.oth'{o:qz}(h:Okay9 o):(0≤o.1∧o.1≤99999)∧(1≤o.2.2.1∧o.2.2.1≤100)∧o.2.2.2.1.length≤4∧(∀g,g∈o.2.2.2.1→0≤g.2.2∧g.2.2≤20)∧o.2.2.2.2.1.length≤6∧(∀c,c∈o.2.2.2.2.1→1≤c∧c≤20)∧o.2.2.2.2.2.2.length≤6∧∀r,r∈o.2.2.2.2.2.2→r.1≤o.1:=by
 have h:=h.oth
 unfold oOk at h
 simp only[Bool.and_eq_true,decide_eq_true_eq,qy,List.all_eq_true] at h
 obtain ⟨h1,h2,h3,h4,h5,h6,h7,h8,h9⟩:=h
 refine ⟨h1,h3,h4,fun g hg=>?_,h6,fun c hc=>?_,h8,fun r hr=>?_⟩
 ·have:=h5 g hg
  unfold gOk at this
  simp only[Bool.and_eq_true,qy] at this
  exact this.2.2
 ·have:=h7 c hc
  unfold cOk at this
  exact qy.1 this
 ·have:=h9 r hr
  unfold dOk at this
  exact of_decide_eq_true this
theorem qAg(n:Nat)(o:qz)(r:RopT)(h:Okay9 o)(hr:rOk r=true)(hn:100≤n):qfI n ((o.2.2.2.2.2.1,()),(r,(o.1,())))=some (dmgV o.2.2.2.2.2.1 r o.1,())∧qgY n ((o.2.2.2.2.2.1,()),(r,(o.1,((dmgV o.2.2.2.2.2.1 r o.1).2,()))))=some (fits o r,()):=by
 obtain ⟨_,_,_,r4,r5⟩:=qnb hr
 have m3:=(qnc h.mdl).2.2
 exact ⟨qxD n _ r o.1 r5 (by omega) (by omega) hn,qAK n _ r o.1 _ h.mdl hr h.oth'.1⟩
theorem qsj(n:Nat)(o:qz)(hs:qoS o)(hn:2000≤n):qd1 n (o,())=if chkE o=0 then some (Sum.inl ((o,fitS o),(0,()))) else some (Sum.inr (chkE o,())):=by
 rw[qpe]
 simp only[qza n o hs (show 100≤n by omega),Option.bind_some]
 by_cases hc:chkE o=0
 rotate_left
 ·rw[show iNe (chkE o) 0=true by unfold iNe;simp[hc],if_neg hc]
  rfl
 rw[if_pos hc,hc]
 simp only[show iNe (0:Int) 0=false from rfl,cond_false]
 have hk:=qp3 hc
 obtain ⟨_,_,_,_,_,_,o7,_⟩:=hk.oth'
 have:=forN (qgB n) o.2.2.2.2.2.2.length (fun k=>(o.2.2.2.2.2.2,((o.2.2.2.2.2.2.length:Int),((k:Int),(o,(o,(qhB o k,((o.2.2.2.2.2.1,()),())))))))) (some (o,(o,(fitI o,())))) (fun k hk2 rec=>by
  have hr:=hk.rps _ (List.getElem_mem hk2)
  obtain ⟨f1,f2⟩:=qAg n o o.2.2.2.2.2.2[k] hk hr (by omega)
  have hlen:=qp0 o k
  rw[qjS,qoT hk2]
  simp only[iLtN hk2,cond_true,qr o.2.2.2.2.2.2 hk2,Option.bind_some,f1,f2,bleT (nAdd (qhB o k).length 1) 17592186044416 (by show (qhB o k).length+1≤_;omega),qQ (show k<9223372036854775807 by omega)]
  cases fits o o.2.2.2.2.2.2[k]<;>rfl) (fun rec=>by
   rw[qjS]
   simp only[qcu (Nat.le_refl o.2.2.2.2.2.2.length),cond_false]
   rfl) n (by omega)
 have e0:qg n (qgB n) (o.2.2.2.2.2.2,((o.2.2.2.2.2.2.length:Int),((0:Int),(o,(o,([],((o.2.2.2.2.2.1,()),())))))))=some (o,(o,(fitI o,()))):=this
 rw[e0]
 simp only[Option.bind_some]
 have hfl:(fitI o).length≤6:=Nat.le_trans (qp0 o _) o7
 rw[qy5 n (fun i=>-qcV o i) (fun i=>0≤i∧i<(o.2.2.2.2.2.2.length:Int)) (o,()) (fun m x y hx hy=>by
  obtain ⟨v,hv,hv'⟩:=qll hx
  obtain ⟨w,hw,hw'⟩:=qll hy
  rw[qnX]
  simp only[hv,hw,Option.bind_some,qvV,qru]
  unfold qcV
  rw[hv',hw']
  rfl) (fitI o) (fun x hx=>qoU o x ((qp2 o).mem_iff.2 hx)) (by omega) hn]
 rfl
end Go.Proofs.YtfnflenkeljkiaaGreat
