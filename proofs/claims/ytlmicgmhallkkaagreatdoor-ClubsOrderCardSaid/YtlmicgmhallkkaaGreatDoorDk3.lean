/- Clubs, plain: the accounts, each of them. -/
import Derived.Test.YtlmicgmhallkkaaGreatDoorDk1
import Derived.Test.YtlmicgmhallkkaaGreatDoorPe
set_option linter.constructorNameAsVariable false
set_option linter.unusedSimpArgs false
set_option linter.unusedVariables false
set_option linter.unusedSectionVars false
namespace Go.Proofs.YtlmicgmhallkkaaGreatDoor
open Go Go.Proofs Go.RowKit
set_option maxHeartbeats 1000000
def AcI(L:Nat)(V:Nat→Int)(acc:List Int):Prop:=acc.length=L∧∀(j:Nat) (hj:j<acc.length),(-9223372036854775808≤acc[j]∧acc[j]≤9223372036854775807)∧(18446744073709551616:Int)∣acc[j]-V j
theorem AcI.uniq{L:Nat}{V:Nat→Int}{a b:List Int}(h:AcI L V a)(h':AcI L V b):a=b:=List.ext_getElem (by rw[h.1,h'.1]) fun j h1 h2=>by
 have k1:=h.2 j h1
 have k2:=h'.2 j h2
 omega
theorem AcI.congr{L:Nat}{V V':Nat→Int}{a:List Int}(h:AcI L V a)(e:∀j,V j=V' j):AcI L V' a:=⟨h.1,fun j hj=>by rw[← e];exact h.2 j hj⟩
theorem AcI.put{L:Nat}{V:Nat→Int}{a:List Int}(h:AcI L V a){c:Nat}(hc:c<a.length){y z:Int}(hz:-9223372036854775808≤z∧z≤9223372036854775807)(hd:(18446744073709551616:Int)∣z-a[c]-y):AcI L (fun j=>V j+if j=c then y else 0) (a.set c z):=by
 refine ⟨by rw[List.length_set];exact h.1,fun j hj=>?_⟩
 have hj':j<a.length:=by rwa [List.length_set] at hj
 show _∧(18446744073709551616:Int)∣_-(V j+if j=c then y else 0)
 rw[List.getElem_set]
 by_cases e:c=j
 ·subst e
  rw[if_pos rfl,if_pos rfl]
  have:=h.2 c hc
  exact ⟨hz,by omega⟩
 ·rw[if_neg e,if_neg (fun h=>e h.symm),Int.add_zero]
  exact h.2 j hj'
theorem qHa(A:List Int)(x:Int)(j:Nat):((A++[x])[j]?).getD 0=(A[j]?).getD 0+(if j=A.length then x else 0):=by
 rcases Nat.lt_trichotomy j A.length with h | h | h
 ·rw[List.getElem?_append_left h,if_neg (by omega)];omega
 ·subst h;simp
 ·rw[if_neg (by omega),List.getElem?_eq_none (by simp;omega),List.getElem?_eq_none (by omega)];rfl
theorem qIi(n:Nat)(f:Int)(hf:f=1∨f = -1)(b:Bk)(ps:List Int)(L:Nat)(V:Nat→Int)(hL:ps.length≤L)(hps:ps.length<1000):∀(B A:List Int) (n':Nat) (acc:List Int),ps=A++B→AcI L (fun j=>V j+f*(A[j]?).getD 0) acc→B.length<n' →
  ∃acc',AcI L (fun j=>V j+f*(ps[j]?).getD 0) acc'∧qb n' (qkB n) (f,(ps,((ps.length:Int),((A.length:Int),(b,(acc,()))))))=some (b,(acc',())):=by
 intro B
 induction B with
 | nil =>
  intro A n' acc e ha hn'
  obtain ⟨n',rfl⟩:∃j,n'=j+1:=⟨n'-1,by simp at hn';omega⟩
  rw[List.append_nil] at e
  subst e
  refine ⟨acc,ha,?_⟩
  rw[qe,qmy]
  simp only[qw,cond_false]
 | cons x B ih =>
  intro A n' acc e ha hn'
  obtain ⟨n',rfl⟩:∃j,n'=j+1:=⟨n'-1,by simp at hn';omega⟩
  have hlen:ps.length=A.length+(B.length+1):=by rw[e,List.length_append,List.length_cons]
  have hlt:A.length<ps.length:=by omega
  have hla:A.length<acc.length:=by rw[ha.1];omega
  have hlat:lat ps (A.length:Int)=some x:=by rw[e];exact latA A B x rfl
  rw[qe,qmy]
  simp only[qu hlt,cond_true,hlat,Option.bind_some,qA _ hla,Int.toNat_natCast,List.getElem?_eq_getElem hla,qj (show A.length<9223372036854775807 by omega)]
  have d1:=qtr (iAdd acc[A.length] (iW (iMul f x)))
  have d2:=qtr (iMul f x)
  have hput:=ha.put hla (y:=f*x) (qzN (iAdd acc[A.length] (iW (iMul f x)))) (by unfold iAdd iMul at *;omega)
  obtain ⟨acc',h1,h3⟩:=ih (A++[x]) n' (acc.set A.length (iW (iAdd acc[A.length] (iW (iMul f x))))) (by rw[e];simp) (hput.congr fun j=>by
   rw[qHa,Int.mul_add]
   by_cases hj:j=A.length
   ·rw[if_pos hj,if_pos hj];omega
   ·rw[if_neg hj,if_neg hj];omega) (by simp at hn';omega)
  rw[List.length_append] at h3
  exact ⟨acc',h1,h3⟩
def qpP(u:Uni)(h:Int):List Int:=(u.2.2.2.2.1[h.toNat]?).getD []
def shV(u:Uni)(a h:Int)(j:Nat):Int:=((qts a (qpP u h))[j]?).getD 0
theorem qHP{u:Uni}(K:Okay u)(B:Bnd u){h:Int}(hh:0≤h∧h<u.1.1.length):lat u.2.2.2.2.1 h=some (qpP u h)∧(qpP u h).length=u.2.2.1∧(∀x,x∈qpP u h→0≤x∧x≤100)∧(qpP u h).sum=100:=by
 obtain ⟨j,rfl⟩:=Int.eq_ofNat_of_zero_le hh.1
 have hj:j<u.2.2.2.2.1.length:=by rw[K.sh];omega
 have hr:=K.rows _ (List.getElem_mem hj)
 have hb:=B.ro _ (List.getElem_mem hj)
 have e:qpP u (j:Int)=u.2.2.2.2.1[j]:=by unfold qpP;rw[Int.toNat_natCast,List.getElem?_eq_getElem hj];rfl
 rw[e]
 exact ⟨qA _ hj,by omega,hb.1,hb.2⟩
theorem qB5(n:Nat)(a h f:Int)(hf:f=1∨f = -1)(b:Bk)(K:Okay b.1)(B:Bnd b.1)(acc:List Int)(V:Nat→Int)(ha:0≤a∧a≤1000000000000)(hh:0≤h∧h<b.1.1.1.length)(hl:AcI (b.1.2.2.1+2).toNat V acc)(hn:2000≤n) :
  ∃acc',AcI (b.1.2.2.1+2).toNat (fun j=>V j+f*shV b.1 a h j) acc'∧qi1 n (a,(h,(f,(b,(acc,())))))=some (b,(acc',())):=by
 obtain ⟨r1,r2,r3,r4⟩:=qHP K B hh
 have hc:=K.cl
 have p3:=qFQ n a _ ha r3 r4 (by omega) hn
 have hsl:=qCR a (qpP b.1 h)
 rw[qsC]
 simp only[r1,Option.bind_some,p3]
 obtain ⟨acc',h1,h3⟩:=qIi n f hf b (qts a (qpP b.1 h)) (b.1.2.2.1+2).toNat V (by omega) (by omega) (qts a (qpP b.1 h)) [] n acc rfl (hl.congr fun j=>by simp) (by omega)
 refine ⟨acc',h1,?_⟩
 rw[show ((0:Int))=(([]:List Int).length:Int) from rfl,h3];rfl
def qx0(u:Uni)(m:Msg)(s:Stay)(j:Nat):Int:=shV u (qbA u m s).1 s.1 j+(if (j:Int)=u.2.2.1 then (qbA u m s).2 else 0)-(if (j:Int)=u.2.2.1+1 then (qbA u m s).1+(qbA u m s).2 else 0)
def msgC(u:Uni)(m:Msg)(j:Nat):Int:=(m.2.2.2.2.map fun s=>qx0 u m s j).sum
def qzO(u:Uni)(w:Work)(j:Nat):Int:=(if (j:Int)=w.1 then w.2.2*u.2.2.2.2.2.2.2.2.2.2.2 else 0)-shV u (w.2.2*u.2.2.2.2.2.2.2.2.2.2.2) w.2.1 j
def accT(u:Uni)(bs:List Msg)(j:Nat):Int:=(bs.map fun m=>msgC u m j).sum+(u.2.2.2.2.2.2.2.1.map fun w=>qzO u w j).sum
theorem qw3{α:Type}(f:α→Int)(A:List α)(x:α):((A++[x]).map f).sum=(A.map f).sum+f x:=by simp
theorem qFU{u:Uni}(K:Okay u){m:Msg}{x:Stay}{V:Nat→Int}{acc1:List Int}{c:Nat}(hce:u.2.2.1=(c:Int))(h1:AcI (u.2.2.1+2).toNat (fun j=>V j+1*shV u (qbA u m x).1 x.1 j) acc1)(hcl:c<acc1.length)(hc1l:c+1<(acc1.set c (iW (iAdd acc1[c] (qbA u m x).2))).length) :
  AcI (u.2.2.1+2).toNat (fun j=>V j+qx0 u m x j) ((acc1.set c (iW (iAdd acc1[c] (qbA u m x).2))).set (c+1) (iW (iSub (acc1.set c (iW (iAdd acc1[c] (qbA u m x).2)))[c+1] (iW (iAdd (qbA u m x).1 (qbA u m x).2))))):=by
 have d1:=qtr (iAdd acc1[c] (qbA u m x).2)
 have d2:=qtr (iSub (acc1.set c (iW (iAdd acc1[c] (qbA u m x).2)))[c+1] (iW (iAdd (qbA u m x).1 (qbA u m x).2)))
 have d3:=qtr (iAdd (qbA u m x).1 (qbA u m x).2)
 have p1:=h1.put hcl (y:=(qbA u m x).2) (qzN (iAdd acc1[c] (qbA u m x).2)) (by unfold iAdd at *;omega)
 have p2:=p1.put hc1l (y:=-((qbA u m x).1+(qbA u m x).2)) (qzN (iSub (acc1.set c (iW (iAdd acc1[c] (qbA u m x).2)))[c+1] (iW (iAdd (qbA u m x).1 (qbA u m x).2)))) (by unfold iAdd iSub at *;omega)
 refine p2.congr fun j=>?_
 unfold qx0
 rw[hce]
 by_cases e1:j=c
 ·rw[if_pos e1,if_neg (by omega),if_pos (by omega),if_neg (by omega)];omega
 ·by_cases e2:j=c+1
  ·rw[if_neg e1,if_pos e2,if_neg (by omega),if_pos (by omega)];omega
  ·rw[if_neg e1,if_neg e2,if_neg (by omega),if_neg (by omega)];omega
theorem qHQ(n:Nat)(b:Bk)(K:Okay b.1)(B:Bnd b.1)(m:Msg)(hm:m∈b.1.2.1)(hm1:m.1=1)(bk0:List Msg)(lb k0:Int)(hn:2000≤n)(V:Nat→Int):∀(Y A:List Stay) (n':Nat) (acc:List Int),m.2.2.2.2=A++Y→AcI (b.1.2.2.1+2).toNat (fun j=>V j+(A.map fun s=>qx0 b.1 m s j).sum) acc→Y.length<n' →
  ∃acc',AcI (b.1.2.2.1+2).toNat (fun j=>V j+msgC b.1 m j) acc'∧qb n' (qmx n) (b.1.2.2.1,(b.1.2.2.1+1,(bk0,(lb,(k0,(m.2.2.2.2,((m.2.2.2.2.length:Int),((A.length:Int),(b,(acc,(m,())))))))))))=some (b.1.2.2.1,(b.1.2.2.1+1,(bk0,(lb,(k0,(b,(acc',()))))))):=by
 have hst:=K.v.st m hm
 have hc:=K.cl
 obtain ⟨c,hce⟩:=Int.eq_ofNat_of_zero_le (show 0≤b.1.2.2.1 by omega)
 intro Y
 induction Y with
 | nil =>
  intro A n' acc e ha hn'
  obtain ⟨n',rfl⟩:∃j,n'=j+1:=⟨n'-1,by simp at hn';omega⟩
  rw[List.append_nil] at e
  refine ⟨acc,ha.congr fun j=>by unfold msgC;rw[e],?_⟩
  rw[qe,qn1,e]
  simp only[qw,cond_false]
 | cons x Y ih =>
  intro A n' acc e ha hn'
  obtain ⟨n',rfl⟩:∃j,n'=j+1:=⟨n'-1,by simp at hn';omega⟩
  have hlen:m.2.2.2.2.length=A.length+(Y.length+1):=by rw[e,List.length_append,List.length_cons]
  have hlt:A.length<m.2.2.2.2.length:=by omega
  have hx:x∈m.2.2.2.2:=by rw[e];simp
  have hlat:lat m.2.2.2.2 (A.length:Int)=some x:=by rw[e];exact latA A Y x rfl
  have hin:=qyC K.v hm hm1 hx
  have hbd:=qw1 K B hm hm1 hx
  obtain ⟨acc1,h1,h3⟩:=qB5 n (qbA b.1 m x).1 x.1 1 (.inl rfl) b K B acc _ hbd hin ha hn
  have hal:=h1.1
  have hcl:c<acc1.length:=by omega
  rw[qe,qn1]
  simp only[qu hlt,cond_true,hlat,Option.bind_some,qB3 n m x b K hin hn,h3]
  have hc1l:c+1<(acc1.set c (iW (iAdd acc1[c] (qbA b.1 m x).2))).length:=by rw[List.length_set];omega
  have hnew:=qFU K hce h1 hcl hc1l
  rw[hce,show ((c:Int)+1)=((c+1:Nat):Int) from rfl]
  simp only[qA _ hcl,Option.bind_some,Int.toNat_natCast,List.getElem?_eq_getElem hcl,qA _ hc1l,List.getElem?_eq_getElem hc1l,qj (show A.length<9223372036854775807 by omega)]
  obtain ⟨acc',g1,g2⟩:=ih (A++[x]) n' _ (by rw[e];simp) (hnew.congr fun j=>by rw[qw3];omega) (by simp at hn';omega)
  rw[List.length_append,hce] at g2
  rw[hce] at g1
  exact ⟨acc',g1,g2⟩
theorem qHR(n:Nat)(b:Bk)(K:Okay b.1)(B:Bnd b.1)(hb:∀m,m∈b.2→m∈b.1.2.1∧m.1=1)(hbl:b.2.length<1000)(hn:2000≤n):∀(Y A:List Msg) (n':Nat) (acc:List Int),b.2=A++Y→AcI (b.1.2.2.1+2).toNat (fun j=>(A.map fun m=>msgC b.1 m j).sum) acc→Y.length<n' →
  ∃acc',AcI (b.1.2.2.1+2).toNat (fun j=>(b.2.map fun m=>msgC b.1 m j).sum) acc'∧qb n' (qjN n) (b.1.2.2.1,(b.1.2.2.1+1,(b.2,((b.2.length:Int),((A.length:Int),(b,(acc,())))))))=some (b,(acc',())):=by
 intro Y
 induction Y with
 | nil =>
  intro A n' acc e ha hn'
  obtain ⟨n',rfl⟩:∃j,n'=j+1:=⟨n'-1,by simp at hn';omega⟩
  rw[List.append_nil] at e
  refine ⟨acc,ha.congr fun j=>by rw[e],?_⟩
  rw[qe,qn2,e]
  simp only[qw,cond_false]
 | cons x Y ih =>
  intro A n' acc e ha hn'
  obtain ⟨n',rfl⟩:∃j,n'=j+1:=⟨n'-1,by simp at hn';omega⟩
  have hlen:b.2.length=A.length+(Y.length+1):=by rw[e,List.length_append,List.length_cons]
  have hlt:A.length<b.2.length:=by omega
  have hx:=hb x (by rw[e];simp)
  have hst:=K.v.st x hx.1
  have hlat:lat b.2 (A.length:Int)=some x:=by rw[e];exact latA A Y x rfl
  rw[qe,qn2]
  simp only[qu hlt,cond_true,hlat,Option.bind_some]
  obtain ⟨acc1,h1,h2⟩:=qHQ n b K B x hx.1 hx.2 b.2 (b.2.length:Int) (A.length:Int) hn (fun j=>(A.map fun m=>msgC b.1 m j).sum) x.2.2.2.2 [] n acc rfl (ha.congr fun j=>by simp) (by omega)
  rw[show ((0:Int))=(([]:List Stay).length:Int) from rfl,h2]
  simp only[Option.bind_some,qj (show A.length<9223372036854775807 by omega)]
  obtain ⟨acc',g1,g2⟩:=ih (A++[x]) n' acc1 (by rw[e];simp) (h1.congr fun j=>(qw3 (fun m=>msgC b.1 m j) A x).symm) (by simp at hn';omega)
  rw[List.length_append] at g2
  exact ⟨acc',g1,g2⟩
theorem qHS(n:Nat)(b:Bk)(K:Okay b.1)(B:Bnd b.1)(hn:2000≤n)(V:Nat→Int):∀(Y A:List Work) (n':Nat) (acc:List Int),b.1.2.2.2.2.2.2.2.1=A++Y→AcI (b.1.2.2.1+2).toNat (fun j=>V j+(A.map fun w=>qzO b.1 w j).sum) acc→Y.length<n' →
  ∃acc',AcI (b.1.2.2.1+2).toNat (fun j=>V j+(b.1.2.2.2.2.2.2.2.1.map fun w=>qzO b.1 w j).sum) acc'∧qb n' (qjO n) (b.1.2.2.2.2.2.2.2.1,((b.1.2.2.2.2.2.2.2.1.length:Int),((A.length:Int),(b,(acc,())))))=some (acc',()):=by
 have hwl:=K.wl
 have hcl0:=K.cl
 intro Y
 induction Y with
 | nil =>
  intro A n' acc e ha hn'
  obtain ⟨n',rfl⟩:∃j,n'=j+1:=⟨n'-1,by simp at hn';omega⟩
  rw[List.append_nil] at e
  refine ⟨acc,ha.congr fun j=>by rw[e],?_⟩
  rw[qe,qn3,e]
  simp only[qw,cond_false]
 | cons x Y ih =>
  intro A n' acc e ha hn'
  obtain ⟨n',rfl⟩:∃j,n'=j+1:=⟨n'-1,by simp at hn';omega⟩
  have hlen:b.1.2.2.2.2.2.2.2.1.length=A.length+(Y.length+1):=by rw[e,List.length_append,List.length_cons]
  have hlt:A.length<b.1.2.2.2.2.2.2.2.1.length:=by omega
  have hxm:x∈b.1.2.2.2.2.2.2.2.1:=by rw[e];simp
  have hx:=K.wo x hxm
  have hw:=quc (B.wk x hxm).1 (B.wk x hxm).2 B.cr.1 B.cr.2
  have hv:iW (iMul x.2.2 b.1.2.2.2.2.2.2.2.2.2.2.2)=x.2.2*b.1.2.2.2.2.2.2.2.2.2.2.2:=qbg (by unfold iMul;omega) (by unfold iMul;omega)
  have hlat:lat b.1.2.2.2.2.2.2.2.1 (A.length:Int)=some x:=by rw[e];exact latA A Y x rfl
  obtain ⟨c,hce⟩:=Int.eq_ofNat_of_zero_le hx.1.1
  have hal:=ha.1
  have hcl:c<acc.length:=by omega
  rw[qe,qn3]
  simp only[qu hlt,cond_true,hlat,Option.bind_some,hv,hce,qA _ hcl,Int.toNat_natCast,List.getElem?_eq_getElem hcl,qj (show A.length<9223372036854775807 by omega)]
  obtain ⟨v,hve⟩:∃v,v=x.2.2*b.1.2.2.2.2.2.2.2.2.2.2.2:=⟨_,rfl⟩
  rw[← hve] at hw ⊢
  have d1:=qtr (iAdd acc[c] v)
  have hput:=ha.put hcl (y:=v) (qzN (iAdd acc[c] v)) (by unfold iAdd at *;omega)
  obtain ⟨acc1,h1,h3⟩:=qB5 n v x.2.1 (-1) (.inr rfl) b K B (acc.set c (iW (iAdd acc[c] v))) _ (by omega) (by omega) hput hn
  rw[show Int.negSucc 0=(-1:Int) from rfl,h3]
  simp only[Option.bind_some]
  obtain ⟨acc',g1,g2⟩:=ih (A++[x]) n' acc1 (by rw[e];simp) (h1.congr fun j=>by
   rw[qw3]
   unfold qzO
   rw[← hve,hce]
   by_cases hj:j=c
   ·rw[if_pos hj,if_pos (by omega)];omega
   ·rw[if_neg hj,if_neg (by omega)];omega) (by simp at hn';omega)
  rw[List.length_append] at g2
  exact ⟨acc',g1,g2⟩
theorem qwr(n:Nat)(u:Uni)(hs:Small11 u)(K:Okay u)(h:chkU u=0)(hn:5000≤n):∃acc,AcI (u.2.2.1+2).toNat (accT u (qcK u)) acc∧qfQ n (u,())=some (acc,(0,())):=by
 have B:=qEf h
 have hc:=K.cl
 have hbl:=qw0 u
 have hms:=K.ms
 have hwl:=K.wl
 have e1:iW (iAdd u.2.2.1 2)=u.2.2.1+2:=qbg (by unfold iAdd;omega) (by unfold iAdd;omega)
 have e2:iW (iAdd u.2.2.1 1)=u.2.2.1+1:=qbg (by unfold iAdd;omega) (by unfold iAdd;omega)
 rw[qpd]
 simp only[qwY n u hs K h hn,Option.bind_some,Sum.elim_inl,qd1 rfl,cond_false,e1,e2,qbe (qcg (rfl:u.2.2.1+2=u.2.2.1+2)),qbe (show iMk (u.2.2.1+2)=true by unfold iMk;simp only[Bool.and_eq_true,decide_eq_true_eq];omega)]
 have h0:AcI (u.2.2.1+2).toNat (fun j=>(([]:List Msg).map fun m=>msgC u m j).sum) (List.replicate (u.2.2.1+2).toNat 0) :=
  ⟨List.length_replicate,fun j hj=>by rw[List.getElem_replicate];simp⟩
 obtain ⟨acc1,h1,h2⟩:=qHR n (u,qcK u) K B (fun m hm=>by have:=qwZ K.v hm;exact ⟨this.2.1,this.2.2.1⟩) (by show (qcK u).length<_;omega) (by omega) (qcK u) [] n _ rfl h0 (by omega)
 obtain ⟨acc2,h3,h4⟩:=qHS n (u,qcK u) K B (by omega) (fun j=>((qcK u).map fun m=>msgC u m j).sum) u.2.2.2.2.2.2.2.1 [] n acc1 rfl (h1.congr fun j=>by simp) (by omega)
 refine ⟨acc2,h3,?_⟩
 have h2':qb n (qjN n) (u.2.2.1,(u.2.2.1+1,(qcK u,(((qcK u).length:Int),((0:Int),((u,qcK u),(List.replicate (u.2.2.1+2).toNat 0,())))))))=some ((u,qcK u),(acc1,())):=h2
 have h4':qb n (qjO n) (u.2.2.2.2.2.2.2.1,((u.2.2.2.2.2.2.2.1.length:Int),((0:Int),((u,qcK u),(acc1,())))))=some (acc2,()):=h4
 rw[h2']
 simp only[Option.bind_some]
 rw[h4']
 rfl
end Go.Proofs.YtlmicgmhallkkaaGreatDoor
