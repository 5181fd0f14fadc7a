/- Clubs, plain: the reference's prices and accounts. -/
import Derived.Test.YtlmicgmhallkkaaGreatDoorDk9
set_option linter.constructorNameAsVariable false
set_option linter.unusedSimpArgs false
set_option linter.unusedVariables false
set_option linter.unusedSectionVars false
namespace Go.Proofs.YtlmicgmhallkkaaGreatDoor
open Go Go.Proofs Go.RowKit
set_option maxHeartbeats 1000000
theorem addR(n:Nat)(u:Uni)(ps:List Int)(L:Nat)(V:Nat→Int)(hc:u.2.2.1=(ps.length:Int))(hL:ps.length≤L)(hps:ps.length<1000)(x1:List Msg)(x2 x3 x4 x5:Int):∀(B A:List Int) (n':Nat) (acc:List Int),ps=A++B→AcI L (fun j=>V j+(A[j]?).getD 0) acc→B.length<n' →
  ∃acc',AcI L (fun j=>V j+(ps[j]?).getD 0) acc'∧qb n' (qfY n) (x1,(x2,(x3,(x4,(x5,(ps,((A.length:Int),(u,(acc,())))))))))=some (x1,(x2,(x3,(x4,(x5,(u,(acc',()))))))):=by
 intro B
 induction B with
 | nil =>
  intro A n' acc e ha hn'
  obtain ⟨n',rfl⟩:∃j,n'=j+1:=⟨n'-1,by simp at hn';omega⟩
  rw[List.append_nil] at e
  subst e
  refine ⟨acc,ha,?_⟩
  rw[qc,qk4]
  simp only[hc,ql,cond_false]
 | cons x B ih =>
  intro A n' acc e ha hn'
  obtain ⟨n',rfl⟩:∃j,n'=j+1:=⟨n'-1,by simp at hn';omega⟩
  have hlen:ps.length=A.length+(B.length+1):=by rw[e,List.length_append,List.length_cons]
  have hlt:A.length<ps.length:=by omega
  have hla:A.length<acc.length:=by rw[ha.1];omega
  have hlat:lat ps (A.length:Int)=some x:=by rw[e];exact latA A B x rfl
  rw[qc,qk4]
  simp only[hc,qk hlt,cond_true,hlat,Option.bind_some,qm _ hla,Int.toNat_natCast,List.getElem?_eq_getElem hla,qg (show A.length<9223372036854775807 by omega)]
  have d1:=qqc (iAdd acc[A.length] x)
  have hput:=ha.put hla (y:=x) (qvP (iAdd acc[A.length] x)) (by unfold iAdd at *;omega)
  obtain ⟨acc',h1,h3⟩:=ih (A++[x]) n' (acc.set A.length (iW (iAdd acc[A.length] x))) (by rw[e];simp) (hput.congr fun j=>by
   rw[qAs];omega) (by simp at hn';omega)
  rw[List.length_append] at h3
  exact ⟨acc',h1,h3⟩
theorem subR(n:Nat)(u:Uni)(ps:List Int)(L:Nat)(V:Nat→Int)(hc:u.2.2.1=(ps.length:Int))(hL:ps.length≤L)(hps:ps.length<1000)(x1:Int)(w:Work):∀(B A:List Int) (n':Nat) (acc:List Int),ps=A++B→AcI L (fun j=>V j-(A[j]?).getD 0) acc→B.length<n' →
  ∃acc',AcI L (fun j=>V j-(ps[j]?).getD 0) acc'∧qb n' (qf0 n) (x1,(ps,((A.length:Int),(u,(w,(acc,()))))))=some (x1,(u,(w,(acc',())))):=by
 intro B
 induction B with
 | nil =>
  intro A n' acc e ha hn'
  obtain ⟨n',rfl⟩:∃j,n'=j+1:=⟨n'-1,by simp at hn';omega⟩
  rw[List.append_nil] at e
  subst e
  refine ⟨acc,ha,?_⟩
  rw[qc,qk7]
  simp only[hc,ql,cond_false]
 | cons x B ih =>
  intro A n' acc e ha hn'
  obtain ⟨n',rfl⟩:∃j,n'=j+1:=⟨n'-1,by simp at hn';omega⟩
  have hlen:ps.length=A.length+(B.length+1):=by rw[e,List.length_append,List.length_cons]
  have hlt:A.length<ps.length:=by omega
  have hla:A.length<acc.length:=by rw[ha.1];omega
  have hlat:lat ps (A.length:Int)=some x:=by rw[e];exact latA A B x rfl
  rw[qc,qk7]
  simp only[hc,qk hlt,cond_true,hlat,Option.bind_some,qm _ hla,Int.toNat_natCast,List.getElem?_eq_getElem hla,qg (show A.length<9223372036854775807 by omega)]
  have d1:=qqc (iSub acc[A.length] x)
  have hput:=ha.put hla (y:=-x) (qvP (iSub acc[A.length] x)) (by unfold iSub at *;omega)
  obtain ⟨acc',h1,h3⟩:=ih (A++[x]) n' (acc.set A.length (iW (iSub acc[A.length] x))) (by rw[e];simp) (hput.congr fun j=>by
   rw[qAs]
   by_cases hj:j=A.length
   ·rw[if_pos hj,if_pos hj];omega
   ·rw[if_neg hj,if_neg hj];omega) (by simp at hn';omega)
  rw[List.length_append] at h3
  exact ⟨acc',h1,h3⟩
theorem qJe(n:Nat)(u:Uni)(K:Okay u)(B:Bnd u)(bs:List Msg)(i:Nat)(m:Msg)(hi:bs[i]?=some m)(hm:m∈u.2.1)(hm1:m.1=1)(hn:2000≤n)(V:Nat→Int):∀(Y A:List Stay) (n':Nat) (acc:List Int),m.2.2.2.2=A++Y→AcI (u.2.2.1+2).toNat (fun j=>V j+(A.map fun s=>qvR u m s j).sum) acc→Y.length<n' →
  ∃acc',AcI (u.2.2.1+2).toNat (fun j=>V j+msgC u m j) acc'∧qb n' (qiw n) (bs,((i:Int),((A.length:Int),(u,(acc,())))))=some (bs,((i:Int),(u,(acc',())))):=by
 have hst:=K.v.st m hm
 have hc:=K.cl
 obtain ⟨c,hce⟩:=Int.eq_ofNat_of_zero_le (show 0≤u.2.2.1 by omega)
 intro Y
 induction Y with
 | nil =>
  intro A n' acc e ha hn'
  obtain ⟨n',rfl⟩:∃j,n'=j+1:=⟨n'-1,by simp at hn';omega⟩
  rw[List.append_nil] at e
  refine ⟨acc,ha.congr fun j=>by unfold msgC;rw[e],?_⟩
  rw[qc,qk5]
  simp only[qBA hi,Option.bind_some,e,ql,cond_false]
 | cons x Y ih =>
  intro A n' acc e ha hn'
  obtain ⟨n',rfl⟩:∃j,n'=j+1:=⟨n'-1,by simp at hn';omega⟩
  have hlen:m.2.2.2.2.length=A.length+(Y.length+1):=by rw[e,List.length_append,List.length_cons]
  have hlt:A.length<m.2.2.2.2.length:=by omega
  have hx:x∈m.2.2.2.2:=by rw[e];simp
  have hlat:lat m.2.2.2.2 (A.length:Int)=some x:=by rw[e];exact latA A Y x rfl
  have hin:=qxE K.v hm hm1 hx
  have hbd:=qCM K B hm hm1 hx
  obtain ⟨r1,r2,r3,r4⟩:=qCQ K B hin
  have p3:=qyh n (qbw u m x).1 _ hbd r3 r4 (by omega) hn
  have hsl:=qvQ (qbw u m x).1 (qjd u x.1)
  obtain ⟨acc1,h1,h3⟩:=addR n u (qla (qbw u m x).1 (qjd u x.1)) (u.2.2.1+2).toNat (fun j=>V j+(A.map fun s=>qvR u m s j).sum) (by omega) (by omega) (by omega) bs (i:Int) (A.length:Int) (qbw u m x).1 (qbw u m x).2 (qla (qbw u m x).1 (qjd u x.1)) [] n acc rfl (ha.congr fun j=>by simp) (by omega)
  have h1':AcI (u.2.2.1+2).toNat (fun j=>(V j+(A.map fun s=>qvR u m s j).sum)+1*shV u (qbw u m x).1 x.1 j) acc1:=h1.congr fun j=>by unfold shV;omega
  have h3':qb n (qfY n) (bs,((i:Int),((A.length:Int),((qbw u m x).1,((qbw u m x).2,(qla (qbw u m x).1 (qjd u x.1),((0:Int),(u,(acc,())))))))))=_:=h3
  have hal:=h1.1
  have hcl:c<acc1.length:=by omega
  rw[qc,qk5]
  simp only[qBA hi,qk hlt,cond_true,hlat,Option.bind_some,qzL n m x u K B hin hn,r1,p3,h3']
  have hc1l:c+1<(acc1.set c (iW (iAdd acc1[c] (qbw u m x).2))).length:=by rw[List.length_set];omega
  have hnew:=qCR K hce h1' hcl hc1l
  have e2:iW (iAdd (c:Int) 1)=((c+1:Nat):Int):=qg (by omega)
  simp only[hce,qm _ hcl,Option.bind_some,Int.toNat_natCast,List.getElem?_eq_getElem hcl,e2,qm _ hc1l,List.getElem?_eq_getElem hc1l,qg (show A.length<9223372036854775807 by omega)]
  obtain ⟨acc',g1,g2⟩:=ih (A++[x]) n' _ (by rw[e];simp) (hnew.congr fun j=>by rw[qq5];omega) (by simp at hn';omega)
  rw[List.length_append] at g2
  rw[hce] at g1
  exact ⟨acc',g1,g2⟩
theorem qJf(n:Nat)(u:Uni)(K:Okay u)(B:Bnd u)(bs:List Msg)(hb:∀m,m∈bs→m∈u.2.1∧m.1=1)(hbl:bs.length<1000)(hn:2000≤n):∀(Y A:List Msg) (n':Nat) (acc:List Int),bs=A++Y→AcI (u.2.2.1+2).toNat (fun j=>(A.map fun m=>msgC u m j).sum) acc→Y.length<n' →
  ∃acc',AcI (u.2.2.1+2).toNat (fun j=>(bs.map fun m=>msgC u m j).sum) acc'∧qb n' (qfZ n) (bs,((A.length:Int),(u,(acc,()))))=some (u,(acc',())):=by
 intro Y
 induction Y with
 | nil =>
  intro A n' acc e ha hn'
  obtain ⟨n',rfl⟩:∃j,n'=j+1:=⟨n'-1,by simp at hn';omega⟩
  rw[List.append_nil] at e
  refine ⟨acc,ha.congr fun j=>by rw[e],?_⟩
  rw[qc,qk6,e]
  simp only[ql,cond_false]
 | cons x Y ih =>
  intro A n' acc e ha hn'
  obtain ⟨n',rfl⟩:∃j,n'=j+1:=⟨n'-1,by simp at hn';omega⟩
  have hlen:bs.length=A.length+(Y.length+1):=by rw[e,List.length_append,List.length_cons]
  have hlt:A.length<bs.length:=by omega
  have hx:=hb x (by rw[e];simp)
  have hst:=K.v.st x hx.1
  have hat:bs[A.length]?=some x:=by rw[e];exact getA A Y x rfl
  rw[qc,qk6]
  simp only[qk hlt,cond_true]
  obtain ⟨acc1,h1,h2⟩:=qJe n u K B bs A.length x hat hx.1 hx.2 hn (fun j=>(A.map fun m=>msgC u m j).sum) x.2.2.2.2 [] n acc rfl (ha.congr fun j=>by simp) (by omega)
  rw[show ((0:Int))=(([]:List Stay).length:Int) from rfl,h2]
  simp only[Option.bind_some,qg (show A.length<9223372036854775807 by omega)]
  obtain ⟨acc',g1,g2⟩:=ih (A++[x]) n' acc1 (by rw[e];simp) (h1.congr fun j=>(qq5 (fun m=>msgC u m j) A x).symm) (by simp at hn';omega)
  rw[List.length_append] at g2
  exact ⟨acc',g1,g2⟩
theorem qJg(n:Nat)(u:Uni)(K:Okay u)(B:Bnd u)(hn:2000≤n)(V:Nat→Int):∀(Y A:List Work) (n':Nat) (acc:List Int),u.2.2.2.2.2.2.2.1=A++Y→AcI (u.2.2.1+2).toNat (fun j=>V j+(A.map fun w=>qt1 u w j).sum) acc→Y.length<n' →
  ∃acc',AcI (u.2.2.1+2).toNat (fun j=>V j+(u.2.2.2.2.2.2.2.1.map fun w=>qt1 u w j).sum) acc'∧qb n' (qf1 n) ((A.length:Int),(u,(acc,())))=some (acc',()):=by
 have hwl:=K.wl
 have hcl0:=K.cl
 intro Y
 induction Y with
 | nil =>
  intro A n' acc e ha hn'
  obtain ⟨n',rfl⟩:∃j,n'=j+1:=⟨n'-1,by simp at hn';omega⟩
  rw[List.append_nil] at e
  refine ⟨acc,ha.congr fun j=>by rw[e],?_⟩
  rw[qc,qk8,e]
  simp only[ql,cond_false]
 | cons x Y ih =>
  intro A n' acc e ha hn'
  obtain ⟨n',rfl⟩:∃j,n'=j+1:=⟨n'-1,by simp at hn';omega⟩
  have hlen:u.2.2.2.2.2.2.2.1.length=A.length+(Y.length+1):=by rw[e,List.length_append,List.length_cons]
  have hlt:A.length<u.2.2.2.2.2.2.2.1.length:=by omega
  have hxm:x∈u.2.2.2.2.2.2.2.1:=by rw[e];simp
  have hx:=K.wo x hxm
  have hw:=qtZ (B.wk x hxm).1 (B.wk x hxm).2 B.cr.1 B.cr.2
  have hv:iW (iMul x.2.2 u.2.2.2.2.2.2.2.2.2.2.2)=x.2.2*u.2.2.2.2.2.2.2.2.2.2.2:=qbm (by unfold iMul;omega) (by unfold iMul;omega)
  have hlat:lat u.2.2.2.2.2.2.2.1 (A.length:Int)=some x:=by rw[e];exact latA A Y x rfl
  obtain ⟨c,hce⟩:=Int.eq_ofNat_of_zero_le hx.1.1
  obtain ⟨r1,r2,r3,r4⟩:=qCQ K B (h:=x.2.1) (by omega)
  have p3:=qyh n (x.2.2*u.2.2.2.2.2.2.2.2.2.2.2) _ (by omega) r3 r4 (by omega) hn
  have hsl:=qvQ (x.2.2*u.2.2.2.2.2.2.2.2.2.2.2) (qjd u x.2.1)
  obtain ⟨acc1,h1,h3⟩:=subR n u (qla (x.2.2*u.2.2.2.2.2.2.2.2.2.2.2) (qjd u x.2.1)) (u.2.2.1+2).toNat (fun j=>V j+(A.map fun w=>qt1 u w j).sum) (by omega) (by omega) (by omega) (A.length:Int) x (qla (x.2.2*u.2.2.2.2.2.2.2.2.2.2.2) (qjd u x.2.1)) [] n acc rfl (ha.congr fun j=>by simp) (by omega)
  have h3':qb n (qf0 n) ((A.length:Int),(qla (x.2.2*u.2.2.2.2.2.2.2.2.2.2.2) (qjd u x.2.1),((0:Int),(u,(x,(acc,()))))))=_:=h3
  have hal:=h1.1
  have hcl:c<acc1.length:=by omega
  rw[qc,qk8]
  simp only[qk hlt,cond_true,hlat,Option.bind_some,hv,r1,p3,h3',hce,qm _ hcl,Int.toNat_natCast,List.getElem?_eq_getElem hcl,qg (show A.length<9223372036854775807 by omega)]
  obtain ⟨v,hve⟩:∃v,v=x.2.2*u.2.2.2.2.2.2.2.2.2.2.2:=⟨_,rfl⟩
  rw[← hve] at hw h1 ⊢
  have d1:=qqc (iAdd acc1[c] v)
  have hput:=h1.put hcl (y:=v) (qvP (iAdd acc1[c] v)) (by unfold iAdd at *;omega)
  obtain ⟨acc',g1,g2⟩:=ih (A++[x]) n' _ (by rw[e];simp) (hput.congr fun j=>by
   rw[qq5]
   unfold qt1 shV
   rw[← hve,hce]
   by_cases hj:j=c
   ·rw[if_pos hj,if_pos (by omega)];omega
   ·rw[if_neg hj,if_neg (by omega)];omega) (by simp at hn';omega)
  rw[List.length_append] at g2
  exact ⟨acc',g1,g2⟩
theorem qGq(u:Uni){a b:List Msg}(h:a.Perm b)(j:Nat):accT u a j=accT u b j:=by
 unfold accT
 rw[qH2 (h.map _)]
theorem qAt(n:Nat)(u:Uni)(hs:Small11 u)(K:Okay u)(h:chkU u=0)(hn:5000≤n):∃acc,AcI (u.2.2.1+2).toNat (accT u (qfh u)) acc∧qgU n (u,())=some (acc,(0,())):=by
 have B:=qCL h
 have hc:=K.cl
 have hbl:=qvK u.1 u.2.1
 have hms:=K.ms
 have hwl:=K.wl
 have e1:iW (iAdd u.2.2.1 2)=u.2.2.1+2:=qbm (by unfold iAdd;omega) (by unfold iAdd;omega)
 rw[ql1]
 simp only[ql3 n u hs hn,qBf n u K hn,Option.bind_some,qc3 h,cond_false,e1,q8 (qbn (rfl:u.2.2.1+2=u.2.2.1+2)),q8 (show iMk (u.2.2.1+2)=true by unfold iMk;simp only[Bool.and_eq_true,decide_eq_true_eq];omega)]
 have h0:AcI (u.2.2.1+2).toNat (fun j=>(([]:List Msg).map fun m=>msgC u m j).sum) (List.replicate (u.2.2.1+2).toNat 0) :=
  ⟨List.length_replicate,fun j hj=>by rw[List.getElem_replicate];simp⟩
 obtain ⟨acc1,h1,h2⟩:=qJf n u K B (offL u.1 u.2.1).1 (fun m hm=>by have:=qxH K.v hm;exact ⟨this.1,this.2.1⟩) (by omega) (by omega) (offL u.1 u.2.1).1 [] n _ rfl h0 (by omega)
 obtain ⟨acc2,h3,h4⟩:=qJg n u K B (by omega) (fun j=>((offL u.1 u.2.1).1.map fun m=>msgC u m j).sum) u.2.2.2.2.2.2.2.1 [] n acc1 rfl (h1.congr fun j=>by simp) (by omega)
 refine ⟨acc2,(h3.congr fun j=>(qGq u (qGp K.v) j).symm),?_⟩
 have h2':qb n (qfZ n) ((offL u.1 u.2.1).1,((0:Int),(u,(List.replicate (u.2.2.1+2).toNat 0,()))))=some (u,(acc1,())):=h2
 have h4':qb n (qf1 n) ((0:Int),(u,(acc1,())))=some (acc2,()):=h4
 rw[h2']
 simp only[Option.bind_some]
 rw[h4']
 rfl
theorem qCT(n:Nat)(u:Uni)(hs:Small11 u)(hn:5000≤n):∃acc e,acc.length≤10∧qfK n (u,())=some (acc,(e,()))∧qgU n (u,())=some (acc,(e,())):=by
 by_cases h:chkU u=0
 ·have K:=qCS hs h
  have hcl:=K.cl
  obtain ⟨a1,h1,h2⟩:=qDi n u hs K h hn
  obtain ⟨a2,h3,h4⟩:=qAt n u hs K h hn
  rw[h1.uniq h3] at h2
  exact ⟨a2,0,by rw[h3.1];omega,h2,h4⟩
 ·refine ⟨[],chkU u,by decide,?_,?_⟩
  ·rw[qmg]
   simp only[qBd n u hs h hn,Option.bind_some,Sum.elim_inr,qf3 h,cond_true]
  ·rw[ql1]
   simp only[ql3 n u hs hn,Option.bind_some,qf3 h,cond_true]
theorem qJW(n:Nat)(u:Uni)(K:Okay u)(B:Bnd u)(bs:List Msg)(i:Nat)(m:Msg)(hi:bs[i]?=some m)(hm:m∈u.2.1)(h1:m.1=1)(hn:2000≤n):∀(Y A:List Stay) (n':Nat) (p:Int×Int),m.2.2.2.2=A++Y→Y.length<n' →
  qb n' (qho n) (p.1,(p.2,(bs,((i:Int),((A.length:Int),(u,()))))))=some ((Y.foldl (qxf u m) p).1,((Y.foldl (qxf u m) p).2,())):=by
 have hst:=K.v.st m hm
 intro Y
 induction Y with
 | nil =>
  intro A n' p e hn'
  obtain ⟨n',rfl⟩:∃j,n'=j+1:=⟨n'-1,by simp at hn';omega⟩
  rw[List.append_nil] at e
  rw[qc,qmO]
  simp only[qBA hi,Option.bind_some,e,ql,cond_false]
  rfl
 | cons x Y ih =>
  intro A n' p e hn'
  obtain ⟨n',rfl⟩:∃j,n'=j+1:=⟨n'-1,by simp at hn';omega⟩
  have hlen:m.2.2.2.2.length=A.length+(Y.length+1):=by rw[e,List.length_append,List.length_cons]
  have hlt:A.length<m.2.2.2.2.length:=by omega
  have hx:x∈m.2.2.2.2:=by rw[e];simp
  have hlat:lat m.2.2.2.2 (A.length:Int)=some x:=by rw[e];exact latA A Y x rfl
  have hin:=qxE K.v hm h1 hx
  rw[qc,qmO]
  simp only[qBA hi,Option.bind_some,qk hlt,cond_true,hlat,qzL n m x u K B hin hn,qg (show A.length<9223372036854775807 by omega)]
  have:=ih (A++[x]) n' (qxf u m p x) (by rw[e];simp) (by simp at hn';omega)
  rw[List.length_append] at this
  exact this
theorem qDk(n:Nat)(u:Uni)(i:Int)(hs:Small11 u)(K:Okay u)(h:chkU u=0)(hn:5000≤n):qiu n (u,(i,()))=some (qzH u i):=by
 have B:=qCL h
 have hms:=K.ms
 have hol:=qvK u.1 u.2.1
 rw[qn5]
 simp only[ql3 n u hs hn,qBf n u K hn,Option.bind_some,qc3 h,cond_false]
 have h1:=qcX (step:=qfv n) (offL u.1 u.2.1).1 (fun k=>(i,((0:Int),((0:Int),((offL u.1 u.2.1).1,((k:Int),(u,()))))))) (fun m=>iEq m.2.1 i) (fun k=>.inr ((qzG u (((offL u.1 u.2.1).1[k]?).getD (0,(0,(0,(0,[]))))) ).1,((qzG u (((offL u.1 u.2.1).1[k]?).getD (0,(0,(0,(0,[]))))) ).2,((0:Int),())))) (.inl ()) (fun rec k hk=>by
  have hm:=qxH K.v (List.getElem_mem hk)
  have hst:=K.v.st _ hm.1
  have i1:=qJW n u K B (offL u.1 u.2.1).1 k _ (List.getElem?_eq_getElem hk) hm.1 hm.2.1 (by omega) ((offL u.1 u.2.1).1[k]).2.2.2.2 [] n (0,0) rfl (by omega)
  have i1':qb n (qho n) ((0:Int),((0:Int),((offL u.1 u.2.1).1,((k:Int),((0:Int),(u,()))))))=_:=i1
  rw[qmP]
  simp only[qk hk,cond_true,qm _ hk,Option.bind_some,qg (show k<9223372036854775807 by omega),i1',List.getElem?_eq_getElem hk,Option.getD_some]
  by_cases he:(offL u.1 u.2.1).1[k].2.1=i
  ·rw[qc3 he,qbn he];rfl
  ·rw[qf3 he,show iEq (offL u.1 u.2.1).1[k].2.1 i=false by simp[iEq,he]];rfl) (fun rec=>by
  rw[qmP]
  simp only[ql,cond_false]) (n:=n) (by omega)
 unfold qzH
 have hacc:i∈accL u.1 u.2.1↔∃m,m∈(offL u.1 u.2.1).1∧m.2.1=i:=by
  unfold accL
  rw[(qeX _ _).mem_iff,List.mem_map]
 rcases h1 with ⟨h1,h2⟩ | ⟨k,hk,h1,h3,h2⟩
 ·rw[if_neg (fun h4=>by
   obtain ⟨m,g1,g2⟩:=hacc.1 h4
   have:=List.any_eq_false.1 h1 m g1
   exact this (decide_eq_true g2))]
  have h2':qb n (qfv n) (i,((0:Int),((0:Int),((offL u.1 u.2.1).1,((0:Int),(u,()))))))=_:=h2
  rw[h2'];rfl
 ·have hki:(offL u.1 u.2.1).1[k].2.1=i:=of_decide_eq_true h1
  rw[if_pos (hacc.2 ⟨_,List.getElem_mem hk,hki⟩)]
  have h2':qb n (qfv n) (i,((0:Int),((0:Int),((offL u.1 u.2.1).1,((0:Int),(u,()))))))=_:=h2
  have hm:=qxH K.v (List.getElem_mem hk)
  have:=qyN K.v.msgs hm.1 hm.2.1
  rw[hki] at this
  rw[h2',List.getElem?_eq_getElem hk,this];rfl
theorem qGr(n:Nat)(u:Uni)(i:Int)(hs:Small11 u)(hn:5000≤n):∃p,qlY n (u,(i,()))=some p∧qiu n (u,(i,()))=some p:=by
 by_cases h:chkU u=0
 ·have K:=qCS hs h
  exact ⟨_,qHT n u i hs K h hn,qDk n u i hs K h hn⟩
 ·refine ⟨_,qGf n u i hs h hn,?_⟩
  rw[qn5]
  simp only[ql3 n u hs hn,Option.bind_some,qf3 h,cond_true]
theorem qGs(n:Nat)(u:Uni)(i:Int)(hl:u.2.1.length≤9223372036854775807)(hl2:u.2.2.2.2.1.length≤9223372036854775807)(hn:u.2.1.length+u.2.2.2.2.1.length+200000≤n):qfB n (u,(i,()))=some (true,()):=by
 have hw:=qJb n (by omega)
 rw[qqm,qHU n u hl hl2 (by omega) (by omega)]
 simp only[Option.bind_some,hw]
 cases hf:qxg u with
 | true=>rfl
 | false =>
  have hs:=qCN hf
  obtain ⟨p,p1,p2⟩:=qGr n u i hs (by omega)
  obtain ⟨a,e,a0,a1,a2⟩:=qCT n u hs (by omega)
  simp only[cond_false,qHX n u hs (by omega),Option.bind_some,p1,p2,a1,a2,qxe n u hs (by omega),ql3 n u hs (by omega),qbn rfl,cond_true,qGm n a (by omega) (by omega)]
end Go.Proofs.YtlmicgmhallkkaaGreatDoor
