/- Texts Dl0, Dl1 in one. -/
import Derived.Test.YtfnflenkeljkiaaGreatQa
import Derived.Test.YtfnflenkeljkiaaGreatQc
import Derived.Test.YtfnflenkeljkiaaGreatNg
/- Ropes: the stable sort of few numbers by a key. -/
set_option linter.constructorNameAsVariable false
set_option linter.unusedSimpArgs false
set_option linter.unusedVariables false
set_option linter.unusedSectionVars false
namespace Go.Proofs.YtfnflenkeljkiaaGreat
open Go Go.Proofs Go.RowKit
set_option maxHeartbeats 1000000
def cmpI(x y:Int):Int:=if x<y then -1 else if x>y then 1 else 0
theorem qy4(n:Nat)(x:Int):qh7 n (x,())=some (false,()):=by
 rw[qpW]
 simp only[show iNe x x=false by unfold iNe;simp]
theorem qvV(n:Nat)(x y:Int):qgX n (x,(y,()))=some (cmpI x y,()):=by
 rw[qoM]
 simp only[qy4,Option.bind_some,cond_false]
 unfold cmpI
 show cond (decide (x<y)) _ (cond (decide (x>y)) _ _)=_
 by_cases h:x<y
 ·simp[h]
 ·by_cases h2:x>y
  ·simp[h,h2]
  ·simp[h,h2]
theorem qvW(u v:Int):iLt (cmpI u v) 0=decide (u<v):=by
 unfold cmpI iLt
 split
 ·next h=>simp[h]
 ·split
  ·next h h2=>simp[h]
  ·next h h2=>simp[h]
theorem qqw{k:Nat}(h:k<9223372036854775807):iW (iSub ((k+1:Nat):Int) 1)=(k:Int):=by
 rw[qfF (by unfold iSub;omega) (by unfold iSub;omega)];unfold iSub;omega
theorem latA{α:Type}(A B:List α)(x:α){k:Nat}(h:A.length=k):lat (A++x::B) (k:Int)=some x:=by
 subst h;rw[qnR];simp
theorem getA{α:Type}(A B:List α)(x:α){k:Nat}(h:A.length=k):(A++x::B)[k]?=some x:=by
 subst h;simp
theorem qsf{α:Type}(A B:List α)(x y:α){k:Nat}(h:A.length=k):(A++x::B).set k y=A++y::B:=by
 subst h;simp
section
variable (K:Int→Int)
def insK(v:Int):List Int→List Int
 | []=>[v]
 | x::Q=>if K v<K x then x::insK v Q else v::x::Q
theorem qsT{v x:Int}{Q:List Int}(h:K v<K x):insK K v (x::Q)=x::insK K v Q:=if_pos h
theorem qsU{v x:Int}{Q:List Int}(h:¬K v<K x):insK K v (x::Q)=v::x::Q:=if_neg h
theorem qlk(v:Int):∀Q:List Int,(insK K v Q).Perm (v::Q)
 | []=>List.Perm.refl _
 | x::Q=>by
  unfold insK
  split
  ·exact ((qlk v Q).cons x).trans (List.Perm.swap _ _ _)
  ·exact List.Perm.refl _
theorem qq4{v:Int}:∀{Q:List Int},Q.Pairwise (fun x y=>K y≤K x)→(insK K v Q).Pairwise (fun x y=>K y≤K x)
 | [],_=>List.pairwise_singleton _ _
 | x::Q,h=>by
  rw[List.pairwise_cons] at h
  by_cases hlt:K v<K x
  ·rw[qsT K hlt,List.pairwise_cons]
   refine ⟨fun y hy=>?_,qq4 h.2⟩
   rcases List.mem_cons.1 ((qlk K v Q).mem_iff.1 hy) with rfl | hy
   ·omega
   ·exact h.1 y hy
  ·rw[qsU K hlt,List.pairwise_cons,List.pairwise_cons]
   refine ⟨fun y hy=>?_,h.1,h.2⟩
   rcases List.mem_cons.1 hy with rfl | hy
   ·omega
   ·have:=h.1 y hy;omega
def qju(Q B:List Int):List Int:=B.foldl (fun Q v=>insK K v Q) Q
theorem qlX:∀(B Q:List Int),(qju K Q B).Perm (Q++B)
 | [],Q=>by unfold qju;simp
 | v::B,Q=>by
  have:=qlX B (insK K v Q)
  refine this.trans ?_
  refine (List.Perm.append_right B (qlk K v Q)).trans ?_
  exact (List.perm_middle).symm
theorem qmr:∀(B:List Int) {Q:List Int},Q.Pairwise (fun x y=>K y≤K x)→(qju K Q B).Pairwise (fun x y=>K y≤K x)
 | [],_,h=>h
 | v::B,Q,h=>qmr B (Q:=insK K v Q) (qq4 K h)
end
theorem qAE(n:Nat)(K:Int→Int)(D:Int→Prop)(c:((List Int)×Unit))(hc:∀x y,D x→D y→qcG n (x,(y,c))=some (cmpI (K x) (K y),c))(b i:Int)(v:Int)(hv:D v):∀(Q B:List Int) (m:Nat),(∀x,x∈Q→D x)→Q.length<1000→Q.length<m →
  qg m (qbl n) ((0:Int),(b,(i,((Q.length:Int),(Q.reverse++v::B,c)))))=some ((0:Int),(b,(i,((insK K v Q).reverse++B,c)))):=by
 intro Q
 induction Q with
 | nil =>
  intro B m _ hl0 hm
  obtain ⟨m,rfl⟩:∃j,m=j+1:=⟨m-1,by simp at hm;omega⟩
  rw[qU,qcl]
  rfl
 | cons x Q ih =>
  intro B m hD hl0 hm
  obtain ⟨m,rfl⟩:∃j,m=j+1:=⟨m-1,by simp at hm;omega⟩
  simp only[List.length_cons] at hl0 hm
  rw[qU,qcl]
  have hd0:(x::Q).reverse++v::B=Q.reverse++x::v::B:=by simp
  have hd1:(x::Q).reverse++v::B=(Q.reverse++[x])++v::B:=by simp
  have hQ:Q.reverse.length=Q.length:=List.length_reverse
  have hQ1:(Q.reverse++[x]).length=Q.length+1:=by simp
  have e1:lat ((x::Q).reverse++v::B) ((Q.length+1:Nat):Int)=some v:=by rw[hd1];exact latA _ _ _ hQ1
  have e2:lat ((x::Q).reverse++v::B) (Q.length:Int)=some x:=by rw[hd0];exact latA _ _ _ hQ
  have e3:((x::Q).reverse++v::B)[Q.length+1]?=some v:=by rw[hd1];exact getA _ _ _ hQ1
  have e4:((x::Q).reverse++v::B)[Q.length]?=some x:=by rw[hd0];exact getA _ _ _ hQ
  have e5:((x::Q).reverse++v::B).set (Q.length+1) x=(Q.reverse++[x])++x::B:=by rw[hd1];exact qsf _ _ _ _ hQ1
  have e6:(Q.reverse++[x])++x::B=Q.reverse++x::x::B:=by simp
  have hpos:iGt ((Q.length+1:Nat):Int) 0=true:=decide_eq_true (by omega)
  simp only[List.length_cons,hpos,cond_true,qqw (show Q.length<9223372036854775807 by omega),e1,e2,e3,e4,Option.bind_some,Int.toNat_natCast,hc v x hv (hD x List.mem_cons_self),qvW]
  by_cases hlt:K v<K x
  ·rw[show decide (K v<K x)=true from decide_eq_true hlt]
   simp only[cond_true,e5]
   rw[e6]
   simp only[latA _ _ _ hQ,getA _ _ _ hQ,qsf _ _ _ _ hQ,Option.bind_some]
   have:=ih (x::B) m (fun y hy=>hD y (List.mem_cons_of_mem _ hy)) (by omega) (by omega)
   rw[this,qsT K hlt]
   simp
  ·rw[show decide (K v<K x)=false from decide_eq_false hlt]
   simp only[cond_false]
   rw[qsU K hlt]
   simp
theorem qAF(n:Nat)(K:Int→Int)(D:Int→Prop)(c:((List Int)×Unit))(hc:∀x y,D x→D y→qcG n (x,(y,c))=some (cmpI (K x) (K y),c))(L:Nat)(hL:L<1000)(hn:2000≤n):∀(B Q:List Int) (m:Nat),(∀x,x∈Q→D x)→(∀x,x∈B→D x)→Q.length+B.length=L→B.length<m →
  qg m (qF n) ((0:Int),((L:Int),((Q.length:Int),(Q.reverse++B,c))))=some ((qju K Q B).reverse,c):=by
 intro B
 induction B with
 | nil =>
  intro Q m _ _ hk hm
  obtain ⟨m,rfl⟩:∃j,m=j+1:=⟨m-1,by simp at hm;omega⟩
  rw[qU,qbi]
  simp only[show iLt (Q.length:Int) (L:Int)=false from decide_eq_false (by simp at hk;omega),cond_false,List.append_nil]
  rfl
 | cons v B ih =>
  intro Q m hQD hBD hk hm
  obtain ⟨m,rfl⟩:∃j,m=j+1:=⟨m-1,by simp at hm;omega⟩
  simp only[List.length_cons] at hk hm
  rw[qU,qbi]
  have h1:=qAE n K D c hc (L:Int) (Q.length:Int) v (hBD v List.mem_cons_self) Q B n hQD (by omega) (by omega)
  simp only[show iLt (Q.length:Int) (L:Int)=true from decide_eq_true (by omega),cond_true,h1,Option.bind_some,qQ (show Q.length<9223372036854775807 by omega)]
  have hp:=qlk K v Q
  have hlen:(insK K v Q).length=Q.length+1:=by rw[hp.length_eq];simp
  have:=ih (insK K v Q) m (fun y hy=>by
   rcases List.mem_cons.1 (hp.mem_iff.1 hy) with rfl | hy
   ·exact hBD y List.mem_cons_self
   ·exact hQD y hy) (fun y hy=>hBD y (List.mem_cons_of_mem _ hy)) (by omega) (by omega)
  rw[hlen] at this
  exact this
theorem quR(n:Nat)(K:Int→Int)(D:Int→Prop)(c:((List Int)×Unit))(hc:∀m x y,D x→D y→qcG m (x,(y,c))=some (cmpI (K x) (K y),c))(d:List Int)(hd:∀x,x∈d→D x)(hdl:d.length<20)(hn:2000≤n):qbe n (d,c)=some ((qju K [] d).reverse,c):=by
 have h3:qg n (qF n) ((0:Int),((d.length:Int),(((1:Nat):Int),(d,c))))=some ((qju K [] d).reverse,c):=by
  cases d with
  | nil =>
   obtain ⟨m,rfl⟩:∃m,n=m+1:=⟨n-1,by omega⟩
   rw[qU,qbi]
   rfl
  | cons x d=>exact qAF n K D c (hc n) (d.length+1) (by simp at hdl;omega) hn d [x] n (fun y hy=>hd y (by rw[List.mem_singleton] at hy;subst hy;exact List.mem_cons_self)) (fun y hy=>hd y (List.mem_cons_of_mem _ hy)) (by simp;omega) (by simp at hdl;omega)
 obtain ⟨n,rfl⟩:∃m,n=m+1:=⟨n-1,by omega⟩
 rw[qfc,qfv]
 simp only[qU]
 rw[qe6]
 simp only[show iLe (20:Int) (d.length:Int)=false from decide_eq_false (by omega),cond_false,Option.bind_some,qex]
 rw[show iW (iAdd (0:Int) 1)=((1:Nat):Int) from rfl,h3]
 simp only[Option.bind_some]
 rw[qe7]
 simp only[show iLt (20:Int) (d.length:Int)=false from decide_eq_false (by omega),cond_false,Option.bind_some]
theorem qAG(n:Nat)(K:Int→Int)(D:Int→Prop)(c:((Int×(Int×(Int×((List Stay)×((List Int)×((Int×(Int×(Int×(List (Int×Int)))))×(List (Int×(Int×(Int×(List (Int×((Int×Int)×(Int×Int))))))))))))))×Unit))(hc:∀x y,D x→D y→qe5 n (x,(y,c))=some (cmpI (K x) (K y),c))(b i:Int)(v:Int)(hv:D v):∀(Q B:List Int) (m:Nat),(∀x,x∈Q→D x)→Q.length<1000→Q.length<m →
  qg m (qbE n) ((0:Int),(b,(i,((Q.length:Int),(Q.reverse++v::B,c)))))=some ((0:Int),(b,(i,((insK K v Q).reverse++B,c)))):=by
 intro Q
 induction Q with
 | nil =>
  intro B m _ hl0 hm
  obtain ⟨m,rfl⟩:∃j,m=j+1:=⟨m-1,by simp at hm;omega⟩
  rw[qU,qcJ]
  rfl
 | cons x Q ih =>
  intro B m hD hl0 hm
  obtain ⟨m,rfl⟩:∃j,m=j+1:=⟨m-1,by simp at hm;omega⟩
  simp only[List.length_cons] at hl0 hm
  rw[qU,qcJ]
  have hd0:(x::Q).reverse++v::B=Q.reverse++x::v::B:=by simp
  have hd1:(x::Q).reverse++v::B=(Q.reverse++[x])++v::B:=by simp
  have hQ:Q.reverse.length=Q.length:=List.length_reverse
  have hQ1:(Q.reverse++[x]).length=Q.length+1:=by simp
  have e1:lat ((x::Q).reverse++v::B) ((Q.length+1:Nat):Int)=some v:=by rw[hd1];exact latA _ _ _ hQ1
  have e2:lat ((x::Q).reverse++v::B) (Q.length:Int)=some x:=by rw[hd0];exact latA _ _ _ hQ
  have e3:((x::Q).reverse++v::B)[Q.length+1]?=some v:=by rw[hd1];exact getA _ _ _ hQ1
  have e4:((x::Q).reverse++v::B)[Q.length]?=some x:=by rw[hd0];exact getA _ _ _ hQ
  have e5:((x::Q).reverse++v::B).set (Q.length+1) x=(Q.reverse++[x])++x::B:=by rw[hd1];exact qsf _ _ _ _ hQ1
  have e6:(Q.reverse++[x])++x::B=Q.reverse++x::x::B:=by simp
  have hpos:iGt ((Q.length+1:Nat):Int) 0=true:=decide_eq_true (by omega)
  simp only[List.length_cons,hpos,cond_true,qqw (show Q.length<9223372036854775807 by omega),e1,e2,e3,e4,Option.bind_some,Int.toNat_natCast,hc v x hv (hD x List.mem_cons_self),qvW]
  by_cases hlt:K v<K x
  ·rw[show decide (K v<K x)=true from decide_eq_true hlt]
   simp only[cond_true,e5]
   rw[e6]
   simp only[latA _ _ _ hQ,getA _ _ _ hQ,qsf _ _ _ _ hQ,Option.bind_some]
   have:=ih (x::B) m (fun y hy=>hD y (List.mem_cons_of_mem _ hy)) (by omega) (by omega)
   rw[this,qsT K hlt]
   simp
  ·rw[show decide (K v<K x)=false from decide_eq_false hlt]
   simp only[cond_false]
   rw[qsU K hlt]
   simp
theorem qAH(n:Nat)(K:Int→Int)(D:Int→Prop)(c:((Int×(Int×(Int×((List Stay)×((List Int)×((Int×(Int×(Int×(List (Int×Int)))))×(List (Int×(Int×(Int×(List (Int×((Int×Int)×(Int×Int))))))))))))))×Unit))(hc:∀x y,D x→D y→qe5 n (x,(y,c))=some (cmpI (K x) (K y),c))(L:Nat)(hL:L<1000)(hn:2000≤n):∀(B Q:List Int) (m:Nat),(∀x,x∈Q→D x)→(∀x,x∈B→D x)→Q.length+B.length=L→B.length<m →
  qg m (qY n) ((0:Int),((L:Int),((Q.length:Int),(Q.reverse++B,c))))=some ((qju K Q B).reverse,c):=by
 intro B
 induction B with
 | nil =>
  intro Q m _ _ hk hm
  obtain ⟨m,rfl⟩:∃j,m=j+1:=⟨m-1,by simp at hm;omega⟩
  rw[qU,qbw]
  simp only[show iLt (Q.length:Int) (L:Int)=false from decide_eq_false (by simp at hk;omega),cond_false,List.append_nil]
  rfl
 | cons v B ih =>
  intro Q m hQD hBD hk hm
  obtain ⟨m,rfl⟩:∃j,m=j+1:=⟨m-1,by simp at hm;omega⟩
  simp only[List.length_cons] at hk hm
  rw[qU,qbw]
  have h1:=qAG n K D c hc (L:Int) (Q.length:Int) v (hBD v List.mem_cons_self) Q B n hQD (by omega) (by omega)
  simp only[show iLt (Q.length:Int) (L:Int)=true from decide_eq_true (by omega),cond_true,h1,Option.bind_some,qQ (show Q.length<9223372036854775807 by omega)]
  have hp:=qlk K v Q
  have hlen:(insK K v Q).length=Q.length+1:=by rw[hp.length_eq];simp
  have:=ih (insK K v Q) m (fun y hy=>by
   rcases List.mem_cons.1 (hp.mem_iff.1 hy) with rfl | hy
   ·exact hBD y List.mem_cons_self
   ·exact hQD y hy) (fun y hy=>hBD y (List.mem_cons_of_mem _ hy)) (by omega) (by omega)
  rw[hlen] at this
  exact this
theorem qy5(n:Nat)(K:Int→Int)(D:Int→Prop)(c:((Int×(Int×(Int×((List Stay)×((List Int)×((Int×(Int×(Int×(List (Int×Int)))))×(List (Int×(Int×(Int×(List (Int×((Int×Int)×(Int×Int))))))))))))))×Unit))(hc:∀m x y,D x→D y→qe5 m (x,(y,c))=some (cmpI (K x) (K y),c))(d:List Int)(hd:∀x,x∈d→D x)(hdl:d.length<20)(hn:2000≤n):qcr n (d,c)=some ((qju K [] d).reverse,c):=by
 have h3:qg n (qY n) ((0:Int),((d.length:Int),(((1:Nat):Int),(d,c))))=some ((qju K [] d).reverse,c):=by
  cases d with
  | nil =>
   obtain ⟨m,rfl⟩:∃m,n=m+1:=⟨n-1,by omega⟩
   rw[qU,qbw]
   rfl
  | cons x d=>exact qAH n K D c (hc n) (d.length+1) (by simp at hdl;omega) hn d [x] n (fun y hy=>hd y (by rw[List.mem_singleton] at hy;subst hy;exact List.mem_cons_self)) (fun y hy=>hd y (List.mem_cons_of_mem _ hy)) (by simp;omega) (by simp at hdl;omega)
 obtain ⟨n,rfl⟩:∃m,n=m+1:=⟨n-1,by omega⟩
 rw[qgi,qgl]
 simp only[qU]
 rw[qf4]
 simp only[show iLe (20:Int) (d.length:Int)=false from decide_eq_false (by omega),cond_false,Option.bind_some,qfb]
 rw[show iW (iAdd (0:Int) 1)=((1:Nat):Int) from rfl,h3]
 simp only[Option.bind_some]
 rw[qf5]
 simp only[show iLt (20:Int) (d.length:Int)=false from decide_eq_false (by omega),cond_false,Option.bind_some]
abbrev OutX:=((Int×(Int×(Int×((List Stay)×((List Int)×((Int×(Int×(Int×(List (Int×Int)))))×(List (Int×(Int×(Int×(List (Int×((Int×Int)×(Int×Int))))))))))))))×(List Int))
def InG(g:Nat)(l:List Int):Prop:=∀x,x∈l→0≤x∧x<(g:Int)
theorem InG.app{g:Nat}{l:List Int}{k:Nat}(h:InG g l)(hk:k<g):InG g (l++[(k:Int)]):=fun x hx=>by
 rcases List.mem_append.1 hx with hx | hx
 ·exact h x hx
 ·rw[List.mem_singleton] at hx;subst hx;omega
theorem qll{α:Type}{l:List α}{x:Int}(h:0≤x∧x<(l.length:Int)):∃y,lat l x=some y∧l[x.toNat]?=some y:=by
 obtain ⟨k,rfl⟩:=Int.eq_ofNat_of_zero_le h.1
 have hk:k<l.length:=by omega
 exact ⟨l[k],qr l hk,by simp[hk]⟩
theorem rep0(n:Nat):qS (n+8) (((Int.negSucc (0:Nat))::[]),((0:Int),()))=some ([],()):=by kernel_rfl
theorem rep1(n:Nat):qS (n+8) (((Int.negSucc (0:Nat))::[]),((1:Int),()))=some ((Int.negSucc (0:Nat))::[],()):=by kernel_rfl
theorem rep2(n:Nat):qS (n+8) (((Int.negSucc (0:Nat))::[]),((2:Int),()))=some ((Int.negSucc (0:Nat))::(Int.negSucc (0:Nat))::[],()):=by kernel_rfl
theorem rep3(n:Nat):qS (n+8) (((Int.negSucc (0:Nat))::[]),((3:Int),()))=some ((Int.negSucc (0:Nat))::(Int.negSucc (0:Nat))::(Int.negSucc (0:Nat))::[],()):=by kernel_rfl
theorem rep4(n:Nat):qS (n+8) (((Int.negSucc (0:Nat))::[]),((4:Int),()))=some ((Int.negSucc (0:Nat))::(Int.negSucc (0:Nat))::(Int.negSucc (0:Nat))::(Int.negSucc (0:Nat))::[],()):=by kernel_rfl
theorem qxB(n g:Nat)(hg:g≤4):qS (n+8) (((Int.negSucc (0:Nat))::[]),((g:Int),()))=some (List.replicate g (-1),()):=by
 rcases (by omega:g=0∨g=1∨g=2∨g=3∨g=4) with rfl | rfl | rfl | rfl | rfl
 ·exact rep0 n
 ·exact rep1 n
 ·exact rep2 n
 ·exact rep3 n
 ·exact rep4 n
theorem rp0(n:Nat)(o:OutX)(l rep:List Int)(hl:l.length≤4):∀(j k:Nat) (b:List Int) (m:Nat),k+j=l.length→j<m→b.length≤k→InG l.length b →
  ∃b',InG l.length b'∧b'.length≤l.length∧qg m (qcH n) (o,((l.length:Int),((k:Int),(l,(rep,(b,(((0:Nat),l.length),())))))))=some (o,(l,(rep,(b',())))):=by
 intro j
 induction j with
 | zero =>
  intro k b m hk hm hb hbG
  obtain ⟨m,rfl⟩:∃j,m=j+1:=⟨m-1,by omega⟩
  refine ⟨b,hbG,by omega,?_⟩
  rw[qU,qcT]
  simp only[show iLt (k:Int) (l.length:Int)=false from decide_eq_false (by omega),cond_false]
 | succ j ih =>
  intro k b m hk hm hb hbG
  obtain ⟨m,rfl⟩:∃j,m=j+1:=⟨m-1,by omega⟩
  have hkl:k<l.length:=by omega
  rw[qU,qcT]
  simp only[show iLt (k:Int) (l.length:Int)=true from decide_eq_true (by omega),cond_true,List.drop_zero,List.take_length,qr l hkl,Option.bind_some,show nAdd 0 (Int.toNat (k:Int))=k from Nat.zero_add k,List.getElem?_eq_getElem hkl,qQ (show k<9223372036854775807 by omega)]
  cases iGt l[k] 0 with
  | true =>
   simp only[cond_true,show qdo (Nat.ble (nAdd b.length 1) 17592186044416)=some () from by rw[show Nat.ble (nAdd b.length 1) 17592186044416=true from Nat.ble_eq_true_of_le (by show b.length+1≤_;omega)];rfl,Option.bind_some]
   exact ih (k+1) (b++[(k:Int)]) m (by omega) (by omega) (by simp;omega) (hbG.app hkl)
  | false =>
   simp only[cond_false]
   exact ih (k+1) b m (by omega) (by omega) (by omega) hbG
theorem rcmp(n:Nat)(l:List Int)(x y:Int)(hx:0≤x∧x<(l.length:Int))(hy:0≤y∧y<(l.length:Int)):qcG n (x,(y,(l,())))=some (cmpI ((l[y.toNat]?).getD 0) ((l[x.toNat]?).getD 0),(l,())):=by
 obtain ⟨v,hv,hv'⟩:=qll hx
 obtain ⟨w,hw,hw'⟩:=qll hy
 rw[qlj]
 simp only[hv,hw,hv',hw',Option.bind_some,qvV,Option.getD_some]
theorem qru(u v:Int):cmpI (-u) (-v)=cmpI v u:=by
 unfold cmpI
 by_cases h:v<u
 ·rw[if_pos (by omega),if_pos h]
 ·by_cases h2:v>u
  ·rw[if_neg (by omega),if_pos (by omega),if_neg h,if_pos h2]
  ·rw[if_neg (by omega),if_neg (by omega),if_neg h,if_neg h2]
theorem rp1(n:Nat)(o:OutX)(l:List Int)(hfit:∀f,f∈o.2→0≤f∧f<(o.1.2.2.2.2.2.2.length:Int))(ord:List Int)(hord:InG l.length ord)(hol:ord.length<100):∀(j k:Nat) (rep:List Int) (m:Nat),k+j=ord.length→j<m→rep.length=l.length →
  (∃rep',qg m (qbr n) (o,(ord,((ord.length:Int),((k:Int),(l,(rep,()))))))=some (.inl (l,(rep',()))))∨qg m (qbr n) (o,(ord,((ord.length:Int),((k:Int),(l,(rep,()))))))=some (.inr ([],(false,(l,())))):=by
 intro j
 induction j with
 | zero =>
  intro k rep m hk hm hr
  obtain ⟨m,rfl⟩:∃j,m=j+1:=⟨m-1,by omega⟩
  refine .inl ⟨rep,?_⟩
  rw[qU,qcU]
  simp only[show iLt (k:Int) (ord.length:Int)=false from decide_eq_false (by omega),cond_false]
 | succ j ih =>
  intro k rep m hk hm hr
  obtain ⟨m,rfl⟩:∃j,m=j+1:=⟨m-1,by omega⟩
  have hkl:k<ord.length:=by omega
  have hg:=hord _ (List.getElem_mem hkl)
  obtain ⟨c,hc1,hc2⟩:=qll hg
  obtain ⟨r,hr1,hr2⟩:=qll (l:=rep) (x:=ord[k]) (by rw[hr];exact hg)
  rw[qU,qcU]
  simp only[show iLt (k:Int) (ord.length:Int)=true from decide_eq_true (by omega),cond_true,qr ord hkl,Option.bind_some]
  by_cases hf:k<o.2.length
  ·have hfi:=hfit _ (List.getElem_mem hf)
   obtain ⟨z,hz1,hz2⟩:=qll hfi
   simp only[show iGe (k:Int) (o.2.length:Int)=false from decide_eq_false (by omega),cond_false,qr o.2 hf,Option.bind_some,hz1,hc1,hc2,hr1,hr2]
   cases iLt z.2.2.1 (iW (iMul o.1.2.2.1 c)) with
   | true=>exact .inr rfl
   | false =>
    simp only[cond_false,qQ (show k<9223372036854775807 by omega)]
    exact ih (k+1) (rep.set ord[k].toNat o.2[k]) m (by omega) (by omega) (by rw[List.length_set];exact hr)
  ·simp only[show iGe (k:Int) (o.2.length:Int)=true from decide_eq_true (by omega),cond_true]
   exact .inr trivial
theorem qy6(n:Nat)(hn:2000≤n)(x:OutX)(l:List Int)(hG:x.1.2.2.2.1.length≤4)(hl:l.length=x.1.2.2.2.1.length)(hfit:∀f,f∈x.2→0≤f∧f<(x.1.2.2.2.2.2.2.length:Int)) :
  ∃o b,qcQ n (x,(l,()))=some (o,(b,(l,())))∧(b=false→o=[]):=by
 have hrep:qS n (((Int.negSucc (0:Nat))::[]),((x.1.2.2.2.1.length:Int),()))=some (List.replicate x.1.2.2.2.1.length (-1),()):=by
  obtain ⟨m,rfl⟩:∃m,n=m+8:=⟨n-8,by omega⟩
  exact qxB m _ hG
 obtain ⟨b,hb1,hb2,hb3⟩:=rp0 n x l (List.replicate x.1.2.2.2.1.length (-1)) (by omega) l.length 0 [] n (by omega) (by omega) (by simp) (fun y hy=>by cases hy)
 have hs:=quR n (fun g=>-((l[g.toNat]?).getD 0)) (fun g=>0≤g∧g<(l.length:Int)) (l,()) (fun m g h hg hh=>by rw[rcmp m l g h hg hh,qru]) b hb1 (by omega) hn
 have hp:=qlX (fun g=>-((l[g.toNat]?).getD 0)) b []
 generalize (qju (fun g=>-((l[g.toNat]?).getD 0)) [] b)=q at hs hp
 have hq1:InG l.length q.reverse:=fun y hy=>hb1 y (by simpa using hp.mem_iff.1 (List.mem_reverse.1 hy))
 have hq2:q.reverse.length=b.length:=by rw[List.length_reverse,hp.length_eq];simp
 rw[qgW]
 simp only[hrep,Option.bind_some]
 rw[show ((0:Int))=((0:Nat):Int) from rfl,hb3]
 simp only[Option.bind_some,hs]
 rcases rp1 n x l hfit q.reverse hq1 (by omega) q.reverse.length 0 (List.replicate x.1.2.2.2.1.length (-1)) n (by omega) (by omega) (by simp[hl]) with ⟨rep',h⟩ | h
 ·rw[h]
  exact ⟨rep',true,rfl,fun h=>by cases h⟩
 ·rw[h]
  exact ⟨[],false,rfl,fun _=>rfl⟩
theorem qy7(n:Nat)(x:OutX)(g:Nat)(hg:g<x.1.2.2.2.1.length):∃b,qfk n (x,((g:Int),()))=some (b,()):=by
 rw[qiy]
 simp only[qr _ hg,Option.bind_some]
 cases iGe x.1.2.2.2.1[g].1 x.1.2.1 with
 | true=>exact ⟨_,rfl⟩
 | false=>exact ⟨_,rfl⟩
theorem qtC(n:Nat)(x:OutX)(g:Nat):qml n x g=qfk n (x,((g:Int),())):=by unfold qml;rfl
theorem qoP(n:Nat)(x:OutX)(l:List Int):qkS n x l=qcQ n (x,(l,())):=by unfold qkS;rfl
theorem qzI(n:Nat)(hn:2000≤n)(x:OutX)(hG:x.1.2.2.2.1.length≤4)(hC:x.1.2.2.2.2.1.length≤6)(hcb:∀c,c∈x.1.2.2.2.2.1→1≤c∧c≤20)(hgb:∀z,z∈x.1.2.2.2.1→z.2.2≤20)(hfit:∀f,f∈x.2→0≤f∧f<(x.1.2.2.2.2.2.2.length:Int)):TmOk n x :=
 ⟨hG,hC,hcb,hgb,fun g hg=>by rw[qtC];exact qy7 n x g hg,fun l hl _=>by rw[qoP];exact qy6 n hn x l hG hl hfit⟩
end Go.Proofs.YtfnflenkeljkiaaGreat
