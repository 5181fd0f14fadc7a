/- Clubs, plain: what a hut brings in, and the lowest fee that is enough. -/
import Derived.Test.YtlmicgmhallkkaaGreatDoorDk6
import Derived.Test.YtlmicgmhallkkaaGreatDoorDw2
set_option linter.constructorNameAsVariable false
set_option linter.unusedSimpArgs false
set_option linter.unusedVariables false
set_option linter.unusedSectionVars false
namespace Go.Proofs.YtlmicgmhallkkaaGreatDoor
open Go Go.Proofs Go.RowKit
set_option maxHeartbeats 1000000
def incS(u:Uni)(hut:Int)(m:Msg)(Y:List Stay):Int:=(Y.map fun s=>cond (iEq s.1 hut) (qbA u m s).1 0).sum
def incV(u:Uni)(hut:Int)(bs:List Msg):Int:=(bs.map fun m=>incS u hut m m.2.2.2.2).sum
def setF(u:Uni)(h:Int)(f:Int):Uni:=(u.1,(u.2.1,(u.2.2.1,(u.2.2.2.1.set h.toNat f,u.2.2.2.2))))
theorem qFX(u:Uni)(h f g:Int):setF (setF u h f) h g=setF u h g:=by unfold setF;simp
theorem qA3{u:Uni}(K:Okay u)(h f:Int):Okay (setF u h f):=⟨K.v,K.ms,K.cl,by unfold setF;simp only[List.length_set];exact K.fe,K.sh,K.rows,K.gu,K.ri,K.wo,K.gl,K.rl,K.wl⟩
theorem qB6{u:Uni}(B:Bnd u)(h:Int){f:Int}(hf:0≤f∧f≤100000):Bnd (setF u h f):=⟨fun x hx=>by
 rcases List.mem_or_eq_of_mem_set (show x∈u.2.2.2.1.set h.toNat f from hx) with h1 | h1
 ·exact B.fe x h1
 ·rw[h1];exact hf,B.ro,B.gk,B.wk,B.me,B.ch,B.cr⟩
theorem qB7{u:Uni}(K:Okay u)(B:Bnd u)(hut:Int){m:Msg}(hm:m∈u.2.1)(h1:m.1=1):∀Y:List Stay,(∀s,s∈Y→s∈m.2.2.2.2)→0≤incS u hut m Y∧incS u hut m Y≤1000000000000*Y.length
 | [],_=>by simp[incS]
 | s::Y,h=>by
  have:=qB7 K B hut hm h1 Y fun x hx=>h x (List.mem_cons_of_mem _ hx)
  have hs:=qw1 K B hm h1 (h s List.mem_cons_self)
  unfold incS at this ⊢
  rw[List.map_cons,List.sum_cons,List.length_cons]
  cases iEq s.1 hut<;>simp only[cond_true,cond_false]<;>omega
theorem inc1(n:Nat)(b:Bk)(K:Okay b.1)(B:Bnd b.1)(m:Msg)(hm:m∈b.1.2.1)(h1:m.1=1)(hut need:Int)(x1:List Msg)(x2 x3:Int)(hn:2000≤n):∀(Y A:List Stay) (n':Nat) (sum:Int),m.2.2.2.2=A++Y→0≤sum→sum+1000000000000*(Y.length:Int)≤1000000000000000→Y.length<n' →
  qb n' (qi2 n) (sum,(x1,(x2,(x3,(m.2.2.2.2,((m.2.2.2.2.length:Int),((A.length:Int),bkX b (hut,(need,(m,()))))))))))=some (sum+incS b.1 hut m Y,(x1,(x2,(x3,bkX b (hut,(need,())))))):=by
 have hst:=K.v.st m hm
 intro Y
 induction Y with
 | nil =>
  intro A n' sum e h0 h2 hn'
  obtain ⟨n',rfl⟩:∃j,n'=j+1:=⟨n'-1,by simp at hn';omega⟩
  rw[List.append_nil] at e
  rw[qe,qnn,e]
  simp only[bkX,qw,cond_false]
  simp[incS]
 | cons x Y ih =>
  intro A n' sum e h0 h2 hn'
  obtain ⟨n',rfl⟩:∃j,n'=j+1:=⟨n'-1,by simp at hn';omega⟩
  simp only[List.length_cons] at h2 hn'
  have hlen:m.2.2.2.2.length=A.length+(Y.length+1):=by rw[e,List.length_append,List.length_cons]
  have hlt:A.length<m.2.2.2.2.length:=by omega
  have hx:x∈m.2.2.2.2:=by rw[e];simp
  have hlat:lat m.2.2.2.2 (A.length:Int)=some x:=by rw[e];exact latA A Y x rfl
  have hin:=qyC K.v hm h1 hx
  have hbd:=qw1 K B hm h1 hx
  have hsp:=qFW n m x b K hin hn
  rw[qe,qnn]
  simp only[bkX,qu hlt,cond_true,hlat,Option.bind_some,qj (show A.length<9223372036854775807 by omega)]
  have i1:=fun s h3 h4=>ih (A++[x]) n' s (by rw[e];simp) h3 h4 (by omega)
  simp only[List.length_append,bkX] at i1
  have e1:incS b.1 hut m (x::Y)=cond (iEq x.1 hut) (qbA b.1 m x).1 0+incS b.1 hut m Y:=by unfold incS;rw[List.map_cons,List.sum_cons]
  rw[e1]
  cases he:iEq x.1 hut with
  | true =>
   simp only[bkX] at hsp
   simp only[cond_true,hsp,Option.bind_some]
   rw[show iW (iAdd sum (qbA b.1 m x).1)=sum+(qbA b.1 m x).1 from qbg (by unfold iAdd;omega) (by unfold iAdd;omega)]
   have:=i1 (sum+(qbA b.1 m x).1) (by omega) (by omega)
   rw[← Int.add_assoc]
   exact this
  | false =>
   simp only[cond_false,Int.zero_add]
   exact i1 sum h0 (by omega)
theorem inc0(n:Nat)(b:Bk)(K:Okay b.1)(B:Bnd b.1)(hb:∀m,m∈b.2→m∈b.1.2.1∧m.1=1)(hbl:b.2.length≤9)(hut need:Int)(hn:2000≤n):∀(Y A:List Msg) (n':Nat) (sum:Int),b.2=A++Y→0≤sum→sum+20000000000000*(Y.length:Int)≤900000000000000→Y.length<n' →
  qb n' (qi3 n) (sum,(b.2,((b.2.length:Int),((A.length:Int),bkX b (hut,(need,()))))))=some (sum+incV b.1 hut Y,bkX b (hut,(need,()))):=by
 intro Y
 induction Y with
 | nil =>
  intro A n' sum e h0 h2 hn'
  obtain ⟨n',rfl⟩:∃j,n'=j+1:=⟨n'-1,by simp at hn';omega⟩
  rw[List.append_nil] at e
  rw[qe,qno]
  simp only[bkX,e,qw,cond_false]
  simp[incV]
 | cons x Y ih =>
  intro A n' sum e h0 h2 hn'
  obtain ⟨n',rfl⟩:∃j,n'=j+1:=⟨n'-1,by simp at hn';omega⟩
  simp only[List.length_cons] at h2 hn'
  have hlen:b.2.length=A.length+(Y.length+1):=by rw[e,List.length_append,List.length_cons]
  have hlt:A.length<b.2.length:=by omega
  have hx:=hb x (by rw[e];simp)
  have hst:=K.v.st x hx.1
  have hlat:lat b.2 (A.length:Int)=some x:=by rw[e];exact latA A Y x rfl
  have i1:=inc1 n b K B x hx.1 hx.2 hut need b.2 (b.2.length:Int) (A.length:Int) hn x.2.2.2.2 [] n sum rfl h0 (by omega) (by omega)
  have hbd:=qB7 K B hut hx.1 hx.2 x.2.2.2.2 fun s hs=>hs
  have i1':qb n (qi2 n) (sum,(b.2,((b.2.length:Int),((A.length:Int),(x.2.2.2.2,((x.2.2.2.2.length:Int),((0:Int),bkX b (hut,(need,(x,()))))))))))=_:=i1
  simp only[bkX] at i1'
  rw[qe,qno]
  simp only[bkX,qu hlt,cond_true,hlat,Option.bind_some,i1',qj (show A.length<9223372036854775807 by omega)]
  have e1:incV b.1 hut (x::Y)=incS b.1 hut x x.2.2.2.2+incV b.1 hut Y:=by unfold incV;rw[List.map_cons,List.sum_cons]
  rw[e1,← Int.add_assoc]
  have:=ih (A++[x]) n' (sum+incS b.1 hut x x.2.2.2.2) (by rw[e];simp) (by omega) (by omega) (by omega)
  rw[List.length_append] at this
  exact this
theorem qzs(n:Nat)(b:Bk)(K:Okay b.1)(B:Bnd b.1)(hb:∀m,m∈b.2→m∈b.1.2.1∧m.1=1)(hbl:b.2.length≤9)(hut need f:Int)(hh:0≤hut∧hut<b.1.1.1.length)(hf:0≤f∧f≤100000)(hn:2000≤n) :
  qdk n (f,bkX b (hut,(need,())))=some (iGe (incV (setF b.1 hut f) hut b.2) need,bkX (setF b.1 hut f,b.2) (hut,(need,()))):=by
 obtain ⟨j,rfl⟩:=Int.eq_ofNat_of_zero_le hh.1
 have hj:j<b.1.2.2.2.1.length:=by rw[K.fe];omega
 have i0:=inc0 n (setF b.1 (j:Int) f,b.2) (qA3 K _ _) (qB6 B _ hf) hb hbl (j:Int) need hn b.2 [] n 0 rfl (Int.le_refl _) (by omega) (by omega)
 have i0':qb n (qi3 n) ((0:Int),(b.2,((b.2.length:Int),((0:Int),(b.1.1,(b.1.2.1,(b.1.2.2.1,(b.1.2.2.2.1.set j f,(b.1.2.2.2.2.1,(b.1.2.2.2.2.2.1,(b.1.2.2.2.2.2.2.1,(b.1.2.2.2.2.2.2.2.1,(b.1.2.2.2.2.2.2.2.2.1,(b.1.2.2.2.2.2.2.2.2.2.1,(b.1.2.2.2.2.2.2.2.2.2.2.1,(b.1.2.2.2.2.2.2.2.2.2.2.2,(b.2,((j:Int),(need,())))))))))))))))))))=some ((0:Int)+incV (setF b.1 (j:Int) f) (j:Int) b.2,bkX (setF b.1 (j:Int) f,b.2) ((j:Int),(need,()))):=i0
 rw[qt9]
 simp only[bkX,qA _ hj,Option.bind_some,Int.toNat_natCast,List.getElem?_eq_getElem hj,i0',Int.zero_add]
def bsr(P:Int→Bool):Nat→Int→Int→Int
 | 0,_,hi=>hi
 | m+1,lo,hi=>if lo<hi then (if P ((lo+hi)/2)=true then bsr P m lo ((lo+hi)/2) else bsr P m ((lo+hi)/2+1) hi) else hi
def okP(u:Uni)(hut need:Int)(bs:List Msg)(f:Int):Bool:=iGe (incV (setF u hut f) hut bs) need
theorem qHT{lo hi:Int}(h0:0≤lo)(h1:lo<hi)(h2:hi≤100000):iW (Int.tdiv (iW (iAdd lo hi)) 2)=(lo+hi)/2∧lo≤(lo+hi)/2∧(lo+hi)/2<hi:=by
 rw[show iW (iAdd lo hi)=lo+hi from qbg (by unfold iAdd;omega) (by unfold iAdd;omega),Int.tdiv_eq_ediv_of_nonneg (by omega)]
 refine ⟨qbg (by omega) (by omega),by omega,by omega⟩
theorem qEk(n:Nat)(u:Uni)(bs:List Msg)(K:Okay u)(B:Bnd u)(hb:∀m,m∈bs→m∈u.2.1∧m.1=1)(hbl:bs.length≤9)(hut need:Int)(hh:0≤hut∧hut<u.1.1.length)(hn:2000≤n):∀(m:Nat) (lo hi g:Int) (n':Nat),0≤lo→lo≤hi→hi≤100000→hi-lo≤m→m<n'→(0≤g∧g≤100000) →
  qb n' (qz n) (lo,(hi,(hut,(need,bkX (setF u hut g,bs) ()))))=some (bsr (okP u hut need bs) m lo hi,()):=by
 intro m
 induction m with
 | zero =>
  intro lo hi g n' h0 h1 h2 h3 hn' hg
  obtain ⟨n',rfl⟩:∃j,n'=j+1:=⟨n'-1,by omega⟩
  rw[qe,qqe]
  simp only[bkX,show iLt lo hi=false from decide_eq_false (by omega),cond_false]
  rfl
 | succ m ih =>
  intro lo hi g n' h0 h1 h2 h3 hn' hg
  obtain ⟨n',rfl⟩:∃j,n'=j+1:=⟨n'-1,by omega⟩
  rw[qe,qqe]
  by_cases hlt:lo<hi
  ·obtain ⟨e1,e2,e3⟩:=qHT h0 hlt h2
   have he:=qzs n (setF u hut g,bs) (qA3 K _ _) (qB6 B _ hg) hb hbl hut need ((lo+hi)/2) hh (by omega) hn
   rw[show (setF u hut g,bs).1=setF u hut g from rfl,qFX] at he
   simp only[bkX] at he
   simp only[bkX,show iLt lo hi=true from decide_eq_true hlt,cond_true,show qI (iNe (2:Int) (0:Int))=some () from rfl,Option.bind_some,e1,he]
   unfold bsr
   rw[if_pos hlt]
   cases hp:iGe (incV (setF u hut ((lo+hi)/2)) hut bs) need with
   | true =>
    rw[if_pos (show okP u hut need bs ((lo+hi)/2)=true from hp)]
    simp only[cond_true]
    exact ih lo ((lo+hi)/2) ((lo+hi)/2) n' h0 e2 (by omega) (by omega) (by omega) (by omega)
   | false =>
    rw[if_neg (show ¬okP u hut need bs ((lo+hi)/2)=true by rw[show okP u hut need bs ((lo+hi)/2)=false from hp];decide)]
    simp only[cond_false]
    rw[show iW (iAdd ((lo+hi)/2) 1)=(lo+hi)/2+1 from qbg (by unfold iAdd;omega) (by unfold iAdd;omega)]
    exact ih ((lo+hi)/2+1) hi ((lo+hi)/2) n' (by omega) (by omega) (by omega) (by omega) (by omega) (by omega)
  ·simp only[bkX,show iLt lo hi=false from decide_eq_false hlt,cond_false]
   unfold bsr
   rw[if_neg hlt]
end Go.Proofs.YtlmicgmhallkkaaGreatDoor
