/- Texts Dp0, Dp1, Dp2, Dp3, Dp4, Dp5 in one. -/
import Derived.Test.YtcjcacbhkoainaaGreatDoorQa
/- Plain: loops over lists. Nothing here speaks of the program. -/
set_option linter.constructorNameAsVariable false
set_option linter.unusedSimpArgs false
set_option linter.unusedVariables false
set_option linter.unusedSectionVars false
namespace Go.Proofs.YtcjcacbhkoainaaGreatDoor
open Go Go.Proofs Go.RowKit
theorem qZ{n:Int}(h:-9223372036854775808≤n)(h':n≤9223372036854775807):iW n=n:=qEc h h'
theorem qy{k:Nat}(h:k<9223372036854775807):iW (iAdd (k:Int) 1)=((k+1:Nat):Int):=by
 rw[qZ (by unfold iAdd;omega) (by unfold iAdd;omega)];unfold iAdd;omega
theorem qiO{α:Type}(l:List α)(k:Nat):lat l (k:Int)=l[k]?:=by unfold lat;simp
theorem qS{α:Type}(l:List α){k:Nat}(h:k<l.length):lat l (k:Int)=some l[k]:=by rw[qiO,List.getElem?_eq_getElem h]
theorem qvB{α:Type}(x:α)(l:List α):lat (x::l) 0=some x:=rfl
theorem qK{a b:Nat}(h:a<b):iLt (a:Int) (b:Int)=true:=by simp[iLt];exact h
theorem qQ{a:Nat}:iLt (a:Int) (a:Int)=false:=by simp[iLt]
theorem qAc{α:Type}(o:Option α):(o.bind fun y=>some y)=o:=by cases o<;>rfl
theorem qx{σ ξ:Type}(n:Nat)(step:(σ→Option ξ)→σ→Option ξ)(s:σ):qb (n+1) step s=step (qb n step) s:=rfl
def qjy{α β ξ:Type}(f:Nat→β→α→Option (β⊕ξ))(fin:β→Option ξ):List α→Nat→β→Option ξ
 | [],_,b=>fin b
 | x::l,k,b=>(f k b x).bind (Sum.elim (fun b'=>qjy f fin l (k+1) b') some)
theorem qq5{σ ξ α β:Type}{step:(σ→Option ξ)→σ→Option ξ}(l:List α)(mk:Nat→β→σ)(f:Nat→β→α→Option (β⊕ξ))(fin:β→Option ξ)
  (h:∀rec k b (hk:k<l.length),step rec (mk k b)=(f k b l[k]).bind (Sum.elim (fun b'=>rec (mk (k+1) b')) some))
  (h0:∀rec b,step rec (mk l.length b)=fin b) {n:Nat} (b:β) (hn:l.length<n):qb n step (mk 0 b)=qjy f fin l 0 b:=by
 have go:∀(m:Nat) (k:Nat) (b:β) (n:Nat),k+m=l.length→m<n→qb n step (mk k b)=qjy f fin (l.drop k) k b:=by
  intro m
  induction m with
  | zero =>
   intro k b n hk hn
   obtain ⟨n,rfl⟩:∃m,n=m+1:=⟨n-1,by omega⟩
   have:k=l.length:=by omega
   subst this
   rw[List.drop_length]
   exact h0 _ _
  | succ m ih =>
   intro k b n hk hn
   obtain ⟨n,rfl⟩:∃m,n=m+1:=⟨n-1,by omega⟩
   have hlt:k<l.length:=by omega
   rw[List.drop_eq_getElem_cons hlt]
   show step (qb n step) (mk k b)=_
   rw[h _ _ _ hlt,qjy]
   congr 1
   funext r
   cases r with
   | inl b'=>exact ih (k+1) b' n (by omega) (by omega)
   | inr r=>rfl
 have:=go l.length 0 b n (by omega) hn
 simpa using this
theorem qlI{σ ξ α:Type}{step:(σ→Option ξ)→σ→Option ξ}(l:List α)(mk:Nat→σ)(p:α→Bool)(hit:ξ)(miss:ξ)
  (h:∀rec k (hk:k<l.length),step rec (mk k)=cond (p l[k]) (some hit) (rec (mk (k+1))))
  (h0:∀rec,step rec (mk l.length)=some miss) {n:Nat} (hn:l.length<n):qb n step (mk 0)=some (cond (l.any p) hit miss):=by
 have h1:=qq5 (β:=Unit) l (fun k _=>mk k) (fun _ _ x=>some (cond (p x) (.inr hit) (.inl ()))) (fun _=>some miss) (fun rec k b hk=>by rw[h rec k hk];cases p l[k]<;>rfl) (fun rec b=>h0 rec) () hn
 rw[h1]
 have:∀(l:List α) (k:Nat),qjy (fun _ (_:Unit) x=>some (cond (p x) (.inr hit) (.inl ()))) (fun _=>some miss) l k ()=some (cond (l.any p) hit miss):=by
  intro l
  induction l with
  | nil=>intro k;rfl
  | cons x l ih =>
   intro k
   rw[qjy,List.any_cons]
   cases p x with
   | true=>rfl
   | false=>exact ih _
 exact this l 0
theorem qm7{σ ξ α:Type}{step:(σ→Option ξ)→σ→Option ξ}(l:List α)(mk:Nat→σ)(p:α→Bool)(good:ξ)(bad:ξ)
  (h:∀rec k (hk:k<l.length),step rec (mk k)=cond (p l[k]) (rec (mk (k+1))) (some bad))
  (h0:∀rec,step rec (mk l.length)=some good) {n:Nat} (hn:l.length<n):qb n step (mk 0)=some (cond (l.all p) good bad):=by
 rw[qlI l mk (fun x=>!p x) bad good (fun rec k hk=>by rw[h rec k hk];cases p l[k]<;>rfl) h0 hn]
 rw[show l.any (fun x=>!p x) = !l.all p by simp[List.all_eq_not_any_not]]
 cases l.all p<;>rfl
theorem qeb{σ ξ α:Type}{step:(σ→Option ξ)→σ→Option ξ}(l:List α)(mk:Nat→σ)(p:α→Bool)(hit:Nat→ξ)(miss:ξ)
  (h:∀rec k (hk:k<l.length),step rec (mk k)=cond (p l[k]) (some (hit k)) (rec (mk (k+1))))
  (h0:∀rec,step rec (mk l.length)=some miss) {n:Nat} (hn:l.length<n) :
  (l.any p=false∧qb n step (mk 0)=some miss)∨(∃k,∃hk:k<l.length,p l[k]=true∧(l.take k).any p=false∧qb n step (mk 0)=some (hit k)):=by
 have h1:=qq5 (β:=Unit) l (fun k _=>mk k) (fun k _ x=>some (cond (p x) (.inr (hit k)) (.inl ()))) (fun _=>some miss) (fun rec k b hk=>by rw[h rec k hk];cases p l[k]<;>rfl) (fun rec b=>h0 rec) () hn
 rw[h1]
 have:∀(l:List α) (j:Nat),(l.any p=false∧qjy (fun k (_:Unit) x=>some (cond (p x) (.inr (hit k)) (.inl ()))) (fun _=>some miss) l j ()=some miss)∨(∃k,∃hk:k<l.length,p l[k]=true∧(l.take k).any p=false∧qjy (fun k (_:Unit) x=>some (cond (p x) (.inr (hit k)) (.inl ()))) (fun _=>some miss) l j ()=some (hit (j+k))):=by
  intro l
  induction l with
  | nil=>intro j;exact .inl ⟨rfl,rfl⟩
  | cons x l ih =>
   intro j
   cases hx:p x with
   | true=>exact .inr ⟨0,by simp,by simpa using hx,rfl,by rw[qjy,hx];rfl⟩
   | false =>
    rcases ih (j+1) with ⟨h1,h2⟩ | ⟨k,hk,h1,h2,h3⟩
    ·exact .inl ⟨by rw[List.any_cons,hx,h1];rfl,by rw[qjy,hx];exact h2⟩
    ·refine .inr ⟨k+1,by simpa using hk,by simpa using h1,by rw[List.take_succ_cons,List.any_cons,hx,h2];rfl,?_⟩
     rw[qjy,hx]
     show qjy _ _ l (j+1) ()=_
     rw[h3]
     congr 2
     omega
 have:=this l 0
 simpa using this
theorem qlX{σ ξ α β:Type}{step:(σ→Option ξ)→σ→Option ξ}(l:List α)(mk:Nat→β→σ)(f:β→α→β)(b0:β)(fin:β→ξ)
  (h:∀rec k b (hk:k<l.length),b=(l.take k).foldl f b0→step rec (mk k b)=rec (mk (k+1) (f b l[k])))
  (h0:∀rec b,step rec (mk l.length b)=some (fin b)) {n:Nat} (hn:l.length<n):qb n step (mk 0 b0)=some (fin (l.foldl f b0)):=by
 have go:∀(m:Nat) (k:Nat) (n:Nat),k+m=l.length→m<n→qb n step (mk k ((l.take k).foldl f b0))=some (fin (l.foldl f b0)):=by
  intro m
  induction m with
  | zero =>
   intro k n hk hn
   obtain ⟨n,rfl⟩:∃m,n=m+1:=⟨n-1,by omega⟩
   have:k=l.length:=by omega
   subst this
   rw[List.take_length]
   exact h0 _ _
  | succ m ih =>
   intro k n hk hn
   obtain ⟨n,rfl⟩:∃m,n=m+1:=⟨n-1,by omega⟩
   have hlt:k<l.length:=by omega
   show step (qb n step) (mk k _)=_
   rw[h _ _ _ hlt rfl]
   have:=ih (k+1) n (by omega) (by omega)
   rw[List.take_succ_eq_append_getElem hlt,List.foldl_append] at this
   exact this
 have:=go l.length 0 n (by omega) hn
 simpa using this
def insL{α:Type}(lt:α→α→Bool)(x:α):List α→List α
 | []=>[x]
 | y::r=>cond (lt x y) (y::insL lt x r) (x::y::r)
def qhu{α:Type}(lt:α→α→Bool):List α→List α→List α
 | r,[]=>r
 | r,x::l=>qhu lt (insL lt x r) l
def qjz{α:Type}(lt:α→α→Bool)(l:List α):List α:=(qhu lt [] l).reverse
theorem qmL{α:Type}(lt:α→α→Bool)(x:α):∀r,(insL lt x r).length=r.length+1
 | []=>rfl
 | y::r=>by
  unfold insL
  cases lt x y with
  | true=>simp[qmL lt x r]
  | false=>simp
theorem qq6{α:Type}(lt:α→α→Bool)(x:α):∀r,(insL lt x r).Perm (x::r)
 | []=>List.Perm.refl _
 | y::r=>by
  unfold insL
  cases lt x y with
  | true=>exact ((qq6 lt x r).cons y).trans (List.Perm.swap x y r)
  | false=>exact List.Perm.refl _
theorem qu8{α:Type}(lt:α→α→Bool):∀l r,(qhu lt r l).Perm (r++l)
 | [],r=>by simp[qhu]
 | x::l,r=>by
  rw[qhu]
  refine (qu8 lt l _).trans ?_
  refine ((qq6 lt x r).append_right l).trans ?_
  simp only[List.cons_append]
  exact List.perm_middle.symm
theorem qi6{α:Type}(lt:α→α→Bool)(l:List α):(qjz lt l).Perm l:=(List.reverse_perm _).trans (by simpa using qu8 lt l [])
theorem quD{σ ξ α:Type}{step:(σ→Option ξ)→σ→Option ξ}(lt:α→α→Bool)(mk:Nat→List α→σ)(fin:List α→Option ξ)(x:α)(N:Nat)
  (h1:∀rec A y m,A.length+1≤N→step rec (mk (A.length+1) (A++y::x::m))=cond (lt x y) (rec (mk A.length (A++x::y::m))) (fin (A++y::x::m)))
  (h0:∀rec d,step rec (mk 0 d)=fin d):∀(r m:List α) (n:Nat),r.length≤N→r.length<n→qb n step (mk r.length (r.reverse++x::m))=fin ((insL lt x r).reverse++m)
 | [],m,n+1,_,_=>h0 _ _
 | y::r,m,n+1,hN,hn=>by
  have e:=h1 (qb n step) r.reverse y m (by simpa using hN)
  rw[List.length_reverse] at e
  simp only[List.length_cons,List.reverse_cons,List.append_assoc,List.cons_append,List.nil_append]
  show step (qb n step) (mk (r.length+1) (r.reverse++y::x::m))=_
  rw[e,insL]
  cases lt x y with
  | true =>
   have:=quD lt mk fin x N h1 h0 r (y::m) n (by simp at hN;omega) (by simp at hn;omega)
   simp only[cond_true,List.reverse_cons,List.append_assoc,List.cons_append,List.nil_append]
   exact this
  | false=>simp
set_option maxHeartbeats 1000000
instance decStay:DecidableEq Stay:=inferInstance
instance decStays:DecidableEq (List Stay):=inferInstance
instance decMsg:DecidableEq Msg:=@instDecidableEqProd _ _ _ (@instDecidableEqProd _ _ _ (@instDecidableEqProd _ _ _ (@instDecidableEqProd _ _ _ decStays)))
theorem qcv{a b:Int}(h:a=b):iEq a b=true:=by simp[iEq,h]
theorem qe5{a b:Int}(h:a≠b):iEq a b=false:=by simp[iEq,h]
theorem qi7{a b:Int}(h:a≠b):iNe a b=true:=by simp[iNe,h]
theorem qdY{a b:Int}(h:a=b):iNe a b=false:=by simp[iNe,h]
def wi(a lo hi:Int):Bool:=decide (lo≤a)&&decide (a≤hi)
theorem qbd{a lo hi:Int}:wi a lo hi=true↔lo≤a∧a≤hi:=by simp[wi]
theorem qm8(n:Nat)(a lo hi:Int):qP n (a,(lo,(hi,())))=some (wi a lo hi,()):=by
 rw[qqd]
 show cond (decide (a≥lo)) (some (decide (a≤hi),())) (some (false,()))=_
 unfold wi
 by_cases h:lo≤a
 ·simp[h]
 ·simp[h]
theorem qkt(n:Nat)(a lo hi:Int):qcr n (a,(lo,(hi,())))=some (wi a lo hi,()):=by
 rw[quQ]
 show cond (decide (lo≤a)) (some (decide (a≤hi),())) (some (false,()))=_
 unfold wi
 by_cases h:lo≤a
 ·simp[h]
 ·simp[h]
def hutB(h:Int×Int):Bool:=wi h.1 0 20&&wi h.2 0 20
def qdm(c:Chn):Bool:=c.1.all hutB&&(wi c.1.length 1 6&&wi c.2 1 20)
theorem qAU(n:Nat)(c:Chn)(hl:c.1.length≤100)(hn:200≤n):qjc n (c,())=some (qdm c,()):=by
 obtain ⟨hs,ni⟩:=c
 rw[qpG]
 have hl:hs.length≤100:=hl
 have h1:=qm7 (step:=qh8 n) hs (fun k=>((k:Int),((hs,ni),()))) hutB (.inl ((hs,ni),())) (.inr (false,())) (fun rec k hk=>by
  rw[qj2]
  simp only[qK hk,cond_true,qS hs hk,Option.bind_some,qm8,qy (show k<9223372036854775807 by omega)]
  unfold hutB
  cases wi hs[k].1 0 20<;>cases wi hs[k].2 0 20<;>rfl) (fun rec=>by
  rw[qj2]
  simp only[qQ,cond_false]) (n:=n) (by omega)
 show Option.bind (qb n _ (((0:Nat):Int),((hs,ni),()))) _=_
 rw[h1]
 unfold qdm
 cases hs.all hutB with
 | false=>rfl
 | true =>
  simp only[Option.bind_some,cond_true,Sum.elim_inl,qm8,Int.ofNat_eq_natCast]
  cases wi hs.length 1 6<;>rfl
def qii(nh nn:Int):Int→List Stay→Bool
 | _,[]=>true
 | last,s::l=>(wi s.1 0 (nh-1)&&(decide (last<s.2.1)&&(decide (s.2.1≤s.2.2)&&decide (s.2.2<nn))))&&qii nh nn s.2.2 l
def reqB(c:Chn)(m:Msg):Bool:=decide (m.1=1)&&(wi m.2.2.1 0 9999&&(wi m.2.2.2.1 1 20&&(wi m.2.2.2.2.length 1 6&&qii c.1.length c.2 (-1) m.2.2.2.2)))
theorem qu9(nh nn:Int):∀(l:List Stay) (k:Nat) (last:Int),qjy (ξ:=Unit⊕(Bool×Unit)) (fun _ (last:Int) (s:Stay)=>some (cond (wi s.1 0 (nh-1)&&(decide (last<s.2.1)&&(decide (s.2.1≤s.2.2)&&decide (s.2.2<nn)))) (.inl s.2.2) (.inr (.inr (false,()))))) (fun _=>some (.inl ())) l k last=some (cond (qii nh nn last l) (.inl ()) (.inr (false,())))
 | [],_,_=>rfl
 | s::l,k,last=>by
  rw[qjy,qii]
  cases wi s.1 0 (nh-1)&&(decide (last<s.2.1)&&(decide (s.2.1≤s.2.2)&&decide (s.2.2<nn))) with
  | false=>rfl
  | true=>exact qu9 nh nn l _ _
theorem qy3(n:Nat)(c:Chn)(m:Msg)(hh:c.1.length≤100)(hl:m.2.2.2.2.length≤100)(hn:200≤n):qcz n (c,(m,()))=some (reqB c m,()):=by
 rw[qj3]
 obtain ⟨hs,ni⟩:=c
 obtain ⟨kd,id,st,pe,ss⟩:=m
 simp only at hl hh
 have h1:=qq5 (step:=qhg n) ss (fun k last=>(last,((k:Int),((hs,ni),((kd,(id,(st,(pe,ss)))),()))))) (fun _ (last:Int) (s:Stay)=>some (cond (wi s.1 0 ((hs.length:Int)-1)&&(decide (last<s.2.1)&&(decide (s.2.1≤s.2.2)&&decide (s.2.2<ni)))) (.inl s.2.2) (.inr (.inr (false,()))))) (fun _=>some (.inl ())) (fun rec k last hk=>by
  rw[qjo]
  simp only[qK hk,cond_true,qS ss hk,Option.bind_some,qm8,qy (show k<9223372036854775807 by omega),qZ (n:=iSub (hs.length:Int) 1) (by unfold iSub;omega) (by unfold iSub;omega)]
  unfold iSub iLe iLt iGe
  cases wi ss[k].1 0 ((hs.length:Int)-1) with
  | false=>rfl
  | true =>
   by_cases h1:ss[k].2.1≤last
   ·have h2:¬last<ss[k].2.1:=by omega
    simp[h1,h2]
   ·have h2:last<ss[k].2.1:=by omega
    by_cases h3:ss[k].2.2<ss[k].2.1
    ·have h4:¬ss[k].2.1≤ss[k].2.2:=by omega
     simp[h1,h2,h3,h4]
    ·have h4:ss[k].2.1≤ss[k].2.2:=by omega
     by_cases h5:ss[k].2.2≥ni
     ·have h6:¬ss[k].2.2<ni:=by omega
      simp[h1,h2,h3,h4,h5,h6]
     ·have h6:ss[k].2.2<ni:=by omega
      have h5':¬ni≤ss[k].2.2:=by omega
      simp[h1,h2,h3,h4,h5',h6]) (fun rec b=>by
  rw[qjo]
  simp only[qQ,cond_false]) (n:=n) (-1) (by omega)
 rw[qu9] at h1
 unfold reqB
 simp only[qm8,Option.bind_some,Int.ofNat_eq_natCast,show (Int.negSucc 0) = -1 from rfl]
 by_cases hk:kd=1
 ·subst hk
  rw[qdY rfl]
  cases h2:wi st 0 9999 with
  | false=>simp[h2]
  | true =>
   cases h3:wi pe 1 20 with
   | false=>simp[h2,h3]
   | true =>
    cases h4:wi ss.length 1 6 with
    | false=>simp[h2,h3,h4]
    | true =>
     simp only[cond_false,cond_true,Bool.not_true,decide_true,Bool.true_and]
     show Option.bind (qb n _ (-1,(((0:Nat):Int),_))) _=_
     rw[h1]
     cases qii hs.length ni (-1) ss<;>rfl
 ·rw[qi7 hk];simp[hk]
theorem qx5(n:Nat)(c:Chn)(m:Msg)(hh:c.1.length≤100)(hn:200≤n):qcz n (c,(m,()))=some (reqB c m,()):=by
 by_cases hl:m.2.2.2.2.length≤100
 ·exact qy3 n c m hh hl hn
 ·have hw:wi (m.2.2.2.2.length:Int) 1 6=false:=by unfold wi;simp;omega
  rw[qj3]
  simp only[qm8,Option.bind_some,Int.ofNat_eq_natCast,hw]
  unfold reqB
  rw[hw]
  by_cases hk:m.1=1
  ·rw[qdY hk]
   cases wi m.2.2.1 0 9999<;>cases wi m.2.2.2.1 1 20<;>simp
  ·rw[qi7 hk];simp[hk]
def canB(m:Msg):Bool:=decide (m.1=2)&&(decide (m.2.2.1=0)&&(decide (m.2.2.2.1=0)&&decide (m.2.2.2.2.length=0)))
def mesB(c:Chn)(m:Msg):Bool:=wi m.2.1 0 99&&(canB m||reqB c m)
theorem qwq(n:Nat)(c:Chn)(l:List Msg)(hh:c.1.length≤100)(hl:l.length≤100)(hn:200≤n):qfk n (c,(l,()))=some (l.all (mesB c)&&decide (l.length≤40),()):=by
 rw[qnV]
 have h1:=qm7 (step:=qgu n) l (fun k=>(l,((k:Int),(c,())))) (mesB c) (.inl (l,())) (.inr (false,())) (fun rec k hk=>by
  rw[qiw]
  simp only[qK hk,cond_true,qS l hk,Option.bind_some,qm8,qy (show k<9223372036854775807 by omega),qx5 n c l[k] hh hn]
  unfold mesB canB
  cases wi l[k].2.1 0 99 with
  | false =>
   cases iEq l[k].1 2<;>cases iEq l[k].2.2.1 0<;>cases iEq l[k].2.2.2.1 0<;>rfl
  | true =>
   cases reqB c l[k] with
   | true =>
    simp only[Bool.or_true,Bool.true_and,Bool.not_true,cond_false,cond_true]
    cases iEq l[k].1 2<;>cases iEq l[k].2.2.1 0<;>cases iEq l[k].2.2.2.1 0<;>cases iEq ((l[k].2.2.2.2.length:Nat):Int) 0<;>rfl
   | false =>
    simp only[Bool.or_false,Bool.true_and,Bool.not_true,cond_false,Bool.not_false,cond_true]
    by_cases e1:l[k].1=2
    ·by_cases e2:l[k].2.2.1=0
     ·by_cases e3:l[k].2.2.2.1=0
      ·by_cases e4:l[k].2.2.2.2.length=0
       ·rw[qcv e1,qcv e2,qcv e3,qcv (by omega)];simp[e1,e2,e3,e4]
       ·rw[qcv e1,qcv e2,qcv e3,qe5 (by omega)];simp[e4]
      ·rw[qcv e1,qcv e2,qe5 e3];simp[e3]
     ·rw[qcv e1,qe5 e2];simp[e2]
    ·rw[qe5 e1];simp[e1]) (fun rec=>by
  rw[qiw]
  simp only[qQ,cond_false]) (n:=n) (by omega)
 show Option.bind (qb n _ (l,(((0:Nat):Int),(c,())))) _=_
 rw[h1]
 cases l.all (mesB c) with
 | false=>rfl
 | true =>
  simp only[Option.bind_some,cond_true,Sum.elim_inl,Bool.true_and]
  unfold iLe
  by_cases h:l.length≤40
  ·have:((l.length:Nat):Int)≤40:=by omega
   simp[h,this]
  ·have:¬((l.length:Nat):Int)≤40:=by omega
   simp[h,this]
theorem qw1(n:Nat)(c:Chn)(l:List Msg)(hh:c.1.length≤100)(hl:l.length≤100)(hs:∀m,m∈l→m.2.2.2.2.length≤100)(hn:200≤n):qfk n (c,(l,()))=some (l.all (mesB c)&&decide (l.length≤40),()):=qwq n c l hh hl hn
theorem qFs(a b:Stay):Ty.eqB (Ty.pr (Ty.i .i64) T150) a b=decide (a=b):=by
 obtain ⟨a1,a2,a3⟩:=a
 obtain ⟨b1,b2,b3⟩:=b
 show ((a1==b1)&&((a2==b2)&&(a3==b3)))=_
 by_cases h1:a1=b1<;>by_cases h2:a2=b2<;>by_cases h3:a3=b3<;>simp[h1,h2,h3]
theorem qDB(n:Nat)(a b:Msg)(hl:a.2.2.2.2.length≤100)(hn:200≤n):qkh n (a,(b,()))=some (decide (a=b),()):=by
 rw[qqv]
 obtain ⟨a1,a2,a3,a4,sa⟩:=a
 obtain ⟨b1,b2,b3,b4,sb⟩:=b
 simp only at hl
 by_cases e1:a1=b1
 ·by_cases e2:a2=b2
  ·by_cases e3:a3=b3
   ·by_cases e4:a4=b4
    ·subst e1 e2 e3 e4
     simp only[qdY rfl,cond_false]
     by_cases e5:sa.length=sb.length
     ·have h1:=qm7 (step:=qjd n) (sa.zip sb) (fun k=>((k:Int),((a1,(a2,(a3,(a4,sa)))),((a1,(a2,(a3,(a4,sb)))),())))) (fun p=>decide (p.1=p.2)) (.inl ()) (.inr (false,())) (fun rec k hk=>by
       rw[qk7]
       have hka:k<sa.length:=by simp at hk;omega
       have hkb:k<sb.length:=by omega
       simp only[qK hka,cond_true,qS sa hka,qS sb hkb,Option.bind_some,qy (show k<9223372036854775807 by omega),List.getElem_zip]
       rw[show Ty.eqB (Ty.pr (Ty.i .i64) T150) sa[k] sb[k]=decide (sa[k]=sb[k]) from qFs _ _]
       cases decide (sa[k]=sb[k])<;>rfl) (fun rec=>by
       rw[qk7]
       simp only[List.length_zip,e5,Nat.min_self,qQ,cond_false]) (n:=n) (by simp;omega)
      rw[qdY (by omega)]
      simp only[cond_false]
      show Option.bind (qb n _ (((0:Nat):Int),_)) _=_
      rw[h1]
      have h2:(sa.zip sb).all (fun p=>decide (p.1=p.2))=decide (sa=sb):=by
       clear h1 hl
       induction sa generalizing sb with
       | nil=>cases sb with
        | nil=>rfl
        | cons b sb=>cases e5
       | cons a sa ih=>cases sb with
        | nil=>cases e5
        | cons b sb =>
         rw[List.zip_cons_cons,List.all_cons,ih sb (by simpa using e5)]
         by_cases h:a=b<;>by_cases h':sa=sb<;>simp[h,h']
      rw[h2]
      by_cases h:sa=sb<;>simp[h]
     ·have h:sa≠sb:=fun h=>e5 (by rw[h])
      have e5':((sa.length:Nat):Int)≠sb.length:=by omega
      rw[qi7 e5'];simp[h]
    ·rw[qdY e1,qdY e2,qdY e3,qi7 e4];simp[e4]
   ·rw[qdY e1,qdY e2,qi7 e3];simp[e3]
  ·rw[qdY e1,qi7 e2];simp[e2]
 ·rw[qi7 e1];simp[e1]
def claB(x y:Msg):Bool:=decide (x.2.1=y.2.1)&&(decide (x.1=y.1) && !decide (x=y))
def qij(l:List Msg):Bool:=(List.range l.length).any fun i=>(List.range i).any fun k=>match l[i]?,l[k]? with
 | some x,some y=>claB x y
 | _,_=>false
theorem qr6{m k:Nat}(h:k<(List.range m).length):(List.range m)[k]=k:=by simp
theorem qB7(n:Nat)(l:List Msg)(i:Nat)(hi:i<l.length)(hl:l.length≤100)(hs:∀m,m∈l→m.2.2.2.2.length≤100)(hn:200≤n) :
  qb n (qgA n) (l,((i:Int),((0:Int),())))=some (cond ((List.range i).any fun k=>match l[i]?,l[k]? with
   | some x,some y=>claB x y
   | _,_=>false) (.inr (true,())) (.inl (l,((i:Int),())))):=by
 exact qlI (step:=qgA n) (List.range i) (fun k=>(l,((i:Int),((k:Int),())))) (fun k=>match l[i]?,l[k]? with
   | some x,some y=>claB x y
   | _,_=>false) (.inr (true,())) (.inl (l,((i:Int),()))) (fun rec k hk=>by
  rw[qk8]
  have hk':k<i:=by simpa using hk
  have hkl:k<l.length:=by omega
  simp only[qK hk',cond_true,qS l hi,qS l hkl,Option.bind_some,qr6,List.getElem?_eq_getElem hi,List.getElem?_eq_getElem hkl,qDB n _ _ (hs _ (List.getElem_mem hi)) hn,qy (show k<9223372036854775807 by omega)]
  unfold claB
  by_cases e1:l[i].2.1=l[k].2.1
  ·rw[qcv e1]
   by_cases e2:l[i].1=l[k].1
   ·rw[qcv e2]
    by_cases e3:l[i]=l[k]
    ·simp[e3]
    ·simp[e1,e2,e3]
   ·rw[qe5 e2];simp[e2]
  ·rw[qe5 e1];simp[e1]) (fun rec=>by
  rw[qk8]
  simp only[List.length_range,qQ,cond_false]) (n:=n) (by simp;omega)
theorem qDC(n:Nat)(l:List Msg)(hl:l.length≤100)(hs:∀m,m∈l→m.2.2.2.2.length≤100)(hn:200≤n):qki n (l,())=some (qij l,()):=by
 rw[qqw]
 have h1:=qlI (step:=qje n) (List.range l.length) (fun k=>(l,((k:Int),()))) (fun i=>(List.range i).any fun k=>match l[i]?,l[k]? with
   | some x,some y=>claB x y
   | _,_=>false) (.inr (true,())) (.inl ()) (fun rec i hi=>by
  rw[qk9]
  have hi':i<l.length:=by simpa using hi
  simp only[qK hi',cond_true,qr6]
  rw[qB7 n l i hi' hl hs hn]
  generalize ((List.range i).any _)=b
  cases b with
  | true=>rfl
  | false =>
   simp only[cond_false,Option.bind_some,Sum.elim_inl,qy (show i<9223372036854775807 by omega)]) (fun rec=>by
  rw[qk9]
  simp only[List.length_range,qQ,cond_false]) (n:=n) (by simp;omega)
 show Option.bind (qb n _ (l,(((0:Nat):Int),()))) _=_
 rw[h1]
 show Option.bind (some (cond (qij l) _ _)) _=_
 cases qij l<;>rfl
theorem qnK{l:List Msg}(h:qij l=false):∀x y,x∈l→y∈l→x.2.1=y.2.1→x.1=y.1→x=y:=by
 intro x y hx hy h1 h2
 obtain ⟨i,hi,rfl⟩:=List.mem_iff_getElem.1 hx
 obtain ⟨k,hk,rfl⟩:=List.mem_iff_getElem.1 hy
 have key:∀a b (ha:a<l.length) (hb:b<a),claB (l[a]) (l[b]'(by omega))=false:=fun a b ha hb=>by
  unfold qij at h
  rw[List.any_eq_false] at h
  have h3:=h a (List.mem_range.2 ha)
  simp only[Bool.not_eq_true] at h3
  rw[List.any_eq_false] at h3
  have h4:=h3 b (List.mem_range.2 hb)
  rw[List.getElem?_eq_getElem ha,List.getElem?_eq_getElem (by omega)] at h4
  simpa using h4
 rcases Nat.lt_trichotomy i k with h3 | h3 | h3
 ·have:=key k i hk h3
  unfold claB at this
  simp only[Bool.and_eq_false_iff,decide_eq_false_iff_not,Bool.not_eq_false',decide_eq_true_eq] at this
  rcases this with h4 | h4 | h4
  ·exact (h4 h1.symm).elim
  ·exact (h4 h2.symm).elim
  ·exact h4.symm
 ·subst h3;rfl
 ·have:=key i k hi h3
  unfold claB at this
  simp only[Bool.and_eq_false_iff,decide_eq_false_iff_not,Bool.not_eq_false',decide_eq_true_eq] at this
  rcases this with h4 | h4 | h4
  ·exact (h4 h1).elim
  ·exact (h4 h2).elim
  ·exact h4
def chkN(c:Chn)(l:List Msg):Int:=cond (qdm c) (cond (l.all (mesB c)&&decide (l.length≤40)) (cond (qij l) 22 0) 21) 20
theorem qDD(n:Nat)(c:Chn)(l:List Msg)(hh:c.1.length≤100)(hl:l.length≤100)(hs:∀m,m∈l→m.2.2.2.2.length≤100)(hn:200≤n):qhB n (c,(l,()))=some (chkN c l,()):=by
 rw[qqx]
 simp only[qAU n c hh hn,qw1 n c l hh hl hs hn,qDC n l hl hs hn,Option.bind_some]
 unfold chkN
 cases qdm c<;>cases (l.all (mesB c)&&decide (l.length≤40))<;>cases qij l<;>rfl
theorem qAd{c:Chn}{l:List Msg}(h:chkN c l=0):qdm c=true∧(∀m,m∈l→mesB c m=true)∧l.length≤40∧qij l=false:=by
 unfold chkN at h
 cases h1:qdm c<;>cases h2:(l.all (mesB c)&&decide (l.length≤40))<;>cases h3:qij l<;>rw[h1,h2,h3] at h<;>first | (cases h;done) | skip
 rw[Bool.and_eq_true,List.all_eq_true,decide_eq_true_eq] at h2
 exact ⟨rfl,h2.1,h2.2,rfl⟩
def farB(c:Chn)(l:List Msg):Bool:=l.any (fun m=>decide (20<m.2.2.2.2.length))||(decide (20<c.1.length)||((decide (9<l.length)&&decide (l.length≤40))||decide (60<l.length)))
theorem qFt(n:Nat)(c:Chn)(l:List Msg)(hl:l.length≤9223372036854775807)(hn:l.length<n):qlA n (c,(l,()))=some (farB c l,()):=by
 rw[qr2]
 have h1:=qlI (step:=qkl n) l (fun k=>(l,((k:Int),(c,())))) (fun m=>decide (20<m.2.2.2.2.length)) (.inr (true,())) (.inl (l,(c,()))) (fun rec k hk=>by
  rw[ql6]
  simp only[qK hk,cond_true,qS l hk,Option.bind_some,qy (show k<9223372036854775807 by omega)]
  rw[show iGt ((l[k].2.2.2.2.length:Nat):Int) 20=decide (20<l[k].2.2.2.2.length) by unfold iGt;congr 1;simp;omega]) (fun rec=>by
  rw[ql6]
  simp only[qQ,cond_false]) (n:=n) hn
 show Option.bind (qb n _ (l,(((0:Nat):Int),(c,())))) _=_
 rw[h1]
 unfold farB
 cases l.any (fun m=>decide (20<m.2.2.2.2.length)) with
 | true=>rfl
 | false =>
  simp only[Option.bind_some,cond_false,Sum.elim_inl,Bool.false_or]
  rw[show iGt ((c.1.length:Nat):Int) 20=decide (20<c.1.length) by unfold iGt;congr 1;simp;omega,show iGt ((l.length:Nat):Int) 9=decide (9<l.length) by unfold iGt;congr 1;simp;omega,show iLe ((l.length:Nat):Int) 40=decide (l.length≤40) by unfold iLe;congr 1;simp;omega,show iGt ((l.length:Nat):Int) 60=decide (60<l.length) by unfold iGt;congr 1;simp;omega]
  cases decide (20<c.1.length)<;>cases decide (9<l.length)<;>cases decide (l.length≤40)<;>rfl
theorem qAV{c:Chn}{l:List Msg}(h:farB c l=false):(∀m,m∈l→m.2.2.2.2.length≤20)∧c.1.length≤20:=by
 unfold farB at h
 simp only[Bool.or_eq_false_iff,List.any_eq_false,decide_eq_true_eq,decide_eq_false_iff_not] at h
 exact ⟨fun m hm=>by have:=h.1 m hm;omega,by omega⟩
structure Vld (c:Chn) (l:List Msg):Prop where
 ch:qdm c=true
 ms:∀m,m∈l→mesB c m=true
 ln:l.length≤40
 cl:qij l=false
 st:∀m,m∈l→m.2.2.2.2.length≤20
 hu:c.1.length≤20
theorem qB8(n:Nat)(c:Chn)(x:Int)(hh:c.1.length≤9223372036854775807):qkj n ((c,()),(x,()))=some (wi x 0 (c.1.length-1),()):=by
 rw[qtj]
 simp only[qkt,qZ (n:=iSub (c.1.length:Int) 1) (by unfold iSub;omega) (by unfold iSub;omega),qAc]
theorem qy4(n:Nat)(c:Chn)(x:Int)(h1:-1000≤c.2)(h2:c.2≤1000):qi1 n ((c,()),(x,()))=some (wi x 0 (c.2-1),()):=by
 rw[qr0]
 simp only[qkt,qZ (n:=iSub c.2 1) (by unfold iSub;omega) (by unfold iSub;omega),qAc]
theorem qDE(n:Nat)(c:Chn)(ss:List Stay)(hh:c.1.length≤100)(h1:-1000≤c.2)(h2:c.2≤1000)(hl:ss.length≤1000):∀(m k:Nat) (last:Int) (n':Nat),k+m=ss.length→m<n'→-1≤last→last≤1000 →
  qb n' (qkk n) (last,(ss,((ss.length:Int),((k:Int),((c,()),())))))=some (cond (qii c.1.length c.2 last (ss.drop k)) (.inl ()) (.inr (false,()))):=by
 intro m
 induction m with
 | zero =>
  intro k last n' hk hn hb hb2
  obtain ⟨n',rfl⟩:∃m,n'=m+1:=⟨n'-1,by omega⟩
  have:k=ss.length:=by omega
  subst this
  rw[qx,ql4,List.drop_length]
  simp only[qQ,cond_false]
  rfl
 | succ m ih =>
  intro k last n' hk hn hb hb2
  obtain ⟨n',rfl⟩:∃m,n'=m+1:=⟨n'-1,by omega⟩
  have hlt:k<ss.length:=by omega
  rw[qx,ql4,List.drop_eq_getElem_cons hlt,qii]
  simp only[qK hlt,cond_true,qS ss hlt,Option.bind_some,qB8 n c _ (by omega),qkt,qy4 n c _ h1 h2,qy (show k<9223372036854775807 by omega),qZ (n:=iAdd last 1) (by unfold iAdd;omega) (by unfold iAdd;omega)]
  cases hw:wi ss[k].1 0 ((c.1.length:Int)-1) with
  | false=>simp
  | true =>
   simp only[Bool.not_true,cond_false,Bool.true_and]
   by_cases h3:wi ss[k].2.1 (iAdd last 1) ss[k].2.2=true
   ·have h3':=qbd.1 h3
    unfold iAdd at h3'
    rw[h3]
    simp only[Bool.not_true,cond_false]
    by_cases h4:wi ss[k].2.2 0 (c.2-1)=true
    ·have h4':=qbd.1 h4
     rw[h4]
     simp only[Bool.not_true,cond_false]
     rw[show (decide (last<ss[k].2.1))=true from decide_eq_true (by omega),show (decide (ss[k].2.1≤ss[k].2.2))=true from decide_eq_true (by omega),show (decide (ss[k].2.2<c.2))=true from decide_eq_true (by omega)]
     simp only[Bool.true_and]
     exact ih (k+1) ss[k].2.2 n' (by omega) (by omega) (by omega) (by omega)
    ·have h4':¬ss[k].2.2<c.2:=fun h=>h4 (qbd.2 ⟨by omega,by omega⟩)
     rw[show wi ss[k].2.2 0 (c.2-1)=false by simpa using h4]
     simp[h4']
   ·have h3':¬(last<ss[k].2.1∧ss[k].2.1≤ss[k].2.2):=fun h=>h3 (qbd.2 ⟨by unfold iAdd;omega,h.2⟩)
    rw[show wi ss[k].2.1 (iAdd last 1) ss[k].2.2=false by simpa using h3]
    simp only[Bool.not_false,cond_true]
    by_cases h5:last<ss[k].2.1
    ·have h6:¬ss[k].2.1≤ss[k].2.2:=fun h=>h3' ⟨h5,h⟩
     simp[h6]
    ·simp[h5]
theorem qDF(n:Nat)(c:Chn)(ss:List Stay)(hh:c.1.length≤100)(h1:-1000≤c.2)(h2:c.2≤1000)(hl:ss.length≤1000)(hn:2000≤n):qly n ((c,()),(ss,()))=some (qii c.1.length c.2 (-1) ss,()):=by
 rw[qr1]
 have h3:=qDE n c ss hh h1 h2 hl ss.length 0 (-1) n (by omega) (by omega) (by omega) (by omega)
 show Option.bind (qb n _ (-1,(ss,((ss.length:Int),(((0:Nat):Int),((c,()),())))))) _=_
 rw[h3,List.drop_zero]
 cases qii c.1.length c.2 (-1) ss<;>rfl
theorem qAW(n:Nat)(c:Chn)(m:Msg)(hh:c.1.length≤100)(h1:-1000≤c.2)(h2:c.2≤1000)(hl:m.2.2.2.2.length≤1000)(hn:2000≤n):qhC n ((c,()),(m,()))=some (mesB c m,()):=by
 rw[ql5]
 simp only[qkt,Option.bind_some,qDF n c _ hh h1 h2 hl hn,Int.ofNat_eq_natCast]
 unfold mesB canB reqB
 cases wi m.2.1 0 99 with
 | false=>rfl
 | true =>
  simp only[Bool.not_true,cond_false,Bool.true_and]
  by_cases e1:m.1=2
  ·rw[qcv e1]
   have e1':¬m.1=1:=by omega
   by_cases e2:m.2.2.1=0
   ·rw[qcv e2]
    by_cases e3:m.2.2.2.1=0
    ·rw[qcv e3]
     by_cases e4:m.2.2.2.2.length=0
     ·rw[qcv (by omega)];simp[e1,e2,e3,e4]
     ·rw[qe5 (by omega)];simp[e1',e4]
    ·rw[qe5 e3];simp[e1',e3]
   ·rw[qe5 e2];simp[e1',e2]
  ·rw[qe5 e1]
   by_cases e2:m.1=1
   ·rw[qcv e2]
    simp only[cond_false,cond_true,e1,decide_false,Bool.false_and,Bool.false_or,e2,decide_true,Bool.true_and]
    cases wi m.2.2.1 0 9999<;>cases wi m.2.2.2.1 1 20<;>cases wi (m.2.2.2.2.length:Int) 1 6<;>rfl
   ·rw[qe5 e2];simp[e1,e2]
theorem qzG(n:Nat)(c:Chn)(m:Msg)(hh:c.1.length≤100)(h1:-1000≤c.2)(h2:c.2≤1000)(hn:2000≤n):qhC n ((c,()),(m,()))=some (mesB c m,()):=by
 by_cases hl:m.2.2.2.2.length≤1000
 ·exact qAW n c m hh h1 h2 hl hn
 ·have hw:wi (m.2.2.2.2.length:Int) 1 6=false:=by unfold wi;simp;omega
  rw[ql5]
  simp only[qkt,Option.bind_some,Int.ofNat_eq_natCast,hw]
  unfold mesB canB reqB
  rw[hw,qe5 (show (m.2.2.2.2.length:Int)≠0 by omega),decide_eq_false (show ¬m.2.2.2.2.length=0 by omega)]
  simp only[Bool.and_false,Bool.false_and,Bool.or_false]
  cases wi m.2.1 0 99<;>cases iEq m.1 2<;>cases iEq m.2.2.1 0<;>cases iEq m.2.2.2.1 0<;>cases iEq m.1 1<;>cases wi m.2.2.1 0 9999<;>cases wi m.2.2.2.1 1 20<;>rfl
theorem qFu(n:Nat)(h:Int×Int):qmb n (h,())=some (!hutB h,()):=by
 rw[qsQ]
 simp only[qkt,Option.bind_some]
 unfold hutB
 cases wi h.1 0 20<;>cases wi h.2 0 20<;>rfl
theorem qx6(n:Nat)(hs:List (Int×Int))(hl:hs.length≤1000)(hn:2000≤n):qcU n (hs,(((),()),()))=some (hs.any fun h=>!hutB h,()):=by
 rw[qis,qjf]
 have h1:=qeb (step:=qc3 n) hs (fun k=>(hs,(((),()),((hs.length:Int),((k:Int),()))))) (fun h=>!hutB h) (fun k=>.inr ((k:Int),())) (.inl ()) (fun rec k hk=>by
  rw[qeN]
  simp only[qK hk,cond_true,qS hs hk,Option.bind_some,qFu,qy (show k<9223372036854775807 by omega)]) (fun rec=>by
  rw[qeN]
  simp only[qQ,cond_false]) (n:=n) (by omega)
 show Option.bind (Option.bind (qb n _ (hs,(((),()),((hs.length:Int),(((0:Nat):Int),()))))) _) _=_
 rcases h1 with ⟨h1,h2⟩ | ⟨k,hk,h1,_,h2⟩
 ·rw[h2,h1];rfl
 ·rw[h2,show (hs.any fun h=>!hutB h)=true from List.any_eq_true.2 ⟨_,List.getElem_mem hk,h1⟩]
  show some (iGe (k:Int) 0,())=_
  simp[iGe]
theorem qEs(n:Nat)(c:Chn)(hl:c.1.length≤1000)(hn:2000≤n):qnF n ((c,()),())=some (qdm c,()):=by
 rw[qt9]
 simp only[qkt,Option.bind_some,qx6 n c.1 hl hn,Int.ofNat_eq_natCast]
 unfold qdm
 rw[show c.1.all hutB = !(c.1.any fun h=>!hutB h) by simp[List.all_eq_not_any_not]]
 cases wi (c.1.length:Int) 1 6<;>cases wi c.2 1 20<;>cases (c.1.any fun h=>!hutB h)<;>rfl
theorem qwr(n:Nat)(c:Chn)(l:List Msg)(hh:c.1.length≤100)(h1:-1000≤c.2)(h2:c.2≤1000)(hl:l.length≤1000)(hn:2000≤n) :
  ∃u,q6 n (l,((c,()),()))=some (l.any fun m=>!mesB c m,u):=by
 rw[qga,qgB]
 have h3:=qeb (step:=qbV n) l (fun k=>(l,((l.length:Int),((k:Int),((c,()),()))))) (fun m=>!mesB c m) (fun k=>.inr ((k:Int),((c,()),()))) (.inl ((c,()),())) (fun rec k hk=>by
  rw[qc5]
  simp only[qK hk,cond_true,qS l hk,Option.bind_some,qoX,qzG n c l[k] hh h1 h2 hn,qy (show k<9223372036854775807 by omega)]) (fun rec=>by
  rw[qc5]
  simp only[qQ,cond_false]) (n:=n) (by omega)
 show ∃u,Option.bind (Option.bind (qb n _ (l,((l.length:Int),(((0:Nat):Int),((c,()),()))))) _) _=_
 rcases h3 with ⟨h4,h5⟩ | ⟨k,hk,h4,_,h5⟩
 ·rw[h5,h4];exact ⟨_,rfl⟩
 ·rw[h5,show (l.any fun m=>!mesB c m)=true from List.any_eq_true.2 ⟨_,List.getElem_mem hk,h4⟩]
  refine ⟨((c,()),()),?_⟩
  show some (iGe (k:Int) 0,((c,()),()))=_
  simp[iGe]
theorem qr7(n:Nat)(c:Chn)(l:List Msg)(hh:c.1.length≤100)(h1:-1000≤c.2)(h2:c.2≤1000)(hl:l.length≤1000)(hs:∀m,m∈l→m.2.2.2.2.length≤1000)(hn:2000≤n) :
  ∃u,q6 n (l,((c,()),()))=some (l.any fun m=>!mesB c m,u):=qwr n c l hh h1 h2 hl hn
def cmpI(x y:Int):Int:=if x<y then -1 else if x>y then 1 else 0
theorem qxM{x y:Int}:cmpI x y=0↔x=y:=by
 unfold cmpI
 split
 ·constructor
  ·intro h;omega
  ·intro h;omega
 ·split
  ·constructor
   ·intro h;omega
   ·intro h;omega
  ·constructor
   ·intro _;omega
   ·intro _;rfl
theorem qy5(n:Nat)(x:Int):qg7 n (x,())=some (false,()):=by rw[qt7];simp only[qdY rfl]
theorem qw2(n:Nat)(x y:Int):qcb n (x,(y,()))=some (cmpI x y,()):=by
 rw[qsO]
 simp only[qy5,Option.bind_some,cond_false]
 unfold cmpI
 show cond (decide (x<y)) _ (cond (decide (x>y)) _ _)=_
 by_cases h:x<y
 ·simp[h]
 ·by_cases h2:x>y
  ·simp[h,h2]
  ·simp[h,h2]
theorem qER(n:Nat)(x y:Int):qos n (x,(y,()))=some (decide (x<y),()):=by
 rw[quP]
 simp only[qy5,Option.bind_some,cond_false]
def orI:List Int→Int
 | []=>0
 | x::l=>if x=0 then orI l else x
theorem qvC:∀{l:List Int},orI l=0↔∀x,x∈l→x=0
 | []=>by simp[orI]
 | x::l=>by
  unfold orI
  split
  ·rename_i h
   rw[qvC]
   simp[h]
  ·rename_i h
   simp[h]
theorem qy6:∀(l:List Int) (k:Nat),qjy (ξ:=(Int×Unit)⊕(Int×Unit)) (fun _ (_:Unit) (x:Int)=>some (cond (iNe x 0) (.inr (.inr (x,()))) (.inl ()))) (fun _=>some (.inl (0,()))) l k ()=if orI l=0 then some (.inl (0,())) else some (.inr (orI l,()))
 | [],_=>rfl
 | x::l,k=>by
  rw[qjy,orI]
  by_cases h:x=0
  ·rw[qdY h,if_pos h]
   exact qy6 l _
  ·rw[qi7 h,if_neg h,if_neg h]
   rfl
theorem qAX(n:Nat)(l:List Int)(hl:l.length≤1000)(hn:2000≤n):qlz n (l,())=some (orI l,()):=by
 rw[qwn]
 have h1:=qq5 (step:=qot n) l (fun k (_:Unit)=>((0:Int),(l,((l.length:Int),((k:Int),()))))) (fun _ _ x=>some (cond (iNe x 0) (.inr (.inr (x,()))) (.inl ()))) (fun _=>some (.inl (0,()))) (fun rec k _ hk=>by
  rw[qpn]
  simp only[qK hk,cond_true,qS l hk,Option.bind_some,qy (show k<9223372036854775807 by omega)]
  cases iNe l[k] 0<;>rfl) (fun rec _=>by
  rw[qpn]
  simp only[qQ,cond_false]) (n:=n) () (by omega)
 show Option.bind (qb n _ ((0:Int),(l,((l.length:Int),(((0:Nat):Int),()))))) _=_
 rw[h1,qy6]
 by_cases h:orI l=0
 ·simp[h]
 ·simp[h]
def cmpS(x y:Stay):Int:=orI [cmpI x.1 y.1,cmpI x.2.1 y.2.1,cmpI x.2.2 y.2.2]
theorem qES(n:Nat)(x y:Stay)(hn:2000≤n):qmG n (x,(y,()))=some (cmpS x y,()):=by
 rw[qtk]
 simp only[qw2,Option.bind_some,qAX n [cmpI x.1 y.1,cmpI x.2.1 y.2.1,cmpI x.2.2 y.2.2] (by simp) hn]
 rfl
theorem qxN{x y:Stay}:cmpS x y=0↔x=y:=by
 unfold cmpS
 rw[qvC]
 simp only[List.mem_cons,List.not_mem_nil,or_false,forall_eq_or_imp,forall_eq,qxM]
 obtain ⟨a,b,c⟩:=x
 obtain ⟨d,e,f⟩:=y
 simp
def cmpL:List Stay→List Stay→Int
 | [],[]=>0
 | [],_::_=>-1
 | _::_,[]=>1
 | x::a,y::b=>if cmpS x y=0 then cmpL a b else cmpS x y
theorem qxO:∀{a b:List Stay},cmpL a b=0↔a=b
 | [],[]=>by simp[cmpL]
 | [],_::_=>by simp[cmpL]
 | _::_,[]=>by simp[cmpL]
 | x::a,y::b=>by
  unfold cmpL
  split
  ·rename_i h
   rw[qxO,qxN.1 h]
   simp
  ·rename_i h
   have:x≠y:=fun e=>h (qxN.2 e)
   simp[h,this]
theorem qET(n:Nat)(a b:List Stay)(ha:a.length≤1000)(hn:2000≤n):∀(m k:Nat) (n':Nat),k+m=a.length→k≤b.length→m<n' →
  (Option.bind (qb n' (qcN n) (a,(b,(((),()),(a,((a.length:Int),((k:Int),()))))))) fun y=>(Sum.elim (fun a=>(cond (iLt (((List.length a.1):Nat):Int) (((List.length a.2.1):Nat):Int)) (some ((Int.negSucc (0:Nat)),())) (some ((0:Int),())))) (fun b=>(some b)) y))=some (cmpL (a.drop k) (b.drop k),()):=by
 intro m
 induction m with
 | zero =>
  intro k n' hk hb hn'
  obtain ⟨n',rfl⟩:∃m,n'=m+1:=⟨n'-1,by omega⟩
  have:k=a.length:=by omega
  subst this
  rw[qx,qeB,List.drop_length]
  simp only[qQ,cond_false,Option.bind_some,Sum.elim_inl]
  rcases Nat.lt_or_ge a.length b.length with h | h
  ·rw[qK h,List.drop_eq_getElem_cons h]
   rfl
  ·rw[show iLt (a.length:Int) (b.length:Int)=false by simp[iLt];omega,List.drop_eq_nil_of_le h]
   rfl
 | succ m ih =>
  intro k n' hk hb hn'
  obtain ⟨n',rfl⟩:∃m,n'=m+1:=⟨n'-1,by omega⟩
  have hlt:k<a.length:=by omega
  rw[qx,qeB,List.drop_eq_getElem_cons hlt]
  simp only[qK hlt,cond_true,qS a hlt,Option.bind_some]
  rcases Nat.lt_or_ge k b.length with h | h
  ·rw[show iGe (k:Int) (b.length:Int)=false by simp[iGe];omega,List.drop_eq_getElem_cons h,cmpL]
   simp only[cond_false,qS b h,Option.bind_some,qES n _ _ hn,qy (show k<9223372036854775807 by omega)]
   by_cases h0:cmpS a[k] b[k]=0
   ·rw[qdY h0,if_pos h0]
    exact ih (k+1) n' (by omega) (by omega) (by omega)
   ·rw[qi7 h0,if_neg h0]
    rfl
  ·rw[show iGe (k:Int) (b.length:Int)=true by simp[iGe];omega,List.drop_eq_nil_of_le h]
   rfl
theorem qEU(n:Nat)(a b:List Stay)(ha:a.length≤1000)(hn:2000≤n):qc2 n (a,(b,(((),()),())))=some (cmpL a b,()):=by
 rw[qiF]
 have:=qET n a b ha hn a.length 0 n (by omega) (by omega) (by omega)
 rw[List.drop_zero,List.drop_zero] at this
 exact this
def cmpM(x y:Msg):Int:=orI [cmpI x.2.1 y.2.1,cmpI x.1 y.1,cmpI x.2.2.1 y.2.2.1,cmpI x.2.2.2.1 y.2.2.2.1,cmpL x.2.2.2.2 y.2.2.2.2]
theorem qAe(n:Nat)(x y:Msg)(hx:x.2.2.2.2.length≤1000)(hn:2000≤n):qlU n (x,(y,()))=some (cmpM x y,()):=by
 rw[quS]
 simp only[qw2,Option.bind_some,qEU n _ _ hx hn,qAX n [cmpI x.2.1 y.2.1,cmpI x.1 y.1,cmpI x.2.2.1 y.2.2.1,cmpI x.2.2.2.1 y.2.2.2.1,cmpL x.2.2.2.2 y.2.2.2.2] (by simp) hn]
 rfl
theorem qxP{x y:Msg}:cmpM x y=0↔x=y:=by
 unfold cmpM
 rw[qvC]
 simp only[List.mem_cons,List.not_mem_nil,or_false,forall_eq_or_imp,forall_eq,qxM,qxO]
 obtain ⟨a,b,c,d,e⟩:=x
 obtain ⟨a',b',c',d',e'⟩:=y
 simp only[Prod.mk.injEq]
 constructor
 ·rintro ⟨h1,h2,h3⟩;exact ⟨h2,h1,h3⟩
 ·rintro ⟨h1,h2,h3⟩;exact ⟨h2,h1,h3⟩
def cmpQ(x y:Msg):Int:=orI [cmpI x.2.2.1 y.2.2.1,cmpI x.2.1 y.2.1]
theorem qEV(n:Nat)(x y:Msg)(hn:2000≤n):qou n (x,(y,()))=some (cmpQ x y,()):=by
 rw[quR]
 simp only[qw2,Option.bind_some,qAX n [cmpI x.2.2.1 y.2.2.1,cmpI x.2.1 y.2.1] (by simp) hn]
 rfl
theorem app0{α:Type}(A:List α)(y x:α)(m:List α):(A++y::x::m)[A.length]?=some y:=by simp
theorem app1{α:Type}(A:List α)(y x:α)(m:List α):(A++y::x::m)[A.length+1]?=some x:=by simp
theorem set1{α:Type}(A:List α)(y x z:α)(m:List α):(A++y::x::m).set (A.length+1) z=A++y::z::m:=by simp
theorem set0{α:Type}(A:List α)(y x z:α)(m:List α):(A++y::x::m).set A.length z=A++z::x::m:=by simp
theorem qoy{k:Nat}(h:k<9223372036854775807):iW (iSub ((k+1:Nat):Int) 1)=(k:Int):=by
 rw[qZ (by unfold iSub;omega) (by unfold iSub;omega)];unfold iSub;omega
theorem qvD(n:Nat):∀k:Nat,k≤12→∃r,q7 n ((IntKind.wrap .u64 (k:Int)),())=some r:=by
 intro k hk
 match k,hk with
 | 0,_=>exact ⟨_,(by kernel_rfl:q7 n ((IntKind.wrap .u64 ((0:Nat):Int)),())=some (0,()))⟩
 | 1,_=>exact ⟨_,(by kernel_rfl:q7 n ((IntKind.wrap .u64 ((1:Nat):Int)),())=some (1,()))⟩
 | 2,_=>exact ⟨_,(by kernel_rfl:q7 n ((IntKind.wrap .u64 ((2:Nat):Int)),())=some (2,()))⟩
 | 3,_=>exact ⟨_,(by kernel_rfl:q7 n ((IntKind.wrap .u64 ((3:Nat):Int)),())=some (2,()))⟩
 | 4,_=>exact ⟨_,(by kernel_rfl:q7 n ((IntKind.wrap .u64 ((4:Nat):Int)),())=some (3,()))⟩
 | 5,_=>exact ⟨_,(by kernel_rfl:q7 n ((IntKind.wrap .u64 ((5:Nat):Int)),())=some (3,()))⟩
 | 6,_=>exact ⟨_,(by kernel_rfl:q7 n ((IntKind.wrap .u64 ((6:Nat):Int)),())=some (3,()))⟩
 | 7,_=>exact ⟨_,(by kernel_rfl:q7 n ((IntKind.wrap .u64 ((7:Nat):Int)),())=some (3,()))⟩
 | 8,_=>exact ⟨_,(by kernel_rfl:q7 n ((IntKind.wrap .u64 ((8:Nat):Int)),())=some (4,()))⟩
 | 9,_=>exact ⟨_,(by kernel_rfl:q7 n ((IntKind.wrap .u64 ((9:Nat):Int)),())=some (4,()))⟩
 | 10,_=>exact ⟨_,(by kernel_rfl:q7 n ((IntKind.wrap .u64 ((10:Nat):Int)),())=some (4,()))⟩
 | 11,_=>exact ⟨_,(by kernel_rfl:q7 n ((IntKind.wrap .u64 ((11:Nat):Int)),())=some (4,()))⟩
 | 12,_=>exact ⟨_,(by kernel_rfl:q7 n ((IntKind.wrap .u64 ((12:Nat):Int)),())=some (4,()))⟩
theorem qqn{k:Nat}:iGt ((k+1:Nat):Int) 0=true:=by unfold iGt;exact decide_eq_true (by omega)
theorem qku{k:Nat}:Int.toNat (k:Int)=k:=by simp
theorem w12{k:Nat}(h:k≤12):iLe (iW (iSub (k:Int) 0)) 12=true:=by
 rw[qZ (by unfold iSub;omega) (by unfold iSub;omega)];unfold iLe iSub;exact decide_eq_true (by omega)
theorem qF8(n N i:Nat)(x:Msg)(hx:x.2.2.2.2.length≤1000)(hN:N≤1000)(hn:2000≤n)(r m:List Msg)(hr:r.length≤N):qb n (qY n) ((0:Int),((N:Int),(((),()),((i:Int),((r.length:Int),((r.reverse++x::m),()))))))=some ((0:Int),((N:Int),(((),()),((i:Int),(((insL (fun x y=>decide (cmpM x y<0)) x r).reverse++m),()))))):=by
 exact quD (step:=qY n) (fun x y=>decide (cmpM x y<0)) (fun j d=>((0:Int),((N:Int),(((),()),((i:Int),((j:Int),(d,()))))))) (fun d=>some ((0:Int),((N:Int),(((),()),((i:Int),(d,())))))) x N (fun rec A y m hA=>by
  rw[qcT]
  have hj:A.length<9223372036854775807:=by omega
  simp only[qqn,cond_true,qiO,app0,app1,Option.bind_some,qoy hj,qku,qAe n _ _ hx hn,set1,set0]) (fun rec d=>by
  rw[qcT]
  rfl) r m n hr (by omega)
theorem qFv(n:Nat)(l:List Msg)(hs:∀x,x∈l→x.2.2.2.2.length≤1000)(hl:l.length≤1000)(hn:2000≤n):qbU n ((0:Int),((l.length:Int),(((),()),(l,()))))=some (qjz (fun x y=>decide (cmpM x y<0)) l,()):=by
 rw[qgk]
 cases l with
 | nil =>
  obtain ⟨n',rfl⟩:∃m,n=m+1:=⟨n-1,by omega⟩
  rw[qx,qbv]
  rfl
 | cons a l =>
  obtain ⟨N,hN⟩:∃N,N=(a::l).length:=⟨_,rfl⟩
  have hl':l.length+1=N:=by rw[hN];rfl
  have h1:∀rec (r:List Msg) x m,(x∈a::l)→r.length+1+m.length=N→qw n rec ((0:Int),((N:Int),(((),()),((r.length:Int),((r.reverse++x::m),())))))=rec ((0:Int),((N:Int),(((),()),(((r.length+1:Nat):Int),(((insL (fun x y=>decide (cmpM x y<0)) x r).reverse++m),()))))):=fun rec r x m hx hm=>by
   rw[qbv]
   simp only[qK (show r.length<N by omega),cond_true,qF8 n N r.length x (hs x hx) (by omega) hn r m (by omega),Option.bind_some,qy (show r.length<9223372036854775807 by omega)]
  have h0:∀rec (d:List Msg),qw n rec ((0:Int),((N:Int),(((),()),((N:Int),(d,())))))=some (d,()):=fun rec d=>by
   rw[qbv]
   simp only[qQ,cond_false]
  have go:∀(l2 r:List Msg) (n':Nat),(∀x,x∈l2→x∈a::l)→r.length+l2.length=N→l2.length<n'→qb n' (qw n) ((0:Int),((N:Int),(((),()),((r.length:Int),((r.reverse++l2),())))))=some ((qhu (fun x y=>decide (cmpM x y<0)) r l2).reverse,()):=by
   intro l2
   induction l2 with
   | nil =>
    intro r n' _ hr hn'
    obtain ⟨n',rfl⟩:∃m,n'=m+1:=⟨n'-1,by omega⟩
    have hr':r.length=N:=by simpa using hr
    rw[qx,List.append_nil,hr',h0]
    rfl
   | cons x l2 ih =>
    intro r n' hm hr hn'
    obtain ⟨n',rfl⟩:∃m,n'=m+1:=⟨n'-1,by omega⟩
    simp only[List.length_cons] at hr hn'
    rw[qx,h1 _ r x l2 (hm x (by simp)) (by omega),qhu]
    have:=ih (insL (fun x y=>decide (cmpM x y<0)) x r) n' (fun z hz=>hm z (by simp[hz])) (by rw[qmL];omega) (by omega)
    rw[qmL] at this
    exact this
  have h3:=go l [a] n (fun z hz=>by simp[hz]) (by simp;omega) (by omega)
  rw[← hN]
  have e1:iW (iAdd (0:Int) 1)=((1:Nat):Int):=qy (k:=0) (by omega)
  simp only[e1]
  have e2:(qhu (fun x y=>decide (cmpM x y<0)) [a] l).reverse=qjz (fun x y=>decide (cmpM x y<0)) (a::l):=rfl
  rw[e2] at h3
  show Option.bind (qb n (qw n) ((0:Int),((N:Int),(((),()),(((([a]:List Msg).length:Nat):Int),((([a]:List Msg).reverse++l),())))))) _=_
  rw[h3]
  rfl
theorem qEW(n:Nat)(l:List Msg)(hs:∀x,x∈l→x.2.2.2.2.length≤1000)(hl:l.length≤12)(hn:2000≤n):qdj n (((),()),(l,()))=some (qjz (fun x y=>decide (cmpM x y<0)) l,()):=by
 rw[qi3,qlE]
 obtain ⟨rr,hrr⟩:=qvD n l.length hl
 simp only[hrr,Option.bind_some]
 rw[qhr]
 obtain ⟨n',rfl⟩:∃m,n=m+1:=⟨n-1,by omega⟩
 rw[qgW,qhh,qx,qgV]
 simp only[w12 hl,cond_true,qFv (n'+1) l hs (by omega) hn,Option.bind_some]
theorem qF9(n N i:Nat)(x:Msg)(hN:N≤1000)(hn:2000≤n)(r m:List Msg)(hr:r.length≤N):qb n (qX n) ((0:Int),((N:Int),(((),()),((i:Int),((r.length:Int),((r.reverse++x::m),()))))))=some ((0:Int),((N:Int),(((),()),((i:Int),(((insL (fun x y=>decide (cmpQ x y<0)) x r).reverse++m),()))))):=by
 exact quD (step:=qX n) (fun x y=>decide (cmpQ x y<0)) (fun j d=>((0:Int),((N:Int),(((),()),((i:Int),((j:Int),(d,()))))))) (fun d=>some ((0:Int),((N:Int),(((),()),((i:Int),(d,())))))) x N (fun rec A y m hA=>by
  rw[qcS]
  have hj:A.length<9223372036854775807:=by omega
  simp only[qqn,cond_true,qiO,app0,app1,Option.bind_some,qoy hj,qku,qEV n _ _ hn,set1,set0]) (fun rec d=>by
  rw[qcS]
  rfl) r m n hr (by omega)
theorem qFw(n:Nat)(l:List Msg)(hl:l.length≤1000)(hn:2000≤n):qbT n ((0:Int),((l.length:Int),(((),()),(l,()))))=some (qjz (fun x y=>decide (cmpQ x y<0)) l,()):=by
 rw[qgj]
 cases l with
 | nil =>
  obtain ⟨n',rfl⟩:∃m,n=m+1:=⟨n-1,by omega⟩
  rw[qx,qbu]
  rfl
 | cons a l =>
  obtain ⟨N,hN⟩:∃N,N=(a::l).length:=⟨_,rfl⟩
  have hl':l.length+1=N:=by rw[hN];rfl
  have h1:∀rec (r:List Msg) x m,r.length+1+m.length=N→qv n rec ((0:Int),((N:Int),(((),()),((r.length:Int),((r.reverse++x::m),())))))=rec ((0:Int),((N:Int),(((),()),(((r.length+1:Nat):Int),(((insL (fun x y=>decide (cmpQ x y<0)) x r).reverse++m),()))))):=fun rec r x m hm=>by
   rw[qbu]
   simp only[qK (show r.length<N by omega),cond_true,qF9 n N r.length x (by omega) hn r m (by omega),Option.bind_some,qy (show r.length<9223372036854775807 by omega)]
  have h0:∀rec (d:List Msg),qv n rec ((0:Int),((N:Int),(((),()),((N:Int),(d,())))))=some (d,()):=fun rec d=>by
   rw[qbu]
   simp only[qQ,cond_false]
  have go:∀(l2 r:List Msg) (n':Nat),r.length+l2.length=N→l2.length<n'→qb n' (qv n) ((0:Int),((N:Int),(((),()),((r.length:Int),((r.reverse++l2),())))))=some ((qhu (fun x y=>decide (cmpQ x y<0)) r l2).reverse,()):=by
   intro l2
   induction l2 with
   | nil =>
    intro r n' hr hn'
    obtain ⟨n',rfl⟩:∃m,n'=m+1:=⟨n'-1,by omega⟩
    have hr':r.length=N:=by simpa using hr
    rw[qx,List.append_nil,hr',h0]
    rfl
   | cons x l2 ih =>
    intro r n' hr hn'
    obtain ⟨n',rfl⟩:∃m,n'=m+1:=⟨n'-1,by omega⟩
    simp only[List.length_cons] at hr hn'
    rw[qx,h1 _ r x l2 (by omega),qhu]
    have:=ih (insL (fun x y=>decide (cmpQ x y<0)) x r) n' (by rw[qmL];omega) (by omega)
    rw[qmL] at this
    exact this
  have h3:=go l [a] n (by simp;omega) (by omega)
  rw[← hN]
  have e1:iW (iAdd (0:Int) 1)=((1:Nat):Int):=qy (k:=0) (by omega)
  simp only[e1]
  have e2:(qhu (fun x y=>decide (cmpQ x y<0)) [a] l).reverse=qjz (fun x y=>decide (cmpQ x y<0)) (a::l):=rfl
  rw[e2] at h3
  show Option.bind (qb n (qv n) ((0:Int),((N:Int),(((),()),(((([a]:List Msg).length:Nat):Int),((([a]:List Msg).reverse++l),())))))) _=_
  rw[h3]
  rfl
theorem qEX(n:Nat)(l:List Msg)(hl:l.length≤12)(hn:2000≤n):qb4 n (((),()),(l,()))=some (qjz (fun x y=>decide (cmpQ x y<0)) l,()):=by
 rw[qi4,qlE]
 obtain ⟨rr,hrr⟩:=qvD n l.length hl
 simp only[hrr,Option.bind_some]
 rw[qhs]
 obtain ⟨n',rfl⟩:∃m,n=m+1:=⟨n-1,by omega⟩
 rw[qgY,qhi,qx,qgX]
 simp only[w12 hl,cond_true,qFw (n'+1) l (by omega) hn,Option.bind_some]
theorem qGa(n N i:Nat)(x:Int)(hN:N≤1000)(hn:2000≤n)(r m:List Int)(hr:r.length≤N):qb n (qcM n) ((0:Int),((N:Int),((i:Int),((r.length:Int),((r.reverse++x::m),())))))=some ((0:Int),((N:Int),((i:Int),(((insL (fun x y=>decide (x<y)) x r).reverse++m),())))):=by
 exact quD (step:=qcM n) (fun x y=>decide (x<y)) (fun j d=>((0:Int),((N:Int),((i:Int),((j:Int),(d,())))))) (fun d=>some ((0:Int),((N:Int),((i:Int),(d,()))))) x N (fun rec A y m hA=>by
  rw[qf4]
  have hj:A.length<9223372036854775807:=by omega
  simp only[qqn,cond_true,qiO,app0,app1,Option.bind_some,qoy hj,qku,qER,set1,set0]) (fun rec d=>by
  rw[qf4]
  rfl) r m n hr (by omega)
theorem qFx(n:Nat)(l:List Int)(hl:l.length≤1000)(hn:2000≤n):qeT n ((0:Int),((l.length:Int),(l,())))=some (qjz (fun x y=>decide (x<y)) l,()):=by
 rw[qle]
 cases l with
 | nil =>
  obtain ⟨n',rfl⟩:∃m,n=m+1:=⟨n-1,by omega⟩
  rw[qx,qdV]
  rfl
 | cons a l =>
  obtain ⟨N,hN⟩:∃N,N=(a::l).length:=⟨_,rfl⟩
  have hl':l.length+1=N:=by rw[hN];rfl
  have h1:∀rec (r:List Int) x m,r.length+1+m.length=N→qbi n rec ((0:Int),((N:Int),((r.length:Int),((r.reverse++x::m),()))))=rec ((0:Int),((N:Int),(((r.length+1:Nat):Int),(((insL (fun x y=>decide (x<y)) x r).reverse++m),())))):=fun rec r x m hm=>by
   rw[qdV]
   simp only[qK (show r.length<N by omega),cond_true,qGa n N r.length x (by omega) hn r m (by omega),Option.bind_some,qy (show r.length<9223372036854775807 by omega)]
  have h0:∀rec (d:List Int),qbi n rec ((0:Int),((N:Int),((N:Int),(d,()))))=some (d,()):=fun rec d=>by
   rw[qdV]
   simp only[qQ,cond_false]
  have go:∀(l2 r:List Int) (n':Nat),r.length+l2.length=N→l2.length<n'→qb n' (qbi n) ((0:Int),((N:Int),((r.length:Int),((r.reverse++l2),()))))=some ((qhu (fun x y=>decide (x<y)) r l2).reverse,()):=by
   intro l2
   induction l2 with
   | nil =>
    intro r n' hr hn'
    obtain ⟨n',rfl⟩:∃m,n'=m+1:=⟨n'-1,by omega⟩
    have hr':r.length=N:=by simpa using hr
    rw[qx,List.append_nil,hr',h0]
    rfl
   | cons x l2 ih =>
    intro r n' hr hn'
    obtain ⟨n',rfl⟩:∃m,n'=m+1:=⟨n'-1,by omega⟩
    simp only[List.length_cons] at hr hn'
    rw[qx,h1 _ r x l2 (by omega),qhu]
    have:=ih (insL (fun x y=>decide (x<y)) x r) n' (by rw[qmL];omega) (by omega)
    rw[qmL] at this
    exact this
  have h3:=go l [a] n (by simp;omega) (by omega)
  rw[← hN]
  have e1:iW (iAdd (0:Int) 1)=((1:Nat):Int):=qy (k:=0) (by omega)
  simp only[e1]
  have e2:(qhu (fun x y=>decide (x<y)) [a] l).reverse=qjz (fun x y=>decide (x<y)) (a::l):=rfl
  rw[e2] at h3
  show Option.bind (qb n (qbi n) ((0:Int),((N:Int),(((([a]:List Int).length:Nat):Int),((([a]:List Int).reverse++l),()))))) _=_
  rw[h3]
  rfl
theorem qEY(n:Nat)(l:List Int)(hl:l.length≤12)(hn:2000≤n):qlB n (l,())=some (qjz (fun x y=>decide (x<y)) l,()):=by
 rw[qr3,qlE]
 obtain ⟨rr,hrr⟩:=qvD n l.length hl
 simp only[hrr,Option.bind_some]
 rw[qnc]
 obtain ⟨n',rfl⟩:∃m,n=m+1:=⟨n-1,by omega⟩
 rw[qmq,qmH,qx,qmp]
 simp only[w12 hl,cond_true,qFx (n'+1) l (by omega) hn,Option.bind_some]
end Go.Proofs.YtcjcacbhkoainaaGreatDoor
