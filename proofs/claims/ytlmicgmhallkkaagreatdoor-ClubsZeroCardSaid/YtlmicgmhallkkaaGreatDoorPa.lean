/- Texts Dp0, Dp1, Dp2, Dp3, Dp4, Dp5 in one. -/
import Derived.Test.YtlmicgmhallkkaaGreatDoorQa
/- Plain: loops over lists. Nothing here speaks of the program. -/
set_option linter.constructorNameAsVariable false
set_option linter.unusedSimpArgs false
set_option linter.unusedVariables false
set_option linter.unusedSectionVars false
namespace Go.Proofs.YtlmicgmhallkkaaGreatDoor
open Go Go.Proofs Go.RowKit
theorem qbc{n:Int}(h:-9223372036854775808≤n)(h':n≤9223372036854775807):iW n=n:=qFe h h'
theorem qj{k:Nat}(h:k<9223372036854775807):iW (iAdd (k:Int) 1)=((k+1:Nat):Int):=by
 rw[qbc (by unfold iAdd;omega) (by unfold iAdd;omega)];unfold iAdd;omega
theorem qis{α:Type}(l:List α)(k:Nat):lat l (k:Int)=l[k]?:=by unfold lat;simp
theorem qr{α:Type}(l:List α){k:Nat}(h:k<l.length):lat l (k:Int)=some l[k]:=by rw[qis,List.getElem?_eq_getElem h]
theorem qwe{α:Type}(x:α)(l:List α):lat (x::l) 0=some x:=rfl
theorem qy{a b:Nat}(h:a<b):iLt (a:Int) (b:Int)=true:=by simp[iLt];exact h
theorem qB{a:Nat}:iLt (a:Int) (a:Int)=false:=by simp[iLt]
theorem qA9{α:Type}(o:Option α):(o.bind fun y=>some y)=o:=by cases o<;>rfl
theorem qc{σ ξ:Type}(n:Nat)(step:(σ→Option ξ)→σ→Option ξ)(s:σ):qb (n+1) step s=step (qb n step) s:=rfl
def qj9{α β ξ:Type}(f:Nat→β→α→Option (β⊕ξ))(fin:β→Option ξ):List α→Nat→β→Option ξ
 | [],_,b=>fin b
 | x::l,k,b=>(f k b x).bind (Sum.elim (fun b'=>qj9 f fin l (k+1) b') some)
theorem qrG{σ ξ α β:Type}{step:(σ→Option ξ)→σ→Option ξ}(l:List α)(mk:Nat→β→σ)(f:Nat→β→α→Option (β⊕ξ))(fin:β→Option ξ)
  (h:∀rec k b (hk:k<l.length),step rec (mk k b)=(f k b l[k]).bind (Sum.elim (fun b'=>rec (mk (k+1) b')) some))
  (h0:∀rec b,step rec (mk l.length b)=fin b) {n:Nat} (b:β) (hn:l.length<n):qb n step (mk 0 b)=qj9 f fin l 0 b:=by
 have go:∀(m:Nat) (k:Nat) (b:β) (n:Nat),k+m=l.length→m<n→qb n step (mk k b)=qj9 f fin (l.drop k) k b:=by
  intro m
  induction m with
  | zero =>
   intro k b n hk hn
   obtain ⟨n,rfl⟩:∃m,n=m+1:=⟨n-1,by omega⟩
   have:k=l.length:=by omega
   subst this
   rw[List.drop_length]
   exact h0 _ _
  | succ m ih =>
   intro k b n hk hn
   obtain ⟨n,rfl⟩:∃m,n=m+1:=⟨n-1,by omega⟩
   have hlt:k<l.length:=by omega
   rw[List.drop_eq_getElem_cons hlt]
   show step (qb n step) (mk k b)=_
   rw[h _ _ _ hlt,qj9]
   congr 1
   funext r
   cases r with
   | inl b'=>exact ih (k+1) b' n (by omega) (by omega)
   | inr r=>rfl
 have:=go l.length 0 b n (by omega) hn
 simpa using this
theorem qme{σ ξ α:Type}{step:(σ→Option ξ)→σ→Option ξ}(l:List α)(mk:Nat→σ)(p:α→Bool)(hit:ξ)(miss:ξ)
  (h:∀rec k (hk:k<l.length),step rec (mk k)=cond (p l[k]) (some hit) (rec (mk (k+1))))
  (h0:∀rec,step rec (mk l.length)=some miss) {n:Nat} (hn:l.length<n):qb n step (mk 0)=some (cond (l.any p) hit miss):=by
 have h1:=qrG (β:=Unit) l (fun k _=>mk k) (fun _ _ x=>some (cond (p x) (.inr hit) (.inl ()))) (fun _=>some miss) (fun rec k b hk=>by rw[h rec k hk];cases p l[k]<;>rfl) (fun rec b=>h0 rec) () hn
 rw[h1]
 have:∀(l:List α) (k:Nat),qj9 (fun _ (_:Unit) x=>some (cond (p x) (.inr hit) (.inl ()))) (fun _=>some miss) l k ()=some (cond (l.any p) hit miss):=by
  intro l
  induction l with
  | nil=>intro k;rfl
  | cons x l ih =>
   intro k
   rw[qj9,List.any_cons]
   cases p x with
   | true=>rfl
   | false=>exact ih _
 exact this l 0
theorem qnB{σ ξ α:Type}{step:(σ→Option ξ)→σ→Option ξ}(l:List α)(mk:Nat→σ)(p:α→Bool)(good:ξ)(bad:ξ)
  (h:∀rec k (hk:k<l.length),step rec (mk k)=cond (p l[k]) (rec (mk (k+1))) (some bad))
  (h0:∀rec,step rec (mk l.length)=some good) {n:Nat} (hn:l.length<n):qb n step (mk 0)=some (cond (l.all p) good bad):=by
 rw[qme l mk (fun x=>!p x) bad good (fun rec k hk=>by rw[h rec k hk];cases p l[k]<;>rfl) h0 hn]
 rw[show l.any (fun x=>!p x) = !l.all p by simp[List.all_eq_not_any_not]]
 cases l.all p<;>rfl
theorem qeg{σ ξ α:Type}{step:(σ→Option ξ)→σ→Option ξ}(l:List α)(mk:Nat→σ)(p:α→Bool)(hit:Nat→ξ)(miss:ξ)
  (h:∀rec k (hk:k<l.length),step rec (mk k)=cond (p l[k]) (some (hit k)) (rec (mk (k+1))))
  (h0:∀rec,step rec (mk l.length)=some miss) {n:Nat} (hn:l.length<n) :
  (l.any p=false∧qb n step (mk 0)=some miss)∨(∃k,∃hk:k<l.length,p l[k]=true∧(l.take k).any p=false∧qb n step (mk 0)=some (hit k)):=by
 have h1:=qrG (β:=Unit) l (fun k _=>mk k) (fun k _ x=>some (cond (p x) (.inr (hit k)) (.inl ()))) (fun _=>some miss) (fun rec k b hk=>by rw[h rec k hk];cases p l[k]<;>rfl) (fun rec b=>h0 rec) () hn
 rw[h1]
 have:∀(l:List α) (j:Nat),(l.any p=false∧qj9 (fun k (_:Unit) x=>some (cond (p x) (.inr (hit k)) (.inl ()))) (fun _=>some miss) l j ()=some miss)∨(∃k,∃hk:k<l.length,p l[k]=true∧(l.take k).any p=false∧qj9 (fun k (_:Unit) x=>some (cond (p x) (.inr (hit k)) (.inl ()))) (fun _=>some miss) l j ()=some (hit (j+k))):=by
  intro l
  induction l with
  | nil=>intro j;exact .inl ⟨rfl,rfl⟩
  | cons x l ih =>
   intro j
   cases hx:p x with
   | true=>exact .inr ⟨0,by simp,by simpa using hx,rfl,by rw[qj9,hx];rfl⟩
   | false =>
    rcases ih (j+1) with ⟨h1,h2⟩ | ⟨k,hk,h1,h2,h3⟩
    ·exact .inl ⟨by rw[List.any_cons,hx,h1];rfl,by rw[qj9,hx];exact h2⟩
    ·refine .inr ⟨k+1,by simpa using hk,by simpa using h1,by rw[List.take_succ_cons,List.any_cons,hx,h2];rfl,?_⟩
     rw[qj9,hx]
     show qj9 _ _ l (j+1) ()=_
     rw[h3]
     congr 2
     omega
 have:=this l 0
 simpa using this
theorem qkW{σ ξ α β:Type}{step:(σ→Option ξ)→σ→Option ξ}(l:List α)(mk:Nat→β→σ)(f:β→α→β)(b0:β)(fin:β→ξ)
  (h:∀rec k b (hk:k<l.length),b=(l.take k).foldl f b0→step rec (mk k b)=rec (mk (k+1) (f b l[k])))
  (h0:∀rec b,step rec (mk l.length b)=some (fin b)) {n:Nat} (hn:l.length<n):qb n step (mk 0 b0)=some (fin (l.foldl f b0)):=by
 have go:∀(m:Nat) (k:Nat) (n:Nat),k+m=l.length→m<n→qb n step (mk k ((l.take k).foldl f b0))=some (fin (l.foldl f b0)):=by
  intro m
  induction m with
  | zero =>
   intro k n hk hn
   obtain ⟨n,rfl⟩:∃m,n=m+1:=⟨n-1,by omega⟩
   have:k=l.length:=by omega
   subst this
   rw[List.take_length]
   exact h0 _ _
  | succ m ih =>
   intro k n hk hn
   obtain ⟨n,rfl⟩:∃m,n=m+1:=⟨n-1,by omega⟩
   have hlt:k<l.length:=by omega
   show step (qb n step) (mk k _)=_
   rw[h _ _ _ hlt rfl]
   have:=ih (k+1) n (by omega) (by omega)
   rw[List.take_succ_eq_append_getElem hlt,List.foldl_append] at this
   exact this
 have:=go l.length 0 n (by omega) hn
 simpa using this
def insL{α:Type}(lt:α→α→Bool)(x:α):List α→List α
 | []=>[x]
 | y::r=>cond (lt x y) (y::insL lt x r) (x::y::r)
def qh4{α:Type}(lt:α→α→Bool):List α→List α→List α
 | r,[]=>r
 | r,x::l=>qh4 lt (insL lt x r) l
def qka{α:Type}(lt:α→α→Bool)(l:List α):List α:=(qh4 lt [] l).reverse
theorem qnh{α:Type}(lt:α→α→Bool)(x:α):∀r,(insL lt x r).length=r.length+1
 | []=>rfl
 | y::r=>by
  unfold insL
  cases lt x y with
  | true=>simp[qnh lt x r]
  | false=>simp
theorem qrH{α:Type}(lt:α→α→Bool)(x:α):∀r,(insL lt x r).Perm (x::r)
 | []=>List.Perm.refl _
 | y::r=>by
  unfold insL
  cases lt x y with
  | true=>exact ((qrH lt x r).cons y).trans (List.Perm.swap x y r)
  | false=>exact List.Perm.refl _
theorem qvL{α:Type}(lt:α→α→Bool):∀l r,(qh4 lt r l).Perm (r++l)
 | [],r=>by simp[qh4]
 | x::l,r=>by
  rw[qh4]
  refine (qvL lt l _).trans ?_
  refine ((qrH lt x r).append_right l).trans ?_
  simp only[List.cons_append]
  exact List.perm_middle.symm
theorem qfB{α:Type}(lt:α→α→Bool)(l:List α):(qka lt l).Perm l:=(List.reverse_perm _).trans (by simpa using qvL lt l [])
theorem qve{σ ξ α:Type}{step:(σ→Option ξ)→σ→Option ξ}(lt:α→α→Bool)(mk:Nat→List α→σ)(fin:List α→Option ξ)(x:α)(N:Nat)
  (h1:∀rec A y m,A.length+1≤N→step rec (mk (A.length+1) (A++y::x::m))=cond (lt x y) (rec (mk A.length (A++x::y::m))) (fin (A++y::x::m)))
  (h0:∀rec d,step rec (mk 0 d)=fin d):∀(r m:List α) (n:Nat),r.length≤N→r.length<n→qb n step (mk r.length (r.reverse++x::m))=fin ((insL lt x r).reverse++m)
 | [],m,n+1,_,_=>h0 _ _
 | y::r,m,n+1,hN,hn=>by
  have e:=h1 (qb n step) r.reverse y m (by simpa using hN)
  rw[List.length_reverse] at e
  simp only[List.length_cons,List.reverse_cons,List.append_assoc,List.cons_append,List.nil_append]
  show step (qb n step) (mk (r.length+1) (r.reverse++y::x::m))=_
  rw[e,insL]
  cases lt x y with
  | true =>
   have:=qve lt mk fin x N h1 h0 r (y::m) n (by simp at hN;omega) (by simp at hn;omega)
   simp only[cond_true,List.reverse_cons,List.append_assoc,List.cons_append,List.nil_append]
   exact this
  | false=>simp
set_option maxHeartbeats 1000000
instance decStay:DecidableEq Stay:=inferInstance
instance decStays:DecidableEq (List Stay):=inferInstance
instance decMsg:DecidableEq Msg:=@instDecidableEqProd _ _ _ (@instDecidableEqProd _ _ _ (@instDecidableEqProd _ _ _ (@instDecidableEqProd _ _ _ decStays)))
theorem qbT{a b:Int}(h:a=b):iEq a b=true:=by simp[iEq,h]
theorem qfh{a b:Int}(h:a≠b):iEq a b=false:=by simp[iEq,h]
theorem qkb{a b:Int}(h:a≠b):iNe a b=true:=by simp[iNe,h]
theorem qc2{a b:Int}(h:a=b):iNe a b=false:=by simp[iNe,h]
def wi(a lo hi:Int):Bool:=decide (lo≤a)&&decide (a≤hi)
theorem qbO{a lo hi:Int}:wi a lo hi=true↔lo≤a∧a≤hi:=by simp[wi]
theorem qnC(n:Nat)(a lo hi:Int):qU n (a,(lo,(hi,())))=some (wi a lo hi,()):=by
 rw[qqL]
 show cond (decide (a≥lo)) (some (decide (a≤hi),())) (some (false,()))=_
 unfold wi
 by_cases h:lo≤a
 ·simp[h]
 ·simp[h]
theorem qkX(n:Nat)(a lo hi:Int):qcx n (a,(lo,(hi,())))=some (wi a lo hi,()):=by
 rw[qvs]
 show cond (decide (lo≤a)) (some (decide (a≤hi),())) (some (false,()))=_
 unfold wi
 by_cases h:lo≤a
 ·simp[h]
 ·simp[h]
def hutB(h:Int×Int):Bool:=wi h.1 0 20&&wi h.2 0 20
def qd2(c:Chn):Bool:=c.1.all hutB&&(wi c.1.length 1 6&&wi c.2 1 20)
theorem qBV(n:Nat)(c:Chn)(hl:c.1.length≤100)(hn:200≤n):qjJ n (c,())=some (qd2 c,()):=by
 obtain ⟨hs,ni⟩:=c
 rw[qqe]
 have hl:hs.length≤100:=hl
 have h1:=qnB (step:=qiH n) hs (fun k=>((k:Int),((hs,ni),()))) hutB (.inl ((hs,ni),())) (.inr (false,())) (fun rec k hk=>by
  rw[qkv]
  simp only[qy hk,cond_true,qr hs hk,Option.bind_some,qnC,qj (show k<9223372036854775807 by omega)]
  unfold hutB
  cases wi hs[k].1 0 20<;>cases wi hs[k].2 0 20<;>rfl) (fun rec=>by
  rw[qkv]
  simp only[qB,cond_false]) (n:=n) (by omega)
 show Option.bind (qb n _ (((0:Nat):Int),((hs,ni),()))) _=_
 rw[h1]
 unfold qd2
 cases hs.all hutB with
 | false=>rfl
 | true =>
  simp only[Option.bind_some,cond_true,Sum.elim_inl,qnC,Int.ofNat_eq_natCast]
  cases wi hs.length 1 6<;>rfl
def qiQ(nh nn:Int):Int→List Stay→Bool
 | _,[]=>true
 | last,s::l=>(wi s.1 0 (nh-1)&&(decide (last<s.2.1)&&(decide (s.2.1≤s.2.2)&&decide (s.2.2<nn))))&&qiQ nh nn s.2.2 l
def reqB(c:Chn)(m:Msg):Bool:=decide (m.1=1)&&(wi m.2.2.1 0 9999&&(wi m.2.2.2.1 1 20&&(wi m.2.2.2.2.length 1 6&&qiQ c.1.length c.2 (-1) m.2.2.2.2)))
theorem qvM(nh nn:Int):∀(l:List Stay) (k:Nat) (last:Int),qj9 (ξ:=Unit⊕(Bool×Unit)) (fun _ (last:Int) (s:Stay)=>some (cond (wi s.1 0 (nh-1)&&(decide (last<s.2.1)&&(decide (s.2.1≤s.2.2)&&decide (s.2.2<nn)))) (.inl s.2.2) (.inr (.inr (false,()))))) (fun _=>some (.inl ())) l k last=some (cond (qiQ nh nn last l) (.inl ()) (.inr (false,())))
 | [],_,_=>rfl
 | s::l,k,last=>by
  rw[qj9,qiQ]
  cases wi s.1 0 (nh-1)&&(decide (last<s.2.1)&&(decide (s.2.1≤s.2.2)&&decide (s.2.2<nn))) with
  | false=>rfl
  | true=>exact qvM nh nn l _ _
theorem qzX(n:Nat)(c:Chn)(m:Msg)(hh:c.1.length≤100)(hl:m.2.2.2.2.length≤100)(hn:200≤n):qcE n (c,(m,()))=some (reqB c m,()):=by
 rw[qkw]
 obtain ⟨hs,ni⟩:=c
 obtain ⟨kd,id,st,pe,ss⟩:=m
 simp only at hl hh
 have h1:=qrG (step:=qhR n) ss (fun k last=>(last,((k:Int),((hs,ni),((kd,(id,(st,(pe,ss)))),()))))) (fun _ (last:Int) (s:Stay)=>some (cond (wi s.1 0 ((hs.length:Int)-1)&&(decide (last<s.2.1)&&(decide (s.2.1≤s.2.2)&&decide (s.2.2<ni)))) (.inl s.2.2) (.inr (.inr (false,()))))) (fun _=>some (.inl ())) (fun rec k last hk=>by
  rw[qjV]
  simp only[qy hk,cond_true,qr ss hk,Option.bind_some,qnC,qj (show k<9223372036854775807 by omega),qbc (n:=iSub (hs.length:Int) 1) (by unfold iSub;omega) (by unfold iSub;omega)]
  unfold iSub iLe iLt iGe
  cases wi ss[k].1 0 ((hs.length:Int)-1) with
  | false=>rfl
  | true =>
   by_cases h1:ss[k].2.1≤last
   ·have h2:¬last<ss[k].2.1:=by omega
    simp[h1,h2]
   ·have h2:last<ss[k].2.1:=by omega
    by_cases h3:ss[k].2.2<ss[k].2.1
    ·have h4:¬ss[k].2.1≤ss[k].2.2:=by omega
     simp[h1,h2,h3,h4]
    ·have h4:ss[k].2.1≤ss[k].2.2:=by omega
     by_cases h5:ss[k].2.2≥ni
     ·have h6:¬ss[k].2.2<ni:=by omega
      simp[h1,h2,h3,h4,h5,h6]
     ·have h6:ss[k].2.2<ni:=by omega
      have h5':¬ni≤ss[k].2.2:=by omega
      simp[h1,h2,h3,h4,h5',h6]) (fun rec b=>by
  rw[qjV]
  simp only[qB,cond_false]) (n:=n) (-1) (by omega)
 rw[qvM] at h1
 unfold reqB
 simp only[qnC,Option.bind_some,Int.ofNat_eq_natCast,show (Int.negSucc 0) = -1 from rfl]
 by_cases hk:kd=1
 ·subst hk
  rw[qc2 rfl]
  cases h2:wi st 0 9999 with
  | false=>simp[h2]
  | true =>
   cases h3:wi pe 1 20 with
   | false=>simp[h2,h3]
   | true =>
    cases h4:wi ss.length 1 6 with
    | false=>simp[h2,h3,h4]
    | true =>
     simp only[cond_false,cond_true,Bool.not_true,decide_true,Bool.true_and]
     show Option.bind (qb n _ (-1,(((0:Nat):Int),_))) _=_
     rw[h1]
     cases qiQ hs.length ni (-1) ss<;>rfl
 ·rw[qkb hk];simp[hk]
theorem qyV(n:Nat)(c:Chn)(m:Msg)(hh:c.1.length≤100)(hn:200≤n):qcE n (c,(m,()))=some (reqB c m,()):=by
 by_cases hl:m.2.2.2.2.length≤100
 ·exact qzX n c m hh hl hn
 ·have hw:wi (m.2.2.2.2.length:Int) 1 6=false:=by unfold wi;simp;omega
  rw[qkw]
  simp only[qnC,Option.bind_some,Int.ofNat_eq_natCast,hw]
  unfold reqB
  rw[hw]
  by_cases hk:m.1=1
  ·rw[qc2 hk]
   cases wi m.2.2.1 0 9999<;>cases wi m.2.2.2.1 1 20<;>simp
  ·rw[qkb hk];simp[hk]
def canB(m:Msg):Bool:=decide (m.1=2)&&(decide (m.2.2.1=0)&&(decide (m.2.2.2.1=0)&&decide (m.2.2.2.2.length=0)))
def mesB(c:Chn)(m:Msg):Bool:=wi m.2.1 0 99&&(canB m||reqB c m)
theorem qxa(n:Nat)(c:Chn)(l:List Msg)(hh:c.1.length≤100)(hl:l.length≤100)(hn:200≤n):qfv n (c,(l,()))=some (l.all (mesB c)&&decide (l.length≤40),()):=by
 rw[qoq]
 have h1:=qnB (step:=qg2 n) l (fun k=>(l,((k:Int),(c,())))) (mesB c) (.inl (l,())) (.inr (false,())) (fun rec k hk=>by
  rw[qi3]
  simp only[qy hk,cond_true,qr l hk,Option.bind_some,qnC,qj (show k<9223372036854775807 by omega),qyV n c l[k] hh hn]
  unfold mesB canB
  cases wi l[k].2.1 0 99 with
  | false =>
   cases iEq l[k].1 2<;>cases iEq l[k].2.2.1 0<;>cases iEq l[k].2.2.2.1 0<;>rfl
  | true =>
   cases reqB c l[k] with
   | true =>
    simp only[Bool.or_true,Bool.true_and,Bool.not_true,cond_false,cond_true]
    cases iEq l[k].1 2<;>cases iEq l[k].2.2.1 0<;>cases iEq l[k].2.2.2.1 0<;>cases iEq ((l[k].2.2.2.2.length:Nat):Int) 0<;>rfl
   | false =>
    simp only[Bool.or_false,Bool.true_and,Bool.not_true,cond_false,Bool.not_false,cond_true]
    by_cases e1:l[k].1=2
    ·by_cases e2:l[k].2.2.1=0
     ·by_cases e3:l[k].2.2.2.1=0
      ·by_cases e4:l[k].2.2.2.2.length=0
       ·rw[qbT e1,qbT e2,qbT e3,qbT (by omega)];simp[e1,e2,e3,e4]
       ·rw[qbT e1,qbT e2,qbT e3,qfh (by omega)];simp[e4]
      ·rw[qbT e1,qbT e2,qfh e3];simp[e3]
     ·rw[qbT e1,qfh e2];simp[e2]
    ·rw[qfh e1];simp[e1]) (fun rec=>by
  rw[qi3]
  simp only[qB,cond_false]) (n:=n) (by omega)
 show Option.bind (qb n _ (l,(((0:Nat):Int),(c,())))) _=_
 rw[h1]
 cases l.all (mesB c) with
 | false=>rfl
 | true =>
  simp only[Option.bind_some,cond_true,Sum.elim_inl,Bool.true_and]
  unfold iLe
  by_cases h:l.length≤40
  ·have:((l.length:Nat):Int)≤40:=by omega
   simp[h,this]
  ·have:¬((l.length:Nat):Int)≤40:=by omega
   simp[h,this]
theorem qxN(n:Nat)(c:Chn)(l:List Msg)(hh:c.1.length≤100)(hl:l.length≤100)(hs:∀m,m∈l→m.2.2.2.2.length≤100)(hn:200≤n):qfv n (c,(l,()))=some (l.all (mesB c)&&decide (l.length≤40),()):=qxa n c l hh hl hn
theorem qGA(a b:Stay):Ty.eqB (Ty.pr (Ty.i .i64) T158) a b=decide (a=b):=by
 obtain ⟨a1,a2,a3⟩:=a
 obtain ⟨b1,b2,b3⟩:=b
 show ((a1==b1)&&((a2==b2)&&(a3==b3)))=_
 by_cases h1:a1=b1<;>by_cases h2:a2=b2<;>by_cases h3:a3=b3<;>simp[h1,h2,h3]
theorem qEE(n:Nat)(a b:Msg)(hl:a.2.2.2.2.length≤100)(hn:200≤n):qkK n (a,(b,()))=some (decide (a=b),()):=by
 rw[qq7]
 obtain ⟨a1,a2,a3,a4,sa⟩:=a
 obtain ⟨b1,b2,b3,b4,sb⟩:=b
 simp only at hl
 by_cases e1:a1=b1
 ·by_cases e2:a2=b2
  ·by_cases e3:a3=b3
   ·by_cases e4:a4=b4
    ·subst e1 e2 e3 e4
     simp only[qc2 rfl,cond_false]
     by_cases e5:sa.length=sb.length
     ·have h1:=qnB (step:=qjK n) (sa.zip sb) (fun k=>((k:Int),((a1,(a2,(a3,(a4,sa)))),((a1,(a2,(a3,(a4,sb)))),())))) (fun p=>decide (p.1=p.2)) (.inl ()) (.inr (false,())) (fun rec k hk=>by
       rw[qlE]
       have hka:k<sa.length:=by simp at hk;omega
       have hkb:k<sb.length:=by omega
       simp only[qy hka,cond_true,qr sa hka,qr sb hkb,Option.bind_some,qj (show k<9223372036854775807 by omega),List.getElem_zip]
       rw[show Ty.eqB (Ty.pr (Ty.i .i64) T158) sa[k] sb[k]=decide (sa[k]=sb[k]) from qGA _ _]
       cases decide (sa[k]=sb[k])<;>rfl) (fun rec=>by
       rw[qlE]
       simp only[List.length_zip,e5,Nat.min_self,qB,cond_false]) (n:=n) (by simp;omega)
      rw[qc2 (by omega)]
      simp only[cond_false]
      show Option.bind (qb n _ (((0:Nat):Int),_)) _=_
      rw[h1]
      have h2:(sa.zip sb).all (fun p=>decide (p.1=p.2))=decide (sa=sb):=by
       clear h1 hl
       induction sa generalizing sb with
       | nil=>cases sb with
        | nil=>rfl
        | cons b sb=>cases e5
       | cons a sa ih=>cases sb with
        | nil=>cases e5
        | cons b sb =>
         rw[List.zip_cons_cons,List.all_cons,ih sb (by simpa using e5)]
         by_cases h:a=b<;>by_cases h':sa=sb<;>simp[h,h']
      rw[h2]
      by_cases h:sa=sb<;>simp[h]
     ·have h:sa≠sb:=fun h=>e5 (by rw[h])
      have e5':((sa.length:Nat):Int)≠sb.length:=by omega
      rw[qkb e5'];simp[h]
    ·rw[qc2 e1,qc2 e2,qc2 e3,qkb e4];simp[e4]
   ·rw[qc2 e1,qc2 e2,qkb e3];simp[e3]
  ·rw[qc2 e1,qkb e2];simp[e2]
 ·rw[qkb e1];simp[e1]
def claB(x y:Msg):Bool:=decide (x.2.1=y.2.1)&&(decide (x.1=y.1) && !decide (x=y))
def qiR(l:List Msg):Bool:=(List.range l.length).any fun i=>(List.range i).any fun k=>match l[i]?,l[k]? with
 | some x,some y=>claB x y
 | _,_=>false
theorem qsJ{m k:Nat}(h:k<(List.range m).length):(List.range m)[k]=k:=by simp
theorem qC4(n:Nat)(l:List Msg)(i:Nat)(hi:i<l.length)(hl:l.length≤100)(hs:∀m,m∈l→m.2.2.2.2.length≤100)(hn:200≤n) :
  qb n (qg8 n) (l,((i:Int),((0:Int),())))=some (cond ((List.range i).any fun k=>match l[i]?,l[k]? with
   | some x,some y=>claB x y
   | _,_=>false) (.inr (true,())) (.inl (l,((i:Int),())))):=by
 exact qme (step:=qg8 n) (List.range i) (fun k=>(l,((i:Int),((k:Int),())))) (fun k=>match l[i]?,l[k]? with
   | some x,some y=>claB x y
   | _,_=>false) (.inr (true,())) (.inl (l,((i:Int),()))) (fun rec k hk=>by
  rw[qlF]
  have hk':k<i:=by simpa using hk
  have hkl:k<l.length:=by omega
  simp only[qy hk',cond_true,qr l hi,qr l hkl,Option.bind_some,qsJ,List.getElem?_eq_getElem hi,List.getElem?_eq_getElem hkl,qEE n _ _ (hs _ (List.getElem_mem hi)) hn,qj (show k<9223372036854775807 by omega)]
  unfold claB
  by_cases e1:l[i].2.1=l[k].2.1
  ·rw[qbT e1]
   by_cases e2:l[i].1=l[k].1
   ·rw[qbT e2]
    by_cases e3:l[i]=l[k]
    ·simp[e3]
    ·simp[e1,e2,e3]
   ·rw[qfh e2];simp[e2]
  ·rw[qfh e1];simp[e1]) (fun rec=>by
  rw[qlF]
  simp only[List.length_range,qB,cond_false]) (n:=n) (by simp;omega)
theorem qEF(n:Nat)(l:List Msg)(hl:l.length≤100)(hs:∀m,m∈l→m.2.2.2.2.length≤100)(hn:200≤n):qkL n (l,())=some (qiR l,()):=by
 rw[qq8]
 have h1:=qme (step:=qjL n) (List.range l.length) (fun k=>(l,((k:Int),()))) (fun i=>(List.range i).any fun k=>match l[i]?,l[k]? with
   | some x,some y=>claB x y
   | _,_=>false) (.inr (true,())) (.inl ()) (fun rec i hi=>by
  rw[qlG]
  have hi':i<l.length:=by simpa using hi
  simp only[qy hi',cond_true,qsJ]
  rw[qC4 n l i hi' hl hs hn]
  generalize ((List.range i).any _)=b
  cases b with
  | true=>rfl
  | false =>
   simp only[cond_false,Option.bind_some,Sum.elim_inl,qj (show i<9223372036854775807 by omega)]) (fun rec=>by
  rw[qlG]
  simp only[List.length_range,qB,cond_false]) (n:=n) (by simp;omega)
 show Option.bind (qb n _ (l,(((0:Nat):Int),()))) _=_
 rw[h1]
 show Option.bind (some (cond (qiR l) _ _)) _=_
 cases qiR l<;>rfl
theorem qog{l:List Msg}(h:qiR l=false):∀x y,x∈l→y∈l→x.2.1=y.2.1→x.1=y.1→x=y:=by
 intro x y hx hy h1 h2
 obtain ⟨i,hi,rfl⟩:=List.mem_iff_getElem.1 hx
 obtain ⟨k,hk,rfl⟩:=List.mem_iff_getElem.1 hy
 have key:∀a b (ha:a<l.length) (hb:b<a),claB (l[a]) (l[b]'(by omega))=false:=fun a b ha hb=>by
  unfold qiR at h
  rw[List.any_eq_false] at h
  have h3:=h a (List.mem_range.2 ha)
  simp only[Bool.not_eq_true] at h3
  rw[List.any_eq_false] at h3
  have h4:=h3 b (List.mem_range.2 hb)
  rw[List.getElem?_eq_getElem ha,List.getElem?_eq_getElem (by omega)] at h4
  simpa using h4
 rcases Nat.lt_trichotomy i k with h3 | h3 | h3
 ·have:=key k i hk h3
  unfold claB at this
  simp only[Bool.and_eq_false_iff,decide_eq_false_iff_not,Bool.not_eq_false',decide_eq_true_eq] at this
  rcases this with h4 | h4 | h4
  ·exact (h4 h1.symm).elim
  ·exact (h4 h2.symm).elim
  ·exact h4.symm
 ·subst h3;rfl
 ·have:=key i k hi h3
  unfold claB at this
  simp only[Bool.and_eq_false_iff,decide_eq_false_iff_not,Bool.not_eq_false',decide_eq_true_eq] at this
  rcases this with h4 | h4 | h4
  ·exact (h4 h1).elim
  ·exact (h4 h2).elim
  ·exact h4
def chkN(c:Chn)(l:List Msg):Int:=cond (qd2 c) (cond (l.all (mesB c)&&decide (l.length≤40)) (cond (qiR l) 22 0) 21) 20
theorem qEG(n:Nat)(c:Chn)(l:List Msg)(hh:c.1.length≤100)(hl:l.length≤100)(hs:∀m,m∈l→m.2.2.2.2.length≤100)(hn:200≤n):qic n (c,(l,()))=some (chkN c l,()):=by
 rw[qq9]
 simp only[qBV n c hh hn,qxN n c l hh hl hs hn,qEF n l hl hs hn,Option.bind_some]
 unfold chkN
 cases qd2 c<;>cases (l.all (mesB c)&&decide (l.length≤40))<;>cases qiR l<;>rfl
theorem qBa{c:Chn}{l:List Msg}(h:chkN c l=0):qd2 c=true∧(∀m,m∈l→mesB c m=true)∧l.length≤40∧qiR l=false:=by
 unfold chkN at h
 cases h1:qd2 c<;>cases h2:(l.all (mesB c)&&decide (l.length≤40))<;>cases h3:qiR l<;>rw[h1,h2,h3] at h<;>first | (cases h;done) | skip
 rw[Bool.and_eq_true,List.all_eq_true,decide_eq_true_eq] at h2
 exact ⟨rfl,h2.1,h2.2,rfl⟩
def farB(c:Chn)(l:List Msg):Bool:=l.any (fun m=>decide (20<m.2.2.2.2.length))||(decide (20<c.1.length)||((decide (9<l.length)&&decide (l.length≤40))||decide (60<l.length)))
theorem qGB(n:Nat)(c:Chn)(l:List Msg)(hl:l.length≤9223372036854775807)(hn:l.length<n):ql7 n (c,(l,()))=some (farB c l,()):=by
 rw[qsF]
 have h1:=qme (step:=qkO n) l (fun k=>(l,((k:Int),(c,())))) (fun m=>decide (20<m.2.2.2.2.length)) (.inr (true,())) (.inl (l,(c,()))) (fun rec k hk=>by
  rw[qmB]
  simp only[qy hk,cond_true,qr l hk,Option.bind_some,qj (show k<9223372036854775807 by omega)]
  rw[show iGt ((l[k].2.2.2.2.length:Nat):Int) 20=decide (20<l[k].2.2.2.2.length) by unfold iGt;congr 1;simp;omega]) (fun rec=>by
  rw[qmB]
  simp only[qB,cond_false]) (n:=n) hn
 show Option.bind (qb n _ (l,(((0:Nat):Int),(c,())))) _=_
 rw[h1]
 unfold farB
 cases l.any (fun m=>decide (20<m.2.2.2.2.length)) with
 | true=>rfl
 | false =>
  simp only[Option.bind_some,cond_false,Sum.elim_inl,Bool.false_or]
  rw[show iGt ((c.1.length:Nat):Int) 20=decide (20<c.1.length) by unfold iGt;congr 1;simp;omega,show iGt ((l.length:Nat):Int) 9=decide (9<l.length) by unfold iGt;congr 1;simp;omega,show iLe ((l.length:Nat):Int) 40=decide (l.length≤40) by unfold iLe;congr 1;simp;omega,show iGt ((l.length:Nat):Int) 60=decide (60<l.length) by unfold iGt;congr 1;simp;omega]
  cases decide (20<c.1.length)<;>cases decide (9<l.length)<;>cases decide (l.length≤40)<;>rfl
theorem qBW{c:Chn}{l:List Msg}(h:farB c l=false):(∀m,m∈l→m.2.2.2.2.length≤20)∧c.1.length≤20:=by
 unfold farB at h
 simp only[Bool.or_eq_false_iff,List.any_eq_false,decide_eq_true_eq,decide_eq_false_iff_not] at h
 exact ⟨fun m hm=>by have:=h.1 m hm;omega,by omega⟩
structure Vld (c:Chn) (l:List Msg):Prop where
 ch:qd2 c=true
 ms:∀m,m∈l→mesB c m=true
 ln:l.length≤40
 cl:qiR l=false
 st:∀m,m∈l→m.2.2.2.2.length≤20
 hu:c.1.length≤20
theorem qC5(n:Nat)(c:Chn)(x:Int)(hh:c.1.length≤9223372036854775807):qkM n ((c,()),(x,()))=some (wi x 0 (c.1.length-1),()):=by
 rw[qtX]
 simp only[qkX,qbc (n:=iSub (c.1.length:Int) 1) (by unfold iSub;omega) (by unfold iSub;omega),qA9]
theorem qzY(n:Nat)(c:Chn)(x:Int)(h1:-1000≤c.2)(h2:c.2≤1000):qjw n ((c,()),(x,()))=some (wi x 0 (c.2-1),()):=by
 rw[qsD]
 simp only[qkX,qbc (n:=iSub c.2 1) (by unfold iSub;omega) (by unfold iSub;omega),qA9]
theorem qEH(n:Nat)(c:Chn)(ss:List Stay)(hh:c.1.length≤100)(h1:-1000≤c.2)(h2:c.2≤1000)(hl:ss.length≤1000):∀(m k:Nat) (last:Int) (n':Nat),k+m=ss.length→m<n'→-1≤last→last≤1000 →
  qb n' (qkN n) (last,(ss,((ss.length:Int),((k:Int),((c,()),())))))=some (cond (qiQ c.1.length c.2 last (ss.drop k)) (.inl ()) (.inr (false,()))):=by
 intro m
 induction m with
 | zero =>
  intro k last n' hk hn hb hb2
  obtain ⟨n',rfl⟩:∃m,n'=m+1:=⟨n'-1,by omega⟩
  have:k=ss.length:=by omega
  subst this
  rw[qc,qmz,List.drop_length]
  simp only[qB,cond_false]
  rfl
 | succ m ih =>
  intro k last n' hk hn hb hb2
  obtain ⟨n',rfl⟩:∃m,n'=m+1:=⟨n'-1,by omega⟩
  have hlt:k<ss.length:=by omega
  rw[qc,qmz,List.drop_eq_getElem_cons hlt,qiQ]
  simp only[qy hlt,cond_true,qr ss hlt,Option.bind_some,qC5 n c _ (by omega),qkX,qzY n c _ h1 h2,qj (show k<9223372036854775807 by omega),qbc (n:=iAdd last 1) (by unfold iAdd;omega) (by unfold iAdd;omega)]
  cases hw:wi ss[k].1 0 ((c.1.length:Int)-1) with
  | false=>simp
  | true =>
   simp only[Bool.not_true,cond_false,Bool.true_and]
   by_cases h3:wi ss[k].2.1 (iAdd last 1) ss[k].2.2=true
   ·have h3':=qbO.1 h3
    unfold iAdd at h3'
    rw[h3]
    simp only[Bool.not_true,cond_false]
    by_cases h4:wi ss[k].2.2 0 (c.2-1)=true
    ·have h4':=qbO.1 h4
     rw[h4]
     simp only[Bool.not_true,cond_false]
     rw[show (decide (last<ss[k].2.1))=true from decide_eq_true (by omega),show (decide (ss[k].2.1≤ss[k].2.2))=true from decide_eq_true (by omega),show (decide (ss[k].2.2<c.2))=true from decide_eq_true (by omega)]
     simp only[Bool.true_and]
     exact ih (k+1) ss[k].2.2 n' (by omega) (by omega) (by omega) (by omega)
    ·have h4':¬ss[k].2.2<c.2:=fun h=>h4 (qbO.2 ⟨by omega,by omega⟩)
     rw[show wi ss[k].2.2 0 (c.2-1)=false by simpa using h4]
     simp[h4']
   ·have h3':¬(last<ss[k].2.1∧ss[k].2.1≤ss[k].2.2):=fun h=>h3 (qbO.2 ⟨by unfold iAdd;omega,h.2⟩)
    rw[show wi ss[k].2.1 (iAdd last 1) ss[k].2.2=false by simpa using h3]
    simp only[Bool.not_false,cond_true]
    by_cases h5:last<ss[k].2.1
    ·have h6:¬ss[k].2.1≤ss[k].2.2:=fun h=>h3' ⟨h5,h⟩
     simp[h6]
    ·simp[h5]
theorem qEI(n:Nat)(c:Chn)(ss:List Stay)(hh:c.1.length≤100)(h1:-1000≤c.2)(h2:c.2≤1000)(hl:ss.length≤1000)(hn:2000≤n):ql5 n ((c,()),(ss,()))=some (qiQ c.1.length c.2 (-1) ss,()):=by
 rw[qsE]
 have h3:=qEH n c ss hh h1 h2 hl ss.length 0 (-1) n (by omega) (by omega) (by omega) (by omega)
 show Option.bind (qb n _ (-1,(ss,((ss.length:Int),(((0:Nat):Int),((c,()),())))))) _=_
 rw[h3,List.drop_zero]
 cases qiQ c.1.length c.2 (-1) ss<;>rfl
theorem qBX(n:Nat)(c:Chn)(m:Msg)(hh:c.1.length≤100)(h1:-1000≤c.2)(h2:c.2≤1000)(hl:m.2.2.2.2.length≤1000)(hn:2000≤n):qid n ((c,()),(m,()))=some (mesB c m,()):=by
 rw[qmA]
 simp only[qkX,Option.bind_some,qEI n c _ hh h1 h2 hl hn,Int.ofNat_eq_natCast]
 unfold mesB canB reqB
 cases wi m.2.1 0 99 with
 | false=>rfl
 | true =>
  simp only[Bool.not_true,cond_false,Bool.true_and]
  by_cases e1:m.1=2
  ·rw[qbT e1]
   have e1':¬m.1=1:=by omega
   by_cases e2:m.2.2.1=0
   ·rw[qbT e2]
    by_cases e3:m.2.2.2.1=0
    ·rw[qbT e3]
     by_cases e4:m.2.2.2.2.length=0
     ·rw[qbT (by omega)];simp[e1,e2,e3,e4]
     ·rw[qfh (by omega)];simp[e1',e4]
    ·rw[qfh e3];simp[e1',e3]
   ·rw[qfh e2];simp[e1',e2]
  ·rw[qfh e1]
   by_cases e2:m.1=1
   ·rw[qbT e2]
    simp only[cond_false,cond_true,e1,decide_false,Bool.false_and,Bool.false_or,e2,decide_true,Bool.true_and]
    cases wi m.2.2.1 0 9999<;>cases wi m.2.2.2.1 1 20<;>cases wi (m.2.2.2.2.length:Int) 1 6<;>rfl
   ·rw[qfh e2];simp[e1,e2]
theorem qAB(n:Nat)(c:Chn)(m:Msg)(hh:c.1.length≤100)(h1:-1000≤c.2)(h2:c.2≤1000)(hn:2000≤n):qid n ((c,()),(m,()))=some (mesB c m,()):=by
 by_cases hl:m.2.2.2.2.length≤1000
 ·exact qBX n c m hh h1 h2 hl hn
 ·have hw:wi (m.2.2.2.2.length:Int) 1 6=false:=by unfold wi;simp;omega
  rw[qmA]
  simp only[qkX,Option.bind_some,Int.ofNat_eq_natCast,hw]
  unfold mesB canB reqB
  rw[hw,qfh (show (m.2.2.2.2.length:Int)≠0 by omega),decide_eq_false (show ¬m.2.2.2.2.length=0 by omega)]
  simp only[Bool.and_false,Bool.false_and,Bool.or_false]
  cases wi m.2.1 0 99<;>cases iEq m.1 2<;>cases iEq m.2.2.1 0<;>cases iEq m.2.2.2.1 0<;>cases iEq m.1 1<;>cases wi m.2.2.1 0 9999<;>cases wi m.2.2.2.1 1 20<;>rfl
theorem qGC(n:Nat)(h:Int×Int):qmG n (h,())=some (!hutB h,()):=by
 rw[qtu]
 simp only[qkX,Option.bind_some]
 unfold hutB
 cases wi h.1 0 20<;>cases wi h.2 0 20<;>rfl
theorem qyW(n:Nat)(hs:List (Int×Int))(hl:hs.length≤1000)(hn:2000≤n):qc0 n (hs,(((),()),()))=some (hs.any fun h=>!hutB h,()):=by
 rw[qiZ,qjM]
 have h1:=qeg (step:=qda n) hs (fun k=>(hs,(((),()),((hs.length:Int),((k:Int),()))))) (fun h=>!hutB h) (fun k=>.inr ((k:Int),())) (.inl ()) (fun rec k hk=>by
  rw[qeY]
  simp only[qy hk,cond_true,qr hs hk,Option.bind_some,qGC,qj (show k<9223372036854775807 by omega)]) (fun rec=>by
  rw[qeY]
  simp only[qB,cond_false]) (n:=n) (by omega)
 show Option.bind (Option.bind (qb n _ (hs,(((),()),((hs.length:Int),(((0:Nat):Int),()))))) _) _=_
 rcases h1 with ⟨h1,h2⟩ | ⟨k,hk,h1,_,h2⟩
 ·rw[h2,h1];rfl
 ·rw[h2,show (hs.any fun h=>!hutB h)=true from List.any_eq_true.2 ⟨_,List.getElem_mem hk,h1⟩]
  show some (iGe (k:Int) 0,())=_
  simp[iGe]
theorem qFu(n:Nat)(c:Chn)(hl:c.1.length≤1000)(hn:2000≤n):qoa n ((c,()),())=some (qd2 c,()):=by
 rw[quK]
 simp only[qkX,Option.bind_some,qyW n c.1 hl hn,Int.ofNat_eq_natCast]
 unfold qd2
 rw[show c.1.all hutB = !(c.1.any fun h=>!hutB h) by simp[List.all_eq_not_any_not]]
 cases wi (c.1.length:Int) 1 6<;>cases wi c.2 1 20<;>cases (c.1.any fun h=>!hutB h)<;>rfl
theorem qxb(n:Nat)(c:Chn)(l:List Msg)(hh:c.1.length≤100)(h1:-1000≤c.2)(h2:c.2≤1000)(hl:l.length≤1000)(hn:2000≤n) :
  ∃u,q9 n (l,((c,()),()))=some (l.any fun m=>!mesB c m,u):=by
 rw[qgF,qg9]
 have h3:=qeg (step:=qbZ n) l (fun k=>(l,((l.length:Int),((k:Int),((c,()),()))))) (fun m=>!mesB c m) (fun k=>.inr ((k:Int),((c,()),()))) (.inl ((c,()),())) (fun rec k hk=>by
  rw[qdc]
  simp only[qy hk,cond_true,qr l hk,Option.bind_some,qpv,qAB n c l[k] hh h1 h2 hn,qj (show k<9223372036854775807 by omega)]) (fun rec=>by
  rw[qdc]
  simp only[qB,cond_false]) (n:=n) (by omega)
 show ∃u,Option.bind (Option.bind (qb n _ (l,((l.length:Int),(((0:Nat):Int),((c,()),()))))) _) _=_
 rcases h3 with ⟨h4,h5⟩ | ⟨k,hk,h4,_,h5⟩
 ·rw[h5,h4];exact ⟨_,rfl⟩
 ·rw[h5,show (l.any fun m=>!mesB c m)=true from List.any_eq_true.2 ⟨_,List.getElem_mem hk,h4⟩]
  refine ⟨((c,()),()),?_⟩
  show some (iGe (k:Int) 0,((c,()),()))=_
  simp[iGe]
theorem qsK(n:Nat)(c:Chn)(l:List Msg)(hh:c.1.length≤100)(h1:-1000≤c.2)(h2:c.2≤1000)(hl:l.length≤1000)(hs:∀m,m∈l→m.2.2.2.2.length≤1000)(hn:2000≤n) :
  ∃u,q9 n (l,((c,()),()))=some (l.any fun m=>!mesB c m,u):=qxb n c l hh h1 h2 hl hn
def cmpI(x y:Int):Int:=if x<y then -1 else if x>y then 1 else 0
theorem qyA{x y:Int}:cmpI x y=0↔x=y:=by
 unfold cmpI
 split
 ·constructor
  ·intro h;omega
  ·intro h;omega
 ·split
  ·constructor
   ·intro h;omega
   ·intro h;omega
  ·constructor
   ·intro _;omega
   ·intro _;rfl
theorem qzZ(n:Nat)(x:Int):qhE n (x,())=some (false,()):=by rw[quI];simp only[qc2 rfl]
theorem qsL(n:Nat)(x y:Int):qbP n (x,(y,()))=some (cmpI x y,()):=by
 rw[qts]
 simp only[qzZ,Option.bind_some,cond_false]
 unfold cmpI
 show cond (decide (x<y)) _ (cond (decide (x>y)) _ _)=_
 by_cases h:x<y
 ·simp[h]
 ·by_cases h2:x>y
  ·simp[h,h2]
  ·simp[h,h2]
theorem qFS(n:Nat)(x y:Int):qo1 n (x,(y,()))=some (decide (x<y),()):=by
 rw[qvr]
 simp only[qzZ,Option.bind_some,cond_false]
def orI:List Int→Int
 | []=>0
 | x::l=>if x=0 then orI l else x
theorem qwf:∀{l:List Int},orI l=0↔∀x,x∈l→x=0
 | []=>by simp[orI]
 | x::l=>by
  unfold orI
  split
  ·rename_i h
   rw[qwf]
   simp[h]
  ·rename_i h
   simp[h]
theorem qz0:∀(l:List Int) (k:Nat),qj9 (ξ:=(Int×Unit)⊕(Int×Unit)) (fun _ (_:Unit) (x:Int)=>some (cond (iNe x 0) (.inr (.inr (x,()))) (.inl ()))) (fun _=>some (.inl (0,()))) l k ()=if orI l=0 then some (.inl (0,())) else some (.inr (orI l,()))
 | [],_=>rfl
 | x::l,k=>by
  rw[qj9,orI]
  by_cases h:x=0
  ·rw[qc2 h,if_pos h]
   exact qz0 l _
  ·rw[qkb h,if_neg h,if_neg h]
   rfl
theorem qBY(n:Nat)(l:List Int)(hl:l.length≤1000)(hn:2000≤n):ql6 n (l,())=some (orI l,()):=by
 rw[qw7]
 have h1:=qrG (step:=qo2 n) l (fun k (_:Unit)=>((0:Int),(l,((l.length:Int),((k:Int),()))))) (fun _ _ x=>some (cond (iNe x 0) (.inr (.inr (x,()))) (.inl ()))) (fun _=>some (.inl (0,()))) (fun rec k _ hk=>by
  rw[qpX]
  simp only[qy hk,cond_true,qr l hk,Option.bind_some,qj (show k<9223372036854775807 by omega)]
  cases iNe l[k] 0<;>rfl) (fun rec _=>by
  rw[qpX]
  simp only[qB,cond_false]) (n:=n) () (by omega)
 show Option.bind (qb n _ ((0:Int),(l,((l.length:Int),(((0:Nat):Int),()))))) _=_
 rw[h1,qz0]
 by_cases h:orI l=0
 ·simp[h]
 ·simp[h]
def cmpS(x y:Stay):Int:=orI [cmpI x.1 y.1,cmpI x.2.1 y.2.1,cmpI x.2.2 y.2.2]
theorem qFT(n:Nat)(x y:Stay)(hn:2000≤n):qnc n (x,(y,()))=some (cmpS x y,()):=by
 rw[qtY]
 simp only[qsL,Option.bind_some,qBY n [cmpI x.1 y.1,cmpI x.2.1 y.2.1,cmpI x.2.2 y.2.2] (by simp) hn]
 rfl
theorem qyB{x y:Stay}:cmpS x y=0↔x=y:=by
 unfold cmpS
 rw[qwf]
 simp only[List.mem_cons,List.not_mem_nil,or_false,forall_eq_or_imp,forall_eq,qyA]
 obtain ⟨a,b,c⟩:=x
 obtain ⟨d,e,f⟩:=y
 simp
def cmpL:List Stay→List Stay→Int
 | [],[]=>0
 | [],_::_=>-1
 | _::_,[]=>1
 | x::a,y::b=>if cmpS x y=0 then cmpL a b else cmpS x y
theorem qyC:∀{a b:List Stay},cmpL a b=0↔a=b
 | [],[]=>by simp[cmpL]
 | [],_::_=>by simp[cmpL]
 | _::_,[]=>by simp[cmpL]
 | x::a,y::b=>by
  unfold cmpL
  split
  ·rename_i h
   rw[qyC,qyB.1 h]
   simp
  ·rename_i h
   have:x≠y:=fun e=>h (qyB.2 e)
   simp[h,this]
theorem qFU(n:Nat)(a b:List Stay)(ha:a.length≤1000)(hn:2000≤n):∀(m k:Nat) (n':Nat),k+m=a.length→k≤b.length→m<n' →
  (Option.bind (qb n' (qcS n) (a,(b,(((),()),(a,((a.length:Int),((k:Int),()))))))) fun y=>(Sum.elim (fun a=>(cond (iLt (((List.length a.1):Nat):Int) (((List.length a.2.1):Nat):Int)) (some ((Int.negSucc (0:Nat)),())) (some ((0:Int),())))) (fun b=>(some b)) y))=some (cmpL (a.drop k) (b.drop k),()):=by
 intro m
 induction m with
 | zero =>
  intro k n' hk hb hn'
  obtain ⟨n',rfl⟩:∃m,n'=m+1:=⟨n'-1,by omega⟩
  have:k=a.length:=by omega
  subst this
  rw[qc,qeM,List.drop_length]
  simp only[qB,cond_false,Option.bind_some,Sum.elim_inl]
  rcases Nat.lt_or_ge a.length b.length with h | h
  ·rw[qy h,List.drop_eq_getElem_cons h]
   rfl
  ·rw[show iLt (a.length:Int) (b.length:Int)=false by simp[iLt];omega,List.drop_eq_nil_of_le h]
   rfl
 | succ m ih =>
  intro k n' hk hb hn'
  obtain ⟨n',rfl⟩:∃m,n'=m+1:=⟨n'-1,by omega⟩
  have hlt:k<a.length:=by omega
  rw[qc,qeM,List.drop_eq_getElem_cons hlt]
  simp only[qy hlt,cond_true,qr a hlt,Option.bind_some]
  rcases Nat.lt_or_ge k b.length with h | h
  ·rw[show iGe (k:Int) (b.length:Int)=false by simp[iGe];omega,List.drop_eq_getElem_cons h,cmpL]
   simp only[cond_false,qr b h,Option.bind_some,qFT n _ _ hn,qj (show k<9223372036854775807 by omega)]
   by_cases h0:cmpS a[k] b[k]=0
   ·rw[qc2 h0,if_pos h0]
    exact ih (k+1) n' (by omega) (by omega) (by omega)
   ·rw[qkb h0,if_neg h0]
    rfl
  ·rw[show iGe (k:Int) (b.length:Int)=true by simp[iGe];omega,List.drop_eq_nil_of_le h]
   rfl
theorem qFV(n:Nat)(a b:List Stay)(ha:a.length≤1000)(hn:2000≤n):qc9 n (a,(b,(((),()),())))=some (cmpL a b,()):=by
 rw[qjc]
 have:=qFU n a b ha hn a.length 0 n (by omega) (by omega) (by omega)
 rw[List.drop_zero,List.drop_zero] at this
 exact this
def cmpM(x y:Msg):Int:=orI [cmpI x.2.1 y.2.1,cmpI x.1 y.1,cmpI x.2.2.1 y.2.2.1,cmpI x.2.2.2.1 y.2.2.2.1,cmpL x.2.2.2.2 y.2.2.2.2]
theorem qBb(n:Nat)(x y:Msg)(hx:x.2.2.2.2.length≤1000)(hn:2000≤n):qmq n (x,(y,()))=some (cmpM x y,()):=by
 rw[qvu]
 simp only[qsL,Option.bind_some,qFV n _ _ hx hn,qBY n [cmpI x.2.1 y.2.1,cmpI x.1 y.1,cmpI x.2.2.1 y.2.2.1,cmpI x.2.2.2.1 y.2.2.2.1,cmpL x.2.2.2.2 y.2.2.2.2] (by simp) hn]
 rfl
theorem qyD{x y:Msg}:cmpM x y=0↔x=y:=by
 unfold cmpM
 rw[qwf]
 simp only[List.mem_cons,List.not_mem_nil,or_false,forall_eq_or_imp,forall_eq,qyA,qyC]
 obtain ⟨a,b,c,d,e⟩:=x
 obtain ⟨a',b',c',d',e'⟩:=y
 simp only[Prod.mk.injEq]
 constructor
 ·rintro ⟨h1,h2,h3⟩;exact ⟨h2,h1,h3⟩
 ·rintro ⟨h1,h2,h3⟩;exact ⟨h2,h1,h3⟩
def cmpQ(x y:Msg):Int:=orI [cmpI x.2.2.1 y.2.2.1,cmpI x.2.1 y.2.1]
theorem qFW(n:Nat)(x y:Msg)(hn:2000≤n):qo3 n (x,(y,()))=some (cmpQ x y,()):=by
 rw[qvt]
 simp only[qsL,Option.bind_some,qBY n [cmpI x.2.2.1 y.2.2.1,cmpI x.2.1 y.2.1] (by simp) hn]
 rfl
theorem app0{α:Type}(A:List α)(y x:α)(m:List α):(A++y::x::m)[A.length]?=some y:=by simp
theorem app1{α:Type}(A:List α)(y x:α)(m:List α):(A++y::x::m)[A.length+1]?=some x:=by simp
theorem set1{α:Type}(A:List α)(y x z:α)(m:List α):(A++y::x::m).set (A.length+1) z=A++y::z::m:=by simp
theorem set0{α:Type}(A:List α)(y x z:α)(m:List α):(A++y::x::m).set A.length z=A++z::x::m:=by simp
theorem qmt{k:Nat}(h:k<9223372036854775807):iW (iSub ((k+1:Nat):Int) 1)=(k:Int):=by
 rw[qbc (by unfold iSub;omega) (by unfold iSub;omega)];unfold iSub;omega
theorem qwg(n:Nat):∀k:Nat,k≤12→∃r,qba n ((IntKind.wrap .u64 (k:Int)),())=some r:=by
 intro k hk
 match k,hk with
 | 0,_=>exact ⟨_,(by kernel_rfl:qba n ((IntKind.wrap .u64 ((0:Nat):Int)),())=some (0,()))⟩
 | 1,_=>exact ⟨_,(by kernel_rfl:qba n ((IntKind.wrap .u64 ((1:Nat):Int)),())=some (1,()))⟩
 | 2,_=>exact ⟨_,(by kernel_rfl:qba n ((IntKind.wrap .u64 ((2:Nat):Int)),())=some (2,()))⟩
 | 3,_=>exact ⟨_,(by kernel_rfl:qba n ((IntKind.wrap .u64 ((3:Nat):Int)),())=some (2,()))⟩
 | 4,_=>exact ⟨_,(by kernel_rfl:qba n ((IntKind.wrap .u64 ((4:Nat):Int)),())=some (3,()))⟩
 | 5,_=>exact ⟨_,(by kernel_rfl:qba n ((IntKind.wrap .u64 ((5:Nat):Int)),())=some (3,()))⟩
 | 6,_=>exact ⟨_,(by kernel_rfl:qba n ((IntKind.wrap .u64 ((6:Nat):Int)),())=some (3,()))⟩
 | 7,_=>exact ⟨_,(by kernel_rfl:qba n ((IntKind.wrap .u64 ((7:Nat):Int)),())=some (3,()))⟩
 | 8,_=>exact ⟨_,(by kernel_rfl:qba n ((IntKind.wrap .u64 ((8:Nat):Int)),())=some (4,()))⟩
 | 9,_=>exact ⟨_,(by kernel_rfl:qba n ((IntKind.wrap .u64 ((9:Nat):Int)),())=some (4,()))⟩
 | 10,_=>exact ⟨_,(by kernel_rfl:qba n ((IntKind.wrap .u64 ((10:Nat):Int)),())=some (4,()))⟩
 | 11,_=>exact ⟨_,(by kernel_rfl:qba n ((IntKind.wrap .u64 ((11:Nat):Int)),())=some (4,()))⟩
 | 12,_=>exact ⟨_,(by kernel_rfl:qba n ((IntKind.wrap .u64 ((12:Nat):Int)),())=some (4,()))⟩
theorem qqV{k:Nat}:iGt ((k+1:Nat):Int) 0=true:=by unfold iGt;exact decide_eq_true (by omega)
theorem qkY{k:Nat}:Int.toNat (k:Int)=k:=by simp
theorem w12{k:Nat}(h:k≤12):iLe (iW (iSub (k:Int) 0)) 12=true:=by
 rw[qbc (by unfold iSub;omega) (by unfold iSub;omega)];unfold iLe iSub;exact decide_eq_true (by omega)
theorem qHm(n N i:Nat)(x:Msg)(hx:x.2.2.2.2.length≤1000)(hN:N≤1000)(hn:2000≤n)(r m:List Msg)(hr:r.length≤N):qb n (q8 n) ((0:Int),((N:Int),(((),()),((i:Int),((r.length:Int),((r.reverse++x::m),()))))))=some ((0:Int),((N:Int),(((),()),((i:Int),(((insL (fun x y=>decide (cmpM x y<0)) x r).reverse++m),()))))):=by
 exact qve (step:=q8 n) (fun x y=>decide (cmpM x y<0)) (fun j d=>((0:Int),((N:Int),(((),()),((i:Int),((j:Int),(d,()))))))) (fun d=>some ((0:Int),((N:Int),(((),()),((i:Int),(d,())))))) x N (fun rec A y m hA=>by
  rw[qcZ]
  have hj:A.length<9223372036854775807:=by omega
  simp only[qqV,cond_true,qis,app0,app1,Option.bind_some,qmt hj,qkY,qBb n _ _ hx hn,set1,set0]) (fun rec d=>by
  rw[qcZ]
  rfl) r m n hr (by omega)
theorem qGD(n:Nat)(l:List Msg)(hs:∀x,x∈l→x.2.2.2.2.length≤1000)(hl:l.length≤1000)(hn:2000≤n):qbY n ((0:Int),((l.length:Int),(((),()),(l,()))))=some (qka (fun x y=>decide (cmpM x y<0)) l,()):=by
 rw[qgP]
 cases l with
 | nil =>
  obtain ⟨n',rfl⟩:∃m,n=m+1:=⟨n-1,by omega⟩
  rw[qc,qby]
  rfl
 | cons a l =>
  obtain ⟨N,hN⟩:∃N,N=(a::l).length:=⟨_,rfl⟩
  have hl':l.length+1=N:=by rw[hN];rfl
  have h1:∀rec (r:List Msg) x m,(x∈a::l)→r.length+1+m.length=N→qA n rec ((0:Int),((N:Int),(((),()),((r.length:Int),((r.reverse++x::m),())))))=rec ((0:Int),((N:Int),(((),()),(((r.length+1:Nat):Int),(((insL (fun x y=>decide (cmpM x y<0)) x r).reverse++m),()))))):=fun rec r x m hx hm=>by
   rw[qby]
   simp only[qy (show r.length<N by omega),cond_true,qHm n N r.length x (hs x hx) (by omega) hn r m (by omega),Option.bind_some,qj (show r.length<9223372036854775807 by omega)]
  have h0:∀rec (d:List Msg),qA n rec ((0:Int),((N:Int),(((),()),((N:Int),(d,())))))=some (d,()):=fun rec d=>by
   rw[qby]
   simp only[qB,cond_false]
  have go:∀(l2 r:List Msg) (n':Nat),(∀x,x∈l2→x∈a::l)→r.length+l2.length=N→l2.length<n'→qb n' (qA n) ((0:Int),((N:Int),(((),()),((r.length:Int),((r.reverse++l2),())))))=some ((qh4 (fun x y=>decide (cmpM x y<0)) r l2).reverse,()):=by
   intro l2
   induction l2 with
   | nil =>
    intro r n' _ hr hn'
    obtain ⟨n',rfl⟩:∃m,n'=m+1:=⟨n'-1,by omega⟩
    have hr':r.length=N:=by simpa using hr
    rw[qc,List.append_nil,hr',h0]
    rfl
   | cons x l2 ih =>
    intro r n' hm hr hn'
    obtain ⟨n',rfl⟩:∃m,n'=m+1:=⟨n'-1,by omega⟩
    simp only[List.length_cons] at hr hn'
    rw[qc,h1 _ r x l2 (hm x (by simp)) (by omega),qh4]
    have:=ih (insL (fun x y=>decide (cmpM x y<0)) x r) n' (fun z hz=>hm z (by simp[hz])) (by rw[qnh];omega) (by omega)
    rw[qnh] at this
    exact this
  have h3:=go l [a] n (fun z hz=>by simp[hz]) (by simp;omega) (by omega)
  rw[← hN]
  have e1:iW (iAdd (0:Int) 1)=((1:Nat):Int):=qj (k:=0) (by omega)
  simp only[e1]
  have e2:(qh4 (fun x y=>decide (cmpM x y<0)) [a] l).reverse=qka (fun x y=>decide (cmpM x y<0)) (a::l):=rfl
  rw[e2] at h3
  show Option.bind (qb n (qA n) ((0:Int),((N:Int),(((),()),(((([a]:List Msg).length:Nat):Int),((([a]:List Msg).reverse++l),())))))) _=_
  rw[h3]
  rfl
theorem qFX(n:Nat)(l:List Msg)(hs:∀x,x∈l→x.2.2.2.2.length≤1000)(hl:l.length≤12)(hn:2000≤n):qdr n (((),()),(l,()))=some (qka (fun x y=>decide (cmpM x y<0)) l,()):=by
 rw[qjz,qmb]
 obtain ⟨rr,hrr⟩:=qwg n l.length hl
 simp only[hrr,Option.bind_some]
 rw[qh1]
 obtain ⟨n',rfl⟩:∃m,n=m+1:=⟨n-1,by omega⟩
 rw[qht,qhS,qc,qhs]
 simp only[w12 hl,cond_true,qGD (n'+1) l hs (by omega) hn,Option.bind_some]
theorem qHn(n N i:Nat)(x:Msg)(hN:N≤1000)(hn:2000≤n)(r m:List Msg)(hr:r.length≤N):qb n (q7 n) ((0:Int),((N:Int),(((),()),((i:Int),((r.length:Int),((r.reverse++x::m),()))))))=some ((0:Int),((N:Int),(((),()),((i:Int),(((insL (fun x y=>decide (cmpQ x y<0)) x r).reverse++m),()))))):=by
 exact qve (step:=q7 n) (fun x y=>decide (cmpQ x y<0)) (fun j d=>((0:Int),((N:Int),(((),()),((i:Int),((j:Int),(d,()))))))) (fun d=>some ((0:Int),((N:Int),(((),()),((i:Int),(d,())))))) x N (fun rec A y m hA=>by
  rw[qcY]
  have hj:A.length<9223372036854775807:=by omega
  simp only[qqV,cond_true,qis,app0,app1,Option.bind_some,qmt hj,qkY,qFW n _ _ hn,set1,set0]) (fun rec d=>by
  rw[qcY]
  rfl) r m n hr (by omega)
theorem qGE(n:Nat)(l:List Msg)(hl:l.length≤1000)(hn:2000≤n):qbX n ((0:Int),((l.length:Int),(((),()),(l,()))))=some (qka (fun x y=>decide (cmpQ x y<0)) l,()):=by
 rw[qgO]
 cases l with
 | nil =>
  obtain ⟨n',rfl⟩:∃m,n=m+1:=⟨n-1,by omega⟩
  rw[qc,qbx]
  rfl
 | cons a l =>
  obtain ⟨N,hN⟩:∃N,N=(a::l).length:=⟨_,rfl⟩
  have hl':l.length+1=N:=by rw[hN];rfl
  have h1:∀rec (r:List Msg) x m,r.length+1+m.length=N→qz n rec ((0:Int),((N:Int),(((),()),((r.length:Int),((r.reverse++x::m),())))))=rec ((0:Int),((N:Int),(((),()),(((r.length+1:Nat):Int),(((insL (fun x y=>decide (cmpQ x y<0)) x r).reverse++m),()))))):=fun rec r x m hm=>by
   rw[qbx]
   simp only[qy (show r.length<N by omega),cond_true,qHn n N r.length x (by omega) hn r m (by omega),Option.bind_some,qj (show r.length<9223372036854775807 by omega)]
  have h0:∀rec (d:List Msg),qz n rec ((0:Int),((N:Int),(((),()),((N:Int),(d,())))))=some (d,()):=fun rec d=>by
   rw[qbx]
   simp only[qB,cond_false]
  have go:∀(l2 r:List Msg) (n':Nat),r.length+l2.length=N→l2.length<n'→qb n' (qz n) ((0:Int),((N:Int),(((),()),((r.length:Int),((r.reverse++l2),())))))=some ((qh4 (fun x y=>decide (cmpQ x y<0)) r l2).reverse,()):=by
   intro l2
   induction l2 with
   | nil =>
    intro r n' hr hn'
    obtain ⟨n',rfl⟩:∃m,n'=m+1:=⟨n'-1,by omega⟩
    have hr':r.length=N:=by simpa using hr
    rw[qc,List.append_nil,hr',h0]
    rfl
   | cons x l2 ih =>
    intro r n' hr hn'
    obtain ⟨n',rfl⟩:∃m,n'=m+1:=⟨n'-1,by omega⟩
    simp only[List.length_cons] at hr hn'
    rw[qc,h1 _ r x l2 (by omega),qh4]
    have:=ih (insL (fun x y=>decide (cmpQ x y<0)) x r) n' (by rw[qnh];omega) (by omega)
    rw[qnh] at this
    exact this
  have h3:=go l [a] n (by simp;omega) (by omega)
  rw[← hN]
  have e1:iW (iAdd (0:Int) 1)=((1:Nat):Int):=qj (k:=0) (by omega)
  simp only[e1]
  have e2:(qh4 (fun x y=>decide (cmpQ x y<0)) [a] l).reverse=qka (fun x y=>decide (cmpQ x y<0)) (a::l):=rfl
  rw[e2] at h3
  show Option.bind (qb n (qz n) ((0:Int),((N:Int),(((),()),(((([a]:List Msg).length:Nat):Int),((([a]:List Msg).reverse++l),())))))) _=_
  rw[h3]
  rfl
theorem qFY(n:Nat)(l:List Msg)(hl:l.length≤12)(hn:2000≤n):qb9 n (((),()),(l,()))=some (qka (fun x y=>decide (cmpQ x y<0)) l,()):=by
 rw[qjA,qmb]
 obtain ⟨rr,hrr⟩:=qwg n l.length hl
 simp only[hrr,Option.bind_some]
 rw[qh2]
 obtain ⟨n',rfl⟩:∃m,n=m+1:=⟨n-1,by omega⟩
 rw[qhv,qhT,qc,qhu]
 simp only[w12 hl,cond_true,qGE (n'+1) l (by omega) hn,Option.bind_some]
theorem qHo(n N i:Nat)(x:Int)(hN:N≤1000)(hn:2000≤n)(r m:List Int)(hr:r.length≤N):qb n (qcR n) ((0:Int),((N:Int),((i:Int),((r.length:Int),((r.reverse++x::m),())))))=some ((0:Int),((N:Int),((i:Int),(((insL (fun x y=>decide (x<y)) x r).reverse++m),())))):=by
 exact qve (step:=qcR n) (fun x y=>decide (x<y)) (fun j d=>((0:Int),((N:Int),((i:Int),((j:Int),(d,())))))) (fun d=>some ((0:Int),((N:Int),((i:Int),(d,()))))) x N (fun rec A y m hA=>by
  rw[qgy]
  have hj:A.length<9223372036854775807:=by omega
  simp only[qqV,cond_true,qis,app0,app1,Option.bind_some,qmt hj,qkY,qFS,set1,set0]) (fun rec d=>by
  rw[qgy]
  rfl) r m n hr (by omega)
theorem qGF(n:Nat)(l:List Int)(hl:l.length≤1000)(hn:2000≤n):qe4 n ((0:Int),((l.length:Int),(l,())))=some (qka (fun x y=>decide (x<y)) l,()):=by
 rw[qlO]
 cases l with
 | nil =>
  obtain ⟨n',rfl⟩:∃m,n=m+1:=⟨n-1,by omega⟩
  rw[qc,qdZ]
  rfl
 | cons a l =>
  obtain ⟨N,hN⟩:∃N,N=(a::l).length:=⟨_,rfl⟩
  have hl':l.length+1=N:=by rw[hN];rfl
  have h1:∀rec (r:List Int) x m,r.length+1+m.length=N→qbk n rec ((0:Int),((N:Int),((r.length:Int),((r.reverse++x::m),()))))=rec ((0:Int),((N:Int),(((r.length+1:Nat):Int),(((insL (fun x y=>decide (x<y)) x r).reverse++m),())))):=fun rec r x m hm=>by
   rw[qdZ]
   simp only[qy (show r.length<N by omega),cond_true,qHo n N r.length x (by omega) hn r m (by omega),Option.bind_some,qj (show r.length<9223372036854775807 by omega)]
  have h0:∀rec (d:List Int),qbk n rec ((0:Int),((N:Int),((N:Int),(d,()))))=some (d,()):=fun rec d=>by
   rw[qdZ]
   simp only[qB,cond_false]
  have go:∀(l2 r:List Int) (n':Nat),r.length+l2.length=N→l2.length<n'→qb n' (qbk n) ((0:Int),((N:Int),((r.length:Int),((r.reverse++l2),()))))=some ((qh4 (fun x y=>decide (x<y)) r l2).reverse,()):=by
   intro l2
   induction l2 with
   | nil =>
    intro r n' hr hn'
    obtain ⟨n',rfl⟩:∃m,n'=m+1:=⟨n'-1,by omega⟩
    have hr':r.length=N:=by simpa using hr
    rw[qc,List.append_nil,hr',h0]
    rfl
   | cons x l2 ih =>
    intro r n' hr hn'
    obtain ⟨n',rfl⟩:∃m,n'=m+1:=⟨n'-1,by omega⟩
    simp only[List.length_cons] at hr hn'
    rw[qc,h1 _ r x l2 (by omega),qh4]
    have:=ih (insL (fun x y=>decide (x<y)) x r) n' (by rw[qnh];omega) (by omega)
    rw[qnh] at this
    exact this
  have h3:=go l [a] n (by simp;omega) (by omega)
  rw[← hN]
  have e1:iW (iAdd (0:Int) 1)=((1:Nat):Int):=qj (k:=0) (by omega)
  simp only[e1]
  have e2:(qh4 (fun x y=>decide (x<y)) [a] l).reverse=qka (fun x y=>decide (x<y)) (a::l):=rfl
  rw[e2] at h3
  show Option.bind (qb n (qbk n) ((0:Int),((N:Int),(((([a]:List Int).length:Nat):Int),((([a]:List Int).reverse++l),()))))) _=_
  rw[h3]
  rfl
theorem qFZ(n:Nat)(l:List Int)(hl:l.length≤12)(hn:2000≤n):ql8 n (l,())=some (qka (fun x y=>decide (x<y)) l,()):=by
 rw[qsG,qmb]
 obtain ⟨rr,hrr⟩:=qwg n l.length hl
 simp only[hrr,Option.bind_some]
 rw[qnG]
 obtain ⟨n',rfl⟩:∃m,n=m+1:=⟨n-1,by omega⟩
 rw[qmT,qnd,qc,qmS]
 simp only[w12 hl,cond_true,qGF (n'+1) l (by omega) hn,Option.bind_some]
end Go.Proofs.YtlmicgmhallkkaaGreatDoor
