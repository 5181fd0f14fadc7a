/- Texts Dp0, Dp1, Dp2, Dp3, Dp4, Dp5 in one. -/
import Derived.Test.YtlmicgmhallkkaaGreatDoorQa
/- Plain: loops over lists. Nothing here speaks of the program. -/
set_option linter.constructorNameAsVariable false
set_option linter.unusedSimpArgs false
set_option linter.unusedVariables false
set_option linter.unusedSectionVars false
namespace Go.Proofs.YtlmicgmhallkkaaGreatDoor
open Go Go.Proofs Go.RowKit
theorem qbd{n:Int}(h:-9223372036854775808≤n)(h':n≤9223372036854775807):iW n=n:=qGu h h'
theorem qj{k:Nat}(h:k<9223372036854775807):iW (iAdd (k:Int) 1)=((k+1:Nat):Int):=by
 rw[qbd (by unfold iAdd;omega) (by unfold iAdd;omega)];unfold iAdd;omega
theorem qe4{α:Type}(l:List α)(k:Nat):lat l (k:Int)=l[k]?:=by unfold lat;simp
theorem qK{α:Type}(l:List α){k:Nat}(h:k<l.length):lat l (k:Int)=some l[k]:=by rw[qe4,List.getElem?_eq_getElem h]
theorem qxi{α:Type}(x:α)(l:List α):lat (x::l) 0=some x:=rfl
theorem qy{a b:Nat}(h:a<b):iLt (a:Int) (b:Int)=true:=by simp[iLt];exact h
theorem qC{a:Nat}:iLt (a:Int) (a:Int)=false:=by simp[iLt]
theorem qCb{α:Type}(o:Option α):(o.bind fun y=>some y)=o:=by cases o<;>rfl
theorem qe{σ ξ:Type}(n:Nat)(step:(σ→Option ξ)→σ→Option ξ)(s:σ):qb (n+1) step s=step (qb n step) s:=rfl
def qj1{α β ξ:Type}(f:Nat→β→α→Option (β⊕ξ))(fin:β→Option ξ):List α→Nat→β→Option ξ
 | [],_,b=>fin b
 | x::l,k,b=>(f k b x).bind (Sum.elim (fun b'=>qj1 f fin l (k+1) b') some)
theorem qsQ{σ ξ α β:Type}{step:(σ→Option ξ)→σ→Option ξ}(l:List α)(mk:Nat→β→σ)(f:Nat→β→α→Option (β⊕ξ))(fin:β→Option ξ)
  (h:∀rec k b (hk:k<l.length),step rec (mk k b)=(f k b l[k]).bind (Sum.elim (fun b'=>rec (mk (k+1) b')) some))
  (h0:∀rec b,step rec (mk l.length b)=fin b) {n:Nat} (b:β) (hn:l.length<n):qb n step (mk 0 b)=qj1 f fin l 0 b:=by
 have go:∀(m:Nat) (k:Nat) (b:β) (n:Nat),k+m=l.length→m<n→qb n step (mk k b)=qj1 f fin (l.drop k) k b:=by
  intro m
  induction m with
  | zero =>
   intro k b n hk hn
   obtain ⟨n,rfl⟩:∃m,n=m+1:=⟨n-1,by omega⟩
   have:k=l.length:=by omega
   subst this
   rw[List.drop_length]
   exact h0 _ _
  | succ m ih =>
   intro k b n hk hn
   obtain ⟨n,rfl⟩:∃m,n=m+1:=⟨n-1,by omega⟩
   have hlt:k<l.length:=by omega
   rw[List.drop_eq_getElem_cons hlt]
   show step (qb n step) (mk k b)=_
   rw[h _ _ _ hlt,qj1]
   congr 1
   funext r
   cases r with
   | inl b'=>exact ih (k+1) b' n (by omega) (by omega)
   | inr r=>rfl
 have:=go l.length 0 b n (by omega) hn
 simpa using this
theorem qkG{σ ξ α:Type}{step:(σ→Option ξ)→σ→Option ξ}(l:List α)(mk:Nat→σ)(p:α→Bool)(hit:ξ)(miss:ξ)
  (h:∀rec k (hk:k<l.length),step rec (mk k)=cond (p l[k]) (some hit) (rec (mk (k+1))))
  (h0:∀rec,step rec (mk l.length)=some miss) {n:Nat} (hn:l.length<n):qb n step (mk 0)=some (cond (l.any p) hit miss):=by
 have h1:=qsQ (β:=Unit) l (fun k _=>mk k) (fun _ _ x=>some (cond (p x) (.inr hit) (.inl ()))) (fun _=>some miss) (fun rec k b hk=>by rw[h rec k hk];cases p l[k]<;>rfl) (fun rec b=>h0 rec) () hn
 rw[h1]
 have:∀(l:List α) (k:Nat),qj1 (fun _ (_:Unit) x=>some (cond (p x) (.inr hit) (.inl ()))) (fun _=>some miss) l k ()=some (cond (l.any p) hit miss):=by
  intro l
  induction l with
  | nil=>intro k;rfl
  | cons x l ih =>
   intro k
   rw[qj1,List.any_cons]
   cases p x with
   | true=>rfl
   | false=>exact ih _
 exact this l 0
theorem qon{σ ξ α:Type}{step:(σ→Option ξ)→σ→Option ξ}(l:List α)(mk:Nat→σ)(p:α→Bool)(good:ξ)(bad:ξ)
  (h:∀rec k (hk:k<l.length),step rec (mk k)=cond (p l[k]) (rec (mk (k+1))) (some bad))
  (h0:∀rec,step rec (mk l.length)=some good) {n:Nat} (hn:l.length<n):qb n step (mk 0)=some (cond (l.all p) good bad):=by
 rw[qkG l mk (fun x=>!p x) bad good (fun rec k hk=>by rw[h rec k hk];cases p l[k]<;>rfl) h0 hn]
 rw[show l.any (fun x=>!p x) = !l.all p by simp[List.all_eq_not_any_not]]
 cases l.all p<;>rfl
theorem qdL{σ ξ α:Type}{step:(σ→Option ξ)→σ→Option ξ}(l:List α)(mk:Nat→σ)(p:α→Bool)(hit:Nat→ξ)(miss:ξ)
  (h:∀rec k (hk:k<l.length),step rec (mk k)=cond (p l[k]) (some (hit k)) (rec (mk (k+1))))
  (h0:∀rec,step rec (mk l.length)=some miss) {n:Nat} (hn:l.length<n) :
  (l.any p=false∧qb n step (mk 0)=some miss)∨(∃k,∃hk:k<l.length,p l[k]=true∧(l.take k).any p=false∧qb n step (mk 0)=some (hit k)):=by
 have h1:=qsQ (β:=Unit) l (fun k _=>mk k) (fun k _ x=>some (cond (p x) (.inr (hit k)) (.inl ()))) (fun _=>some miss) (fun rec k b hk=>by rw[h rec k hk];cases p l[k]<;>rfl) (fun rec b=>h0 rec) () hn
 rw[h1]
 have:∀(l:List α) (j:Nat),(l.any p=false∧qj1 (fun k (_:Unit) x=>some (cond (p x) (.inr (hit k)) (.inl ()))) (fun _=>some miss) l j ()=some miss)∨(∃k,∃hk:k<l.length,p l[k]=true∧(l.take k).any p=false∧qj1 (fun k (_:Unit) x=>some (cond (p x) (.inr (hit k)) (.inl ()))) (fun _=>some miss) l j ()=some (hit (j+k))):=by
  intro l
  induction l with
  | nil=>intro j;exact .inl ⟨rfl,rfl⟩
  | cons x l ih =>
   intro j
   cases hx:p x with
   | true=>exact .inr ⟨0,by simp,by simpa using hx,rfl,by rw[qj1,hx];rfl⟩
   | false =>
    rcases ih (j+1) with ⟨h1,h2⟩ | ⟨k,hk,h1,h2,h3⟩
    ·exact .inl ⟨by rw[List.any_cons,hx,h1];rfl,by rw[qj1,hx];exact h2⟩
    ·refine .inr ⟨k+1,by simpa using hk,by simpa using h1,by rw[List.take_succ_cons,List.any_cons,hx,h2];rfl,?_⟩
     rw[qj1,hx]
     show qj1 _ _ l (j+1) ()=_
     rw[h3]
     congr 2
     omega
 have:=this l 0
 simpa using this
theorem qhV{σ ξ α β:Type}{step:(σ→Option ξ)→σ→Option ξ}(l:List α)(mk:Nat→β→σ)(f:β→α→β)(b0:β)(fin:β→ξ)
  (h:∀rec k b (hk:k<l.length),b=(l.take k).foldl f b0→step rec (mk k b)=rec (mk (k+1) (f b l[k])))
  (h0:∀rec b,step rec (mk l.length b)=some (fin b)) {n:Nat} (hn:l.length<n):qb n step (mk 0 b0)=some (fin (l.foldl f b0)):=by
 have go:∀(m:Nat) (k:Nat) (n:Nat),k+m=l.length→m<n→qb n step (mk k ((l.take k).foldl f b0))=some (fin (l.foldl f b0)):=by
  intro m
  induction m with
  | zero =>
   intro k n hk hn
   obtain ⟨n,rfl⟩:∃m,n=m+1:=⟨n-1,by omega⟩
   have:k=l.length:=by omega
   subst this
   rw[List.take_length]
   exact h0 _ _
  | succ m ih =>
   intro k n hk hn
   obtain ⟨n,rfl⟩:∃m,n=m+1:=⟨n-1,by omega⟩
   have hlt:k<l.length:=by omega
   show step (qb n step) (mk k _)=_
   rw[h _ _ _ hlt rfl]
   have:=ih (k+1) n (by omega) (by omega)
   rw[List.take_succ_eq_append_getElem hlt,List.foldl_append] at this
   exact this
 have:=go l.length 0 n (by omega) hn
 simpa using this
def insL{α:Type}(lt:α→α→Bool)(x:α):List α→List α
 | []=>[x]
 | y::r=>cond (lt x y) (y::insL lt x r) (x::y::r)
def qhG{α:Type}(lt:α→α→Bool):List α→List α→List α
 | r,[]=>r
 | r,x::l=>qhG lt (insL lt x r) l
def qj2{α:Type}(lt:α→α→Bool)(l:List α):List α:=(qhG lt [] l).reverse
theorem qnU{α:Type}(lt:α→α→Bool)(x:α):∀r,(insL lt x r).length=r.length+1
 | []=>rfl
 | y::r=>by
  unfold insL
  cases lt x y with
  | true=>simp[qnU lt x r]
  | false=>simp
theorem qsR{α:Type}(lt:α→α→Bool)(x:α):∀r,(insL lt x r).Perm (x::r)
 | []=>List.Perm.refl _
 | y::r=>by
  unfold insL
  cases lt x y with
  | true=>exact ((qsR lt x r).cons y).trans (List.Perm.swap x y r)
  | false=>exact List.Perm.refl _
theorem qwO{α:Type}(lt:α→α→Bool):∀l r,(qhG lt r l).Perm (r++l)
 | [],r=>by simp[qhG]
 | x::l,r=>by
  rw[qhG]
  refine (qwO lt l _).trans ?_
  refine ((qsR lt x r).append_right l).trans ?_
  simp only[List.cons_append]
  exact List.perm_middle.symm
theorem qfl{α:Type}(lt:α→α→Bool)(l:List α):(qj2 lt l).Perm l:=(List.reverse_perm _).trans (by simpa using qwO lt l [])
theorem qwj{σ ξ α:Type}{step:(σ→Option ξ)→σ→Option ξ}(lt:α→α→Bool)(mk:Nat→List α→σ)(fin:List α→Option ξ)(x:α)(N:Nat)
  (h1:∀rec A y m,A.length+1≤N→step rec (mk (A.length+1) (A++y::x::m))=cond (lt x y) (rec (mk A.length (A++x::y::m))) (fin (A++y::x::m)))
  (h0:∀rec d,step rec (mk 0 d)=fin d):∀(r m:List α) (n:Nat),r.length≤N→r.length<n→qb n step (mk r.length (r.reverse++x::m))=fin ((insL lt x r).reverse++m)
 | [],m,n+1,_,_=>h0 _ _
 | y::r,m,n+1,hN,hn=>by
  have e:=h1 (qb n step) r.reverse y m (by simpa using hN)
  rw[List.length_reverse] at e
  simp only[List.length_cons,List.reverse_cons,List.append_assoc,List.cons_append,List.nil_append]
  show step (qb n step) (mk (r.length+1) (r.reverse++y::x::m))=_
  rw[e,insL]
  cases lt x y with
  | true =>
   have:=qwj lt mk fin x N h1 h0 r (y::m) n (by simp at hN;omega) (by simp at hn;omega)
   simp only[cond_true,List.reverse_cons,List.append_assoc,List.cons_append,List.nil_append]
   exact this
  | false=>simp
set_option maxHeartbeats 1000000
instance decStay:DecidableEq Stay:=inferInstance
instance decStays:DecidableEq (List Stay):=inferInstance
instance decMsg:DecidableEq Msg:=@instDecidableEqProd _ _ _ (@instDecidableEqProd _ _ _ (@instDecidableEqProd _ _ _ (@instDecidableEqProd _ _ _ decStays)))
theorem qbP{a b:Int}(h:a=b):iEq a b=true:=by simp[iEq,h]
theorem qdM{a b:Int}(h:a≠b):iEq a b=false:=by simp[iEq,h]
theorem qgo{a b:Int}(h:a≠b):iNe a b=true:=by simp[iNe,h]
theorem qd2{a b:Int}(h:a=b):iNe a b=false:=by simp[iNe,h]
def wi(a lo hi:Int):Bool:=decide (lo≤a)&&decide (a≤hi)
theorem qbj{a lo hi:Int}:wi a lo hi=true↔lo≤a∧a≤hi:=by simp[wi]
theorem qmC(n:Nat)(a lo hi:Int):qJ n (a,(lo,(hi,())))=some (wi a lo hi,()):=by
 rw[qrP]
 show cond (decide (a≥lo)) (some (decide (a≤hi),())) (some (false,()))=_
 unfold wi
 by_cases h:lo≤a
 ·simp[h]
 ·simp[h]
theorem qk8(n:Nat)(a lo hi:Int):qcu n (a,(lo,(hi,())))=some (wi a lo hi,()):=by
 rw[qwv]
 show cond (decide (lo≤a)) (some (decide (a≤hi),())) (some (false,()))=_
 unfold wi
 by_cases h:lo≤a
 ·simp[h]
 ·simp[h]
def hutB(h:Int×Int):Bool:=wi h.1 0 20&&wi h.2 0 20
def qcS(c:Chn):Bool:=c.1.all hutB&&(wi c.1.length 1 6&&wi c.2 1 20)
theorem qCW(n:Nat)(c:Chn)(hl:c.1.length≤100)(hn:200≤n):qjA n (c,())=some (qcS c,()):=by
 obtain ⟨hs,ni⟩:=c
 rw[qrd]
 have hl:hs.length≤100:=hl
 have h1:=qon (step:=qil n) hs (fun k=>((k:Int),((hs,ni),()))) hutB (.inl ((hs,ni),())) (.inr (false,())) (fun rec k hk=>by
  rw[qkB]
  simp only[qy hk,cond_true,qK hs hk,Option.bind_some,qmC,qj (show k<9223372036854775807 by omega)]
  unfold hutB
  cases wi hs[k].1 0 20<;>cases wi hs[k].2 0 20<;>rfl) (fun rec=>by
  rw[qkB]
  simp only[qC,cond_false]) (n:=n) (by omega)
 show Option.bind (qb n _ (((0:Nat):Int),((hs,ni),()))) _=_
 rw[h1]
 unfold qcS
 cases hs.all hutB with
 | false=>rfl
 | true =>
  simp only[Option.bind_some,cond_true,Sum.elim_inl,qmC,Int.ofNat_eq_natCast]
  cases wi hs.length 1 6<;>rfl
def qiw(nh nn:Int):Int→List Stay→Bool
 | _,[]=>true
 | last,s::l=>(wi s.1 0 (nh-1)&&(decide (last<s.2.1)&&(decide (s.2.1≤s.2.2)&&decide (s.2.2<nn))))&&qiw nh nn s.2.2 l
def reqB(c:Chn)(m:Msg):Bool:=decide (m.1=1)&&(wi m.2.2.1 0 9999&&(wi m.2.2.2.1 1 20&&(wi m.2.2.2.2.length 1 6&&qiw c.1.length c.2 (-1) m.2.2.2.2)))
theorem qwP(nh nn:Int):∀(l:List Stay) (k:Nat) (last:Int),qj1 (ξ:=Unit⊕(Bool×Unit)) (fun _ (last:Int) (s:Stay)=>some (cond (wi s.1 0 (nh-1)&&(decide (last<s.2.1)&&(decide (s.2.1≤s.2.2)&&decide (s.2.2<nn)))) (.inl s.2.2) (.inr (.inr (false,()))))) (fun _=>some (.inl ())) l k last=some (cond (qiw nh nn last l) (.inl ()) (.inr (false,())))
 | [],_,_=>rfl
 | s::l,k,last=>by
  rw[qj1,qiw]
  cases wi s.1 0 (nh-1)&&(decide (last<s.2.1)&&(decide (s.2.1≤s.2.2)&&decide (s.2.2<nn))) with
  | false=>rfl
  | true=>exact qwP nh nn l _ _
theorem qAV(n:Nat)(c:Chn)(m:Msg)(hh:c.1.length≤100)(hl:m.2.2.2.2.length≤100)(hn:200≤n):qcB n (c,(m,()))=some (reqB c m,()):=by
 rw[qkC]
 obtain ⟨hs,ni⟩:=c
 obtain ⟨kd,id,st,pe,ss⟩:=m
 simp only at hl hh
 have h1:=qsQ (step:=qht n) ss (fun k last=>(last,((k:Int),((hs,ni),((kd,(id,(st,(pe,ss)))),()))))) (fun _ (last:Int) (s:Stay)=>some (cond (wi s.1 0 ((hs.length:Int)-1)&&(decide (last<s.2.1)&&(decide (s.2.1≤s.2.2)&&decide (s.2.2<ni)))) (.inl s.2.2) (.inr (.inr (false,()))))) (fun _=>some (.inl ())) (fun rec k last hk=>by
  rw[qjR]
  simp only[qy hk,cond_true,qK ss hk,Option.bind_some,qmC,qj (show k<9223372036854775807 by omega),qbd (n:=iSub (hs.length:Int) 1) (by unfold iSub;omega) (by unfold iSub;omega)]
  unfold iSub iLe iLt iGe
  cases wi ss[k].1 0 ((hs.length:Int)-1) with
  | false=>rfl
  | true =>
   by_cases h1:ss[k].2.1≤last
   ·have h2:¬last<ss[k].2.1:=by omega
    simp[h1,h2]
   ·have h2:last<ss[k].2.1:=by omega
    by_cases h3:ss[k].2.2<ss[k].2.1
    ·have h4:¬ss[k].2.1≤ss[k].2.2:=by omega
     simp[h1,h2,h3,h4]
    ·have h4:ss[k].2.1≤ss[k].2.2:=by omega
     by_cases h5:ss[k].2.2≥ni
     ·have h6:¬ss[k].2.2<ni:=by omega
      simp[h1,h2,h3,h4,h5,h6]
     ·have h6:ss[k].2.2<ni:=by omega
      have h5':¬ni≤ss[k].2.2:=by omega
      simp[h1,h2,h3,h4,h5',h6]) (fun rec b=>by
  rw[qjR]
  simp only[qC,cond_false]) (n:=n) (-1) (by omega)
 rw[qwP] at h1
 unfold reqB
 simp only[qmC,Option.bind_some,Int.ofNat_eq_natCast,show (Int.negSucc 0) = -1 from rfl]
 by_cases hk:kd=1
 ·subst hk
  rw[qd2 rfl]
  cases h2:wi st 0 9999 with
  | false=>simp[h2]
  | true =>
   cases h3:wi pe 1 20 with
   | false=>simp[h2,h3]
   | true =>
    cases h4:wi ss.length 1 6 with
    | false=>simp[h2,h3,h4]
    | true =>
     simp only[cond_false,cond_true,Bool.not_true,decide_true,Bool.true_and]
     show Option.bind (qb n _ (-1,(((0:Nat):Int),_))) _=_
     rw[h1]
     cases qiw hs.length ni (-1) ss<;>rfl
 ·rw[qgo hk];simp[hk]
theorem qzX(n:Nat)(c:Chn)(m:Msg)(hh:c.1.length≤100)(hn:200≤n):qcB n (c,(m,()))=some (reqB c m,()):=by
 by_cases hl:m.2.2.2.2.length≤100
 ·exact qAV n c m hh hl hn
 ·have hw:wi (m.2.2.2.2.length:Int) 1 6=false:=by unfold wi;simp;omega
  rw[qkC]
  simp only[qmC,Option.bind_some,Int.ofNat_eq_natCast,hw]
  unfold reqB
  rw[hw]
  by_cases hk:m.1=1
  ·rw[qd2 hk]
   cases wi m.2.2.1 0 9999<;>cases wi m.2.2.2.1 1 20<;>simp
  ·rw[qgo hk];simp[hk]
def canB(m:Msg):Bool:=decide (m.1=2)&&(decide (m.2.2.1=0)&&(decide (m.2.2.2.1=0)&&decide (m.2.2.2.2.length=0)))
def mesB(c:Chn)(m:Msg):Bool:=wi m.2.1 0 99&&(canB m||reqB c m)
theorem qyc(n:Nat)(c:Chn)(l:List Msg)(hh:c.1.length≤100)(hl:l.length≤100)(hn:200≤n):qfg n (c,(l,()))=some (l.all (mesB c)&&decide (l.length≤40),()):=by
 rw[qph]
 have h1:=qon (step:=qgD n) l (fun k=>(l,((k:Int),(c,())))) (mesB c) (.inl (l,())) (.inr (false,())) (fun rec k hk=>by
  rw[qiN]
  simp only[qy hk,cond_true,qK l hk,Option.bind_some,qmC,qj (show k<9223372036854775807 by omega),qzX n c l[k] hh hn]
  unfold mesB canB
  cases wi l[k].2.1 0 99 with
  | false =>
   cases iEq l[k].1 2<;>cases iEq l[k].2.2.1 0<;>cases iEq l[k].2.2.2.1 0<;>rfl
  | true =>
   cases reqB c l[k] with
   | true =>
    simp only[Bool.or_true,Bool.true_and,Bool.not_true,cond_false,cond_true]
    cases iEq l[k].1 2<;>cases iEq l[k].2.2.1 0<;>cases iEq l[k].2.2.2.1 0<;>cases iEq ((l[k].2.2.2.2.length:Nat):Int) 0<;>rfl
   | false =>
    simp only[Bool.or_false,Bool.true_and,Bool.not_true,cond_false,Bool.not_false,cond_true]
    by_cases e1:l[k].1=2
    ·by_cases e2:l[k].2.2.1=0
     ·by_cases e3:l[k].2.2.2.1=0
      ·by_cases e4:l[k].2.2.2.2.length=0
       ·rw[qbP e1,qbP e2,qbP e3,qbP (by omega)];simp[e1,e2,e3,e4]
       ·rw[qbP e1,qbP e2,qbP e3,qdM (by omega)];simp[e4]
      ·rw[qbP e1,qbP e2,qdM e3];simp[e3]
     ·rw[qbP e1,qdM e2];simp[e2]
    ·rw[qdM e1];simp[e1]) (fun rec=>by
  rw[qiN]
  simp only[qC,cond_false]) (n:=n) (by omega)
 show Option.bind (qb n _ (l,(((0:Nat):Int),(c,())))) _=_
 rw[h1]
 cases l.all (mesB c) with
 | false=>rfl
 | true =>
  simp only[Option.bind_some,cond_true,Sum.elim_inl,Bool.true_and]
  unfold iLe
  by_cases h:l.length≤40
  ·have:((l.length:Nat):Int)≤40:=by omega
   simp[h,this]
  ·have:¬((l.length:Nat):Int)≤40:=by omega
   simp[h,this]
theorem qyL(n:Nat)(c:Chn)(l:List Msg)(hh:c.1.length≤100)(hl:l.length≤100)(hs:∀m,m∈l→m.2.2.2.2.length≤100)(hn:200≤n):qfg n (c,(l,()))=some (l.all (mesB c)&&decide (l.length≤40),()):=qyc n c l hh hl hn
theorem qHI(a b:Stay):Ty.eqB (Ty.pr (Ty.i .i64) T158) a b=decide (a=b):=by
 obtain ⟨a1,a2,a3⟩:=a
 obtain ⟨b1,b2,b3⟩:=b
 show ((a1==b1)&&((a2==b2)&&(a3==b3)))=_
 by_cases h1:a1=b1<;>by_cases h2:a2=b2<;>by_cases h3:a3=b3<;>simp[h1,h2,h3]
theorem qFQ(n:Nat)(a b:Msg)(hl:a.2.2.2.2.length≤100)(hn:200≤n):qkT n (a,(b,()))=some (decide (a=b),()):=by
 rw[qse]
 obtain ⟨a1,a2,a3,a4,sa⟩:=a
 obtain ⟨b1,b2,b3,b4,sb⟩:=b
 simp only at hl
 by_cases e1:a1=b1
 ·by_cases e2:a2=b2
  ·by_cases e3:a3=b3
   ·by_cases e4:a4=b4
    ·subst e1 e2 e3 e4
     simp only[qd2 rfl,cond_false]
     by_cases e5:sa.length=sb.length
     ·have h1:=qon (step:=qjB n) (sa.zip sb) (fun k=>((k:Int),((a1,(a2,(a3,(a4,sa)))),((a1,(a2,(a3,(a4,sb)))),())))) (fun p=>decide (p.1=p.2)) (.inl ()) (.inr (false,())) (fun rec k hk=>by
       rw[qlS]
       have hka:k<sa.length:=by simp at hk;omega
       have hkb:k<sb.length:=by omega
       simp only[qy hka,cond_true,qK sa hka,qK sb hkb,Option.bind_some,qj (show k<9223372036854775807 by omega),List.getElem_zip]
       rw[show Ty.eqB (Ty.pr (Ty.i .i64) T158) sa[k] sb[k]=decide (sa[k]=sb[k]) from qHI _ _]
       cases decide (sa[k]=sb[k])<;>rfl) (fun rec=>by
       rw[qlS]
       simp only[List.length_zip,e5,Nat.min_self,qC,cond_false]) (n:=n) (by simp;omega)
      rw[qd2 (by omega)]
      simp only[cond_false]
      show Option.bind (qb n _ (((0:Nat):Int),_)) _=_
      rw[h1]
      have h2:(sa.zip sb).all (fun p=>decide (p.1=p.2))=decide (sa=sb):=by
       clear h1 hl
       induction sa generalizing sb with
       | nil=>cases sb with
        | nil=>rfl
        | cons b sb=>cases e5
       | cons a sa ih=>cases sb with
        | nil=>cases e5
        | cons b sb =>
         rw[List.zip_cons_cons,List.all_cons,ih sb (by simpa using e5)]
         by_cases h:a=b<;>by_cases h':sa=sb<;>simp[h,h']
      rw[h2]
      by_cases h:sa=sb<;>simp[h]
     ·have h:sa≠sb:=fun h=>e5 (by rw[h])
      have e5':((sa.length:Nat):Int)≠sb.length:=by omega
      rw[qgo e5'];simp[h]
    ·rw[qd2 e1,qd2 e2,qd2 e3,qgo e4];simp[e4]
   ·rw[qd2 e1,qd2 e2,qgo e3];simp[e3]
  ·rw[qd2 e1,qgo e2];simp[e2]
 ·rw[qgo e1];simp[e1]
def claB(x y:Msg):Bool:=decide (x.2.1=y.2.1)&&(decide (x.1=y.1) && !decide (x=y))
def qix(l:List Msg):Bool:=(List.range l.length).any fun i=>(List.range i).any fun k=>match l[i]?,l[k]? with
 | some x,some y=>claB x y
 | _,_=>false
theorem qtP{m k:Nat}(h:k<(List.range m).length):(List.range m)[k]=k:=by simp
theorem qEc(n:Nat)(l:List Msg)(i:Nat)(hi:i<l.length)(hl:l.length≤100)(hs:∀m,m∈l→m.2.2.2.2.length≤100)(hn:200≤n) :
  qb n (qgM n) (l,((i:Int),((0:Int),())))=some (cond ((List.range i).any fun k=>match l[i]?,l[k]? with
   | some x,some y=>claB x y
   | _,_=>false) (.inr (true,())) (.inl (l,((i:Int),())))):=by
 exact qkG (step:=qgM n) (List.range i) (fun k=>(l,((i:Int),((k:Int),())))) (fun k=>match l[i]?,l[k]? with
   | some x,some y=>claB x y
   | _,_=>false) (.inr (true,())) (.inl (l,((i:Int),()))) (fun rec k hk=>by
  rw[qlT]
  have hk':k<i:=by simpa using hk
  have hkl:k<l.length:=by omega
  simp only[qy hk',cond_true,qK l hi,qK l hkl,Option.bind_some,qtP,List.getElem?_eq_getElem hi,List.getElem?_eq_getElem hkl,qFQ n _ _ (hs _ (List.getElem_mem hi)) hn,qj (show k<9223372036854775807 by omega)]
  unfold claB
  by_cases e1:l[i].2.1=l[k].2.1
  ·rw[qbP e1]
   by_cases e2:l[i].1=l[k].1
   ·rw[qbP e2]
    by_cases e3:l[i]=l[k]
    ·simp[e3]
    ·simp[e1,e2,e3]
   ·rw[qdM e2];simp[e2]
  ·rw[qdM e1];simp[e1]) (fun rec=>by
  rw[qlT]
  simp only[List.length_range,qC,cond_false]) (n:=n) (by simp;omega)
theorem qFR(n:Nat)(l:List Msg)(hl:l.length≤100)(hs:∀m,m∈l→m.2.2.2.2.length≤100)(hn:200≤n):qkU n (l,())=some (qix l,()):=by
 rw[qsf]
 have h1:=qkG (step:=qjC n) (List.range l.length) (fun k=>(l,((k:Int),()))) (fun i=>(List.range i).any fun k=>match l[i]?,l[k]? with
   | some x,some y=>claB x y
   | _,_=>false) (.inr (true,())) (.inl ()) (fun rec i hi=>by
  rw[qlU]
  have hi':i<l.length:=by simpa using hi
  simp only[qy hi',cond_true,qtP]
  rw[qEc n l i hi' hl hs hn]
  generalize ((List.range i).any _)=b
  cases b with
  | true=>rfl
  | false =>
   simp only[cond_false,Option.bind_some,Sum.elim_inl,qj (show i<9223372036854775807 by omega)]) (fun rec=>by
  rw[qlU]
  simp only[List.length_range,qC,cond_false]) (n:=n) (by simp;omega)
 show Option.bind (qb n _ (l,(((0:Nat):Int),()))) _=_
 rw[h1]
 show Option.bind (some (cond (qix l) _ _)) _=_
 cases qix l<;>rfl
theorem qo6{l:List Msg}(h:qix l=false):∀x y,x∈l→y∈l→x.2.1=y.2.1→x.1=y.1→x=y:=by
 intro x y hx hy h1 h2
 obtain ⟨i,hi,rfl⟩:=List.mem_iff_getElem.1 hx
 obtain ⟨k,hk,rfl⟩:=List.mem_iff_getElem.1 hy
 have key:∀a b (ha:a<l.length) (hb:b<a),claB (l[a]) (l[b]'(by omega))=false:=fun a b ha hb=>by
  unfold qix at h
  rw[List.any_eq_false] at h
  have h3:=h a (List.mem_range.2 ha)
  simp only[Bool.not_eq_true] at h3
  rw[List.any_eq_false] at h3
  have h4:=h3 b (List.mem_range.2 hb)
  rw[List.getElem?_eq_getElem ha,List.getElem?_eq_getElem (by omega)] at h4
  simpa using h4
 rcases Nat.lt_trichotomy i k with h3 | h3 | h3
 ·have:=key k i hk h3
  unfold claB at this
  simp only[Bool.and_eq_false_iff,decide_eq_false_iff_not,Bool.not_eq_false',decide_eq_true_eq] at this
  rcases this with h4 | h4 | h4
  ·exact (h4 h1.symm).elim
  ·exact (h4 h2.symm).elim
  ·exact h4.symm
 ·subst h3;rfl
 ·have:=key i k hi h3
  unfold claB at this
  simp only[Bool.and_eq_false_iff,decide_eq_false_iff_not,Bool.not_eq_false',decide_eq_true_eq] at this
  rcases this with h4 | h4 | h4
  ·exact (h4 h1).elim
  ·exact (h4 h2).elim
  ·exact h4
def chkN(c:Chn)(l:List Msg):Int:=cond (qcS c) (cond (l.all (mesB c)&&decide (l.length≤40)) (cond (qix l) 22 0) 21) 20
theorem qFS(n:Nat)(c:Chn)(l:List Msg)(hh:c.1.length≤100)(hl:l.length≤100)(hs:∀m,m∈l→m.2.2.2.2.length≤100)(hn:200≤n):qhN n (c,(l,()))=some (chkN c l,()):=by
 rw[qsg]
 simp only[qCW n c hh hn,qyL n c l hh hl hs hn,qFR n l hl hs hn,Option.bind_some]
 unfold chkN
 cases qcS c<;>cases (l.all (mesB c)&&decide (l.length≤40))<;>cases qix l<;>rfl
theorem qCc{c:Chn}{l:List Msg}(h:chkN c l=0):qcS c=true∧(∀m,m∈l→mesB c m=true)∧l.length≤40∧qix l=false:=by
 unfold chkN at h
 cases h1:qcS c<;>cases h2:(l.all (mesB c)&&decide (l.length≤40))<;>cases h3:qix l<;>rw[h1,h2,h3] at h<;>first | (cases h;done) | skip
 rw[Bool.and_eq_true,List.all_eq_true,decide_eq_true_eq] at h2
 exact ⟨rfl,h2.1,h2.2,rfl⟩
def farB(c:Chn)(l:List Msg):Bool:=l.any (fun m=>decide (20<m.2.2.2.2.length))||(decide (20<c.1.length)||((decide (9<l.length)&&decide (l.length≤40))||decide (60<l.length)))
theorem qHJ(n:Nat)(c:Chn)(l:List Msg)(hl:l.length≤9223372036854775807)(hn:l.length<n):qmu n (c,(l,()))=some (farB c l,()):=by
 rw[qtL]
 have h1:=qkG (step:=qkY n) l (fun k=>(l,((k:Int),(c,())))) (fun m=>decide (20<m.2.2.2.2.length)) (.inr (true,())) (.inl (l,(c,()))) (fun rec k hk=>by
  rw[qm8]
  simp only[qy hk,cond_true,qK l hk,Option.bind_some,qj (show k<9223372036854775807 by omega)]
  rw[show iGt ((l[k].2.2.2.2.length:Nat):Int) 20=decide (20<l[k].2.2.2.2.length) by unfold iGt;congr 1;simp;omega]) (fun rec=>by
  rw[qm8]
  simp only[qC,cond_false]) (n:=n) hn
 show Option.bind (qb n _ (l,(((0:Nat):Int),(c,())))) _=_
 rw[h1]
 unfold farB
 cases l.any (fun m=>decide (20<m.2.2.2.2.length)) with
 | true=>rfl
 | false =>
  simp only[Option.bind_some,cond_false,Sum.elim_inl,Bool.false_or]
  rw[show iGt ((c.1.length:Nat):Int) 20=decide (20<c.1.length) by unfold iGt;congr 1;simp;omega,show iGt ((l.length:Nat):Int) 9=decide (9<l.length) by unfold iGt;congr 1;simp;omega,show iLe ((l.length:Nat):Int) 40=decide (l.length≤40) by unfold iLe;congr 1;simp;omega,show iGt ((l.length:Nat):Int) 60=decide (60<l.length) by unfold iGt;congr 1;simp;omega]
  cases decide (20<c.1.length)<;>cases decide (9<l.length)<;>cases decide (l.length≤40)<;>rfl
theorem qCX{c:Chn}{l:List Msg}(h:farB c l=false):(∀m,m∈l→m.2.2.2.2.length≤20)∧c.1.length≤20:=by
 unfold farB at h
 simp only[Bool.or_eq_false_iff,List.any_eq_false,decide_eq_true_eq,decide_eq_false_iff_not] at h
 exact ⟨fun m hm=>by have:=h.1 m hm;omega,by omega⟩
structure Vld (c:Chn) (l:List Msg):Prop where
 ch:qcS c=true
 ms:∀m,m∈l→mesB c m=true
 ln:l.length≤40
 cl:qix l=false
 st:∀m,m∈l→m.2.2.2.2.length≤20
 hu:c.1.length≤20
theorem qEd(n:Nat)(c:Chn)(x:Int)(hh:c.1.length≤9223372036854775807):qkW n ((c,()),(x,()))=some (wi x 0 (c.1.length-1),()):=by
 rw[qu5]
 simp only[qk8,qbd (n:=iSub (c.1.length:Int) 1) (by unfold iSub;omega) (by unfold iSub;omega),qCb]
theorem qAW(n:Nat)(c:Chn)(x:Int)(h1:-1000≤c.2)(h2:c.2≤1000):qjk n ((c,()),(x,()))=some (wi x 0 (c.2-1),()):=by
 rw[qtJ]
 simp only[qk8,qbd (n:=iSub c.2 1) (by unfold iSub;omega) (by unfold iSub;omega),qCb]
theorem qFT(n:Nat)(c:Chn)(ss:List Stay)(hh:c.1.length≤100)(h1:-1000≤c.2)(h2:c.2≤1000)(hl:ss.length≤1000):∀(m k:Nat) (last:Int) (n':Nat),k+m=ss.length→m<n'→-1≤last→last≤1000 →
  qb n' (qkX n) (last,(ss,((ss.length:Int),((k:Int),((c,()),())))))=some (cond (qiw c.1.length c.2 last (ss.drop k)) (.inl ()) (.inr (false,()))):=by
 intro m
 induction m with
 | zero =>
  intro k last n' hk hn hb hb2
  obtain ⟨n',rfl⟩:∃m,n'=m+1:=⟨n'-1,by omega⟩
  have:k=ss.length:=by omega
  subst this
  rw[qe,qm6,List.drop_length]
  simp only[qC,cond_false]
  rfl
 | succ m ih =>
  intro k last n' hk hn hb hb2
  obtain ⟨n',rfl⟩:∃m,n'=m+1:=⟨n'-1,by omega⟩
  have hlt:k<ss.length:=by omega
  rw[qe,qm6,List.drop_eq_getElem_cons hlt,qiw]
  simp only[qy hlt,cond_true,qK ss hlt,Option.bind_some,qEd n c _ (by omega),qk8,qAW n c _ h1 h2,qj (show k<9223372036854775807 by omega),qbd (n:=iAdd last 1) (by unfold iAdd;omega) (by unfold iAdd;omega)]
  cases hw:wi ss[k].1 0 ((c.1.length:Int)-1) with
  | false=>simp
  | true =>
   simp only[Bool.not_true,cond_false,Bool.true_and]
   by_cases h3:wi ss[k].2.1 (iAdd last 1) ss[k].2.2=true
   ·have h3':=qbj.1 h3
    unfold iAdd at h3'
    rw[h3]
    simp only[Bool.not_true,cond_false]
    by_cases h4:wi ss[k].2.2 0 (c.2-1)=true
    ·have h4':=qbj.1 h4
     rw[h4]
     simp only[Bool.not_true,cond_false]
     rw[show (decide (last<ss[k].2.1))=true from decide_eq_true (by omega),show (decide (ss[k].2.1≤ss[k].2.2))=true from decide_eq_true (by omega),show (decide (ss[k].2.2<c.2))=true from decide_eq_true (by omega)]
     simp only[Bool.true_and]
     exact ih (k+1) ss[k].2.2 n' (by omega) (by omega) (by omega) (by omega)
    ·have h4':¬ss[k].2.2<c.2:=fun h=>h4 (qbj.2 ⟨by omega,by omega⟩)
     rw[show wi ss[k].2.2 0 (c.2-1)=false by simpa using h4]
     simp[h4']
   ·have h3':¬(last<ss[k].2.1∧ss[k].2.1≤ss[k].2.2):=fun h=>h3 (qbj.2 ⟨by unfold iAdd;omega,h.2⟩)
    rw[show wi ss[k].2.1 (iAdd last 1) ss[k].2.2=false by simpa using h3]
    simp only[Bool.not_false,cond_true]
    by_cases h5:last<ss[k].2.1
    ·have h6:¬ss[k].2.1≤ss[k].2.2:=fun h=>h3' ⟨h5,h⟩
     simp[h6]
    ·simp[h5]
theorem qFU(n:Nat)(c:Chn)(ss:List Stay)(hh:c.1.length≤100)(h1:-1000≤c.2)(h2:c.2≤1000)(hl:ss.length≤1000)(hn:2000≤n):qms n ((c,()),(ss,()))=some (qiw c.1.length c.2 (-1) ss,()):=by
 rw[qtK]
 have h3:=qFT n c ss hh h1 h2 hl ss.length 0 (-1) n (by omega) (by omega) (by omega) (by omega)
 show Option.bind (qb n _ (-1,(ss,((ss.length:Int),(((0:Nat):Int),((c,()),())))))) _=_
 rw[h3,List.drop_zero]
 cases qiw c.1.length c.2 (-1) ss<;>rfl
theorem qCY(n:Nat)(c:Chn)(m:Msg)(hh:c.1.length≤100)(h1:-1000≤c.2)(h2:c.2≤1000)(hl:m.2.2.2.2.length≤1000)(hn:2000≤n):qhP n ((c,()),(m,()))=some (mesB c m,()):=by
 rw[qm7]
 simp only[qk8,Option.bind_some,qFU n c _ hh h1 h2 hl hn,Int.ofNat_eq_natCast]
 unfold mesB canB reqB
 cases wi m.2.1 0 99 with
 | false=>rfl
 | true =>
  simp only[Bool.not_true,cond_false,Bool.true_and]
  by_cases e1:m.1=2
  ·rw[qbP e1]
   have e1':¬m.1=1:=by omega
   by_cases e2:m.2.2.1=0
   ·rw[qbP e2]
    by_cases e3:m.2.2.2.1=0
    ·rw[qbP e3]
     by_cases e4:m.2.2.2.2.length=0
     ·rw[qbP (by omega)];simp[e1,e2,e3,e4]
     ·rw[qdM (by omega)];simp[e1',e4]
    ·rw[qdM e3];simp[e1',e3]
   ·rw[qdM e2];simp[e1',e2]
  ·rw[qdM e1]
   by_cases e2:m.1=1
   ·rw[qbP e2]
    simp only[cond_false,cond_true,e1,decide_false,Bool.false_and,Bool.false_or,e2,decide_true,Bool.true_and]
    cases wi m.2.2.1 0 9999<;>cases wi m.2.2.2.1 1 20<;>cases wi (m.2.2.2.2.length:Int) 1 6<;>rfl
   ·rw[qdM e2];simp[e1,e2]
theorem qBA(n:Nat)(c:Chn)(m:Msg)(hh:c.1.length≤100)(h1:-1000≤c.2)(h2:c.2≤1000)(hn:2000≤n):qhP n ((c,()),(m,()))=some (mesB c m,()):=by
 by_cases hl:m.2.2.2.2.length≤1000
 ·exact qCY n c m hh h1 h2 hl hn
 ·have hw:wi (m.2.2.2.2.length:Int) 1 6=false:=by unfold wi;simp;omega
  rw[qm7]
  simp only[qk8,Option.bind_some,Int.ofNat_eq_natCast,hw]
  unfold mesB canB reqB
  rw[hw,qdM (show (m.2.2.2.2.length:Int)≠0 by omega),decide_eq_false (show ¬m.2.2.2.2.length=0 by omega)]
  simp only[Bool.and_false,Bool.false_and,Bool.or_false]
  cases wi m.2.1 0 99<;>cases iEq m.1 2<;>cases iEq m.2.2.1 0<;>cases iEq m.2.2.2.1 0<;>cases iEq m.1 1<;>cases wi m.2.2.1 0 9999<;>cases wi m.2.2.2.1 1 20<;>rfl
theorem qHK(n:Nat)(h:Int×Int):qnd n (h,())=some (!hutB h,()):=by
 rw[quy]
 simp only[qk8,Option.bind_some]
 unfold hutB
 cases wi h.1 0 20<;>cases wi h.2 0 20<;>rfl
theorem qzY(n:Nat)(hs:List (Int×Int))(hl:hs.length≤1000)(hn:2000≤n):qcW n (hs,(((),()),()))=some (hs.any fun h=>!hutB h,()):=by
 rw[qiK,qjD]
 have h1:=qdL (step:=qc5 n) hs (fun k=>(hs,(((),()),((hs.length:Int),((k:Int),()))))) (fun h=>!hutB h) (fun k=>.inr ((k:Int),())) (.inl ()) (fun rec k hk=>by
  rw[qeQ]
  simp only[qy hk,cond_true,qK hs hk,Option.bind_some,qHK,qj (show k<9223372036854775807 by omega)]) (fun rec=>by
  rw[qeQ]
  simp only[qC,cond_false]) (n:=n) (by omega)
 show Option.bind (Option.bind (qb n _ (hs,(((),()),((hs.length:Int),(((0:Nat):Int),()))))) _) _=_
 rcases h1 with ⟨h1,h2⟩ | ⟨k,hk,h1,_,h2⟩
 ·rw[h2,h1];rfl
 ·rw[h2,show (hs.any fun h=>!hutB h)=true from List.any_eq_true.2 ⟨_,List.getElem_mem hk,h1⟩]
  show some (iGe (k:Int) 0,())=_
  simp[iGe]
theorem qGK(n:Nat)(c:Chn)(hl:c.1.length≤1000)(hn:2000≤n):qo1 n ((c,()),())=some (qcS c,()):=by
 rw[qvQ]
 simp only[qk8,Option.bind_some,qzY n c.1 hl hn,Int.ofNat_eq_natCast]
 unfold qcS
 rw[show c.1.all hutB = !(c.1.any fun h=>!hutB h) by simp[List.all_eq_not_any_not]]
 cases wi (c.1.length:Int) 1 6<;>cases wi c.2 1 20<;>cases (c.1.any fun h=>!hutB h)<;>rfl
theorem qyd(n:Nat)(c:Chn)(l:List Msg)(hh:c.1.length≤100)(h1:-1000≤c.2)(h2:c.2≤1000)(hl:l.length≤1000)(hn:2000≤n) :
  ∃u,q6 n (l,((c,()),()))=some (l.any fun m=>!mesB c m,u):=by
 rw[qgg,qgO]
 have h3:=qdL (step:=qbV n) l (fun k=>(l,((l.length:Int),((k:Int),((c,()),()))))) (fun m=>!mesB c m) (fun k=>.inr ((k:Int),((c,()),()))) (.inl ((c,()),())) (fun rec k hk=>by
  rw[qc7]
  simp only[qy hk,cond_true,qK l hk,Option.bind_some,qqq,qBA n c l[k] hh h1 h2 hn,qj (show k<9223372036854775807 by omega)]) (fun rec=>by
  rw[qc7]
  simp only[qC,cond_false]) (n:=n) (by omega)
 show ∃u,Option.bind (Option.bind (qb n _ (l,((l.length:Int),(((0:Nat):Int),((c,()),()))))) _) _=_
 rcases h3 with ⟨h4,h5⟩ | ⟨k,hk,h4,_,h5⟩
 ·rw[h5,h4];exact ⟨_,rfl⟩
 ·rw[h5,show (l.any fun m=>!mesB c m)=true from List.any_eq_true.2 ⟨_,List.getElem_mem hk,h4⟩]
  refine ⟨((c,()),()),?_⟩
  show some (iGe (k:Int) 0,((c,()),()))=_
  simp[iGe]
theorem qtQ(n:Nat)(c:Chn)(l:List Msg)(hh:c.1.length≤100)(h1:-1000≤c.2)(h2:c.2≤1000)(hl:l.length≤1000)(hs:∀m,m∈l→m.2.2.2.2.length≤1000)(hn:2000≤n) :
  ∃u,q6 n (l,((c,()),()))=some (l.any fun m=>!mesB c m,u):=qyd n c l hh h1 h2 hl hn
def cmpI(x y:Int):Int:=if x<y then -1 else if x>y then 1 else 0
theorem qzC{x y:Int}:cmpI x y=0↔x=y:=by
 unfold cmpI
 split
 ·constructor
  ·intro h;omega
  ·intro h;omega
 ·split
  ·constructor
   ·intro h;omega
   ·intro h;omega
  ·constructor
   ·intro _;omega
   ·intro _;rfl
theorem qAX(n:Nat)(x:Int):qhi n (x,())=some (false,()):=by rw[qvO];simp only[qd2 rfl]
theorem qyM(n:Nat)(x y:Int):qce n (x,(y,()))=some (cmpI x y,()):=by
 rw[quw]
 simp only[qAX,Option.bind_some,cond_false]
 unfold cmpI
 show cond (decide (x<y)) _ (cond (decide (x>y)) _ _)=_
 by_cases h:x<y
 ·simp[h]
 ·by_cases h2:x>y
  ·simp[h,h2]
  ·simp[h,h2]
theorem qG8(n:Nat)(x y:Int):qpT n (x,(y,()))=some (decide (x<y),()):=by
 rw[qwu]
 simp only[qAX,Option.bind_some,cond_false]
def orI:List Int→Int
 | []=>0
 | x::l=>if x=0 then orI l else x
theorem qxj:∀{l:List Int},orI l=0↔∀x,x∈l→x=0
 | []=>by simp[orI]
 | x::l=>by
  unfold orI
  split
  ·rename_i h
   rw[qxj]
   simp[h]
  ·rename_i h
   simp[h]
theorem qAY:∀(l:List Int) (k:Nat),qj1 (ξ:=(Int×Unit)⊕(Int×Unit)) (fun _ (_:Unit) (x:Int)=>some (cond (iNe x 0) (.inr (.inr (x,()))) (.inl ()))) (fun _=>some (.inl (0,()))) l k ()=if orI l=0 then some (.inl (0,())) else some (.inr (orI l,()))
 | [],_=>rfl
 | x::l,k=>by
  rw[qj1,orI]
  by_cases h:x=0
  ·rw[qd2 h,if_pos h]
   exact qAY l _
  ·rw[qgo h,if_neg h,if_neg h]
   rfl
theorem qCZ(n:Nat)(l:List Int)(hl:l.length≤1000)(hn:2000≤n):qmt n (l,())=some (orI l,()):=by
 rw[qx9]
 have h1:=qsQ (step:=qpU n) l (fun k (_:Unit)=>((0:Int),(l,((l.length:Int),((k:Int),()))))) (fun _ _ x=>some (cond (iNe x 0) (.inr (.inr (x,()))) (.inl ()))) (fun _=>some (.inl (0,()))) (fun rec k _ hk=>by
  rw[qqW]
  simp only[qy hk,cond_true,qK l hk,Option.bind_some,qj (show k<9223372036854775807 by omega)]
  cases iNe l[k] 0<;>rfl) (fun rec _=>by
  rw[qqW]
  simp only[qC,cond_false]) (n:=n) () (by omega)
 show Option.bind (qb n _ ((0:Int),(l,((l.length:Int),(((0:Nat):Int),()))))) _=_
 rw[h1,qAY]
 by_cases h:orI l=0
 ·simp[h]
 ·simp[h]
def cmpS(x y:Stay):Int:=orI [cmpI x.1 y.1,cmpI x.2.1 y.2.1,cmpI x.2.2 y.2.2]
theorem qG9(n:Nat)(x y:Stay)(hn:2000≤n):qnO n (x,(y,()))=some (cmpS x y,()):=by
 rw[qu6]
 simp only[qyM,Option.bind_some,qCZ n [cmpI x.1 y.1,cmpI x.2.1 y.2.1,cmpI x.2.2 y.2.2] (by simp) hn]
 rfl
theorem qzD{x y:Stay}:cmpS x y=0↔x=y:=by
 unfold cmpS
 rw[qxj]
 simp only[List.mem_cons,List.not_mem_nil,or_false,forall_eq_or_imp,forall_eq,qzC]
 obtain ⟨a,b,c⟩:=x
 obtain ⟨d,e,f⟩:=y
 simp
def cmpL:List Stay→List Stay→Int
 | [],[]=>0
 | [],_::_=>-1
 | _::_,[]=>1
 | x::a,y::b=>if cmpS x y=0 then cmpL a b else cmpS x y
theorem qzE:∀{a b:List Stay},cmpL a b=0↔a=b
 | [],[]=>by simp[cmpL]
 | [],_::_=>by simp[cmpL]
 | _::_,[]=>by simp[cmpL]
 | x::a,y::b=>by
  unfold cmpL
  split
  ·rename_i h
   rw[qzE,qzD.1 h]
   simp
  ·rename_i h
   have:x≠y:=fun e=>h (qzD.2 e)
   simp[h,this]
theorem qHa(n:Nat)(a b:List Stay)(ha:a.length≤1000)(hn:2000≤n):∀(m k:Nat) (n':Nat),k+m=a.length→k≤b.length→m<n' →
  (Option.bind (qb n' (qcO n) (a,(b,(((),()),(a,((a.length:Int),((k:Int),()))))))) fun y=>(Sum.elim (fun a=>(cond (iLt (((List.length a.1):Nat):Int) (((List.length a.2.1):Nat):Int)) (some ((Int.negSucc (0:Nat)),())) (some ((0:Int),())))) (fun b=>(some b)) y))=some (cmpL (a.drop k) (b.drop k),()):=by
 intro m
 induction m with
 | zero =>
  intro k n' hk hb hn'
  obtain ⟨n',rfl⟩:∃m,n'=m+1:=⟨n'-1,by omega⟩
  have:k=a.length:=by omega
  subst this
  rw[qe,qeF,List.drop_length]
  simp only[qC,cond_false,Option.bind_some,Sum.elim_inl]
  rcases Nat.lt_or_ge a.length b.length with h | h
  ·rw[qy h,List.drop_eq_getElem_cons h]
   rfl
  ·rw[show iLt (a.length:Int) (b.length:Int)=false by simp[iLt];omega,List.drop_eq_nil_of_le h]
   rfl
 | succ m ih =>
  intro k n' hk hb hn'
  obtain ⟨n',rfl⟩:∃m,n'=m+1:=⟨n'-1,by omega⟩
  have hlt:k<a.length:=by omega
  rw[qe,qeF,List.drop_eq_getElem_cons hlt]
  simp only[qy hlt,cond_true,qK a hlt,Option.bind_some]
  rcases Nat.lt_or_ge k b.length with h | h
  ·rw[show iGe (k:Int) (b.length:Int)=false by simp[iGe];omega,List.drop_eq_getElem_cons h,cmpL]
   simp only[cond_false,qK b h,Option.bind_some,qG9 n _ _ hn,qj (show k<9223372036854775807 by omega)]
   by_cases h0:cmpS a[k] b[k]=0
   ·rw[qd2 h0,if_pos h0]
    exact ih (k+1) n' (by omega) (by omega) (by omega)
   ·rw[qgo h0,if_neg h0]
    rfl
  ·rw[show iGe (k:Int) (b.length:Int)=true by simp[iGe];omega,List.drop_eq_nil_of_le h]
   rfl
theorem qHb(n:Nat)(a b:List Stay)(ha:a.length≤1000)(hn:2000≤n):qc4 n (a,(b,(((),()),())))=some (cmpL a b,()):=by
 rw[qiZ]
 have:=qHa n a b ha hn a.length 0 n (by omega) (by omega) (by omega)
 rw[List.drop_zero,List.drop_zero] at this
 exact this
def cmpM(x y:Msg):Int:=orI [cmpI x.2.1 y.2.1,cmpI x.1 y.1,cmpI x.2.2.1 y.2.2.1,cmpI x.2.2.2.1 y.2.2.2.1,cmpL x.2.2.2.2 y.2.2.2.2]
theorem qCd(n:Nat)(x y:Msg)(hx:x.2.2.2.2.length≤1000)(hn:2000≤n):qmQ n (x,(y,()))=some (cmpM x y,()):=by
 rw[qwx]
 simp only[qyM,Option.bind_some,qHb n _ _ hx hn,qCZ n [cmpI x.2.1 y.2.1,cmpI x.1 y.1,cmpI x.2.2.1 y.2.2.1,cmpI x.2.2.2.1 y.2.2.2.1,cmpL x.2.2.2.2 y.2.2.2.2] (by simp) hn]
 rfl
theorem qzF{x y:Msg}:cmpM x y=0↔x=y:=by
 unfold cmpM
 rw[qxj]
 simp only[List.mem_cons,List.not_mem_nil,or_false,forall_eq_or_imp,forall_eq,qzC,qzE]
 obtain ⟨a,b,c,d,e⟩:=x
 obtain ⟨a',b',c',d',e'⟩:=y
 simp only[Prod.mk.injEq]
 constructor
 ·rintro ⟨h1,h2,h3⟩;exact ⟨h2,h1,h3⟩
 ·rintro ⟨h1,h2,h3⟩;exact ⟨h2,h1,h3⟩
def cmpQ(x y:Msg):Int:=orI [cmpI x.2.2.1 y.2.2.1,cmpI x.2.1 y.2.1]
theorem qHc(n:Nat)(x y:Msg)(hn:2000≤n):qpV n (x,(y,()))=some (cmpQ x y,()):=by
 rw[qww]
 simp only[qyM,Option.bind_some,qCZ n [cmpI x.2.2.1 y.2.2.1,cmpI x.2.1 y.2.1] (by simp) hn]
 rfl
theorem app0{α:Type}(A:List α)(y x:α)(m:List α):(A++y::x::m)[A.length]?=some y:=by simp
theorem app1{α:Type}(A:List α)(y x:α)(m:List α):(A++y::x::m)[A.length+1]?=some x:=by simp
theorem set1{α:Type}(A:List α)(y x z:α)(m:List α):(A++y::x::m).set (A.length+1) z=A++y::z::m:=by simp
theorem set0{α:Type}(A:List α)(y x z:α)(m:List α):(A++y::x::m).set A.length z=A++z::x::m:=by simp
theorem qp0{k:Nat}(h:k<9223372036854775807):iW (iSub ((k+1:Nat):Int) 1)=(k:Int):=by
 rw[qbd (by unfold iSub;omega) (by unfold iSub;omega)];unfold iSub;omega
theorem qxk(n:Nat):∀k:Nat,k≤12→∃r,q7 n ((IntKind.wrap .u64 (k:Int)),())=some r:=by
 intro k hk
 match k,hk with
 | 0,_=>exact ⟨_,(by kernel_rfl:q7 n ((IntKind.wrap .u64 ((0:Nat):Int)),())=some (0,()))⟩
 | 1,_=>exact ⟨_,(by kernel_rfl:q7 n ((IntKind.wrap .u64 ((1:Nat):Int)),())=some (1,()))⟩
 | 2,_=>exact ⟨_,(by kernel_rfl:q7 n ((IntKind.wrap .u64 ((2:Nat):Int)),())=some (2,()))⟩
 | 3,_=>exact ⟨_,(by kernel_rfl:q7 n ((IntKind.wrap .u64 ((3:Nat):Int)),())=some (2,()))⟩
 | 4,_=>exact ⟨_,(by kernel_rfl:q7 n ((IntKind.wrap .u64 ((4:Nat):Int)),())=some (3,()))⟩
 | 5,_=>exact ⟨_,(by kernel_rfl:q7 n ((IntKind.wrap .u64 ((5:Nat):Int)),())=some (3,()))⟩
 | 6,_=>exact ⟨_,(by kernel_rfl:q7 n ((IntKind.wrap .u64 ((6:Nat):Int)),())=some (3,()))⟩
 | 7,_=>exact ⟨_,(by kernel_rfl:q7 n ((IntKind.wrap .u64 ((7:Nat):Int)),())=some (3,()))⟩
 | 8,_=>exact ⟨_,(by kernel_rfl:q7 n ((IntKind.wrap .u64 ((8:Nat):Int)),())=some (4,()))⟩
 | 9,_=>exact ⟨_,(by kernel_rfl:q7 n ((IntKind.wrap .u64 ((9:Nat):Int)),())=some (4,()))⟩
 | 10,_=>exact ⟨_,(by kernel_rfl:q7 n ((IntKind.wrap .u64 ((10:Nat):Int)),())=some (4,()))⟩
 | 11,_=>exact ⟨_,(by kernel_rfl:q7 n ((IntKind.wrap .u64 ((11:Nat):Int)),())=some (4,()))⟩
 | 12,_=>exact ⟨_,(by kernel_rfl:q7 n ((IntKind.wrap .u64 ((12:Nat):Int)),())=some (4,()))⟩
theorem qr0{k:Nat}:iGt ((k+1:Nat):Int) 0=true:=by unfold iGt;exact decide_eq_true (by omega)
theorem qjq{k:Nat}:Int.toNat (k:Int)=k:=by simp
theorem w12{k:Nat}(h:k≤12):iLe (iW (iSub (k:Int) 0)) 12=true:=by
 rw[qbd (by unfold iSub;omega) (by unfold iSub;omega)];unfold iLe iSub;exact decide_eq_true (by omega)
theorem qIp(n N i:Nat)(x:Msg)(hx:x.2.2.2.2.length≤1000)(hN:N≤1000)(hn:2000≤n)(r m:List Msg)(hr:r.length≤N):qb n (qZ n) ((0:Int),((N:Int),(((),()),((i:Int),((r.length:Int),((r.reverse++x::m),()))))))=some ((0:Int),((N:Int),(((),()),((i:Int),(((insL (fun x y=>decide (cmpM x y<0)) x r).reverse++m),()))))):=by
 exact qwj (step:=qZ n) (fun x y=>decide (cmpM x y<0)) (fun j d=>((0:Int),((N:Int),(((),()),((i:Int),((j:Int),(d,()))))))) (fun d=>some ((0:Int),((N:Int),(((),()),((i:Int),(d,())))))) x N (fun rec A y m hA=>by
  rw[qcV]
  have hj:A.length<9223372036854775807:=by omega
  simp only[qr0,cond_true,qe4,app0,app1,Option.bind_some,qp0 hj,qjq,qCd n _ _ hx hn,set1,set0]) (fun rec d=>by
  rw[qcV]
  rfl) r m n hr (by omega)
theorem qHL(n:Nat)(l:List Msg)(hs:∀x,x∈l→x.2.2.2.2.length≤1000)(hl:l.length≤1000)(hn:2000≤n):qbU n ((0:Int),((l.length:Int),(((),()),(l,()))))=some (qj2 (fun x y=>decide (cmpM x y<0)) l,()):=by
 rw[qgs]
 cases l with
 | nil =>
  obtain ⟨n',rfl⟩:∃m,n=m+1:=⟨n-1,by omega⟩
  rw[qe,qbu]
  rfl
 | cons a l =>
  obtain ⟨N,hN⟩:∃N,N=(a::l).length:=⟨_,rfl⟩
  have hl':l.length+1=N:=by rw[hN];rfl
  have h1:∀rec (r:List Msg) x m,(x∈a::l)→r.length+1+m.length=N→qB n rec ((0:Int),((N:Int),(((),()),((r.length:Int),((r.reverse++x::m),())))))=rec ((0:Int),((N:Int),(((),()),(((r.length+1:Nat):Int),(((insL (fun x y=>decide (cmpM x y<0)) x r).reverse++m),()))))):=fun rec r x m hx hm=>by
   rw[qbu]
   simp only[qy (show r.length<N by omega),cond_true,qIp n N r.length x (hs x hx) (by omega) hn r m (by omega),Option.bind_some,qj (show r.length<9223372036854775807 by omega)]
  have h0:∀rec (d:List Msg),qB n rec ((0:Int),((N:Int),(((),()),((N:Int),(d,())))))=some (d,()):=fun rec d=>by
   rw[qbu]
   simp only[qC,cond_false]
  have go:∀(l2 r:List Msg) (n':Nat),(∀x,x∈l2→x∈a::l)→r.length+l2.length=N→l2.length<n'→qb n' (qB n) ((0:Int),((N:Int),(((),()),((r.length:Int),((r.reverse++l2),())))))=some ((qhG (fun x y=>decide (cmpM x y<0)) r l2).reverse,()):=by
   intro l2
   induction l2 with
   | nil =>
    intro r n' _ hr hn'
    obtain ⟨n',rfl⟩:∃m,n'=m+1:=⟨n'-1,by omega⟩
    have hr':r.length=N:=by simpa using hr
    rw[qe,List.append_nil,hr',h0]
    rfl
   | cons x l2 ih =>
    intro r n' hm hr hn'
    obtain ⟨n',rfl⟩:∃m,n'=m+1:=⟨n'-1,by omega⟩
    simp only[List.length_cons] at hr hn'
    rw[qe,h1 _ r x l2 (hm x (by simp)) (by omega),qhG]
    have:=ih (insL (fun x y=>decide (cmpM x y<0)) x r) n' (fun z hz=>hm z (by simp[hz])) (by rw[qnU];omega) (by omega)
    rw[qnU] at this
    exact this
  have h3:=go l [a] n (fun z hz=>by simp[hz]) (by simp;omega) (by omega)
  rw[← hN]
  have e1:iW (iAdd (0:Int) 1)=((1:Nat):Int):=qj (k:=0) (by omega)
  simp only[e1]
  have e2:(qhG (fun x y=>decide (cmpM x y<0)) [a] l).reverse=qj2 (fun x y=>decide (cmpM x y<0)) (a::l):=rfl
  rw[e2] at h3
  show Option.bind (qb n (qB n) ((0:Int),((N:Int),(((),()),(((([a]:List Msg).length:Nat):Int),((([a]:List Msg).reverse++l),())))))) _=_
  rw[h3]
  rfl
theorem qHd(n:Nat)(l:List Msg)(hs:∀x,x∈l→x.2.2.2.2.length≤1000)(hl:l.length≤12)(hn:2000≤n):qdn n (((),()),(l,()))=some (qj2 (fun x y=>decide (cmpM x y<0)) l,()):=by
 rw[qjm,qmy]
 obtain ⟨rr,hrr⟩:=qxk n l.length hl
 simp only[hrr,Option.bind_some]
 rw[qhD]
 obtain ⟨n',rfl⟩:∃m,n=m+1:=⟨n-1,by omega⟩
 rw[qg8,qhu,qe,qg7]
 simp only[w12 hl,cond_true,qHL (n'+1) l hs (by omega) hn,Option.bind_some]
theorem qIq(n N i:Nat)(x:Msg)(hN:N≤1000)(hn:2000≤n)(r m:List Msg)(hr:r.length≤N):qb n (qY n) ((0:Int),((N:Int),(((),()),((i:Int),((r.length:Int),((r.reverse++x::m),()))))))=some ((0:Int),((N:Int),(((),()),((i:Int),(((insL (fun x y=>decide (cmpQ x y<0)) x r).reverse++m),()))))):=by
 exact qwj (step:=qY n) (fun x y=>decide (cmpQ x y<0)) (fun j d=>((0:Int),((N:Int),(((),()),((i:Int),((j:Int),(d,()))))))) (fun d=>some ((0:Int),((N:Int),(((),()),((i:Int),(d,())))))) x N (fun rec A y m hA=>by
  rw[qcU]
  have hj:A.length<9223372036854775807:=by omega
  simp only[qr0,cond_true,qe4,app0,app1,Option.bind_some,qp0 hj,qjq,qHc n _ _ hn,set1,set0]) (fun rec d=>by
  rw[qcU]
  rfl) r m n hr (by omega)
theorem qHM(n:Nat)(l:List Msg)(hl:l.length≤1000)(hn:2000≤n):qbT n ((0:Int),((l.length:Int),(((),()),(l,()))))=some (qj2 (fun x y=>decide (cmpQ x y<0)) l,()):=by
 rw[qgr]
 cases l with
 | nil =>
  obtain ⟨n',rfl⟩:∃m,n=m+1:=⟨n-1,by omega⟩
  rw[qe,qbt]
  rfl
 | cons a l =>
  obtain ⟨N,hN⟩:∃N,N=(a::l).length:=⟨_,rfl⟩
  have hl':l.length+1=N:=by rw[hN];rfl
  have h1:∀rec (r:List Msg) x m,r.length+1+m.length=N→qA n rec ((0:Int),((N:Int),(((),()),((r.length:Int),((r.reverse++x::m),())))))=rec ((0:Int),((N:Int),(((),()),(((r.length+1:Nat):Int),(((insL (fun x y=>decide (cmpQ x y<0)) x r).reverse++m),()))))):=fun rec r x m hm=>by
   rw[qbt]
   simp only[qy (show r.length<N by omega),cond_true,qIq n N r.length x (by omega) hn r m (by omega),Option.bind_some,qj (show r.length<9223372036854775807 by omega)]
  have h0:∀rec (d:List Msg),qA n rec ((0:Int),((N:Int),(((),()),((N:Int),(d,())))))=some (d,()):=fun rec d=>by
   rw[qbt]
   simp only[qC,cond_false]
  have go:∀(l2 r:List Msg) (n':Nat),r.length+l2.length=N→l2.length<n'→qb n' (qA n) ((0:Int),((N:Int),(((),()),((r.length:Int),((r.reverse++l2),())))))=some ((qhG (fun x y=>decide (cmpQ x y<0)) r l2).reverse,()):=by
   intro l2
   induction l2 with
   | nil =>
    intro r n' hr hn'
    obtain ⟨n',rfl⟩:∃m,n'=m+1:=⟨n'-1,by omega⟩
    have hr':r.length=N:=by simpa using hr
    rw[qe,List.append_nil,hr',h0]
    rfl
   | cons x l2 ih =>
    intro r n' hr hn'
    obtain ⟨n',rfl⟩:∃m,n'=m+1:=⟨n'-1,by omega⟩
    simp only[List.length_cons] at hr hn'
    rw[qe,h1 _ r x l2 (by omega),qhG]
    have:=ih (insL (fun x y=>decide (cmpQ x y<0)) x r) n' (by rw[qnU];omega) (by omega)
    rw[qnU] at this
    exact this
  have h3:=go l [a] n (by simp;omega) (by omega)
  rw[← hN]
  have e1:iW (iAdd (0:Int) 1)=((1:Nat):Int):=qj (k:=0) (by omega)
  simp only[e1]
  have e2:(qhG (fun x y=>decide (cmpQ x y<0)) [a] l).reverse=qj2 (fun x y=>decide (cmpQ x y<0)) (a::l):=rfl
  rw[e2] at h3
  show Option.bind (qb n (qA n) ((0:Int),((N:Int),(((),()),(((([a]:List Msg).length:Nat):Int),((([a]:List Msg).reverse++l),())))))) _=_
  rw[h3]
  rfl
theorem qHe(n:Nat)(l:List Msg)(hl:l.length≤12)(hn:2000≤n):qb3 n (((),()),(l,()))=some (qj2 (fun x y=>decide (cmpQ x y<0)) l,()):=by
 rw[qjn,qmy]
 obtain ⟨rr,hrr⟩:=qxk n l.length hl
 simp only[hrr,Option.bind_some]
 rw[qhE]
 obtain ⟨n',rfl⟩:∃m,n=m+1:=⟨n-1,by omega⟩
 rw[qha,qhv,qe,qg9]
 simp only[w12 hl,cond_true,qHM (n'+1) l (by omega) hn,Option.bind_some]
theorem qIr(n N i:Nat)(x:Int)(hN:N≤1000)(hn:2000≤n)(r m:List Int)(hr:r.length≤N):qb n (qcN n) ((0:Int),((N:Int),((i:Int),((r.length:Int),((r.reverse++x::m),())))))=some ((0:Int),((N:Int),((i:Int),(((insL (fun x y=>decide (x<y)) x r).reverse++m),())))):=by
 exact qwj (step:=qcN n) (fun x y=>decide (x<y)) (fun j d=>((0:Int),((N:Int),((i:Int),((j:Int),(d,())))))) (fun d=>some ((0:Int),((N:Int),((i:Int),(d,()))))) x N (fun rec A y m hA=>by
  rw[qf9]
  have hj:A.length<9223372036854775807:=by omega
  simp only[qr0,cond_true,qe4,app0,app1,Option.bind_some,qp0 hj,qjq,qG8,set1,set0]) (fun rec d=>by
  rw[qf9]
  rfl) r m n hr (by omega)
theorem qHN(n:Nat)(l:List Int)(hl:l.length≤1000)(hn:2000≤n):qeU n ((0:Int),((l.length:Int),(l,())))=some (qj2 (fun x y=>decide (x<y)) l,()):=by
 rw[ql5]
 cases l with
 | nil =>
  obtain ⟨n',rfl⟩:∃m,n=m+1:=⟨n-1,by omega⟩
  rw[qe,qd0]
  rfl
 | cons a l =>
  obtain ⟨N,hN⟩:∃N,N=(a::l).length:=⟨_,rfl⟩
  have hl':l.length+1=N:=by rw[hN];rfl
  have h1:∀rec (r:List Int) x m,r.length+1+m.length=N→qbh n rec ((0:Int),((N:Int),((r.length:Int),((r.reverse++x::m),()))))=rec ((0:Int),((N:Int),(((r.length+1:Nat):Int),(((insL (fun x y=>decide (x<y)) x r).reverse++m),())))):=fun rec r x m hm=>by
   rw[qd0]
   simp only[qy (show r.length<N by omega),cond_true,qIr n N r.length x (by omega) hn r m (by omega),Option.bind_some,qj (show r.length<9223372036854775807 by omega)]
  have h0:∀rec (d:List Int),qbh n rec ((0:Int),((N:Int),((N:Int),(d,()))))=some (d,()):=fun rec d=>by
   rw[qd0]
   simp only[qC,cond_false]
  have go:∀(l2 r:List Int) (n':Nat),r.length+l2.length=N→l2.length<n'→qb n' (qbh n) ((0:Int),((N:Int),((r.length:Int),((r.reverse++l2),()))))=some ((qhG (fun x y=>decide (x<y)) r l2).reverse,()):=by
   intro l2
   induction l2 with
   | nil =>
    intro r n' hr hn'
    obtain ⟨n',rfl⟩:∃m,n'=m+1:=⟨n'-1,by omega⟩
    have hr':r.length=N:=by simpa using hr
    rw[qe,List.append_nil,hr',h0]
    rfl
   | cons x l2 ih =>
    intro r n' hr hn'
    obtain ⟨n',rfl⟩:∃m,n'=m+1:=⟨n'-1,by omega⟩
    simp only[List.length_cons] at hr hn'
    rw[qe,h1 _ r x l2 (by omega),qhG]
    have:=ih (insL (fun x y=>decide (x<y)) x r) n' (by rw[qnU];omega) (by omega)
    rw[qnU] at this
    exact this
  have h3:=go l [a] n (by simp;omega) (by omega)
  rw[← hN]
  have e1:iW (iAdd (0:Int) 1)=((1:Nat):Int):=qj (k:=0) (by omega)
  simp only[e1]
  have e2:(qhG (fun x y=>decide (x<y)) [a] l).reverse=qj2 (fun x y=>decide (x<y)) (a::l):=rfl
  rw[e2] at h3
  show Option.bind (qb n (qbh n) ((0:Int),((N:Int),(((([a]:List Int).length:Nat):Int),((([a]:List Int).reverse++l),()))))) _=_
  rw[h3]
  rfl
theorem qHf(n:Nat)(l:List Int)(hl:l.length≤12)(hn:2000≤n):qmv n (l,())=some (qj2 (fun x y=>decide (x<y)) l,()):=by
 rw[qtM,qmy]
 obtain ⟨rr,hrr⟩:=qxk n l.length hl
 simp only[hrr,Option.bind_some]
 rw[qos]
 obtain ⟨n',rfl⟩:∃m,n=m+1:=⟨n-1,by omega⟩
 rw[qnx,qnP,qe,qnw]
 simp only[w12 hl,cond_true,qHN (n'+1) l (by omega) hn,Option.bind_some]
end Go.Proofs.YtlmicgmhallkkaaGreatDoor
