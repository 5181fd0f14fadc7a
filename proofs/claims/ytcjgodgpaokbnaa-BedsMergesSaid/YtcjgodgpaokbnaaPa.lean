/- Texts Dp0, Dp1, Dp2, Dp3, Dp4, Dp5 in one. -/
import Derived.Test.YtcjgodgpaokbnaaDq0
import Derived.Test.YtcjgodgpaokbnaaDq1
/- Plain: loops over lists. Nothing here speaks of the program. -/
set_option linter.constructorNameAsVariable false
set_option linter.unusedSimpArgs false
set_option linter.unusedVariables false
set_option linter.unusedSectionVars false
namespace Go.Proofs.Ytcjgodgpaokbnaa
open Go Go.Proofs Go.RowKit
theorem qto{n:Int}(h:-9223372036854775808≤n)(h':n≤9223372036854775807):iW n=n:=qOh h h'
theorem qbE{k:Nat}(h:k<9223372036854775807):iW (iAdd (k:Int) 1)=((k+1:Nat):Int):=by
 rw[qto (by unfold iAdd;omega) (by unfold iAdd;omega)];unfold iAdd;omega
theorem qrQ{α:Type}(l:List α)(k:Nat):lat l (k:Int)=l[k]?:=by unfold lat;simp
theorem qeH{α:Type}(l:List α){k:Nat}(h:k<l.length):lat l (k:Int)=some l[k]:=by rw[qrQ,List.getElem?_eq_getElem h]
theorem qFW{α:Type}(x:α)(l:List α):lat (x::l) 0=some x:=rfl
theorem qcY{a b:Nat}(h:a<b):iLt (a:Int) (b:Int)=true:=by simp[iLt];exact h
theorem qdk{a:Nat}:iLt (a:Int) (a:Int)=false:=by simp[iLt]
theorem qKT{α:Type}(o:Option α):(o.bind fun y=>some y)=o:=by cases o<;>rfl
theorem qM{σ ξ:Type}(n:Nat)(step:(σ→Option ξ)→σ→Option ξ)(s:σ):qh (n+1) step s=step (qh n step) s:=rfl
def qqc{α β ξ:Type}(f:Nat→β→α→Option (β⊕ξ))(fin:β→Option ξ):List α→Nat→β→Option ξ
 | [],_,b=>fin b
 | x::l,k,b=>(f k b x).bind (Sum.elim (fun b'=>qqc f fin l (k+1) b') some)
theorem qAK{σ ξ α β:Type}{step:(σ→Option ξ)→σ→Option ξ}(l:List α)(mk:Nat→β→σ)(f:Nat→β→α→Option (β⊕ξ))(fin:β→Option ξ)
  (h:∀rec k b (hk:k<l.length),step rec (mk k b)=(f k b l[k]).bind (Sum.elim (fun b'=>rec (mk (k+1) b')) some))
  (h0:∀rec b,step rec (mk l.length b)=fin b) {n:Nat} (b:β) (hn:l.length<n):qh n step (mk 0 b)=qqc f fin l 0 b:=by
 have go:∀(m:Nat) (k:Nat) (b:β) (n:Nat),k+m=l.length→m<n→qh n step (mk k b)=qqc f fin (l.drop k) k b:=by
  intro m
  induction m with
  | zero =>
   intro k b n hk hn
   obtain ⟨n,rfl⟩:∃m,n=m+1:=⟨n-1,by omega⟩
   have:k=l.length:=by omega
   subst this
   rw[List.drop_length]
   exact h0 _ _
  | succ m ih =>
   intro k b n hk hn
   obtain ⟨n,rfl⟩:∃m,n=m+1:=⟨n-1,by omega⟩
   have hlt:k<l.length:=by omega
   rw[List.drop_eq_getElem_cons hlt]
   show step (qh n step) (mk k b)=_
   rw[h _ _ _ hlt,qqc]
   congr 1
   funext r
   cases r with
   | inl b'=>exact ih (k+1) b' n (by omega) (by omega)
   | inr r=>rfl
 have:=go l.length 0 b n (by omega) hn
 simpa using this
theorem qxB{σ ξ α:Type}{step:(σ→Option ξ)→σ→Option ξ}(l:List α)(mk:Nat→σ)(p:α→Bool)(hit:ξ)(miss:ξ)
  (h:∀rec k (hk:k<l.length),step rec (mk k)=cond (p l[k]) (some hit) (rec (mk (k+1))))
  (h0:∀rec,step rec (mk l.length)=some miss) {n:Nat} (hn:l.length<n):qh n step (mk 0)=some (cond (l.any p) hit miss):=by
 have h1:=qAK (β:=Unit) l (fun k _=>mk k) (fun _ _ x=>some (cond (p x) (.inr hit) (.inl ()))) (fun _=>some miss) (fun rec k b hk=>by rw[h rec k hk];cases p l[k]<;>rfl) (fun rec b=>h0 rec) () hn
 rw[h1]
 have:∀(l:List α) (k:Nat),qqc (fun _ (_:Unit) x=>some (cond (p x) (.inr hit) (.inl ()))) (fun _=>some miss) l k ()=some (cond (l.any p) hit miss):=by
  intro l
  induction l with
  | nil=>intro k;rfl
  | cons x l ih =>
   intro k
   rw[qqc,List.any_cons]
   cases p x with
   | true=>rfl
   | false=>exact ih _
 exact this l 0
theorem qxC{σ ξ α:Type}{step:(σ→Option ξ)→σ→Option ξ}(l:List α)(mk:Nat→σ)(p:α→Bool)(good:ξ)(bad:ξ)
  (h:∀rec k (hk:k<l.length),step rec (mk k)=cond (p l[k]) (rec (mk (k+1))) (some bad))
  (h0:∀rec,step rec (mk l.length)=some good) {n:Nat} (hn:l.length<n):qh n step (mk 0)=some (cond (l.all p) good bad):=by
 rw[qxB l mk (fun x=>!p x) bad good (fun rec k hk=>by rw[h rec k hk];cases p l[k]<;>rfl) h0 hn]
 rw[show l.any (fun x=>!p x) = !l.all p by simp[List.all_eq_not_any_not]]
 cases l.all p<;>rfl
theorem qtp{σ ξ α:Type}{step:(σ→Option ξ)→σ→Option ξ}(l:List α)(mk:Nat→σ)(p:α→Bool)(hit:Nat→ξ)(miss:ξ)
  (h:∀rec k (hk:k<l.length),step rec (mk k)=cond (p l[k]) (some (hit k)) (rec (mk (k+1))))
  (h0:∀rec,step rec (mk l.length)=some miss) {n:Nat} (hn:l.length<n) :
  (l.any p=false∧qh n step (mk 0)=some miss)∨(∃k,∃hk:k<l.length,p l[k]=true∧(l.take k).any p=false∧qh n step (mk 0)=some (hit k)):=by
 have h1:=qAK (β:=Unit) l (fun k _=>mk k) (fun k _ x=>some (cond (p x) (.inr (hit k)) (.inl ()))) (fun _=>some miss) (fun rec k b hk=>by rw[h rec k hk];cases p l[k]<;>rfl) (fun rec b=>h0 rec) () hn
 rw[h1]
 have:∀(l:List α) (j:Nat),(l.any p=false∧qqc (fun k (_:Unit) x=>some (cond (p x) (.inr (hit k)) (.inl ()))) (fun _=>some miss) l j ()=some miss)∨(∃k,∃hk:k<l.length,p l[k]=true∧(l.take k).any p=false∧qqc (fun k (_:Unit) x=>some (cond (p x) (.inr (hit k)) (.inl ()))) (fun _=>some miss) l j ()=some (hit (j+k))):=by
  intro l
  induction l with
  | nil=>intro j;exact .inl ⟨rfl,rfl⟩
  | cons x l ih =>
   intro j
   cases hx:p x with
   | true=>exact .inr ⟨0,by simp,by simpa using hx,rfl,by rw[qqc,hx];rfl⟩
   | false =>
    rcases ih (j+1) with ⟨h1,h2⟩ | ⟨k,hk,h1,h2,h3⟩
    ·exact .inl ⟨by rw[List.any_cons,hx,h1];rfl,by rw[qqc,hx];exact h2⟩
    ·refine .inr ⟨k+1,by simpa using hk,by simpa using h1,by rw[List.take_succ_cons,List.any_cons,hx,h2];rfl,?_⟩
     rw[qqc,hx]
     show qqc _ _ l (j+1) ()=_
     rw[h3]
     congr 2
     omega
 have:=this l 0
 simpa using this
theorem qpp{σ ξ α β:Type}{step:(σ→Option ξ)→σ→Option ξ}(l:List α)(mk:Nat→β→σ)(f:β→α→β)(b0:β)(fin:β→ξ)
  (h:∀rec k b (hk:k<l.length),b=(l.take k).foldl f b0→step rec (mk k b)=rec (mk (k+1) (f b l[k])))
  (h0:∀rec b,step rec (mk l.length b)=some (fin b)) {n:Nat} (hn:l.length<n):qh n step (mk 0 b0)=some (fin (l.foldl f b0)):=by
 have go:∀(m:Nat) (k:Nat) (n:Nat),k+m=l.length→m<n→qh n step (mk k ((l.take k).foldl f b0))=some (fin (l.foldl f b0)):=by
  intro m
  induction m with
  | zero =>
   intro k n hk hn
   obtain ⟨n,rfl⟩:∃m,n=m+1:=⟨n-1,by omega⟩
   have:k=l.length:=by omega
   subst this
   rw[List.take_length]
   exact h0 _ _
  | succ m ih =>
   intro k n hk hn
   obtain ⟨n,rfl⟩:∃m,n=m+1:=⟨n-1,by omega⟩
   have hlt:k<l.length:=by omega
   show step (qh n step) (mk k _)=_
   rw[h _ _ _ hlt rfl]
   have:=ih (k+1) n (by omega) (by omega)
   rw[List.take_succ_eq_append_getElem hlt,List.foldl_append] at this
   exact this
 have:=go l.length 0 n (by omega) hn
 simpa using this
def insL{α:Type}(lt:α→α→Bool)(x:α):List α→List α
 | []=>[x]
 | y::r=>cond (lt x y) (y::insL lt x r) (x::y::r)
def qno{α:Type}(lt:α→α→Bool):List α→List α→List α
 | r,[]=>r
 | r,x::l=>qno lt (insL lt x r) l
def qnM{α:Type}(lt:α→α→Bool)(l:List α):List α:=(qno lt [] l).reverse
theorem quG{α:Type}(lt:α→α→Bool)(x:α):∀r,(insL lt x r).length=r.length+1
 | []=>rfl
 | y::r=>by
  unfold insL
  cases lt x y with
  | true=>simp[quG lt x r]
  | false=>simp
theorem qAL{α:Type}(lt:α→α→Bool)(x:α):∀r,(insL lt x r).Perm (x::r)
 | []=>List.Perm.refl _
 | y::r=>by
  unfold insL
  cases lt x y with
  | true=>exact ((qAL lt x r).cons y).trans (List.Perm.swap x y r)
  | false=>exact List.Perm.refl _
theorem qFr{α:Type}(lt:α→α→Bool):∀l r,(qno lt r l).Perm (r++l)
 | [],r=>by simp[qno]
 | x::l,r=>by
  rw[qno]
  refine (qFr lt l _).trans ?_
  refine ((qAL lt x r).append_right l).trans ?_
  simp only[List.cons_append]
  exact List.perm_middle.symm
theorem qpq{α:Type}(lt:α→α→Bool)(l:List α):(qnM lt l).Perm l:=(List.reverse_perm _).trans (by simpa using qFr lt l [])
theorem qEO{σ ξ α:Type}{step:(σ→Option ξ)→σ→Option ξ}(lt:α→α→Bool)(mk:Nat→List α→σ)(fin:List α→Option ξ)(x:α)(N:Nat)
  (h1:∀rec A y m,A.length+1≤N→step rec (mk (A.length+1) (A++y::x::m))=cond (lt x y) (rec (mk A.length (A++x::y::m))) (fin (A++y::x::m)))
  (h0:∀rec d,step rec (mk 0 d)=fin d):∀(r m:List α) (n:Nat),r.length≤N→r.length<n→qh n step (mk r.length (r.reverse++x::m))=fin ((insL lt x r).reverse++m)
 | [],m,n+1,_,_=>h0 _ _
 | y::r,m,n+1,hN,hn=>by
  have e:=h1 (qh n step) r.reverse y m (by simpa using hN)
  rw[List.length_reverse] at e
  simp only[List.length_cons,List.reverse_cons,List.append_assoc,List.cons_append,List.nil_append]
  show step (qh n step) (mk (r.length+1) (r.reverse++y::x::m))=_
  rw[e,insL]
  cases lt x y with
  | true =>
   have:=qEO lt mk fin x N h1 h0 r (y::m) n (by simp at hN;omega) (by simp at hn;omega)
   simp only[cond_true,List.reverse_cons,List.append_assoc,List.cons_append,List.nil_append]
   exact this
  | false=>simp
end Go.Proofs.Ytcjgodgpaokbnaa
/- Beds, plain: the reference's checks. -/
namespace Go.Proofs.Ytcjgodgpaokbnaa
open Go Go.Proofs Go.RowKit
set_option maxHeartbeats 1000000
instance decStay:DecidableEq Stay:=inferInstance
instance decStays:DecidableEq (List Stay):=inferInstance
instance decMsg:DecidableEq Msg:=@instDecidableEqProd _ _ _ (@instDecidableEqProd _ _ _ (@instDecidableEqProd _ _ _ (@instDecidableEqProd _ _ _ decStays)))
theorem qhs{a b:Int}(h:a=b):iEq a b=true:=by simp[iEq,h]
theorem qj0{a b:Int}(h:a≠b):iEq a b=false:=by simp[iEq,h]
theorem qrA{a b:Int}(h:a≠b):iNe a b=true:=by simp[iNe,h]
theorem qku{a b:Int}(h:a=b):iNe a b=false:=by simp[iNe,h]
def wi(a lo hi:Int):Bool:=decide (lo≤a)&&decide (a≤hi)
theorem qn3{a lo hi:Int}:wi a lo hi=true↔lo≤a∧a≤hi:=by simp[wi]
theorem qu7(n:Nat)(a lo hi:Int):qbv n (a,(lo,(hi,())))=some (wi a lo hi,()):=by
 rw[qzF]
 show cond (decide (a≥lo)) (some (decide (a≤hi),())) (some (false,()))=_
 unfold wi
 by_cases h:lo≤a
 ·simp[h]
 ·simp[h]
theorem qrB(n:Nat)(a lo hi:Int):qeV n (a,(lo,(hi,())))=some (wi a lo hi,()):=by
 rw[qE7]
 show cond (decide (lo≤a)) (some (decide (a≤hi),())) (some (false,()))=_
 unfold wi
 by_cases h:lo≤a
 ·simp[h]
 ·simp[h]
def hutB(h:Int×Int):Bool:=wi h.1 0 20&&wi h.2 0 20
def qiB(c:Chn):Bool:=c.1.all hutB&&(wi c.1.length 1 6&&wi c.2 1 20)
theorem qLw(n:Nat)(c:Chn)(hl:c.1.length≤100)(hn:200≤n):qpQ n (c,())=some (qiB c,()):=by
 obtain ⟨hs,ni⟩:=c
 rw[qyB]
 have hl:hs.length≤100:=hl
 have h1:=qxC (step:=qor n) hs (fun k=>((k:Int),((hs,ni),()))) hutB (.inl ((hs,ni),())) (.inr (false,())) (fun rec k hk=>by
  rw[qq1]
  simp only[qcY hk,cond_true,qeH hs hk,Option.bind_some,qu7,qbE (show k<9223372036854775807 by omega)]
  unfold hutB
  cases wi hs[k].1 0 20<;>cases wi hs[k].2 0 20<;>rfl) (fun rec=>by
  rw[qq1]
  simp only[qdk,cond_false]) (n:=n) (by omega)
 show Option.bind (qh n _ (((0:Nat):Int),((hs,ni),()))) _=_
 rw[h1]
 unfold qiB
 cases hs.all hutB with
 | false=>rfl
 | true =>
  simp only[Option.bind_some,cond_true,Sum.elim_inl,qu7,Int.ofNat_eq_natCast]
  cases wi hs.length 1 6<;>rfl
def qtf(nh nn:Int):Int→List Stay→Bool
 | _,[]=>true
 | last,s::l=>(wi s.1 0 (nh-1)&&(decide (last<s.2.1)&&(decide (s.2.1≤s.2.2)&&decide (s.2.2<nn))))&&qtf nh nn s.2.2 l
def reqB(c:Chn)(m:Msg):Bool:=decide (m.1=1)&&(wi m.2.2.1 0 9999&&(wi m.2.2.2.1 1 20&&(wi m.2.2.2.2.length 1 6&&qtf c.1.length c.2 (-1) m.2.2.2.2)))
theorem qFs(nh nn:Int):∀(l:List Stay) (k:Nat) (last:Int),qqc (ξ:=Unit⊕(Bool×Unit)) (fun _ (last:Int) (s:Stay)=>some (cond (wi s.1 0 (nh-1)&&(decide (last<s.2.1)&&(decide (s.2.1≤s.2.2)&&decide (s.2.2<nn)))) (.inl s.2.2) (.inr (.inr (false,()))))) (fun _=>some (.inl ())) l k last=some (cond (qtf nh nn last l) (.inl ()) (.inr (false,())))
 | [],_,_=>rfl
 | s::l,k,last=>by
  rw[qqc,qtf]
  cases wi s.1 0 (nh-1)&&(decide (last<s.2.1)&&(decide (s.2.1≤s.2.2)&&decide (s.2.2<nn))) with
  | false=>rfl
  | true=>exact qFs nh nn l _ _
theorem qJK(n:Nat)(c:Chn)(m:Msg)(hh:c.1.length≤100)(hl:m.2.2.2.2.length≤100)(hn:200≤n):qe6 n (c,(m,()))=some (reqB c m,()):=by
 rw[qq2]
 obtain ⟨hs,ni⟩:=c
 obtain ⟨kd,id,st,pe,ss⟩:=m
 simp only at hl hh
 have h1:=qAK (step:=qm4 n) ss (fun k last=>(last,((k:Int),((hs,ni),((kd,(id,(st,(pe,ss)))),()))))) (fun _ (last:Int) (s:Stay)=>some (cond (wi s.1 0 ((hs.length:Int)-1)&&(decide (last<s.2.1)&&(decide (s.2.1≤s.2.2)&&decide (s.2.2<ni)))) (.inl s.2.2) (.inr (.inr (false,()))))) (fun _=>some (.inl ())) (fun rec k last hk=>by
  rw[qp3]
  simp only[qcY hk,cond_true,qeH ss hk,Option.bind_some,qu7,qbE (show k<9223372036854775807 by omega),qto (n:=iSub (hs.length:Int) 1) (by unfold iSub;omega) (by unfold iSub;omega)]
  unfold iSub iLe iLt iGe
  cases wi ss[k].1 0 ((hs.length:Int)-1) with
  | false=>rfl
  | true =>
   by_cases h1:ss[k].2.1≤last
   ·have h2:¬last<ss[k].2.1:=by omega
    simp[h1,h2]
   ·have h2:last<ss[k].2.1:=by omega
    by_cases h3:ss[k].2.2<ss[k].2.1
    ·have h4:¬ss[k].2.1≤ss[k].2.2:=by omega
     simp[h1,h2,h3,h4]
    ·have h4:ss[k].2.1≤ss[k].2.2:=by omega
     by_cases h5:ss[k].2.2≥ni
     ·have h6:¬ss[k].2.2<ni:=by omega
      simp[h1,h2,h3,h4,h5,h6]
     ·have h6:ss[k].2.2<ni:=by omega
      have h5':¬ni≤ss[k].2.2:=by omega
      simp[h1,h2,h3,h4,h5',h6]) (fun rec b=>by
  rw[qp3]
  simp only[qdk,cond_false]) (n:=n) (-1) (by omega)
 rw[qFs] at h1
 unfold reqB
 simp only[qu7,Option.bind_some,Int.ofNat_eq_natCast,show (Int.negSucc 0) = -1 from rfl]
 by_cases hk:kd=1
 ·subst hk
  rw[qku rfl]
  cases h2:wi st 0 9999 with
  | false=>simp[h2]
  | true =>
   cases h3:wi pe 1 20 with
   | false=>simp[h2,h3]
   | true =>
    cases h4:wi ss.length 1 6 with
    | false=>simp[h2,h3,h4]
    | true =>
     simp only[cond_false,cond_true,Bool.not_true,decide_true,Bool.true_and]
     show Option.bind (qh n _ (-1,(((0:Nat):Int),_))) _=_
     rw[h1]
     cases qtf hs.length ni (-1) ss<;>rfl
 ·rw[qrA hk];simp[hk]
theorem qIw(n:Nat)(c:Chn)(m:Msg)(hh:c.1.length≤100)(hn:200≤n):qe6 n (c,(m,()))=some (reqB c m,()):=by
 by_cases hl:m.2.2.2.2.length≤100
 ·exact qJK n c m hh hl hn
 ·have hw:wi (m.2.2.2.2.length:Int) 1 6=false:=by unfold wi;simp;omega
  rw[qq2]
  simp only[qu7,Option.bind_some,Int.ofNat_eq_natCast,hw]
  unfold reqB
  rw[hw]
  by_cases hk:m.1=1
  ·rw[qku hk]
   cases wi m.2.2.1 0 9999<;>cases wi m.2.2.2.1 1 20<;>simp
  ·rw[qrA hk];simp[hk]
def canB(m:Msg):Bool:=decide (m.1=2)&&(decide (m.2.2.1=0)&&(decide (m.2.2.2.1=0)&&decide (m.2.2.2.2.length=0)))
def mesB(c:Chn)(m:Msg):Bool:=wi m.2.1 0 99&&(canB m||reqB c m)
theorem qGU(n:Nat)(c:Chn)(l:List Msg)(hh:c.1.length≤100)(hl:l.length≤100)(hn:200≤n):qm5 n (c,(l,()))=some (l.all (mesB c)&&decide (l.length≤40),()):=by
 rw[qv6]
 have h1:=qxC (step:=qls n) l (fun k=>(l,((k:Int),(c,())))) (mesB c) (.inl (l,())) (.inr (false,())) (fun rec k hk=>by
  rw[qoN]
  simp only[qcY hk,cond_true,qeH l hk,Option.bind_some,qu7,qbE (show k<9223372036854775807 by omega),qIw n c l[k] hh hn]
  unfold mesB canB
  cases wi l[k].2.1 0 99 with
  | false =>
   cases iEq l[k].1 2<;>cases iEq l[k].2.2.1 0<;>cases iEq l[k].2.2.2.1 0<;>rfl
  | true =>
   cases reqB c l[k] with
   | true =>
    simp only[Bool.or_true,Bool.true_and,Bool.not_true,cond_false,cond_true]
    cases iEq l[k].1 2<;>cases iEq l[k].2.2.1 0<;>cases iEq l[k].2.2.2.1 0<;>cases iEq ((l[k].2.2.2.2.length:Nat):Int) 0<;>rfl
   | false =>
    simp only[Bool.or_false,Bool.true_and,Bool.not_true,cond_false,Bool.not_false,cond_true]
    by_cases e1:l[k].1=2
    ·by_cases e2:l[k].2.2.1=0
     ·by_cases e3:l[k].2.2.2.1=0
      ·by_cases e4:l[k].2.2.2.2.length=0
       ·rw[qhs e1,qhs e2,qhs e3,qhs (by omega)];simp[e1,e2,e3,e4]
       ·rw[qhs e1,qhs e2,qhs e3,qj0 (by omega)];simp[e4]
      ·rw[qhs e1,qhs e2,qj0 e3];simp[e3]
     ·rw[qhs e1,qj0 e2];simp[e2]
    ·rw[qj0 e1];simp[e1]) (fun rec=>by
  rw[qoN]
  simp only[qdk,cond_false]) (n:=n) (by omega)
 show Option.bind (qh n _ (l,(((0:Nat):Int),(c,())))) _=_
 rw[h1]
 cases l.all (mesB c) with
 | false=>rfl
 | true =>
  simp only[Option.bind_some,cond_true,Sum.elim_inl,Bool.true_and]
  unfold iLe
  by_cases h:l.length≤40
  ·have:((l.length:Nat):Int)≤40:=by omega
   simp[h,this]
  ·have:¬((l.length:Nat):Int)≤40:=by omega
   simp[h,this]
theorem qPu(a b:Stay):Ty.eqB (Ty.pr (Ty.i .i64) T80) a b=decide (a=b):=by
 obtain ⟨a1,a2,a3⟩:=a
 obtain ⟨b1,b2,b3⟩:=b
 show ((a1==b1)&&((a2==b2)&&(a3==b3)))=_
 by_cases h1:a1=b1<;>by_cases h2:a2=b2<;>by_cases h3:a3=b3<;>simp[h1,h2,h3]
theorem qFX(n:Nat)(a b:Msg)(hl:a.2.2.2.2.length≤100)(hn:200≤n):qkp n (a,(b,()))=some (decide (a=b),()):=by
 rw[qz6]
 obtain ⟨a1,a2,a3,a4,sa⟩:=a
 obtain ⟨b1,b2,b3,b4,sb⟩:=b
 simp only at hl
 by_cases e1:a1=b1
 ·by_cases e2:a2=b2
  ·by_cases e3:a3=b3
   ·by_cases e4:a4=b4
    ·subst e1 e2 e3 e4
     simp only[qku rfl,cond_false]
     by_cases e5:sa.length=sb.length
     ·have h1:=qxC (step:=qpR n) (sa.zip sb) (fun k=>((k:Int),((a1,(a2,(a3,(a4,sa)))),((a1,(a2,(a3,(a4,sb)))),())))) (fun p=>decide (p.1=p.2)) (.inl ()) (.inr (false,())) (fun rec k hk=>by
       rw[qsq]
       have hka:k<sa.length:=by simp at hk;omega
       have hkb:k<sb.length:=by omega
       simp only[qcY hka,cond_true,qeH sa hka,qeH sb hkb,Option.bind_some,qbE (show k<9223372036854775807 by omega),List.getElem_zip]
       rw[show Ty.eqB (Ty.pr (Ty.i .i64) T80) sa[k] sb[k]=decide (sa[k]=sb[k]) from qPu _ _]
       cases decide (sa[k]=sb[k])<;>rfl) (fun rec=>by
       rw[qsq]
       simp only[List.length_zip,e5,Nat.min_self,qdk,cond_false]) (n:=n) (by simp;omega)
      rw[qku (by omega)]
      simp only[cond_false]
      show Option.bind (qh n _ (((0:Nat):Int),_)) _=_
      rw[h1]
      have h2:(sa.zip sb).all (fun p=>decide (p.1=p.2))=decide (sa=sb):=by
       clear h1 hl
       induction sa generalizing sb with
       | nil=>cases sb with
        | nil=>rfl
        | cons b sb=>cases e5
       | cons a sa ih=>cases sb with
        | nil=>cases e5
        | cons b sb =>
         rw[List.zip_cons_cons,List.all_cons,ih sb (by simpa using e5)]
         by_cases h:a=b<;>by_cases h':sa=sb<;>simp[h,h']
      rw[h2]
      by_cases h:sa=sb<;>simp[h]
     ·have h:sa≠sb:=fun h=>e5 (by rw[h])
      have e5':((sa.length:Nat):Int)≠sb.length:=by omega
      rw[qrA e5'];simp[h]
    ·rw[qku e1,qku e2,qku e3,qrA e4];simp[e4]
   ·rw[qku e1,qku e2,qrA e3];simp[e3]
  ·rw[qku e1,qrA e2];simp[e2]
 ·rw[qrA e1];simp[e1]
end Go.Proofs.Ytcjgodgpaokbnaa
/- Beds, plain: the reference's checks, what statements look at. -/
namespace Go.Proofs.Ytcjgodgpaokbnaa
open Go Go.Proofs Go.RowKit
set_option maxHeartbeats 1000000
def claB(x y:Msg):Bool:=decide (x.2.1=y.2.1)&&(decide (x.1=y.1) && !decide (x=y))
def qkv(l:List Msg):Bool:=(List.range l.length).any fun i=>(List.range i).any fun k=>match l[i]?,l[k]? with
 | some x,some y=>claB x y
 | _,_=>false
theorem qBM{m k:Nat}(h:k<(List.range m).length):(List.range m)[k]=k:=by simp
theorem qMx(n:Nat)(l:List Msg)(i:Nat)(hi:i<l.length)(hl:l.length≤100)(hs:∀m,m∈l→m.2.2.2.2.length≤100)(hn:200≤n) :
  qh n (qlQ n) (l,((i:Int),((0:Int),())))=some (cond ((List.range i).any fun k=>match l[i]?,l[k]? with
   | some x,some y=>claB x y
   | _,_=>false) (.inr (true,())) (.inl (l,((i:Int),())))):=by
 exact qxB (step:=qlQ n) (List.range i) (fun k=>(l,((i:Int),((k:Int),())))) (fun k=>match l[i]?,l[k]? with
   | some x,some y=>claB x y
   | _,_=>false) (.inr (true,())) (.inl (l,((i:Int),()))) (fun rec k hk=>by
  rw[qsr]
  have hk':k<i:=by simpa using hk
  have hkl:k<l.length:=by omega
  simp only[qcY hk',cond_true,qeH l hi,qeH l hkl,Option.bind_some,qBM,List.getElem?_eq_getElem hi,List.getElem?_eq_getElem hkl,qFX n _ _ (hs _ (List.getElem_mem hi)) hn,qbE (show k<9223372036854775807 by omega)]
  unfold claB
  by_cases e1:l[i].2.1=l[k].2.1
  ·rw[qhs e1]
   by_cases e2:l[i].1=l[k].1
   ·rw[qhs e2]
    by_cases e3:l[i]=l[k]
    ·simp[e3]
    ·simp[e1,e2,e3]
   ·rw[qj0 e2];simp[e2]
  ·rw[qj0 e1];simp[e1]) (fun rec=>by
  rw[qsr]
  simp only[List.length_range,qdk,cond_false]) (n:=n) (by simp;omega)
theorem qJL(n:Nat)(l:List Msg)(hl:l.length≤100)(hs:∀m,m∈l→m.2.2.2.2.length≤100)(hn:200≤n):qnD n (l,())=some (qkv l,()):=by
 rw[qz7]
 have h1:=qxB (step:=qpS n) (List.range l.length) (fun k=>(l,((k:Int),()))) (fun i=>(List.range i).any fun k=>match l[i]?,l[k]? with
   | some x,some y=>claB x y
   | _,_=>false) (.inr (true,())) (.inl ()) (fun rec i hi=>by
  rw[qss]
  have hi':i<l.length:=by simpa using hi
  simp only[qcY hi',cond_true,qBM]
  rw[qMx n l i hi' hl hs hn]
  generalize ((List.range i).any _)=b
  cases b with
  | true=>rfl
  | false =>
   simp only[cond_false,Option.bind_some,Sum.elim_inl,qbE (show i<9223372036854775807 by omega)]) (fun rec=>by
  rw[qss]
  simp only[List.length_range,qdk,cond_false]) (n:=n) (by simp;omega)
 show Option.bind (qh n _ (l,(((0:Nat):Int),()))) _=_
 rw[h1]
 show Option.bind (some (cond (qkv l) _ _)) _=_
 cases qkv l<;>rfl
theorem qvX{l:List Msg}(h:qkv l=false):∀x y,x∈l→y∈l→x.2.1=y.2.1→x.1=y.1→x=y:=by
 intro x y hx hy h1 h2
 obtain ⟨i,hi,rfl⟩:=List.mem_iff_getElem.1 hx
 obtain ⟨k,hk,rfl⟩:=List.mem_iff_getElem.1 hy
 have key:∀a b (ha:a<l.length) (hb:b<a),claB (l[a]) (l[b]'(by omega))=false:=fun a b ha hb=>by
  unfold qkv at h
  rw[List.any_eq_false] at h
  have h3:=h a (List.mem_range.2 ha)
  simp only[Bool.not_eq_true] at h3
  rw[List.any_eq_false] at h3
  have h4:=h3 b (List.mem_range.2 hb)
  rw[List.getElem?_eq_getElem ha,List.getElem?_eq_getElem (by omega)] at h4
  simpa using h4
 rcases Nat.lt_trichotomy i k with h3 | h3 | h3
 ·have:=key k i hk h3
  unfold claB at this
  simp only[Bool.and_eq_false_iff,decide_eq_false_iff_not,Bool.not_eq_false',decide_eq_true_eq] at this
  rcases this with h4 | h4 | h4
  ·exact (h4 h1.symm).elim
  ·exact (h4 h2.symm).elim
  ·exact h4.symm
 ·subst h3;rfl
 ·have:=key i k hi h3
  unfold claB at this
  simp only[Bool.and_eq_false_iff,decide_eq_false_iff_not,Bool.not_eq_false',decide_eq_true_eq] at this
  rcases this with h4 | h4 | h4
  ·exact (h4 h1).elim
  ·exact (h4 h2).elim
  ·exact h4
def chkN(c:Chn)(l:List Msg):Int:=cond (qiB c) (cond (l.all (mesB c)&&decide (l.length≤40)) (cond (qkv l) 22 0) 21) 20
theorem qOU{c:Chn}{l:List Msg}(h:chkN c l=0):qiB c=true∧(∀m,m∈l→mesB c m=true)∧l.length≤40∧qkv l=false:=by
 unfold chkN at h
 cases h1:qiB c<;>cases h2:(l.all (mesB c)&&decide (l.length≤40))<;>cases h3:qkv l<;>rw[h1,h2,h3] at h<;>first | (cases h;done) | skip
 rw[Bool.and_eq_true,List.all_eq_true,decide_eq_true_eq] at h2
 exact ⟨rfl,h2.1,h2.2,rfl⟩
def farB(c:Chn)(l:List Msg):Bool:=l.any (fun m=>decide (20<m.2.2.2.2.length))||(decide (20<c.1.length)||((decide (9<l.length)&&decide (l.length≤40))||decide (60<l.length)))
theorem qMy(n:Nat)(c:Chn)(l:List Msg)(hl:l.length≤9223372036854775807)(hn:l.length<n):qmo n (c,(l,()))=some (farB c l,()):=by
 rw[qBJ]
 have h1:=qxB (step:=qrx n) l (fun k=>(l,((k:Int),(c,())))) (fun m=>decide (20<m.2.2.2.2.length)) (.inr (true,())) (.inl (l,(c,()))) (fun rec k hk=>by
  rw[qtD]
  simp only[qcY hk,cond_true,qeH l hk,Option.bind_some,qbE (show k<9223372036854775807 by omega)]
  rw[show iGt ((l[k].2.2.2.2.length:Nat):Int) 20=decide (20<l[k].2.2.2.2.length) by unfold iGt;congr 1;simp;omega]) (fun rec=>by
  rw[qtD]
  simp only[qdk,cond_false]) (n:=n) hn
 show Option.bind (qh n _ (l,(((0:Nat):Int),(c,())))) _=_
 rw[h1]
 unfold farB
 cases l.any (fun m=>decide (20<m.2.2.2.2.length)) with
 | true=>rfl
 | false =>
  simp only[Option.bind_some,cond_false,Sum.elim_inl,Bool.false_or]
  rw[show iGt ((c.1.length:Nat):Int) 20=decide (20<c.1.length) by unfold iGt;congr 1;simp;omega,show iGt ((l.length:Nat):Int) 9=decide (9<l.length) by unfold iGt;congr 1;simp;omega,show iLe ((l.length:Nat):Int) 40=decide (l.length≤40) by unfold iLe;congr 1;simp;omega,show iGt ((l.length:Nat):Int) 60=decide (60<l.length) by unfold iGt;congr 1;simp;omega]
  cases decide (20<c.1.length)<;>cases decide (9<l.length)<;>cases decide (l.length≤40)<;>rfl
structure Vld (c:Chn) (l:List Msg):Prop where
 ch:qiB c=true
 ms:∀m,m∈l→mesB c m=true
 ln:l.length≤40
 cl:qkv l=false
 st:∀m,m∈l→m.2.2.2.2.length≤20
 hu:c.1.length≤20
end Go.Proofs.Ytcjgodgpaokbnaa
/- Beds, plain: the program's checks of chains and messages. -/
namespace Go.Proofs.Ytcjgodgpaokbnaa
open Go Go.Proofs Go.RowKit
set_option maxHeartbeats 1000000
theorem qMz(n:Nat)(c:Chn)(x:Int)(hh:c.1.length≤9223372036854775807):qrv n ((c,()),(x,()))=some (wi x 0 (c.1.length-1),()):=by
 rw[qDq]
 simp only[qrB,qto (n:=iSub (c.1.length:Int) 1) (by unfold iSub;omega) (by unfold iSub;omega),qKT]
theorem qJM(n:Nat)(c:Chn)(x:Int)(h1:-1000≤c.2)(h2:c.2≤1000):qpl n ((c,()),(x,()))=some (wi x 0 (c.2-1),()):=by
 rw[qBH]
 simp only[qrB,qto (n:=iSub c.2 1) (by unfold iSub;omega) (by unfold iSub;omega),qKT]
theorem qNT(n:Nat)(c:Chn)(ss:List Stay)(hh:c.1.length≤100)(h1:-1000≤c.2)(h2:c.2≤1000)(hl:ss.length≤1000):∀(m k:Nat) (last:Int) (n':Nat),k+m=ss.length→m<n'→-1≤last→last≤1000 →
  qh n' (qrw n) (last,(ss,((ss.length:Int),((k:Int),((c,()),())))))=some (cond (qtf c.1.length c.2 last (ss.drop k)) (.inl ()) (.inr (false,()))):=by
 intro m
 induction m with
 | zero =>
  intro k last n' hk hn hb hb2
  obtain ⟨n',rfl⟩:∃m,n'=m+1:=⟨n'-1,by omega⟩
  have:k=ss.length:=by omega
  subst this
  rw[qM,qtB,List.drop_length]
  simp only[qdk,cond_false]
  rfl
 | succ m ih =>
  intro k last n' hk hn hb hb2
  obtain ⟨n',rfl⟩:∃m,n'=m+1:=⟨n'-1,by omega⟩
  have hlt:k<ss.length:=by omega
  rw[qM,qtB,List.drop_eq_getElem_cons hlt,qtf]
  simp only[qcY hlt,cond_true,qeH ss hlt,Option.bind_some,qMz n c _ (by omega),qrB,qJM n c _ h1 h2,qbE (show k<9223372036854775807 by omega),qto (n:=iAdd last 1) (by unfold iAdd;omega) (by unfold iAdd;omega)]
  cases hw:wi ss[k].1 0 ((c.1.length:Int)-1) with
  | false=>simp
  | true =>
   simp only[Bool.not_true,cond_false,Bool.true_and]
   by_cases h3:wi ss[k].2.1 (iAdd last 1) ss[k].2.2=true
   ·have h3':=qn3.1 h3
    unfold iAdd at h3'
    rw[h3]
    simp only[Bool.not_true,cond_false]
    by_cases h4:wi ss[k].2.2 0 (c.2-1)=true
    ·have h4':=qn3.1 h4
     rw[h4]
     simp only[Bool.not_true,cond_false]
     rw[show (decide (last<ss[k].2.1))=true from decide_eq_true (by omega),show (decide (ss[k].2.1≤ss[k].2.2))=true from decide_eq_true (by omega),show (decide (ss[k].2.2<c.2))=true from decide_eq_true (by omega)]
     simp only[Bool.true_and]
     exact ih (k+1) ss[k].2.2 n' (by omega) (by omega) (by omega) (by omega)
    ·have h4':¬ss[k].2.2<c.2:=fun h=>h4 (qn3.2 ⟨by omega,by omega⟩)
     rw[show wi ss[k].2.2 0 (c.2-1)=false by simpa using h4]
     simp[h4']
   ·have h3':¬(last<ss[k].2.1∧ss[k].2.1≤ss[k].2.2):=fun h=>h3 (qn3.2 ⟨by unfold iAdd;omega,h.2⟩)
    rw[show wi ss[k].2.1 (iAdd last 1) ss[k].2.2=false by simpa using h3]
    simp only[Bool.not_false,cond_true]
    by_cases h5:last<ss[k].2.1
    ·have h6:¬ss[k].2.1≤ss[k].2.2:=fun h=>h3' ⟨h5,h⟩
     simp[h6]
    ·simp[h5]
theorem qNU(n:Nat)(c:Chn)(ss:List Stay)(hh:c.1.length≤100)(h1:-1000≤c.2)(h2:c.2≤1000)(hl:ss.length≤1000)(hn:2000≤n):qs7 n ((c,()),(ss,()))=some (qtf c.1.length c.2 (-1) ss,()):=by
 rw[qBI]
 have h3:=qNT n c ss hh h1 h2 hl ss.length 0 (-1) n (by omega) (by omega) (by omega) (by omega)
 show Option.bind (qh n _ (-1,(ss,((ss.length:Int),(((0:Nat):Int),((c,()),())))))) _=_
 rw[h3,List.drop_zero]
 cases qtf c.1.length c.2 (-1) ss<;>rfl
theorem qLx(n:Nat)(c:Chn)(m:Msg)(hh:c.1.length≤100)(h1:-1000≤c.2)(h2:c.2≤1000)(hl:m.2.2.2.2.length≤1000)(hn:2000≤n):qnG n ((c,()),(m,()))=some (mesB c m,()):=by
 rw[qtC]
 simp only[qrB,Option.bind_some,qNU n c _ hh h1 h2 hl hn,Int.ofNat_eq_natCast]
 unfold mesB canB reqB
 cases wi m.2.1 0 99 with
 | false=>rfl
 | true =>
  simp only[Bool.not_true,cond_false,Bool.true_and]
  by_cases e1:m.1=2
  ·rw[qhs e1]
   have e1':¬m.1=1:=by omega
   by_cases e2:m.2.2.1=0
   ·rw[qhs e2]
    by_cases e3:m.2.2.2.1=0
    ·rw[qhs e3]
     by_cases e4:m.2.2.2.2.length=0
     ·rw[qhs (by omega)];simp[e1,e2,e3,e4]
     ·rw[qj0 (by omega)];simp[e1',e4]
    ·rw[qj0 e3];simp[e1',e3]
   ·rw[qj0 e2];simp[e1',e2]
  ·rw[qj0 e1]
   by_cases e2:m.1=1
   ·rw[qhs e2]
    simp only[cond_false,cond_true,e1,decide_false,Bool.false_and,Bool.false_or,e2,decide_true,Bool.true_and]
    cases wi m.2.2.1 0 9999<;>cases wi m.2.2.2.1 1 20<;>cases wi (m.2.2.2.2.length:Int) 1 6<;>rfl
   ·rw[qj0 e2];simp[e1,e2]
theorem qKk(n:Nat)(c:Chn)(m:Msg)(hh:c.1.length≤100)(h1:-1000≤c.2)(h2:c.2≤1000)(hn:2000≤n):qnG n ((c,()),(m,()))=some (mesB c m,()):=by
 by_cases hl:m.2.2.2.2.length≤1000
 ·exact qLx n c m hh h1 h2 hl hn
 ·have hw:wi (m.2.2.2.2.length:Int) 1 6=false:=by unfold wi;simp;omega
  rw[qtC]
  simp only[qrB,Option.bind_some,Int.ofNat_eq_natCast,hw]
  unfold mesB canB reqB
  rw[hw,qj0 (show (m.2.2.2.2.length:Int)≠0 by omega),decide_eq_false (show ¬m.2.2.2.2.length=0 by omega)]
  simp only[Bool.and_false,Bool.false_and,Bool.or_false]
  cases wi m.2.1 0 99<;>cases iEq m.1 2<;>cases iEq m.2.2.1 0<;>cases iEq m.2.2.2.1 0<;>cases iEq m.1 1<;>cases wi m.2.2.1 0 9999<;>cases wi m.2.2.2.1 1 20<;>rfl
theorem qPv(n:Nat)(h:Int×Int):qtX n (h,())=some (!hutB h,()):=by
 rw[qCU]
 simp only[qrB,Option.bind_some]
 unfold hutB
 cases wi h.1 0 20<;>cases wi h.2 0 20<;>rfl
theorem qIx(n:Nat)(hs:List (Int×Int))(hl:hs.length≤1000)(hn:2000≤n):qfL n (hs,(((),()),()))=some (hs.any fun h=>!hutB h,()):=by
 rw[qoK,qpU]
 have h1:=qtp (step:=qfZ n) hs (fun k=>(hs,(((),()),((hs.length:Int),((k:Int),()))))) (fun h=>!hutB h) (fun k=>.inr ((k:Int),())) (.inl ()) (fun rec k hk=>by
  rw[qiY]
  simp only[qcY hk,cond_true,qeH hs hk,Option.bind_some,qPv,qbE (show k<9223372036854775807 by omega)]) (fun rec=>by
  rw[qiY]
  simp only[qdk,cond_false]) (n:=n) (by omega)
 show Option.bind (Option.bind (qh n _ (hs,(((),()),((hs.length:Int),(((0:Nat):Int),()))))) _) _=_
 rcases h1 with ⟨h1,h2⟩ | ⟨k,hk,h1,_,h2⟩
 ·rw[h2,h1];rfl
 ·rw[h2,show (hs.any fun h=>!hutB h)=true from List.any_eq_true.2 ⟨_,List.getElem_mem hk,h1⟩]
  show some (iGe (k:Int) 0,())=_
  simp[iGe]
theorem qOw(n:Nat)(c:Chn)(hl:c.1.length≤1000)(hn:2000≤n):qvT n ((c,()),())=some (qiB c,()):=by
 rw[qEk]
 simp only[qrB,Option.bind_some,qIx n c.1 hl hn,Int.ofNat_eq_natCast]
 unfold qiB
 rw[show c.1.all hutB = !(c.1.any fun h=>!hutB h) by simp[List.all_eq_not_any_not]]
 cases wi (c.1.length:Int) 1 6<;>cases wi c.2 1 20<;>cases (c.1.any fun h=>!hutB h)<;>rfl
theorem qAM(n:Nat)(c:Chn)(l:List Msg)(hh:c.1.length≤100)(h1:-1000≤c.2)(h2:c.2≤1000)(hl:l.length≤1000)(hn:2000≤n) :
  ∃u,qcc n (l,((c,()),()))=some (l.any fun m=>!mesB c m,u):=by
 rw[qkY,ql0]
 have h3:=qtp (step:=qdU n) l (fun k=>(l,((l.length:Int),((k:Int),((c,()),()))))) (fun m=>!mesB c m) (fun k=>.inr ((k:Int),((c,()),()))) (.inl ((c,()),())) (fun rec k hk=>by
  rw[qf6]
  simp only[qcY hk,cond_true,qeH l hk,Option.bind_some,qxA,qKk n c l[k] hh h1 h2 hn,qbE (show k<9223372036854775807 by omega)]) (fun rec=>by
  rw[qf6]
  simp only[qdk,cond_false]) (n:=n) (by omega)
 show ∃u,Option.bind (Option.bind (qh n _ (l,((l.length:Int),(((0:Nat):Int),((c,()),()))))) _) _=_
 rcases h3 with ⟨h4,h5⟩ | ⟨k,hk,h4,_,h5⟩
 ·rw[h5,h4];exact ⟨_,rfl⟩
 ·rw[h5,show (l.any fun m=>!mesB c m)=true from List.any_eq_true.2 ⟨_,List.getElem_mem hk,h4⟩]
  refine ⟨((c,()),()),?_⟩
  show some (iGe (k:Int) 0,((c,()),()))=_
  simp[iGe]
theorem qHx(n:Nat)(c:Chn)(l:List Msg)(hh:c.1.length≤100)(h1:-1000≤c.2)(h2:c.2≤1000)(hl:l.length≤1000)(hs:∀m,m∈l→m.2.2.2.2.length≤1000)(hn:2000≤n) :
  ∃u,qcc n (l,((c,()),()))=some (l.any fun m=>!mesB c m,u):=qAM n c l hh h1 h2 hl hn
end Go.Proofs.Ytcjgodgpaokbnaa
/- Beds, plain: comparing and sorting (printed by gen_dp4.py). -/
namespace Go.Proofs.Ytcjgodgpaokbnaa
open Go Go.Proofs Go.RowKit
set_option maxHeartbeats 1000000
def cmpI(x y:Int):Int:=if x<y then -1 else if x>y then 1 else 0
theorem qIh{x y:Int}:cmpI x y=0↔x=y:=by
 unfold cmpI
 split
 ·constructor
  ·intro h;omega
  ·intro h;omega
 ·split
  ·constructor
   ·intro h;omega
   ·intro h;omega
  ·constructor
   ·intro _;omega
   ·intro _;rfl
theorem qJN(n:Nat)(x:Int):qmP n (x,())=some (false,()):=by rw[qEi];simp only[qku rfl]
theorem qHy(n:Nat)(x y:Int):qep n (x,(y,()))=some (cmpI x y,()):=by
 rw[qCS]
 simp only[qJN,Option.bind_some,cond_false]
 unfold cmpI
 show cond (decide (x<y)) _ (cond (decide (x>y)) _ _)=_
 by_cases h:x<y
 ·simp[h]
 ·by_cases h2:x>y
  ·simp[h,h2]
  ·simp[h,h2]
theorem qOV(n:Nat)(x y:Int):qwP n (x,(y,()))=some (decide (x<y),()):=by
 rw[qE6]
 simp only[qJN,Option.bind_some,cond_false]
def orI:List Int→Int
 | []=>0
 | x::l=>if x=0 then orI l else x
theorem qFY:∀{l:List Int},orI l=0↔∀x,x∈l→x=0
 | []=>by simp[orI]
 | x::l=>by
  unfold orI
  split
  ·rename_i h
   rw[qFY]
   simp[h]
  ·rename_i h
   simp[h]
theorem qJO:∀(l:List Int) (k:Nat),qqc (ξ:=(Int×Unit)⊕(Int×Unit)) (fun _ (_:Unit) (x:Int)=>some (cond (iNe x 0) (.inr (.inr (x,()))) (.inl ()))) (fun _=>some (.inl (0,()))) l k ()=if orI l=0 then some (.inl (0,())) else some (.inr (orI l,()))
 | [],_=>rfl
 | x::l,k=>by
  rw[qqc,orI]
  by_cases h:x=0
  ·rw[qku h,if_pos h]
   exact qJO l _
  ·rw[qrA h,if_neg h,if_neg h]
   rfl
theorem qLy(n:Nat)(l:List Int)(hl:l.length≤1000)(hn:2000≤n):qs8 n (l,())=some (orI l,()):=by
 rw[qGR]
 have h1:=qAK (step:=qwQ n) l (fun k (_:Unit)=>((0:Int),(l,((l.length:Int),((k:Int),()))))) (fun _ _ x=>some (cond (iNe x 0) (.inr (.inr (x,()))) (.inl ()))) (fun _=>some (.inl (0,()))) (fun rec k _ hk=>by
  rw[qyk]
  simp only[qcY hk,cond_true,qeH l hk,Option.bind_some,qbE (show k<9223372036854775807 by omega)]
  cases iNe l[k] 0<;>rfl) (fun rec _=>by
  rw[qyk]
  simp only[qdk,cond_false]) (n:=n) () (by omega)
 show Option.bind (qh n _ ((0:Int),(l,((l.length:Int),(((0:Nat):Int),()))))) _=_
 rw[h1,qJO]
 by_cases h:orI l=0
 ·simp[h]
 ·simp[h]
def cmpS(x y:Stay):Int:=orI [cmpI x.1 y.1,cmpI x.2.1 y.2.1,cmpI x.2.2 y.2.2]
theorem qOW(n:Nat)(x y:Stay)(hn:2000≤n):quE n (x,(y,()))=some (cmpS x y,()):=by
 rw[qDr]
 simp only[qHy,Option.bind_some,qLy n [cmpI x.1 y.1,cmpI x.2.1 y.2.1,cmpI x.2.2 y.2.2] (by simp) hn]
 rfl
theorem qIi{x y:Stay}:cmpS x y=0↔x=y:=by
 unfold cmpS
 rw[qFY]
 simp only[List.mem_cons,List.not_mem_nil,or_false,forall_eq_or_imp,forall_eq,qIh]
 obtain ⟨a,b,c⟩:=x
 obtain ⟨d,e,f⟩:=y
 simp
def cmpL:List Stay→List Stay→Int
 | [],[]=>0
 | [],_::_=>-1
 | _::_,[]=>1
 | x::a,y::b=>if cmpS x y=0 then cmpL a b else cmpS x y
theorem qIj:∀{a b:List Stay},cmpL a b=0↔a=b
 | [],[]=>by simp[cmpL]
 | [],_::_=>by simp[cmpL]
 | _::_,[]=>by simp[cmpL]
 | x::a,y::b=>by
  unfold cmpL
  split
  ·rename_i h
   rw[qIj,qIi.1 h]
   simp
  ·rename_i h
   have:x≠y:=fun e=>h (qIi.2 e)
   simp[h,this]
theorem qOX(n:Nat)(a b:List Stay)(ha:a.length≤1000)(hn:2000≤n):∀(m k:Nat) (n':Nat),k+m=a.length→k≤b.length→m<n' →
  (Option.bind (qh n' (qfB n) (a,(b,(((),()),(a,((a.length:Int),((k:Int),()))))))) fun y=>(Sum.elim (fun a=>(cond (iLt (((List.length a.1):Nat):Int) (((List.length a.2.1):Nat):Int)) (some ((Int.negSucc (0:Nat)),())) (some ((0:Int),())))) (fun b=>(some b)) y))=some (cmpL (a.drop k) (b.drop k),()):=by
 intro m
 induction m with
 | zero =>
  intro k n' hk hb hn'
  obtain ⟨n',rfl⟩:∃m,n'=m+1:=⟨n'-1,by omega⟩
  have:k=a.length:=by omega
  subst this
  rw[qM,qiA,List.drop_length]
  simp only[qdk,cond_false,Option.bind_some,Sum.elim_inl]
  rcases Nat.lt_or_ge a.length b.length with h | h
  ·rw[qcY h,List.drop_eq_getElem_cons h]
   rfl
  ·rw[show iLt (a.length:Int) (b.length:Int)=false by simp[iLt];omega,List.drop_eq_nil_of_le h]
   rfl
 | succ m ih =>
  intro k n' hk hb hn'
  obtain ⟨n',rfl⟩:∃m,n'=m+1:=⟨n'-1,by omega⟩
  have hlt:k<a.length:=by omega
  rw[qM,qiA,List.drop_eq_getElem_cons hlt]
  simp only[qcY hlt,cond_true,qeH a hlt,Option.bind_some]
  rcases Nat.lt_or_ge k b.length with h | h
  ·rw[show iGe (k:Int) (b.length:Int)=false by simp[iGe];omega,List.drop_eq_getElem_cons h,cmpL]
   simp only[cond_false,qeH b h,Option.bind_some,qOW n _ _ hn,qbE (show k<9223372036854775807 by omega)]
   by_cases h0:cmpS a[k] b[k]=0
   ·rw[qku h0,if_pos h0]
    exact ih (k+1) n' (by omega) (by omega) (by omega)
   ·rw[qrA h0,if_neg h0]
    rfl
  ·rw[show iGe (k:Int) (b.length:Int)=true by simp[iGe];omega,List.drop_eq_nil_of_le h]
   rfl
theorem qOY(n:Nat)(a b:List Stay)(ha:a.length≤1000)(hn:2000≤n):qfY n (a,(b,(((),()),())))=some (cmpL a b,()):=by
 rw[qo0]
 have:=qOX n a b ha hn a.length 0 n (by omega) (by omega) (by omega)
 rw[List.drop_zero,List.drop_zero] at this
 exact this
def cmpM(x y:Msg):Int:=orI [cmpI x.2.1 y.2.1,cmpI x.1 y.1,cmpI x.2.2.1 y.2.2.1,cmpI x.2.2.2.1 y.2.2.2.1,cmpL x.2.2.2.2 y.2.2.2.2]
theorem qEP(n:Nat)(x y:Msg)(hx:x.2.2.2.2.length≤1000)(hn:2000≤n):qZ n (x,(y,()))=some (cmpM x y,()):=by
 rw[qE9]
 simp only[qHy,Option.bind_some,qOY n _ _ hx hn,qLy n [cmpI x.2.1 y.2.1,cmpI x.1 y.1,cmpI x.2.2.1 y.2.2.1,cmpI x.2.2.2.1 y.2.2.2.1,cmpL x.2.2.2.2 y.2.2.2.2] (by simp) hn]
 rfl
theorem qAN{x y:Msg}:cmpM x y=0↔x=y:=by
 unfold cmpM
 rw[qFY]
 simp only[List.mem_cons,List.not_mem_nil,or_false,forall_eq_or_imp,forall_eq,qIh,qIj]
 obtain ⟨a,b,c,d,e⟩:=x
 obtain ⟨a',b',c',d',e'⟩:=y
 simp only[Prod.mk.injEq]
 constructor
 ·rintro ⟨h1,h2,h3⟩;exact ⟨h2,h1,h3⟩
 ·rintro ⟨h1,h2,h3⟩;exact ⟨h2,h1,h3⟩
def cmpQ(x y:Msg):Int:=orI [cmpI x.2.2.1 y.2.2.1,cmpI x.2.1 y.2.1]
theorem qOZ(n:Nat)(x y:Msg)(hn:2000≤n):qwR n (x,(y,()))=some (cmpQ x y,()):=by
 rw[qE8]
 simp only[qHy,Option.bind_some,qLy n [cmpI x.2.2.1 y.2.2.1,cmpI x.2.1 y.2.1] (by simp) hn]
 rfl
theorem app0{α:Type}(A:List α)(y x:α)(m:List α):(A++y::x::m)[A.length]?=some y:=by simp
theorem app1{α:Type}(A:List α)(y x:α)(m:List α):(A++y::x::m)[A.length+1]?=some x:=by simp
theorem set1{α:Type}(A:List α)(y x z:α)(m:List α):(A++y::x::m).set (A.length+1) z=A++y::z::m:=by simp
theorem set0{α:Type}(A:List α)(y x z:α)(m:List α):(A++y::x::m).set A.length z=A++z::x::m:=by simp
theorem qwU{k:Nat}(h:k<9223372036854775807):iW (iSub ((k+1:Nat):Int) 1)=(k:Int):=by
 rw[qto (by unfold iSub;omega) (by unfold iSub;omega)];unfold iSub;omega
theorem qFZ(n:Nat):∀k:Nat,k≤12→∃r,qbr n ((IntKind.wrap .u64 (k:Int)),())=some r:=by
 intro k hk
 match k,hk with
 | 0,_=>exact ⟨_,(by kernel_rfl:qbr n ((IntKind.wrap .u64 ((0:Nat):Int)),())=some (0,()))⟩
 | 1,_=>exact ⟨_,(by kernel_rfl:qbr n ((IntKind.wrap .u64 ((1:Nat):Int)),())=some (1,()))⟩
 | 2,_=>exact ⟨_,(by kernel_rfl:qbr n ((IntKind.wrap .u64 ((2:Nat):Int)),())=some (2,()))⟩
 | 3,_=>exact ⟨_,(by kernel_rfl:qbr n ((IntKind.wrap .u64 ((3:Nat):Int)),())=some (2,()))⟩
 | 4,_=>exact ⟨_,(by kernel_rfl:qbr n ((IntKind.wrap .u64 ((4:Nat):Int)),())=some (3,()))⟩
 | 5,_=>exact ⟨_,(by kernel_rfl:qbr n ((IntKind.wrap .u64 ((5:Nat):Int)),())=some (3,()))⟩
 | 6,_=>exact ⟨_,(by kernel_rfl:qbr n ((IntKind.wrap .u64 ((6:Nat):Int)),())=some (3,()))⟩
 | 7,_=>exact ⟨_,(by kernel_rfl:qbr n ((IntKind.wrap .u64 ((7:Nat):Int)),())=some (3,()))⟩
 | 8,_=>exact ⟨_,(by kernel_rfl:qbr n ((IntKind.wrap .u64 ((8:Nat):Int)),())=some (4,()))⟩
 | 9,_=>exact ⟨_,(by kernel_rfl:qbr n ((IntKind.wrap .u64 ((9:Nat):Int)),())=some (4,()))⟩
 | 10,_=>exact ⟨_,(by kernel_rfl:qbr n ((IntKind.wrap .u64 ((10:Nat):Int)),())=some (4,()))⟩
 | 11,_=>exact ⟨_,(by kernel_rfl:qbr n ((IntKind.wrap .u64 ((11:Nat):Int)),())=some (4,()))⟩
 | 12,_=>exact ⟨_,(by kernel_rfl:qbr n ((IntKind.wrap .u64 ((12:Nat):Int)),())=some (4,()))⟩
end Go.Proofs.Ytcjgodgpaokbnaa
/- Beds, plain: the sorts (printed by gen_dp5.py). -/
namespace Go.Proofs.Ytcjgodgpaokbnaa
open Go Go.Proofs Go.RowKit
set_option maxHeartbeats 1000000
theorem qzI{k:Nat}:iGt ((k+1:Nat):Int) 0=true:=by unfold iGt;exact decide_eq_true (by omega)
theorem qpr{k:Nat}:Int.toNat (k:Int)=k:=by simp
theorem w12{k:Nat}(h:k≤12):iLe (iW (iSub (k:Int) 0)) 12=true:=by
 rw[qto (by unfold iSub;omega) (by unfold iSub;omega)];unfold iLe iSub;exact decide_eq_true (by omega)
theorem qQa(n N i:Nat)(x:Msg)(hx:x.2.2.2.2.length≤1000)(hN:N≤1000)(hn:2000≤n)(r m:List Msg)(hr:r.length≤N):qh n (qP n) ((0:Int),((N:Int),(((),()),((i:Int),((r.length:Int),((r.reverse++x::m),()))))))=some ((0:Int),((N:Int),(((),()),((i:Int),(((insL (fun x y=>decide (cmpM x y<0)) x r).reverse++m),()))))):=by
 exact qEO (step:=qP n) (fun x y=>decide (cmpM x y<0)) (fun j d=>((0:Int),((N:Int),(((),()),((i:Int),((j:Int),(d,()))))))) (fun d=>some ((0:Int),((N:Int),(((),()),((i:Int),(d,())))))) x N (fun rec A y m hA=>by
  rw[qcU]
  have hj:A.length<9223372036854775807:=by omega
  simp only[qzI,cond_true,qrQ,app0,app1,Option.bind_some,qwU hj,qpr,qEP n _ _ hx hn,set1,set0]) (fun rec d=>by
  rw[qcU]
  rfl) r m n hr (by omega)
theorem qPw(n:Nat)(l:List Msg)(hs:∀x,x∈l→x.2.2.2.2.length≤1000)(hl:l.length≤1000)(hn:2000≤n):qcg n ((0:Int),((l.length:Int),(((),()),(l,()))))=some (qnM (fun x y=>decide (cmpM x y<0)) l,()):=by
 rw[qf5]
 cases l with
 | nil =>
  obtain ⟨n',rfl⟩:∃m,n=m+1:=⟨n-1,by omega⟩
  rw[qM,q9]
  rfl
 | cons a l =>
  obtain ⟨N,hN⟩:∃N,N=(a::l).length:=⟨_,rfl⟩
  have hl':l.length+1=N:=by rw[hN];rfl
  have h1:∀rec (r:List Msg) x m,(x∈a::l)→r.length+1+m.length=N→qF n rec ((0:Int),((N:Int),(((),()),((r.length:Int),((r.reverse++x::m),())))))=rec ((0:Int),((N:Int),(((),()),(((r.length+1:Nat):Int),(((insL (fun x y=>decide (cmpM x y<0)) x r).reverse++m),()))))):=fun rec r x m hx hm=>by
   rw[q9]
   simp only[qcY (show r.length<N by omega),cond_true,qQa n N r.length x (hs x hx) (by omega) hn r m (by omega),Option.bind_some,qbE (show r.length<9223372036854775807 by omega)]
  have h0:∀rec (d:List Msg),qF n rec ((0:Int),((N:Int),(((),()),((N:Int),(d,())))))=some (d,()):=fun rec d=>by
   rw[q9]
   simp only[qdk,cond_false]
  have go:∀(l2 r:List Msg) (n':Nat),(∀x,x∈l2→x∈a::l)→r.length+l2.length=N→l2.length<n'→qh n' (qF n) ((0:Int),((N:Int),(((),()),((r.length:Int),((r.reverse++l2),())))))=some ((qno (fun x y=>decide (cmpM x y<0)) r l2).reverse,()):=by
   intro l2
   induction l2 with
   | nil =>
    intro r n' _ hr hn'
    obtain ⟨n',rfl⟩:∃m,n'=m+1:=⟨n'-1,by omega⟩
    have hr':r.length=N:=by simpa using hr
    rw[qM,List.append_nil,hr',h0]
    rfl
   | cons x l2 ih =>
    intro r n' hm hr hn'
    obtain ⟨n',rfl⟩:∃m,n'=m+1:=⟨n'-1,by omega⟩
    simp only[List.length_cons] at hr hn'
    rw[qM,h1 _ r x l2 (hm x (by simp)) (by omega),qno]
    have:=ih (insL (fun x y=>decide (cmpM x y<0)) x r) n' (fun z hz=>hm z (by simp[hz])) (by rw[quG];omega) (by omega)
    rw[quG] at this
    exact this
  have h3:=go l [a] n (fun z hz=>by simp[hz]) (by simp;omega) (by omega)
  rw[← hN]
  have e1:iW (iAdd (0:Int) 1)=((1:Nat):Int):=qbE (k:=0) (by omega)
  simp only[e1]
  have e2:(qno (fun x y=>decide (cmpM x y<0)) [a] l).reverse=qnM (fun x y=>decide (cmpM x y<0)) (a::l):=rfl
  rw[e2] at h3
  show Option.bind (qh n (qF n) ((0:Int),((N:Int),(((),()),(((([a]:List Msg).length:Nat):Int),((([a]:List Msg).reverse++l),())))))) _=_
  rw[h3]
  rfl
theorem qO0(n:Nat)(l:List Msg)(hs:∀x,x∈l→x.2.2.2.2.length≤1000)(hl:l.length≤12)(hn:2000≤n):qd4 n (((),()),(l,()))=some (qnM (fun x y=>decide (cmpM x y<0)) l,()):=by
 rw[qjc,qmp]
 obtain ⟨rr,hrr⟩:=qFZ n l.length hl
 simp only[hrr,Option.bind_some]
 rw[qhF]
 obtain ⟨n',rfl⟩:∃m,n=m+1:=⟨n-1,by omega⟩
 rw[qha,qhq,qM,qg9]
 simp only[w12 hl,cond_true,qPw (n'+1) l hs (by omega) hn,Option.bind_some]
theorem qQb(n N i:Nat)(x:Msg)(hN:N≤1000)(hn:2000≤n)(r m:List Msg)(hr:r.length≤N):qh n (qb4 n) ((0:Int),((N:Int),(((),()),((i:Int),((r.length:Int),((r.reverse++x::m),()))))))=some ((0:Int),((N:Int),(((),()),((i:Int),(((insL (fun x y=>decide (cmpQ x y<0)) x r).reverse++m),()))))):=by
 exact qEO (step:=qb4 n) (fun x y=>decide (cmpQ x y<0)) (fun j d=>((0:Int),((N:Int),(((),()),((i:Int),((j:Int),(d,()))))))) (fun d=>some ((0:Int),((N:Int),(((),()),((i:Int),(d,())))))) x N (fun rec A y m hA=>by
  rw[qfC]
  have hj:A.length<9223372036854775807:=by omega
  simp only[qzI,cond_true,qrQ,app0,app1,Option.bind_some,qwU hj,qpr,qOZ n _ _ hn,set1,set0]) (fun rec d=>by
  rw[qfC]
  rfl) r m n hr (by omega)
theorem qPx(n:Nat)(l:List Msg)(hl:l.length≤1000)(hn:2000≤n):qdS n ((0:Int),((l.length:Int),(((),()),(l,()))))=some (qnM (fun x y=>decide (cmpQ x y<0)) l,()):=by
 rw[qla]
 cases l with
 | nil =>
  obtain ⟨n',rfl⟩:∃m,n=m+1:=⟨n-1,by omega⟩
  rw[qM,qcT]
  rfl
 | cons a l =>
  obtain ⟨N,hN⟩:∃N,N=(a::l).length:=⟨_,rfl⟩
  have hl':l.length+1=N:=by rw[hN];rfl
  have h1:∀rec (r:List Msg) x m,r.length+1+m.length=N→qO n rec ((0:Int),((N:Int),(((),()),((r.length:Int),((r.reverse++x::m),())))))=rec ((0:Int),((N:Int),(((),()),(((r.length+1:Nat):Int),(((insL (fun x y=>decide (cmpQ x y<0)) x r).reverse++m),()))))):=fun rec r x m hm=>by
   rw[qcT]
   simp only[qcY (show r.length<N by omega),cond_true,qQb n N r.length x (by omega) hn r m (by omega),Option.bind_some,qbE (show r.length<9223372036854775807 by omega)]
  have h0:∀rec (d:List Msg),qO n rec ((0:Int),((N:Int),(((),()),((N:Int),(d,())))))=some (d,()):=fun rec d=>by
   rw[qcT]
   simp only[qdk,cond_false]
  have go:∀(l2 r:List Msg) (n':Nat),r.length+l2.length=N→l2.length<n'→qh n' (qO n) ((0:Int),((N:Int),(((),()),((r.length:Int),((r.reverse++l2),())))))=some ((qno (fun x y=>decide (cmpQ x y<0)) r l2).reverse,()):=by
   intro l2
   induction l2 with
   | nil =>
    intro r n' hr hn'
    obtain ⟨n',rfl⟩:∃m,n'=m+1:=⟨n'-1,by omega⟩
    have hr':r.length=N:=by simpa using hr
    rw[qM,List.append_nil,hr',h0]
    rfl
   | cons x l2 ih =>
    intro r n' hr hn'
    obtain ⟨n',rfl⟩:∃m,n'=m+1:=⟨n'-1,by omega⟩
    simp only[List.length_cons] at hr hn'
    rw[qM,h1 _ r x l2 (by omega),qno]
    have:=ih (insL (fun x y=>decide (cmpQ x y<0)) x r) n' (by rw[quG];omega) (by omega)
    rw[quG] at this
    exact this
  have h3:=go l [a] n (by simp;omega) (by omega)
  rw[← hN]
  have e1:iW (iAdd (0:Int) 1)=((1:Nat):Int):=qbE (k:=0) (by omega)
  simp only[e1]
  have e2:(qno (fun x y=>decide (cmpQ x y<0)) [a] l).reverse=qnM (fun x y=>decide (cmpQ x y<0)) (a::l):=rfl
  rw[e2] at h3
  show Option.bind (qh n (qO n) ((0:Int),((N:Int),(((),()),(((([a]:List Msg).length:Nat):Int),((([a]:List Msg).reverse++l),())))))) _=_
  rw[h3]
  rfl
theorem qO1(n:Nat)(l:List Msg)(hl:l.length≤12)(hn:2000≤n):qd5 n (((),()),(l,()))=some (qnM (fun x y=>decide (cmpQ x y<0)) l,()):=by
 rw[qpo,qmp]
 obtain ⟨rr,hrr⟩:=qFZ n l.length hl
 simp only[hrr,Option.bind_some]
 rw[qnm]
 obtain ⟨n',rfl⟩:∃m,n=m+1:=⟨n-1,by omega⟩
 rw[qmC,qm8,qM,qmB]
 simp only[w12 hl,cond_true,qPx (n'+1) l (by omega) hn,Option.bind_some]
theorem qQc(n N i:Nat)(x:Int)(hN:N≤1000)(hn:2000≤n)(r m:List Int)(hr:r.length≤N):qh n (qfA n) ((0:Int),((N:Int),((i:Int),((r.length:Int),((r.reverse++x::m),())))))=some ((0:Int),((N:Int),((i:Int),(((insL (fun x y=>decide (x<y)) x r).reverse++m),())))):=by
 exact qEO (step:=qfA n) (fun x y=>decide (x<y)) (fun j d=>((0:Int),((N:Int),((i:Int),((j:Int),(d,())))))) (fun d=>some ((0:Int),((N:Int),((i:Int),(d,()))))) x N (fun rec A y m hA=>by
  rw[qkD]
  have hj:A.length<9223372036854775807:=by omega
  simp only[qzI,cond_true,qrQ,app0,app1,Option.bind_some,qwU hj,qpr,qOV,set1,set0]) (fun rec d=>by
  rw[qkD]
  rfl) r m n hr (by omega)
theorem qPy(n:Nat)(l:List Int)(hl:l.length≤1000)(hn:2000≤n):qi0 n ((0:Int),((l.length:Int),(l,())))=some (qnM (fun x y=>decide (x<y)) l,()):=by
 rw[qsy]
 cases l with
 | nil =>
  obtain ⟨n',rfl⟩:∃m,n=m+1:=⟨n-1,by omega⟩
  rw[qM,qhp]
  rfl
 | cons a l =>
  obtain ⟨N,hN⟩:∃N,N=(a::l).length:=⟨_,rfl⟩
  have hl':l.length+1=N:=by rw[hN];rfl
  have h1:∀rec (r:List Int) x m,r.length+1+m.length=N→qcz n rec ((0:Int),((N:Int),((r.length:Int),((r.reverse++x::m),()))))=rec ((0:Int),((N:Int),(((r.length+1:Nat):Int),(((insL (fun x y=>decide (x<y)) x r).reverse++m),())))):=fun rec r x m hm=>by
   rw[qhp]
   simp only[qcY (show r.length<N by omega),cond_true,qQc n N r.length x (by omega) hn r m (by omega),Option.bind_some,qbE (show r.length<9223372036854775807 by omega)]
  have h0:∀rec (d:List Int),qcz n rec ((0:Int),((N:Int),((N:Int),(d,()))))=some (d,()):=fun rec d=>by
   rw[qhp]
   simp only[qdk,cond_false]
  have go:∀(l2 r:List Int) (n':Nat),r.length+l2.length=N→l2.length<n'→qh n' (qcz n) ((0:Int),((N:Int),((r.length:Int),((r.reverse++l2),()))))=some ((qno (fun x y=>decide (x<y)) r l2).reverse,()):=by
   intro l2
   induction l2 with
   | nil =>
    intro r n' hr hn'
    obtain ⟨n',rfl⟩:∃m,n'=m+1:=⟨n'-1,by omega⟩
    have hr':r.length=N:=by simpa using hr
    rw[qM,List.append_nil,hr',h0]
    rfl
   | cons x l2 ih =>
    intro r n' hr hn'
    obtain ⟨n',rfl⟩:∃m,n'=m+1:=⟨n'-1,by omega⟩
    simp only[List.length_cons] at hr hn'
    rw[qM,h1 _ r x l2 (by omega),qno]
    have:=ih (insL (fun x y=>decide (x<y)) x r) n' (by rw[quG];omega) (by omega)
    rw[quG] at this
    exact this
  have h3:=go l [a] n (by simp;omega) (by omega)
  rw[← hN]
  have e1:iW (iAdd (0:Int) 1)=((1:Nat):Int):=qbE (k:=0) (by omega)
  simp only[e1]
  have e2:(qno (fun x y=>decide (x<y)) [a] l).reverse=qnM (fun x y=>decide (x<y)) (a::l):=rfl
  rw[e2] at h3
  show Option.bind (qh n (qcz n) ((0:Int),((N:Int),(((([a]:List Int).length:Nat):Int),((([a]:List Int).reverse++l),()))))) _=_
  rw[h3]
  rfl
theorem qO2(n:Nat)(l:List Int)(hl:l.length≤12)(hn:2000≤n):qta n (l,())=some (qnM (fun x y=>decide (x<y)) l,()):=by
 rw[qBK,qmp]
 obtain ⟨rr,hrr⟩:=qFZ n l.length hl
 simp only[hrr,Option.bind_some]
 rw[qvb]
 obtain ⟨n',rfl⟩:∃m,n=m+1:=⟨n-1,by omega⟩
 rw[qug,quF,qM,quf]
 simp only[w12 hl,cond_true,qPy (n'+1) l (by omega) hn,Option.bind_some]
end Go.Proofs.Ytcjgodgpaokbnaa
