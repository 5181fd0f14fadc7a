/- Texts Dp0, Dp1, Dp2, Dp3, Dp4, Dp5 in one. -/
import Derived.Test.YtcjcacbhkoainaaGreatDoorQa
/- Plain: loops over lists. Nothing here speaks of the program. -/
set_option linter.constructorNameAsVariable false
set_option linter.unusedSimpArgs false
set_option linter.unusedVariables false
set_option linter.unusedSectionVars false
namespace Go.Proofs.YtcjcacbhkoainaaGreatDoor
open Go Go.Proofs Go.RowKit
theorem qM{n:Int}(h:-9223372036854775808≤n)(h':n≤9223372036854775807):iW n=n:=qHQ h h'
theorem qi{k:Nat}(h:k<9223372036854775807):iW (iAdd (k:Int) 1)=((k+1:Nat):Int):=by
 rw[qM (by unfold iAdd;omega) (by unfold iAdd;omega)];unfold iAdd;omega
theorem qi8{α:Type}(l:List α)(k:Nat):lat l (k:Int)=l[k]?:=by unfold lat;simp
theorem qw{α:Type}(l:List α){k:Nat}(h:k<l.length):lat l (k:Int)=some l[k]:=by rw[qi8,List.getElem?_eq_getElem h]
theorem qxP{α:Type}(x:α)(l:List α):lat (x::l) 0=some x:=rfl
theorem qv{a b:Nat}(h:a<b):iLt (a:Int) (b:Int)=true:=by simp[iLt];exact h
theorem qB{a:Nat}:iLt (a:Int) (a:Int)=false:=by simp[iLt]
theorem qC2{α:Type}(o:Option α):(o.bind fun y=>some y)=o:=by cases o<;>rfl
theorem qc{σ ξ:Type}(n:Nat)(step:(σ→Option ξ)→σ→Option ξ)(s:σ):qb (n+1) step s=step (qb n step) s:=rfl
def qkP{α β ξ:Type}(f:Nat→β→α→Option (β⊕ξ))(fin:β→Option ξ):List α→Nat→β→Option ξ
 | [],_,b=>fin b
 | x::l,k,b=>(f k b x).bind (Sum.elim (fun b'=>qkP f fin l (k+1) b') some)
theorem qsW{σ ξ α β:Type}{step:(σ→Option ξ)→σ→Option ξ}(l:List α)(mk:Nat→β→σ)(f:Nat→β→α→Option (β⊕ξ))(fin:β→Option ξ)
  (h:∀rec k b (hk:k<l.length),step rec (mk k b)=(f k b l[k]).bind (Sum.elim (fun b'=>rec (mk (k+1) b')) some))
  (h0:∀rec b,step rec (mk l.length b)=fin b) {n:Nat} (b:β) (hn:l.length<n):qb n step (mk 0 b)=qkP f fin l 0 b:=by
 have go:∀(m:Nat) (k:Nat) (b:β) (n:Nat),k+m=l.length→m<n→qb n step (mk k b)=qkP f fin (l.drop k) k b:=by
  intro m
  induction m with
  | zero =>
   intro k b n hk hn
   obtain ⟨n,rfl⟩:∃m,n=m+1:=⟨n-1,by omega⟩
   have:k=l.length:=by omega
   subst this
   rw[List.drop_length]
   exact h0 _ _
  | succ m ih =>
   intro k b n hk hn
   obtain ⟨n,rfl⟩:∃m,n=m+1:=⟨n-1,by omega⟩
   have hlt:k<l.length:=by omega
   rw[List.drop_eq_getElem_cons hlt]
   show step (qb n step) (mk k b)=_
   rw[h _ _ _ hlt,qkP]
   congr 1
   funext r
   cases r with
   | inl b'=>exact ih (k+1) b' n (by omega) (by omega)
   | inr r=>rfl
 have:=go l.length 0 b n (by omega) hn
 simpa using this
theorem qm8{σ ξ α:Type}{step:(σ→Option ξ)→σ→Option ξ}(l:List α)(mk:Nat→σ)(p:α→Bool)(hit:ξ)(miss:ξ)
  (h:∀rec k (hk:k<l.length),step rec (mk k)=cond (p l[k]) (some hit) (rec (mk (k+1))))
  (h0:∀rec,step rec (mk l.length)=some miss) {n:Nat} (hn:l.length<n):qb n step (mk 0)=some (cond (l.any p) hit miss):=by
 have h1:=qsW (β:=Unit) l (fun k _=>mk k) (fun _ _ x=>some (cond (p x) (.inr hit) (.inl ()))) (fun _=>some miss) (fun rec k b hk=>by rw[h rec k hk];cases p l[k]<;>rfl) (fun rec b=>h0 rec) () hn
 rw[h1]
 have:∀(l:List α) (k:Nat),qkP (fun _ (_:Unit) x=>some (cond (p x) (.inr hit) (.inl ()))) (fun _=>some miss) l k ()=some (cond (l.any p) hit miss):=by
  intro l
  induction l with
  | nil=>intro k;rfl
  | cons x l ih =>
   intro k
   rw[qkP,List.any_cons]
   cases p x with
   | true=>rfl
   | false=>exact ih _
 exact this l 0
theorem qm9{σ ξ α:Type}{step:(σ→Option ξ)→σ→Option ξ}(l:List α)(mk:Nat→σ)(p:α→Bool)(good:ξ)(bad:ξ)
  (h:∀rec k (hk:k<l.length),step rec (mk k)=cond (p l[k]) (rec (mk (k+1))) (some bad))
  (h0:∀rec,step rec (mk l.length)=some good) {n:Nat} (hn:l.length<n):qb n step (mk 0)=some (cond (l.all p) good bad):=by
 rw[qm8 l mk (fun x=>!p x) bad good (fun rec k hk=>by rw[h rec k hk];cases p l[k]<;>rfl) h0 hn]
 rw[show l.any (fun x=>!p x) = !l.all p by simp[List.all_eq_not_any_not]]
 cases l.all p<;>rfl
theorem qeI{σ ξ α:Type}{step:(σ→Option ξ)→σ→Option ξ}(l:List α)(mk:Nat→σ)(p:α→Bool)(hit:Nat→ξ)(miss:ξ)
  (h:∀rec k (hk:k<l.length),step rec (mk k)=cond (p l[k]) (some (hit k)) (rec (mk (k+1))))
  (h0:∀rec,step rec (mk l.length)=some miss) {n:Nat} (hn:l.length<n) :
  (l.any p=false∧qb n step (mk 0)=some miss)∨(∃k,∃hk:k<l.length,p l[k]=true∧(l.take k).any p=false∧qb n step (mk 0)=some (hit k)):=by
 have h1:=qsW (β:=Unit) l (fun k _=>mk k) (fun k _ x=>some (cond (p x) (.inr (hit k)) (.inl ()))) (fun _=>some miss) (fun rec k b hk=>by rw[h rec k hk];cases p l[k]<;>rfl) (fun rec b=>h0 rec) () hn
 rw[h1]
 have:∀(l:List α) (j:Nat),(l.any p=false∧qkP (fun k (_:Unit) x=>some (cond (p x) (.inr (hit k)) (.inl ()))) (fun _=>some miss) l j ()=some miss)∨(∃k,∃hk:k<l.length,p l[k]=true∧(l.take k).any p=false∧qkP (fun k (_:Unit) x=>some (cond (p x) (.inr (hit k)) (.inl ()))) (fun _=>some miss) l j ()=some (hit (j+k))):=by
  intro l
  induction l with
  | nil=>intro j;exact .inl ⟨rfl,rfl⟩
  | cons x l ih =>
   intro j
   cases hx:p x with
   | true=>exact .inr ⟨0,by simp,by simpa using hx,rfl,by rw[qkP,hx];rfl⟩
   | false =>
    rcases ih (j+1) with ⟨h1,h2⟩ | ⟨k,hk,h1,h2,h3⟩
    ·exact .inl ⟨by rw[List.any_cons,hx,h1];rfl,by rw[qkP,hx];exact h2⟩
    ·refine .inr ⟨k+1,by simpa using hk,by simpa using h1,by rw[List.take_succ_cons,List.any_cons,hx,h2];rfl,?_⟩
     rw[qkP,hx]
     show qkP _ _ l (j+1) ()=_
     rw[h3]
     congr 2
     omega
 have:=this l 0
 simpa using this
theorem qrw{σ ξ α β:Type}{step:(σ→Option ξ)→σ→Option ξ}(l:List α)(mk:Nat→β→σ)(f:β→α→β)(b0:β)(fin:β→ξ)
  (h:∀rec k b (hk:k<l.length),b=(l.take k).foldl f b0→step rec (mk k b)=rec (mk (k+1) (f b l[k])))
  (h0:∀rec b,step rec (mk l.length b)=some (fin b)) {n:Nat} (hn:l.length<n):qb n step (mk 0 b0)=some (fin (l.foldl f b0)):=by
 have go:∀(m:Nat) (k:Nat) (n:Nat),k+m=l.length→m<n→qb n step (mk k ((l.take k).foldl f b0))=some (fin (l.foldl f b0)):=by
  intro m
  induction m with
  | zero =>
   intro k n hk hn
   obtain ⟨n,rfl⟩:∃m,n=m+1:=⟨n-1,by omega⟩
   have:k=l.length:=by omega
   subst this
   rw[List.take_length]
   exact h0 _ _
  | succ m ih =>
   intro k n hk hn
   obtain ⟨n,rfl⟩:∃m,n=m+1:=⟨n-1,by omega⟩
   have hlt:k<l.length:=by omega
   show step (qb n step) (mk k _)=_
   rw[h _ _ _ hlt rfl]
   have:=ih (k+1) n (by omega) (by omega)
   rw[List.take_succ_eq_append_getElem hlt,List.foldl_append] at this
   exact this
 have:=go l.length 0 n (by omega) hn
 simpa using this
def insL{α:Type}(lt:α→α→Bool)(x:α):List α→List α
 | []=>[x]
 | y::r=>cond (lt x y) (y::insL lt x r) (x::y::r)
def qiH{α:Type}(lt:α→α→Bool):List α→List α→List α
 | r,[]=>r
 | r,x::l=>qiH lt (insL lt x r) l
def qkQ{α:Type}(lt:α→α→Bool)(l:List α):List α:=(qiH lt [] l).reverse
theorem qod{α:Type}(lt:α→α→Bool)(x:α):∀r,(insL lt x r).length=r.length+1
 | []=>rfl
 | y::r=>by
  unfold insL
  cases lt x y with
  | true=>simp[qod lt x r]
  | false=>simp
theorem qsX{α:Type}(lt:α→α→Bool)(x:α):∀r,(insL lt x r).Perm (x::r)
 | []=>List.Perm.refl _
 | y::r=>by
  unfold insL
  cases lt x y with
  | true=>exact ((qsX lt x r).cons y).trans (List.Perm.swap x y r)
  | false=>exact List.Perm.refl _
theorem qxd{α:Type}(lt:α→α→Bool):∀l r,(qiH lt r l).Perm (r++l)
 | [],r=>by simp[qiH]
 | x::l,r=>by
  rw[qiH]
  refine (qxd lt l _).trans ?_
  refine ((qsX lt x r).append_right l).trans ?_
  simp only[List.cons_append]
  exact List.perm_middle.symm
theorem qki{α:Type}(lt:α→α→Bool)(l:List α):(qkQ lt l).Perm l:=(List.reverse_perm _).trans (by simpa using qxd lt l [])
theorem qwE{σ ξ α:Type}{step:(σ→Option ξ)→σ→Option ξ}(lt:α→α→Bool)(mk:Nat→List α→σ)(fin:List α→Option ξ)(x:α)(N:Nat)
  (h1:∀rec A y m,A.length+1≤N→step rec (mk (A.length+1) (A++y::x::m))=cond (lt x y) (rec (mk A.length (A++x::y::m))) (fin (A++y::x::m)))
  (h0:∀rec d,step rec (mk 0 d)=fin d):∀(r m:List α) (n:Nat),r.length≤N→r.length<n→qb n step (mk r.length (r.reverse++x::m))=fin ((insL lt x r).reverse++m)
 | [],m,n+1,_,_=>h0 _ _
 | y::r,m,n+1,hN,hn=>by
  have e:=h1 (qb n step) r.reverse y m (by simpa using hN)
  rw[List.length_reverse] at e
  simp only[List.length_cons,List.reverse_cons,List.append_assoc,List.cons_append,List.nil_append]
  show step (qb n step) (mk (r.length+1) (r.reverse++y::x::m))=_
  rw[e,insL]
  cases lt x y with
  | true =>
   have:=qwE lt mk fin x N h1 h0 r (y::m) n (by simp at hN;omega) (by simp at hn;omega)
   simp only[cond_true,List.reverse_cons,List.append_assoc,List.cons_append,List.nil_append]
   exact this
  | false=>simp
set_option maxHeartbeats 1000000
instance decStay:DecidableEq Stay:=inferInstance
instance decStays:DecidableEq (List Stay):=inferInstance
instance decMsg:DecidableEq Msg:=@instDecidableEqProd _ _ _ (@instDecidableEqProd _ _ _ (@instDecidableEqProd _ _ _ (@instDecidableEqProd _ _ _ decStays)))
theorem qb4{a b:Int}(h:a=b):iEq a b=true:=by simp[iEq,h]
theorem qfS{a b:Int}(h:a≠b):iEq a b=false:=by simp[iEq,h]
theorem qhM{a b:Int}(h:a≠b):iNe a b=true:=by simp[iNe,h]
theorem qev{a b:Int}(h:a=b):iNe a b=false:=by simp[iNe,h]
def wi(a lo hi:Int):Bool:=decide (lo≤a)&&decide (a≤hi)
theorem q7{a lo hi:Int}:wi a lo hi=true↔lo≤a∧a≤hi:=by simp[wi]
theorem qoA(n:Nat)(a lo hi:Int):qZ n (a,(lo,(hi,())))=some (wi a lo hi,()):=by
 rw[qr3]
 show cond (decide (a≥lo)) (some (decide (a≤hi),())) (some (false,()))=_
 unfold wi
 by_cases h:lo≤a
 ·simp[h]
 ·simp[h]
theorem qlQ(n:Nat)(a lo hi:Int):qcL n (a,(lo,(hi,())))=some (wi a lo hi,()):=by
 rw[qwT]
 show cond (decide (lo≤a)) (some (decide (a≤hi),())) (some (false,()))=_
 unfold wi
 by_cases h:lo≤a
 ·simp[h]
 ·simp[h]
def hutB(h:Int×Int):Bool:=wi h.1 0 20&&wi h.2 0 20
def qdr(c:Chn):Bool:=c.1.all hutB&&(wi c.1.length 1 6&&wi c.2 1 20)
theorem qD0(n:Nat)(c:Chn)(hl:c.1.length≤100)(hn:200≤n):qkq n (c,())=some (qdr c,()):=by
 obtain ⟨hs,ni⟩:=c
 rw[qrs]
 have hl:hs.length≤100:=hl
 have h1:=qm9 (step:=qjo n) hs (fun k=>((k:Int),((hs,ni),()))) hutB (.inl ((hs,ni),())) (.inr (false,())) (fun rec k hk=>by
  rw[qlj]
  simp only[qv hk,cond_true,qw hs hk,Option.bind_some,qoA,qi (show k<9223372036854775807 by omega)]
  unfold hutB
  cases wi hs[k].1 0 20<;>cases wi hs[k].2 0 20<;>rfl) (fun rec=>by
  rw[qlj]
  simp only[qB,cond_false]) (n:=n) (by omega)
 show Option.bind (qb n _ (((0:Nat):Int),((hs,ni),()))) _=_
 rw[h1]
 unfold qdr
 cases hs.all hutB with
 | false=>rfl
 | true =>
  simp only[Option.bind_some,cond_true,Sum.elim_inl,qoA,Int.ofNat_eq_natCast]
  cases wi hs.length 1 6<;>rfl
def qhX(nh nn:Int):Int→List Stay→Bool
 | _,[]=>true
 | last,s::l=>(wi s.1 0 (nh-1)&&(decide (last<s.2.1)&&(decide (s.2.1≤s.2.2)&&decide (s.2.2<nn))))&&qhX nh nn s.2.2 l
def reqB(c:Chn)(m:Msg):Bool:=decide (m.1=1)&&(wi m.2.2.1 0 9999&&(wi m.2.2.2.1 1 20&&(wi m.2.2.2.2.length 1 6&&qhX c.1.length c.2 (-1) m.2.2.2.2)))
theorem qxe(nh nn:Int):∀(l:List Stay) (k:Nat) (last:Int),qkP (ξ:=Unit⊕(Bool×Unit)) (fun _ (last:Int) (s:Stay)=>some (cond (wi s.1 0 (nh-1)&&(decide (last<s.2.1)&&(decide (s.2.1≤s.2.2)&&decide (s.2.2<nn)))) (.inl s.2.2) (.inr (.inr (false,()))))) (fun _=>some (.inl ())) l k last=some (cond (qhX nh nn last l) (.inl ()) (.inr (false,())))
 | [],_,_=>rfl
 | s::l,k,last=>by
  rw[qkP,qhX]
  cases wi s.1 0 (nh-1)&&(decide (last<s.2.1)&&(decide (s.2.1≤s.2.2)&&decide (s.2.2<nn))) with
  | false=>rfl
  | true=>exact qxe nh nn l _ _
theorem qBD(n:Nat)(c:Chn)(m:Msg)(hh:c.1.length≤100)(hl:m.2.2.2.2.length≤100)(hn:200≤n):qcR n (c,(m,()))=some (reqB c m,()):=by
 rw[qlk]
 obtain ⟨hs,ni⟩:=c
 obtain ⟨kd,id,st,pe,ss⟩:=m
 simp only at hl hh
 have h1:=qsW (step:=qiq n) ss (fun k last=>(last,((k:Int),((hs,ni),((kd,(id,(st,(pe,ss)))),()))))) (fun _ (last:Int) (s:Stay)=>some (cond (wi s.1 0 ((hs.length:Int)-1)&&(decide (last<s.2.1)&&(decide (s.2.1≤s.2.2)&&decide (s.2.2<ni)))) (.inl s.2.2) (.inr (.inr (false,()))))) (fun _=>some (.inl ())) (fun rec k last hk=>by
  rw[qkB]
  simp only[qv hk,cond_true,qw ss hk,Option.bind_some,qoA,qi (show k<9223372036854775807 by omega),qM (n:=iSub (hs.length:Int) 1) (by unfold iSub;omega) (by unfold iSub;omega)]
  unfold iSub iLe iLt iGe
  cases wi ss[k].1 0 ((hs.length:Int)-1) with
  | false=>rfl
  | true =>
   by_cases h1:ss[k].2.1≤last
   ·have h2:¬last<ss[k].2.1:=by omega
    simp[h1,h2]
   ·have h2:last<ss[k].2.1:=by omega
    by_cases h3:ss[k].2.2<ss[k].2.1
    ·have h4:¬ss[k].2.1≤ss[k].2.2:=by omega
     simp[h1,h2,h3,h4]
    ·have h4:ss[k].2.1≤ss[k].2.2:=by omega
     by_cases h5:ss[k].2.2≥ni
     ·have h6:¬ss[k].2.2<ni:=by omega
      simp[h1,h2,h3,h4,h5,h6]
     ·have h6:ss[k].2.2<ni:=by omega
      have h5':¬ni≤ss[k].2.2:=by omega
      simp[h1,h2,h3,h4,h5',h6]) (fun rec b=>by
  rw[qkB]
  simp only[qB,cond_false]) (n:=n) (-1) (by omega)
 rw[qxe] at h1
 unfold reqB
 simp only[qoA,Option.bind_some,Int.ofNat_eq_natCast,show (Int.negSucc 0) = -1 from rfl]
 by_cases hk:kd=1
 ·subst hk
  rw[qev rfl]
  cases h2:wi st 0 9999 with
  | false=>simp[h2]
  | true =>
   cases h3:wi pe 1 20 with
   | false=>simp[h2,h3]
   | true =>
    cases h4:wi ss.length 1 6 with
    | false=>simp[h2,h3,h4]
    | true =>
     simp only[cond_false,cond_true,Bool.not_true,decide_true,Bool.true_and]
     show Option.bind (qb n _ (-1,(((0:Nat):Int),_))) _=_
     rw[h1]
     cases qhX hs.length ni (-1) ss<;>rfl
 ·rw[qhM hk];simp[hk]
theorem qAA(n:Nat)(c:Chn)(m:Msg)(hh:c.1.length≤100)(hn:200≤n):qcR n (c,(m,()))=some (reqB c m,()):=by
 by_cases hl:m.2.2.2.2.length≤100
 ·exact qBD n c m hh hl hn
 ·have hw:wi (m.2.2.2.2.length:Int) 1 6=false:=by unfold wi;simp;omega
  rw[qlk]
  simp only[qoA,Option.bind_some,Int.ofNat_eq_natCast,hw]
  unfold reqB
  rw[hw]
  by_cases hk:m.1=1
  ·rw[qev hk]
   cases wi m.2.2.1 0 9999<;>cases wi m.2.2.2.1 1 20<;>simp
  ·rw[qhM hk];simp[hk]
def canB(m:Msg):Bool:=decide (m.1=2)&&(decide (m.2.2.1=0)&&(decide (m.2.2.2.1=0)&&decide (m.2.2.2.2.length=0)))
def mesB(c:Chn)(m:Msg):Bool:=wi m.2.1 0 99&&(canB m||reqB c m)
theorem qyI(n:Nat)(c:Chn)(l:List Msg)(hh:c.1.length≤100)(hl:l.length≤100)(hn:200≤n):qf7 n (c,(l,()))=some (l.all (mesB c)&&decide (l.length≤40),()):=by
 rw[qpo]
 have h1:=qm9 (step:=qhx n) l (fun k=>(l,((k:Int),(c,())))) (mesB c) (.inl (l,())) (.inr (false,())) (fun rec k hk=>by
  rw[qjM]
  simp only[qv hk,cond_true,qw l hk,Option.bind_some,qoA,qi (show k<9223372036854775807 by omega),qAA n c l[k] hh hn]
  unfold mesB canB
  cases wi l[k].2.1 0 99 with
  | false =>
   cases iEq l[k].1 2<;>cases iEq l[k].2.2.1 0<;>cases iEq l[k].2.2.2.1 0<;>rfl
  | true =>
   cases reqB c l[k] with
   | true =>
    simp only[Bool.or_true,Bool.true_and,Bool.not_true,cond_false,cond_true]
    cases iEq l[k].1 2<;>cases iEq l[k].2.2.1 0<;>cases iEq l[k].2.2.2.1 0<;>cases iEq ((l[k].2.2.2.2.length:Nat):Int) 0<;>rfl
   | false =>
    simp only[Bool.or_false,Bool.true_and,Bool.not_true,cond_false,Bool.not_false,cond_true]
    by_cases e1:l[k].1=2
    ·by_cases e2:l[k].2.2.1=0
     ·by_cases e3:l[k].2.2.2.1=0
      ·by_cases e4:l[k].2.2.2.2.length=0
       ·rw[qb4 e1,qb4 e2,qb4 e3,qb4 (by omega)];simp[e1,e2,e3,e4]
       ·rw[qb4 e1,qb4 e2,qb4 e3,qfS (by omega)];simp[e4]
      ·rw[qb4 e1,qb4 e2,qfS e3];simp[e3]
     ·rw[qb4 e1,qfS e2];simp[e2]
    ·rw[qfS e1];simp[e1]) (fun rec=>by
  rw[qjM]
  simp only[qB,cond_false]) (n:=n) (by omega)
 show Option.bind (qb n _ (l,(((0:Nat):Int),(c,())))) _=_
 rw[h1]
 cases l.all (mesB c) with
 | false=>rfl
 | true =>
  simp only[Option.bind_some,cond_true,Sum.elim_inl,Bool.true_and]
  unfold iLe
  by_cases h:l.length≤40
  ·have:((l.length:Nat):Int)≤40:=by omega
   simp[h,this]
  ·have:¬((l.length:Nat):Int)≤40:=by omega
   simp[h,this]
theorem qzo(n:Nat)(c:Chn)(l:List Msg)(hh:c.1.length≤100)(hl:l.length≤100)(hs:∀m,m∈l→m.2.2.2.2.length≤100)(hn:200≤n):qf7 n (c,(l,()))=some (l.all (mesB c)&&decide (l.length≤40),()):=qyI n c l hh hl hn
theorem qJy(a b:Stay):Ty.eqB (Ty.pr (Ty.i .i64) T150) a b=decide (a=b):=by
 obtain ⟨a1,a2,a3⟩:=a
 obtain ⟨b1,b2,b3⟩:=b
 show ((a1==b1)&&((a2==b2)&&(a3==b3)))=_
 by_cases h1:a1=b1<;>by_cases h2:a2=b2<;>by_cases h3:a3=b3<;>simp[h1,h2,h3]
theorem qHc(n:Nat)(a b:Msg)(hl:a.2.2.2.2.length≤100)(hn:200≤n):qlD n (a,(b,()))=some (decide (a=b),()):=by
 rw[qso]
 obtain ⟨a1,a2,a3,a4,sa⟩:=a
 obtain ⟨b1,b2,b3,b4,sb⟩:=b
 simp only at hl
 by_cases e1:a1=b1
 ·by_cases e2:a2=b2
  ·by_cases e3:a3=b3
   ·by_cases e4:a4=b4
    ·subst e1 e2 e3 e4
     simp only[qev rfl,cond_false]
     by_cases e5:sa.length=sb.length
     ·have h1:=qm9 (step:=qkr n) (sa.zip sb) (fun k=>((k:Int),((a1,(a2,(a3,(a4,sa)))),((a1,(a2,(a3,(a4,sb)))),())))) (fun p=>decide (p.1=p.2)) (.inl ()) (.inr (false,())) (fun rec k hk=>by
       rw[qmv]
       have hka:k<sa.length:=by simp at hk;omega
       have hkb:k<sb.length:=by omega
       simp only[qv hka,cond_true,qw sa hka,qw sb hkb,Option.bind_some,qi (show k<9223372036854775807 by omega),List.getElem_zip]
       rw[show Ty.eqB (Ty.pr (Ty.i .i64) T150) sa[k] sb[k]=decide (sa[k]=sb[k]) from qJy _ _]
       cases decide (sa[k]=sb[k])<;>rfl) (fun rec=>by
       rw[qmv]
       simp only[List.length_zip,e5,Nat.min_self,qB,cond_false]) (n:=n) (by simp;omega)
      rw[qev (by omega)]
      simp only[cond_false]
      show Option.bind (qb n _ (((0:Nat):Int),_)) _=_
      rw[h1]
      have h2:(sa.zip sb).all (fun p=>decide (p.1=p.2))=decide (sa=sb):=by
       clear h1 hl
       induction sa generalizing sb with
       | nil=>cases sb with
        | nil=>rfl
        | cons b sb=>cases e5
       | cons a sa ih=>cases sb with
        | nil=>cases e5
        | cons b sb =>
         rw[List.zip_cons_cons,List.all_cons,ih sb (by simpa using e5)]
         by_cases h:a=b<;>by_cases h':sa=sb<;>simp[h,h']
      rw[h2]
      by_cases h:sa=sb<;>simp[h]
     ·have h:sa≠sb:=fun h=>e5 (by rw[h])
      have e5':((sa.length:Nat):Int)≠sb.length:=by omega
      rw[qhM e5'];simp[h]
    ·rw[qev e1,qev e2,qev e3,qhM e4];simp[e4]
   ·rw[qev e1,qev e2,qhM e3];simp[e3]
  ·rw[qev e1,qhM e2];simp[e2]
 ·rw[qhM e1];simp[e1]
def claB(x y:Msg):Bool:=decide (x.2.1=y.2.1)&&(decide (x.1=y.1) && !decide (x=y))
def qjA(l:List Msg):Bool:=(List.range l.length).any fun i=>(List.range i).any fun k=>match l[i]?,l[k]? with
 | some x,some y=>claB x y
 | _,_=>false
theorem qt3{m k:Nat}(h:k<(List.range m).length):(List.range m)[k]=k:=by simp
theorem qFj(n:Nat)(l:List Msg)(i:Nat)(hi:i<l.length)(hl:l.length≤100)(hs:∀m,m∈l→m.2.2.2.2.length≤100)(hn:200≤n) :
  qb n (qhE n) (l,((i:Int),((0:Int),())))=some (cond ((List.range i).any fun k=>match l[i]?,l[k]? with
   | some x,some y=>claB x y
   | _,_=>false) (.inr (true,())) (.inl (l,((i:Int),())))):=by
 exact qm8 (step:=qhE n) (List.range i) (fun k=>(l,((i:Int),((k:Int),())))) (fun k=>match l[i]?,l[k]? with
   | some x,some y=>claB x y
   | _,_=>false) (.inr (true,())) (.inl (l,((i:Int),()))) (fun rec k hk=>by
  rw[qmw]
  have hk':k<i:=by simpa using hk
  have hkl:k<l.length:=by omega
  simp only[qv hk',cond_true,qw l hi,qw l hkl,Option.bind_some,qt3,List.getElem?_eq_getElem hi,List.getElem?_eq_getElem hkl,qHc n _ _ (hs _ (List.getElem_mem hi)) hn,qi (show k<9223372036854775807 by omega)]
  unfold claB
  by_cases e1:l[i].2.1=l[k].2.1
  ·rw[qb4 e1]
   by_cases e2:l[i].1=l[k].1
   ·rw[qb4 e2]
    by_cases e3:l[i]=l[k]
    ·simp[e3]
    ·simp[e1,e2,e3]
   ·rw[qfS e2];simp[e2]
  ·rw[qfS e1];simp[e1]) (fun rec=>by
  rw[qmw]
  simp only[List.length_range,qB,cond_false]) (n:=n) (by simp;omega)
theorem qHd(n:Nat)(l:List Msg)(hl:l.length≤100)(hs:∀m,m∈l→m.2.2.2.2.length≤100)(hn:200≤n):qlE n (l,())=some (qjA l,()):=by
 rw[qsp]
 have h1:=qm8 (step:=qks n) (List.range l.length) (fun k=>(l,((k:Int),()))) (fun i=>(List.range i).any fun k=>match l[i]?,l[k]? with
   | some x,some y=>claB x y
   | _,_=>false) (.inr (true,())) (.inl ()) (fun rec i hi=>by
  rw[qmx]
  have hi':i<l.length:=by simpa using hi
  simp only[qv hi',cond_true,qt3]
  rw[qFj n l i hi' hl hs hn]
  generalize ((List.range i).any _)=b
  cases b with
  | true=>rfl
  | false =>
   simp only[cond_false,Option.bind_some,Sum.elim_inl,qi (show i<9223372036854775807 by omega)]) (fun rec=>by
  rw[qmx]
  simp only[List.length_range,qB,cond_false]) (n:=n) (by simp;omega)
 show Option.bind (qb n _ (l,(((0:Nat):Int),()))) _=_
 rw[h1]
 show Option.bind (some (cond (qjA l) _ _)) _=_
 cases qjA l<;>rfl
theorem qpe{l:List Msg}(h:qjA l=false):∀x y,x∈l→y∈l→x.2.1=y.2.1→x.1=y.1→x=y:=by
 intro x y hx hy h1 h2
 obtain ⟨i,hi,rfl⟩:=List.mem_iff_getElem.1 hx
 obtain ⟨k,hk,rfl⟩:=List.mem_iff_getElem.1 hy
 have key:∀a b (ha:a<l.length) (hb:b<a),claB (l[a]) (l[b]'(by omega))=false:=fun a b ha hb=>by
  unfold qjA at h
  rw[List.any_eq_false] at h
  have h3:=h a (List.mem_range.2 ha)
  simp only[Bool.not_eq_true] at h3
  rw[List.any_eq_false] at h3
  have h4:=h3 b (List.mem_range.2 hb)
  rw[List.getElem?_eq_getElem ha,List.getElem?_eq_getElem (by omega)] at h4
  simpa using h4
 rcases Nat.lt_trichotomy i k with h3 | h3 | h3
 ·have:=key k i hk h3
  unfold claB at this
  simp only[Bool.and_eq_false_iff,decide_eq_false_iff_not,Bool.not_eq_false',decide_eq_true_eq] at this
  rcases this with h4 | h4 | h4
  ·exact (h4 h1.symm).elim
  ·exact (h4 h2.symm).elim
  ·exact h4.symm
 ·subst h3;rfl
 ·have:=key i k hi h3
  unfold claB at this
  simp only[Bool.and_eq_false_iff,decide_eq_false_iff_not,Bool.not_eq_false',decide_eq_true_eq] at this
  rcases this with h4 | h4 | h4
  ·exact (h4 h1).elim
  ·exact (h4 h2).elim
  ·exact h4
def chkN(c:Chn)(l:List Msg):Int:=cond (qdr c) (cond (l.all (mesB c)&&decide (l.length≤40)) (cond (qjA l) 22 0) 21) 20
theorem qHe(n:Nat)(c:Chn)(l:List Msg)(hh:c.1.length≤100)(hl:l.length≤100)(hs:∀m,m∈l→m.2.2.2.2.length≤100)(hn:200≤n):qiO n (c,(l,()))=some (chkN c l,()):=by
 rw[qsq]
 simp only[qD0 n c hh hn,qzo n c l hh hl hs hn,qHd n l hl hs hn,Option.bind_some]
 unfold chkN
 cases qdr c<;>cases (l.all (mesB c)&&decide (l.length≤40))<;>cases qjA l<;>rfl
theorem qC3{c:Chn}{l:List Msg}(h:chkN c l=0):qdr c=true∧(∀m,m∈l→mesB c m=true)∧l.length≤40∧qjA l=false:=by
 unfold chkN at h
 cases h1:qdr c<;>cases h2:(l.all (mesB c)&&decide (l.length≤40))<;>cases h3:qjA l<;>rw[h1,h2,h3] at h<;>first | (cases h;done) | skip
 rw[Bool.and_eq_true,List.all_eq_true,decide_eq_true_eq] at h2
 exact ⟨rfl,h2.1,h2.2,rfl⟩
def farB(c:Chn)(l:List Msg):Bool:=l.any (fun m=>decide (20<m.2.2.2.2.length))||(decide (20<c.1.length)||((decide (9<l.length)&&decide (l.length≤40))||decide (60<l.length)))
theorem qJz(n:Nat)(c:Chn)(l:List Msg)(hl:l.length≤9223372036854775807)(hn:l.length<n):qmZ n (c,(l,()))=some (farB c l,()):=by
 rw[qtY]
 have h1:=qm8 (step:=qlH n) l (fun k=>(l,((k:Int),(c,())))) (fun m=>decide (20<m.2.2.2.2.length)) (.inr (true,())) (.inl (l,(c,()))) (fun rec k hk=>by
  rw[qnx]
  simp only[qv hk,cond_true,qw l hk,Option.bind_some,qi (show k<9223372036854775807 by omega)]
  rw[show iGt ((l[k].2.2.2.2.length:Nat):Int) 20=decide (20<l[k].2.2.2.2.length) by unfold iGt;congr 1;simp;omega]) (fun rec=>by
  rw[qnx]
  simp only[qB,cond_false]) (n:=n) hn
 show Option.bind (qb n _ (l,(((0:Nat):Int),(c,())))) _=_
 rw[h1]
 unfold farB
 cases l.any (fun m=>decide (20<m.2.2.2.2.length)) with
 | true=>rfl
 | false =>
  simp only[Option.bind_some,cond_false,Sum.elim_inl,Bool.false_or]
  rw[show iGt ((c.1.length:Nat):Int) 20=decide (20<c.1.length) by unfold iGt;congr 1;simp;omega,show iGt ((l.length:Nat):Int) 9=decide (9<l.length) by unfold iGt;congr 1;simp;omega,show iLe ((l.length:Nat):Int) 40=decide (l.length≤40) by unfold iLe;congr 1;simp;omega,show iGt ((l.length:Nat):Int) 60=decide (60<l.length) by unfold iGt;congr 1;simp;omega]
  cases decide (20<c.1.length)<;>cases decide (9<l.length)<;>cases decide (l.length≤40)<;>rfl
theorem qD1{c:Chn}{l:List Msg}(h:farB c l=false):(∀m,m∈l→m.2.2.2.2.length≤20)∧c.1.length≤20:=by
 unfold farB at h
 simp only[Bool.or_eq_false_iff,List.any_eq_false,decide_eq_true_eq,decide_eq_false_iff_not] at h
 exact ⟨fun m hm=>by have:=h.1 m hm;omega,by omega⟩
structure Vld (c:Chn) (l:List Msg):Prop where
 ch:qdr c=true
 ms:∀m,m∈l→mesB c m=true
 ln:l.length≤40
 cl:qjA l=false
 st:∀m,m∈l→m.2.2.2.2.length≤20
 hu:c.1.length≤20
theorem qFk(n:Nat)(c:Chn)(x:Int)(hh:c.1.length≤9223372036854775807):qlF n ((c,()),(x,()))=some (wi x 0 (c.1.length-1),()):=by
 rw[qvj]
 simp only[qlQ,qM (n:=iSub (c.1.length:Int) 1) (by unfold iSub;omega) (by unfold iSub;omega),qC2]
theorem qBE(n:Nat)(c:Chn)(x:Int)(h1:-1000≤c.2)(h2:c.2≤1000):qka n ((c,()),(x,()))=some (wi x 0 (c.2-1),()):=by
 rw[qtW]
 simp only[qlQ,qM (n:=iSub c.2 1) (by unfold iSub;omega) (by unfold iSub;omega),qC2]
theorem qHf(n:Nat)(c:Chn)(ss:List Stay)(hh:c.1.length≤100)(h1:-1000≤c.2)(h2:c.2≤1000)(hl:ss.length≤1000):∀(m k:Nat) (last:Int) (n':Nat),k+m=ss.length→m<n'→-1≤last→last≤1000 →
  qb n' (qlG n) (last,(ss,((ss.length:Int),((k:Int),((c,()),())))))=some (cond (qhX c.1.length c.2 last (ss.drop k)) (.inl ()) (.inr (false,()))):=by
 intro m
 induction m with
 | zero =>
  intro k last n' hk hn hb hb2
  obtain ⟨n',rfl⟩:∃m,n'=m+1:=⟨n'-1,by omega⟩
  have:k=ss.length:=by omega
  subst this
  rw[qc,qnv,List.drop_length]
  simp only[qB,cond_false]
  rfl
 | succ m ih =>
  intro k last n' hk hn hb hb2
  obtain ⟨n',rfl⟩:∃m,n'=m+1:=⟨n'-1,by omega⟩
  have hlt:k<ss.length:=by omega
  rw[qc,qnv,List.drop_eq_getElem_cons hlt,qhX]
  simp only[qv hlt,cond_true,qw ss hlt,Option.bind_some,qFk n c _ (by omega),qlQ,qBE n c _ h1 h2,qi (show k<9223372036854775807 by omega),qM (n:=iAdd last 1) (by unfold iAdd;omega) (by unfold iAdd;omega)]
  cases hw:wi ss[k].1 0 ((c.1.length:Int)-1) with
  | false=>simp
  | true =>
   simp only[Bool.not_true,cond_false,Bool.true_and]
   by_cases h3:wi ss[k].2.1 (iAdd last 1) ss[k].2.2=true
   ·have h3':=q7.1 h3
    unfold iAdd at h3'
    rw[h3]
    simp only[Bool.not_true,cond_false]
    by_cases h4:wi ss[k].2.2 0 (c.2-1)=true
    ·have h4':=q7.1 h4
     rw[h4]
     simp only[Bool.not_true,cond_false]
     rw[show (decide (last<ss[k].2.1))=true from decide_eq_true (by omega),show (decide (ss[k].2.1≤ss[k].2.2))=true from decide_eq_true (by omega),show (decide (ss[k].2.2<c.2))=true from decide_eq_true (by omega)]
     simp only[Bool.true_and]
     exact ih (k+1) ss[k].2.2 n' (by omega) (by omega) (by omega) (by omega)
    ·have h4':¬ss[k].2.2<c.2:=fun h=>h4 (q7.2 ⟨by omega,by omega⟩)
     rw[show wi ss[k].2.2 0 (c.2-1)=false by simpa using h4]
     simp[h4']
   ·have h3':¬(last<ss[k].2.1∧ss[k].2.1≤ss[k].2.2):=fun h=>h3 (q7.2 ⟨by unfold iAdd;omega,h.2⟩)
    rw[show wi ss[k].2.1 (iAdd last 1) ss[k].2.2=false by simpa using h3]
    simp only[Bool.not_false,cond_true]
    by_cases h5:last<ss[k].2.1
    ·have h6:¬ss[k].2.1≤ss[k].2.2:=fun h=>h3' ⟨h5,h⟩
     simp[h6]
    ·simp[h5]
theorem qHg(n:Nat)(c:Chn)(ss:List Stay)(hh:c.1.length≤100)(h1:-1000≤c.2)(h2:c.2≤1000)(hl:ss.length≤1000)(hn:2000≤n):qmX n ((c,()),(ss,()))=some (qhX c.1.length c.2 (-1) ss,()):=by
 rw[qtX]
 have h3:=qHf n c ss hh h1 h2 hl ss.length 0 (-1) n (by omega) (by omega) (by omega) (by omega)
 show Option.bind (qb n _ (-1,(ss,((ss.length:Int),(((0:Nat):Int),((c,()),())))))) _=_
 rw[h3,List.drop_zero]
 cases qhX c.1.length c.2 (-1) ss<;>rfl
theorem qD2(n:Nat)(c:Chn)(m:Msg)(hh:c.1.length≤100)(h1:-1000≤c.2)(h2:c.2≤1000)(hl:m.2.2.2.2.length≤1000)(hn:2000≤n):qiP n ((c,()),(m,()))=some (mesB c m,()):=by
 rw[qnw]
 simp only[qlQ,Option.bind_some,qHg n c _ hh h1 h2 hl hn,Int.ofNat_eq_natCast]
 unfold mesB canB reqB
 cases wi m.2.1 0 99 with
 | false=>rfl
 | true =>
  simp only[Bool.not_true,cond_false,Bool.true_and]
  by_cases e1:m.1=2
  ·rw[qb4 e1]
   have e1':¬m.1=1:=by omega
   by_cases e2:m.2.2.1=0
   ·rw[qb4 e2]
    by_cases e3:m.2.2.2.1=0
    ·rw[qb4 e3]
     by_cases e4:m.2.2.2.2.length=0
     ·rw[qb4 (by omega)];simp[e1,e2,e3,e4]
     ·rw[qfS (by omega)];simp[e1',e4]
    ·rw[qfS e3];simp[e1',e3]
   ·rw[qfS e2];simp[e1',e2]
  ·rw[qfS e1]
   by_cases e2:m.1=1
   ·rw[qb4 e2]
    simp only[cond_false,cond_true,e1,decide_false,Bool.false_and,Bool.false_or,e2,decide_true,Bool.true_and]
    cases wi m.2.2.1 0 9999<;>cases wi m.2.2.2.1 1 20<;>cases wi (m.2.2.2.2.length:Int) 1 6<;>rfl
   ·rw[qfS e2];simp[e1,e2]
theorem qCs(n:Nat)(c:Chn)(m:Msg)(hh:c.1.length≤100)(h1:-1000≤c.2)(h2:c.2≤1000)(hn:2000≤n):qiP n ((c,()),(m,()))=some (mesB c m,()):=by
 by_cases hl:m.2.2.2.2.length≤1000
 ·exact qD2 n c m hh h1 h2 hl hn
 ·have hw:wi (m.2.2.2.2.length:Int) 1 6=false:=by unfold wi;simp;omega
  rw[qnw]
  simp only[qlQ,Option.bind_some,Int.ofNat_eq_natCast,hw]
  unfold mesB canB reqB
  rw[hw,qfS (show (m.2.2.2.2.length:Int)≠0 by omega),decide_eq_false (show ¬m.2.2.2.2.length=0 by omega)]
  simp only[Bool.and_false,Bool.false_and,Bool.or_false]
  cases wi m.2.1 0 99<;>cases iEq m.1 2<;>cases iEq m.2.2.1 0<;>cases iEq m.2.2.2.1 0<;>cases iEq m.1 1<;>cases wi m.2.2.1 0 9999<;>cases wi m.2.2.2.1 1 20<;>rfl
theorem qJA(n:Nat)(h:Int×Int):qnD n (h,())=some (!hutB h,()):=by
 rw[quL]
 simp only[qlQ,Option.bind_some]
 unfold hutB
 cases wi h.1 0 20<;>cases wi h.2 0 20<;>rfl
theorem qAB(n:Nat)(hs:List (Int×Int))(hl:hs.length≤1000)(hn:2000≤n):qdi n (hs,(((),()),()))=some (hs.any fun h=>!hutB h,()):=by
 rw[qjH,qku]
 have h1:=qeI (step:=qdu n) hs (fun k=>(hs,(((),()),((hs.length:Int),((k:Int),()))))) (fun h=>!hutB h) (fun k=>.inr ((k:Int),())) (.inl ()) (fun rec k hk=>by
  rw[qfv]
  simp only[qv hk,cond_true,qw hs hk,Option.bind_some,qJA,qi (show k<9223372036854775807 by omega)]) (fun rec=>by
  rw[qfv]
  simp only[qB,cond_false]) (n:=n) (by omega)
 show Option.bind (Option.bind (qb n _ (hs,(((),()),((hs.length:Int),(((0:Nat):Int),()))))) _) _=_
 rcases h1 with ⟨h1,h2⟩ | ⟨k,hk,h1,_,h2⟩
 ·rw[h2,h1];rfl
 ·rw[h2,show (hs.any fun h=>!hutB h)=true from List.any_eq_true.2 ⟨_,List.getElem_mem hk,h1⟩]
  show some (iGe (k:Int) 0,())=_
  simp[iGe]
theorem qH5(n:Nat)(c:Chn)(hl:c.1.length≤1000)(hn:2000≤n):qo8 n ((c,()),())=some (qdr c,()):=by
 rw[qv7]
 simp only[qlQ,Option.bind_some,qAB n c.1 hl hn,Int.ofNat_eq_natCast]
 unfold qdr
 rw[show c.1.all hutB = !(c.1.any fun h=>!hutB h) by simp[List.all_eq_not_any_not]]
 cases wi (c.1.length:Int) 1 6<;>cases wi c.2 1 20<;>cases (c.1.any fun h=>!hutB h)<;>rfl
theorem qyJ(n:Nat)(c:Chn)(l:List Msg)(hh:c.1.length≤100)(h1:-1000≤c.2)(h2:c.2≤1000)(hl:l.length≤1000)(hn:2000≤n) :
  ∃u,qbh n (l,((c,()),()))=some (l.any fun m=>!mesB c m,u):=by
 rw[qha,qhF]
 have h3:=qeI (step:=qcb n) l (fun k=>(l,((l.length:Int),((k:Int),((c,()),()))))) (fun m=>!mesB c m) (fun k=>.inr ((k:Int),((c,()),()))) (.inl ((c,()),())) (fun rec k hk=>by
  rw[qdw]
  simp only[qv hk,cond_true,qw l hk,Option.bind_some,qqB,qCs n c l[k] hh h1 h2 hn,qi (show k<9223372036854775807 by omega)]) (fun rec=>by
  rw[qdw]
  simp only[qB,cond_false]) (n:=n) (by omega)
 show ∃u,Option.bind (Option.bind (qb n _ (l,((l.length:Int),(((0:Nat):Int),((c,()),()))))) _) _=_
 rcases h3 with ⟨h4,h5⟩ | ⟨k,hk,h4,_,h5⟩
 ·rw[h5,h4];exact ⟨_,rfl⟩
 ·rw[h5,show (l.any fun m=>!mesB c m)=true from List.any_eq_true.2 ⟨_,List.getElem_mem hk,h4⟩]
  refine ⟨((c,()),()),?_⟩
  show some (iGe (k:Int) 0,((c,()),()))=_
  simp[iGe]
theorem qt4(n:Nat)(c:Chn)(l:List Msg)(hh:c.1.length≤100)(h1:-1000≤c.2)(h2:c.2≤1000)(hl:l.length≤1000)(hs:∀m,m∈l→m.2.2.2.2.length≤1000)(hn:2000≤n) :
  ∃u,qbh n (l,((c,()),()))=some (l.any fun m=>!mesB c m,u):=qyJ n c l hh h1 h2 hl hn
def cmpI(x y:Int):Int:=if x<y then -1 else if x>y then 1 else 0
theorem qAf{x y:Int}:cmpI x y=0↔x=y:=by
 unfold cmpI
 split
 ·constructor
  ·intro h;omega
  ·intro h;omega
 ·split
  ·constructor
   ·intro h;omega
   ·intro h;omega
  ·constructor
   ·intro _;omega
   ·intro _;rfl
theorem qBF(n:Nat)(x:Int):qid n (x,())=some (false,()):=by rw[qv5];simp only[qev rfl]
theorem qrD(n:Nat)(x y:Int):qbE n (x,(y,()))=some (cmpI x y,()):=by
 rw[quJ]
 simp only[qBF,Option.bind_some,cond_false]
 unfold cmpI
 show cond (decide (x<y)) _ (cond (decide (x>y)) _ _)=_
 by_cases h:x<y
 ·simp[h]
 ·by_cases h2:x>y
  ·simp[h,h2]
  ·simp[h,h2]
theorem qIE(n:Nat)(x y:Int):qp6 n (x,(y,()))=some (decide (x<y),()):=by
 rw[qwS]
 simp only[qBF,Option.bind_some,cond_false]
def orI:List Int→Int
 | []=>0
 | x::l=>if x=0 then orI l else x
theorem qxQ:∀{l:List Int},orI l=0↔∀x,x∈l→x=0
 | []=>by simp[orI]
 | x::l=>by
  unfold orI
  split
  ·rename_i h
   rw[qxQ]
   simp[h]
  ·rename_i h
   simp[h]
theorem qBG:∀(l:List Int) (k:Nat),qkP (ξ:=(Int×Unit)⊕(Int×Unit)) (fun _ (_:Unit) (x:Int)=>some (cond (iNe x 0) (.inr (.inr (x,()))) (.inl ()))) (fun _=>some (.inl (0,()))) l k ()=if orI l=0 then some (.inl (0,())) else some (.inr (orI l,()))
 | [],_=>rfl
 | x::l,k=>by
  rw[qkP,orI]
  by_cases h:x=0
  ·rw[qev h,if_pos h]
   exact qBG l _
  ·rw[qhM h,if_neg h,if_neg h]
   rfl
theorem qD3(n:Nat)(l:List Int)(hl:l.length≤1000)(hn:2000≤n):qmY n (l,())=some (orI l,()):=by
 rw[qyF]
 have h1:=qsW (step:=qp7 n) l (fun k (_:Unit)=>((0:Int),(l,((l.length:Int),((k:Int),()))))) (fun _ _ x=>some (cond (iNe x 0) (.inr (.inr (x,()))) (.inl ()))) (fun _=>some (.inl (0,()))) (fun rec k _ hk=>by
  rw[qrb]
  simp only[qv hk,cond_true,qw l hk,Option.bind_some,qi (show k<9223372036854775807 by omega)]
  cases iNe l[k] 0<;>rfl) (fun rec _=>by
  rw[qrb]
  simp only[qB,cond_false]) (n:=n) () (by omega)
 show Option.bind (qb n _ ((0:Int),(l,((l.length:Int),(((0:Nat):Int),()))))) _=_
 rw[h1,qBG]
 by_cases h:orI l=0
 ·simp[h]
 ·simp[h]
def cmpS(x y:Stay):Int:=orI [cmpI x.1 y.1,cmpI x.2.1 y.2.1,cmpI x.2.2 y.2.2]
theorem qIF(n:Nat)(x y:Stay)(hn:2000≤n):qn8 n (x,(y,()))=some (cmpS x y,()):=by
 rw[qvk]
 simp only[qrD,Option.bind_some,qD3 n [cmpI x.1 y.1,cmpI x.2.1 y.2.1,cmpI x.2.2 y.2.2] (by simp) hn]
 rfl
theorem qAg{x y:Stay}:cmpS x y=0↔x=y:=by
 unfold cmpS
 rw[qxQ]
 simp only[List.mem_cons,List.not_mem_nil,or_false,forall_eq_or_imp,forall_eq,qAf]
 obtain ⟨a,b,c⟩:=x
 obtain ⟨d,e,f⟩:=y
 simp
def cmpL:List Stay→List Stay→Int
 | [],[]=>0
 | [],_::_=>-1
 | _::_,[]=>1
 | x::a,y::b=>if cmpS x y=0 then cmpL a b else cmpS x y
theorem qAh:∀{a b:List Stay},cmpL a b=0↔a=b
 | [],[]=>by simp[cmpL]
 | [],_::_=>by simp[cmpL]
 | _::_,[]=>by simp[cmpL]
 | x::a,y::b=>by
  unfold cmpL
  split
  ·rename_i h
   rw[qAh,qAg.1 h]
   simp
  ·rename_i h
   have:x≠y:=fun e=>h (qAg.2 e)
   simp[h,this]
theorem qIG(n:Nat)(a b:List Stay)(ha:a.length≤1000)(hn:2000≤n):∀(m k:Nat) (n':Nat),k+m=a.length→k≤b.length→m<n' →
  (Option.bind (qb n' (qc8 n) (a,(b,(((),()),(a,((a.length:Int),((k:Int),()))))))) fun y=>(Sum.elim (fun a=>(cond (iLt (((List.length a.1):Nat):Int) (((List.length a.2.1):Nat):Int)) (some ((Int.negSucc (0:Nat)),())) (some ((0:Int),())))) (fun b=>(some b)) y))=some (cmpL (a.drop k) (b.drop k),()):=by
 intro m
 induction m with
 | zero =>
  intro k n' hk hb hn'
  obtain ⟨n',rfl⟩:∃m,n'=m+1:=⟨n'-1,by omega⟩
  have:k=a.length:=by omega
  subst this
  rw[qc,qfa,List.drop_length]
  simp only[qB,cond_false,Option.bind_some,Sum.elim_inl]
  rcases Nat.lt_or_ge a.length b.length with h | h
  ·rw[qv h,List.drop_eq_getElem_cons h]
   rfl
  ·rw[show iLt (a.length:Int) (b.length:Int)=false by simp[iLt];omega,List.drop_eq_nil_of_le h]
   rfl
 | succ m ih =>
  intro k n' hk hb hn'
  obtain ⟨n',rfl⟩:∃m,n'=m+1:=⟨n'-1,by omega⟩
  have hlt:k<a.length:=by omega
  rw[qc,qfa,List.drop_eq_getElem_cons hlt]
  simp only[qv hlt,cond_true,qw a hlt,Option.bind_some]
  rcases Nat.lt_or_ge k b.length with h | h
  ·rw[show iGe (k:Int) (b.length:Int)=false by simp[iGe];omega,List.drop_eq_getElem_cons h,cmpL]
   simp only[cond_false,qw b h,Option.bind_some,qIF n _ _ hn,qi (show k<9223372036854775807 by omega)]
   by_cases h0:cmpS a[k] b[k]=0
   ·rw[qev h0,if_pos h0]
    exact ih (k+1) n' (by omega) (by omega) (by omega)
   ·rw[qhM h0,if_neg h0]
    rfl
  ·rw[show iGe (k:Int) (b.length:Int)=true by simp[iGe];omega,List.drop_eq_nil_of_le h]
   rfl
theorem qIH(n:Nat)(a b:List Stay)(ha:a.length≤1000)(hn:2000≤n):qdt n (a,(b,(((),()),())))=some (cmpL a b,()):=by
 rw[qjS]
 have:=qIG n a b ha hn a.length 0 n (by omega) (by omega) (by omega)
 rw[List.drop_zero,List.drop_zero] at this
 exact this
def cmpM(x y:Msg):Int:=orI [cmpI x.2.1 y.2.1,cmpI x.1 y.1,cmpI x.2.2.1 y.2.2.1,cmpI x.2.2.2.1 y.2.2.2.1,cmpL x.2.2.2.2 y.2.2.2.2]
theorem qC4(n:Nat)(x y:Msg)(hx:x.2.2.2.2.length≤1000)(hn:2000≤n):qnl n (x,(y,()))=some (cmpM x y,()):=by
 rw[qwV]
 simp only[qrD,Option.bind_some,qIH n _ _ hx hn,qD3 n [cmpI x.2.1 y.2.1,cmpI x.1 y.1,cmpI x.2.2.1 y.2.2.1,cmpI x.2.2.2.1 y.2.2.2.1,cmpL x.2.2.2.2 y.2.2.2.2] (by simp) hn]
 rfl
theorem qAi{x y:Msg}:cmpM x y=0↔x=y:=by
 unfold cmpM
 rw[qxQ]
 simp only[List.mem_cons,List.not_mem_nil,or_false,forall_eq_or_imp,forall_eq,qAf,qAh]
 obtain ⟨a,b,c,d,e⟩:=x
 obtain ⟨a',b',c',d',e'⟩:=y
 simp only[Prod.mk.injEq]
 constructor
 ·rintro ⟨h1,h2,h3⟩;exact ⟨h2,h1,h3⟩
 ·rintro ⟨h1,h2,h3⟩;exact ⟨h2,h1,h3⟩
def cmpQ(x y:Msg):Int:=orI [cmpI x.2.2.1 y.2.2.1,cmpI x.2.1 y.2.1]
theorem qII(n:Nat)(x y:Msg)(hn:2000≤n):qp8 n (x,(y,()))=some (cmpQ x y,()):=by
 rw[qwU]
 simp only[qrD,Option.bind_some,qD3 n [cmpI x.2.2.1 y.2.2.1,cmpI x.2.1 y.2.1] (by simp) hn]
 rfl
theorem app0{α:Type}(A:List α)(y x:α)(m:List α):(A++y::x::m)[A.length]?=some y:=by simp
theorem app1{α:Type}(A:List α)(y x:α)(m:List α):(A++y::x::m)[A.length+1]?=some x:=by simp
theorem set1{α:Type}(A:List α)(y x z:α)(m:List α):(A++y::x::m).set (A.length+1) z=A++y::z::m:=by simp
theorem set0{α:Type}(A:List α)(y x z:α)(m:List α):(A++y::x::m).set A.length z=A++z::x::m:=by simp
theorem qk8{k:Nat}(h:k<9223372036854775807):iW (iSub ((k+1:Nat):Int) 1)=(k:Int):=by
 rw[qM (by unfold iSub;omega) (by unfold iSub;omega)];unfold iSub;omega
theorem qxR(n:Nat):∀k:Nat,k≤12→∃r,qbi n ((IntKind.wrap .u64 (k:Int)),())=some r:=by
 intro k hk
 match k,hk with
 | 0,_=>exact ⟨_,(by kernel_rfl:qbi n ((IntKind.wrap .u64 ((0:Nat):Int)),())=some (0,()))⟩
 | 1,_=>exact ⟨_,(by kernel_rfl:qbi n ((IntKind.wrap .u64 ((1:Nat):Int)),())=some (1,()))⟩
 | 2,_=>exact ⟨_,(by kernel_rfl:qbi n ((IntKind.wrap .u64 ((2:Nat):Int)),())=some (2,()))⟩
 | 3,_=>exact ⟨_,(by kernel_rfl:qbi n ((IntKind.wrap .u64 ((3:Nat):Int)),())=some (2,()))⟩
 | 4,_=>exact ⟨_,(by kernel_rfl:qbi n ((IntKind.wrap .u64 ((4:Nat):Int)),())=some (3,()))⟩
 | 5,_=>exact ⟨_,(by kernel_rfl:qbi n ((IntKind.wrap .u64 ((5:Nat):Int)),())=some (3,()))⟩
 | 6,_=>exact ⟨_,(by kernel_rfl:qbi n ((IntKind.wrap .u64 ((6:Nat):Int)),())=some (3,()))⟩
 | 7,_=>exact ⟨_,(by kernel_rfl:qbi n ((IntKind.wrap .u64 ((7:Nat):Int)),())=some (3,()))⟩
 | 8,_=>exact ⟨_,(by kernel_rfl:qbi n ((IntKind.wrap .u64 ((8:Nat):Int)),())=some (4,()))⟩
 | 9,_=>exact ⟨_,(by kernel_rfl:qbi n ((IntKind.wrap .u64 ((9:Nat):Int)),())=some (4,()))⟩
 | 10,_=>exact ⟨_,(by kernel_rfl:qbi n ((IntKind.wrap .u64 ((10:Nat):Int)),())=some (4,()))⟩
 | 11,_=>exact ⟨_,(by kernel_rfl:qbi n ((IntKind.wrap .u64 ((11:Nat):Int)),())=some (4,()))⟩
 | 12,_=>exact ⟨_,(by kernel_rfl:qbi n ((IntKind.wrap .u64 ((12:Nat):Int)),())=some (4,()))⟩
theorem qsc{k:Nat}:iGt ((k+1:Nat):Int) 0=true:=by unfold iGt;exact decide_eq_true (by omega)
theorem qlR{k:Nat}:Int.toNat (k:Int)=k:=by simp
theorem w12{k:Nat}(h:k≤12):iLe (iW (iSub (k:Int) 0)) 12=true:=by
 rw[qM (by unfold iSub;omega) (by unfold iSub;omega)];unfold iLe iSub;exact decide_eq_true (by omega)
theorem qKy(n N i:Nat)(x:Msg)(hx:x.2.2.2.2.length≤1000)(hN:N≤1000)(hn:2000≤n)(r m:List Msg)(hr:r.length≤N):qb n (qbg n) ((0:Int),((N:Int),(((),()),((i:Int),((r.length:Int),((r.reverse++x::m),()))))))=some ((0:Int),((N:Int),(((),()),((i:Int),(((insL (fun x y=>decide (cmpM x y<0)) x r).reverse++m),()))))):=by
 exact qwE (step:=qbg n) (fun x y=>decide (cmpM x y<0)) (fun j d=>((0:Int),((N:Int),(((),()),((i:Int),((j:Int),(d,()))))))) (fun d=>some ((0:Int),((N:Int),(((),()),((i:Int),(d,())))))) x N (fun rec A y m hA=>by
  rw[qdh]
  have hj:A.length<9223372036854775807:=by omega
  simp only[qsc,cond_true,qi8,app0,app1,Option.bind_some,qk8 hj,qlR,qC4 n _ _ hx hn,set1,set0]) (fun rec d=>by
  rw[qdh]
  rfl) r m n hr (by omega)
theorem qJB(n:Nat)(l:List Msg)(hs:∀x,x∈l→x.2.2.2.2.length≤1000)(hl:l.length≤1000)(hn:2000≤n):qca n ((0:Int),((l.length:Int),(((),()),(l,()))))=some (qkQ (fun x y=>decide (cmpM x y<0)) l,()):=by
 rw[qhm]
 cases l with
 | nil =>
  obtain ⟨n',rfl⟩:∃m,n=m+1:=⟨n-1,by omega⟩
  rw[qc,qbH]
  rfl
 | cons a l =>
  obtain ⟨N,hN⟩:∃N,N=(a::l).length:=⟨_,rfl⟩
  have hl':l.length+1=N:=by rw[hN];rfl
  have h1:∀rec (r:List Msg) x m,(x∈a::l)→r.length+1+m.length=N→qE n rec ((0:Int),((N:Int),(((),()),((r.length:Int),((r.reverse++x::m),())))))=rec ((0:Int),((N:Int),(((),()),(((r.length+1:Nat):Int),(((insL (fun x y=>decide (cmpM x y<0)) x r).reverse++m),()))))):=fun rec r x m hx hm=>by
   rw[qbH]
   simp only[qv (show r.length<N by omega),cond_true,qKy n N r.length x (hs x hx) (by omega) hn r m (by omega),Option.bind_some,qi (show r.length<9223372036854775807 by omega)]
  have h0:∀rec (d:List Msg),qE n rec ((0:Int),((N:Int),(((),()),((N:Int),(d,())))))=some (d,()):=fun rec d=>by
   rw[qbH]
   simp only[qB,cond_false]
  have go:∀(l2 r:List Msg) (n':Nat),(∀x,x∈l2→x∈a::l)→r.length+l2.length=N→l2.length<n'→qb n' (qE n) ((0:Int),((N:Int),(((),()),((r.length:Int),((r.reverse++l2),())))))=some ((qiH (fun x y=>decide (cmpM x y<0)) r l2).reverse,()):=by
   intro l2
   induction l2 with
   | nil =>
    intro r n' _ hr hn'
    obtain ⟨n',rfl⟩:∃m,n'=m+1:=⟨n'-1,by omega⟩
    have hr':r.length=N:=by simpa using hr
    rw[qc,List.append_nil,hr',h0]
    rfl
   | cons x l2 ih =>
    intro r n' hm hr hn'
    obtain ⟨n',rfl⟩:∃m,n'=m+1:=⟨n'-1,by omega⟩
    simp only[List.length_cons] at hr hn'
    rw[qc,h1 _ r x l2 (hm x (by simp)) (by omega),qiH]
    have:=ih (insL (fun x y=>decide (cmpM x y<0)) x r) n' (fun z hz=>hm z (by simp[hz])) (by rw[qod];omega) (by omega)
    rw[qod] at this
    exact this
  have h3:=go l [a] n (fun z hz=>by simp[hz]) (by simp;omega) (by omega)
  rw[← hN]
  have e1:iW (iAdd (0:Int) 1)=((1:Nat):Int):=qi (k:=0) (by omega)
  simp only[e1]
  have e2:(qiH (fun x y=>decide (cmpM x y<0)) [a] l).reverse=qkQ (fun x y=>decide (cmpM x y<0)) (a::l):=rfl
  rw[e2] at h3
  show Option.bind (qb n (qE n) ((0:Int),((N:Int),(((),()),(((([a]:List Msg).length:Nat):Int),((([a]:List Msg).reverse++l),())))))) _=_
  rw[h3]
  rfl
theorem qIJ(n:Nat)(l:List Msg)(hs:∀x,x∈l→x.2.2.2.2.length≤1000)(hl:l.length≤12)(hn:2000≤n):qdN n (((),()),(l,()))=some (qkQ (fun x y=>decide (cmpM x y<0)) l,()):=by
 rw[qkc,qm3]
 obtain ⟨rr,hrr⟩:=qxR n l.length hl
 simp only[hrr,Option.bind_some]
 rw[qiC]
 obtain ⟨n',rfl⟩:∃m,n=m+1:=⟨n-1,by omega⟩
 rw[qh1,qir,qc,qh0]
 simp only[w12 hl,cond_true,qJB (n'+1) l hs (by omega) hn,Option.bind_some]
theorem qKz(n N i:Nat)(x:Msg)(hN:N≤1000)(hn:2000≤n)(r m:List Msg)(hr:r.length≤N):qb n (qbf n) ((0:Int),((N:Int),(((),()),((i:Int),((r.length:Int),((r.reverse++x::m),()))))))=some ((0:Int),((N:Int),(((),()),((i:Int),(((insL (fun x y=>decide (cmpQ x y<0)) x r).reverse++m),()))))):=by
 exact qwE (step:=qbf n) (fun x y=>decide (cmpQ x y<0)) (fun j d=>((0:Int),((N:Int),(((),()),((i:Int),((j:Int),(d,()))))))) (fun d=>some ((0:Int),((N:Int),(((),()),((i:Int),(d,())))))) x N (fun rec A y m hA=>by
  rw[qdg]
  have hj:A.length<9223372036854775807:=by omega
  simp only[qsc,cond_true,qi8,app0,app1,Option.bind_some,qk8 hj,qlR,qII n _ _ hn,set1,set0]) (fun rec d=>by
  rw[qdg]
  rfl) r m n hr (by omega)
theorem qJC(n:Nat)(l:List Msg)(hl:l.length≤1000)(hn:2000≤n):qb9 n ((0:Int),((l.length:Int),(((),()),(l,()))))=some (qkQ (fun x y=>decide (cmpQ x y<0)) l,()):=by
 rw[qhl]
 cases l with
 | nil =>
  obtain ⟨n',rfl⟩:∃m,n=m+1:=⟨n-1,by omega⟩
  rw[qc,qbG]
  rfl
 | cons a l =>
  obtain ⟨N,hN⟩:∃N,N=(a::l).length:=⟨_,rfl⟩
  have hl':l.length+1=N:=by rw[hN];rfl
  have h1:∀rec (r:List Msg) x m,r.length+1+m.length=N→qD n rec ((0:Int),((N:Int),(((),()),((r.length:Int),((r.reverse++x::m),())))))=rec ((0:Int),((N:Int),(((),()),(((r.length+1:Nat):Int),(((insL (fun x y=>decide (cmpQ x y<0)) x r).reverse++m),()))))):=fun rec r x m hm=>by
   rw[qbG]
   simp only[qv (show r.length<N by omega),cond_true,qKz n N r.length x (by omega) hn r m (by omega),Option.bind_some,qi (show r.length<9223372036854775807 by omega)]
  have h0:∀rec (d:List Msg),qD n rec ((0:Int),((N:Int),(((),()),((N:Int),(d,())))))=some (d,()):=fun rec d=>by
   rw[qbG]
   simp only[qB,cond_false]
  have go:∀(l2 r:List Msg) (n':Nat),r.length+l2.length=N→l2.length<n'→qb n' (qD n) ((0:Int),((N:Int),(((),()),((r.length:Int),((r.reverse++l2),())))))=some ((qiH (fun x y=>decide (cmpQ x y<0)) r l2).reverse,()):=by
   intro l2
   induction l2 with
   | nil =>
    intro r n' hr hn'
    obtain ⟨n',rfl⟩:∃m,n'=m+1:=⟨n'-1,by omega⟩
    have hr':r.length=N:=by simpa using hr
    rw[qc,List.append_nil,hr',h0]
    rfl
   | cons x l2 ih =>
    intro r n' hr hn'
    obtain ⟨n',rfl⟩:∃m,n'=m+1:=⟨n'-1,by omega⟩
    simp only[List.length_cons] at hr hn'
    rw[qc,h1 _ r x l2 (by omega),qiH]
    have:=ih (insL (fun x y=>decide (cmpQ x y<0)) x r) n' (by rw[qod];omega) (by omega)
    rw[qod] at this
    exact this
  have h3:=go l [a] n (by simp;omega) (by omega)
  rw[← hN]
  have e1:iW (iAdd (0:Int) 1)=((1:Nat):Int):=qi (k:=0) (by omega)
  simp only[e1]
  have e2:(qiH (fun x y=>decide (cmpQ x y<0)) [a] l).reverse=qkQ (fun x y=>decide (cmpQ x y<0)) (a::l):=rfl
  rw[e2] at h3
  show Option.bind (qb n (qD n) ((0:Int),((N:Int),(((),()),(((([a]:List Msg).length:Nat):Int),((([a]:List Msg).reverse++l),())))))) _=_
  rw[h3]
  rfl
theorem qIK(n:Nat)(l:List Msg)(hl:l.length≤12)(hn:2000≤n):qcm n (((),()),(l,()))=some (qkQ (fun x y=>decide (cmpQ x y<0)) l,()):=by
 rw[qkd,qm3]
 obtain ⟨rr,hrr⟩:=qxR n l.length hl
 simp only[hrr,Option.bind_some]
 rw[qiD]
 obtain ⟨n',rfl⟩:∃m,n=m+1:=⟨n-1,by omega⟩
 rw[qh3,qis,qc,qh2]
 simp only[w12 hl,cond_true,qJC (n'+1) l (by omega) hn,Option.bind_some]
theorem qKA(n N i:Nat)(x:Int)(hN:N≤1000)(hn:2000≤n)(r m:List Int)(hr:r.length≤N):qb n (qc7 n) ((0:Int),((N:Int),((i:Int),((r.length:Int),((r.reverse++x::m),())))))=some ((0:Int),((N:Int),((i:Int),(((insL (fun x y=>decide (x<y)) x r).reverse++m),())))):=by
 exact qwE (step:=qc7 n) (fun x y=>decide (x<y)) (fun j d=>((0:Int),((N:Int),((i:Int),((j:Int),(d,())))))) (fun d=>some ((0:Int),((N:Int),((i:Int),(d,()))))) x N (fun rec A y m hA=>by
  rw[qg5]
  have hj:A.length<9223372036854775807:=by omega
  simp only[qsc,cond_true,qi8,app0,app1,Option.bind_some,qk8 hj,qlR,qIE,set1,set0]) (fun rec d=>by
  rw[qg5]
  rfl) r m n hr (by omega)
theorem qJD(n:Nat)(l:List Int)(hl:l.length≤1000)(hn:2000≤n):qfD n ((0:Int),((l.length:Int),(l,())))=some (qkQ (fun x y=>decide (x<y)) l,()):=by
 rw[qmF]
 cases l with
 | nil =>
  obtain ⟨n',rfl⟩:∃m,n=m+1:=⟨n-1,by omega⟩
  rw[qc,qer]
  rfl
 | cons a l =>
  obtain ⟨N,hN⟩:∃N,N=(a::l).length:=⟨_,rfl⟩
  have hl':l.length+1=N:=by rw[hN];rfl
  have h1:∀rec (r:List Int) x m,r.length+1+m.length=N→qbs n rec ((0:Int),((N:Int),((r.length:Int),((r.reverse++x::m),()))))=rec ((0:Int),((N:Int),(((r.length+1:Nat):Int),(((insL (fun x y=>decide (x<y)) x r).reverse++m),())))):=fun rec r x m hm=>by
   rw[qer]
   simp only[qv (show r.length<N by omega),cond_true,qKA n N r.length x (by omega) hn r m (by omega),Option.bind_some,qi (show r.length<9223372036854775807 by omega)]
  have h0:∀rec (d:List Int),qbs n rec ((0:Int),((N:Int),((N:Int),(d,()))))=some (d,()):=fun rec d=>by
   rw[qer]
   simp only[qB,cond_false]
  have go:∀(l2 r:List Int) (n':Nat),r.length+l2.length=N→l2.length<n'→qb n' (qbs n) ((0:Int),((N:Int),((r.length:Int),((r.reverse++l2),()))))=some ((qiH (fun x y=>decide (x<y)) r l2).reverse,()):=by
   intro l2
   induction l2 with
   | nil =>
    intro r n' hr hn'
    obtain ⟨n',rfl⟩:∃m,n'=m+1:=⟨n'-1,by omega⟩
    have hr':r.length=N:=by simpa using hr
    rw[qc,List.append_nil,hr',h0]
    rfl
   | cons x l2 ih =>
    intro r n' hr hn'
    obtain ⟨n',rfl⟩:∃m,n'=m+1:=⟨n'-1,by omega⟩
    simp only[List.length_cons] at hr hn'
    rw[qc,h1 _ r x l2 (by omega),qiH]
    have:=ih (insL (fun x y=>decide (x<y)) x r) n' (by rw[qod];omega) (by omega)
    rw[qod] at this
    exact this
  have h3:=go l [a] n (by simp;omega) (by omega)
  rw[← hN]
  have e1:iW (iAdd (0:Int) 1)=((1:Nat):Int):=qi (k:=0) (by omega)
  simp only[e1]
  have e2:(qiH (fun x y=>decide (x<y)) [a] l).reverse=qkQ (fun x y=>decide (x<y)) (a::l):=rfl
  rw[e2] at h3
  show Option.bind (qb n (qbs n) ((0:Int),((N:Int),(((([a]:List Int).length:Nat):Int),((([a]:List Int).reverse++l),()))))) _=_
  rw[h3]
  rfl
theorem qIL(n:Nat)(l:List Int)(hl:l.length≤12)(hn:2000≤n):qm0 n (l,())=some (qkQ (fun x y=>decide (x<y)) l,()):=by
 rw[qtZ,qm3]
 obtain ⟨rr,hrr⟩:=qxR n l.length hl
 simp only[hrr,Option.bind_some]
 rw[qoF]
 obtain ⟨n',rfl⟩:∃m,n=m+1:=⟨n-1,by omega⟩
 rw[qnQ,qn9,qc,qnP]
 simp only[w12 hl,cond_true,qJD (n'+1) l (by omega) hn,Option.bind_some]
end Go.Proofs.YtcjcacbhkoainaaGreatDoor
