/- Texts Ds0, Ds1, Ds2, Ds3, Ds4 in one. -/
import Derived.Test.YtcjgodgpaokbnaaPa
import Derived.Test.YtcjgodgpaokbnaaPb
/- Plain: lists turned in a part. Nothing here speaks of the program. -/
set_option linter.constructorNameAsVariable false
set_option linter.unusedSimpArgs false
set_option linter.unusedVariables false
set_option linter.unusedSectionVars false
namespace Go.Proofs.Ytcjgodgpaokbnaa
open Go Go.Proofs Go.RowKit
section
variable {α:Type} [Inhabited α]
def G(d:List α)(k:Nat):α:=d.getD k default
theorem G_at{d:List α}{k:Nat}(h:k<d.length):G d k=d[k]:=by
 unfold G;rw[List.getD_eq_getElem?_getD,List.getElem?_eq_getElem h];rfl
theorem qiS{d:List α}{k:Nat}(h:k<d.length):d[k]?=some (G d k):=by rw[List.getElem?_eq_getElem h,G_at h]
theorem qQe{d:List α}{k:Nat}(h:k<d.length):lat d (k:Int)=some (G d k):=by rw[qrQ,qiS h]
theorem qES{d:List α}{k:Nat}(h:k<d.length):G d k∈d:=by rw[G_at h];exact List.getElem_mem h
theorem qIL{d:List α}{i k:Nat}{x:α}(h:i<d.length):G (d.set i x) k=if k=i then x else G d k:=by
 unfold G
 rw[List.getD_eq_getElem?_getD,List.getD_eq_getElem?_getD,List.getElem?_set]
 by_cases hk:k=i
 ·subst hk;simp[h]
 ·rw[if_neg (fun e=>hk e.symm),if_neg hk]
def swp(d:List α)(i j:Nat):List α:=(d.set i (G d j)).set j (G d i)
theorem qHF(d:List α)(i j:Nat):(swp d i j).length=d.length:=by unfold swp;simp
theorem qET{d:List α}{i j k:Nat}(hi:i<d.length)(hj:j<d.length):G (swp d i j) k=if k=j then G d i else if k=i then G d j else G d k:=by
 unfold swp
 rw[qIL (by simpa using hj),qIL hi]
theorem qOz{d e:List α}(hl:d.length=e.length)(h:∀k,k<d.length→G d k=G e k):d=e:=by
 apply List.ext_getElem hl
 intro k h1 h2
 rw[← G_at h1,← G_at h2]
 exact h k h1
theorem qN8{d:List α}{i j:Nat}(hi:i<d.length)(hj:j<d.length):(swp d i j).Perm d:=by
 by_cases h:i=j
 ·subst h
  have:swp d i i=d:=qOz (qHF _ _ _) fun k _=>by
   rw[qET hi hi]
   split
   ·rename_i e;rw[e]
   ·rfl
  rw[this]
 ·have h1:=qI4 d i j (G d j) (G d i) h hi hj
  have h2:(d.set i (G d i)).set j (G d j)=d:=qOz (by simp) fun k _=>by
   rw[qIL (by simpa using hj),qIL hi]
   split
   ·rename_i e;rw[e]
   ·split
    ·rename_i e;rw[e]
    ·rfl
  rw[h2] at h1
  exact h1
structure PermR (a b:Nat) (d e:List α):Prop where
 len:e.length=d.length
 perm:e.Perm d
 out:∀k,k<a∨b≤k→G e k=G d k
 ins:∀k,a≤k→k<b→∃m,a≤m∧m<b∧G e k=G d m
theorem PermR.refl(a b:Nat)(d:List α):PermR a b d d:=⟨rfl,List.Perm.refl _,fun _ _=>rfl,fun k h1 h2=>⟨k,h1,h2,rfl⟩⟩
theorem PermR.trans{a b:Nat}{d e f:List α}(h:PermR a b d e)(k:PermR a b e f):PermR a b d f :=
 ⟨k.len.trans h.len,k.perm.trans h.perm,fun i hi=>(k.out i hi).trans (h.out i hi),fun i h1 h2=>by
  obtain ⟨m,m1,m2,m3⟩:=k.ins i h1 h2
  obtain ⟨q,q1,q2,q3⟩:=h.ins m m1 m2
  exact ⟨q,q1,q2,m3.trans q3⟩⟩
theorem PermR.swp{a b:Nat}{d:List α}{i j:Nat}(hb:b≤d.length)(hi:a≤i∧i<b)(hj:a≤j∧j<b):PermR a b d (swp d i j) :=
 ⟨qHF _ _ _,qN8 (by omega) (by omega),fun k hk=>by rw[qET (by omega) (by omega),if_neg (by omega),if_neg (by omega)],fun k h1 h2=>by
  rw[qET (by omega) (by omega)]
  split
  ·exact ⟨i,hi.1,hi.2,rfl⟩
  ·split
   ·exact ⟨j,hj.1,hj.2,rfl⟩
   ·exact ⟨k,h1,h2,rfl⟩⟩
theorem PermR.wide{a b a' b':Nat}{d e:List α}(h:PermR a b d e)(h1:a'≤a)(h2:b≤b'):PermR a' b' d e :=
 ⟨h.len,h.perm,fun k hk=>h.out k (by omega),fun k k1 k2=>by
  by_cases hk:a≤k∧k<b
  ·obtain ⟨m,m1,m2,m3⟩:=h.ins k hk.1 hk.2
   exact ⟨m,by omega,by omega,m3⟩
  ·exact ⟨k,k1,k2,h.out k (by omega)⟩⟩
theorem PermR.all{a b:Nat}{d e:List α}(h:PermR a b d e){p:α→Prop}(hp:∀k,a≤k→k<b→p (G d k)):∀k,a≤k→k<b→p (G e k):=fun k h1 h2=>by
 obtain ⟨m,m1,m2,m3⟩:=h.ins k h1 h2
 rw[m3]
 exact hp m m1 m2
def SortedR(key:α→Int)(d:List α)(a b:Nat):Prop:=∀i j,a≤i→i<j→j<b→key (G d i)≤key (G d j)
theorem SortedR.all{key:α→Int}{d:List α}(h:SortedR key d 0 d.length):d.Pairwise (fun x y=>key x≤key y):=by
 rw[List.pairwise_iff_getElem]
 intro i j hi hj hij
 have:=h i j (by omega) hij hj
 rwa [G_at hi,G_at hj] at this
end
theorem qeY{α:Type}[Inhabited α]{d:List α}{k:Int}(h0:0≤k)(h:k.toNat<d.length):lat d k=some (G d k.toNat):=by
 obtain ⟨m,rfl⟩:=Int.eq_ofNat_of_zero_le h0
 exact qQe h
end Go.Proofs.Ytcjgodgpaokbnaa
/- Plain: partial correctness of what the models compute; the sort by insertion of a part. -/
namespace Go.Proofs.Ytcjgodgpaokbnaa
open Go Go.Proofs Go.RowKit
set_option maxHeartbeats 1000000
def Ok{α:Type}(m:Option α)(Q:α→Prop):Prop:=∃a,m=some a∧Q a
theorem Ok.ret{α:Type}{a:α}{Q:α→Prop}(h:Q a):Ok (some a) Q:=⟨a,rfl,h⟩
theorem Ok.mono{α:Type}{m:Option α}{Q R:α→Prop}(h:Ok m Q)(k:∀a,Q a→R a):Ok m R:=by
 obtain ⟨a,rfl,ha⟩:=h;exact ⟨a,rfl,k a ha⟩
theorem Ok.bind{α β:Type}{m:Option α}{f:α→Option β}{Q:α→Prop}{R:β→Prop}(h:Ok m Q)(k:∀a,Q a→Ok (f a) R):Ok (Option.bind m f) R:=by
 obtain ⟨a,rfl,ha⟩:=h;exact k a ha
theorem Ok.lt{α:Type}{m m':Option α}{Q:α→Prop}{a b:Int}(h:a<b→Ok m Q)(h':b≤a→Ok m' Q):Ok (cond (iLt a b) m m') Q:=by
 rcases Int.lt_or_le a b with k | k
 ·rw[show iLt a b=true from decide_eq_true k];exact h k
 ·rw[show iLt a b=false from decide_eq_false (by omega)];exact h' k
theorem Ok.le{α:Type}{m m':Option α}{Q:α→Prop}{a b:Int}(h:a≤b→Ok m Q)(h':b<a→Ok m' Q):Ok (cond (iLe a b) m m') Q:=by
 rcases Int.lt_or_le b a with k | k
 ·rw[show iLe a b=false from decide_eq_false (by omega)];exact h' k
 ·rw[show iLe a b=true from decide_eq_true k];exact h k
theorem Ok.gt{α:Type}{m m':Option α}{Q:α→Prop}{a b:Int}(h:b<a→Ok m Q)(h':a≤b→Ok m' Q):Ok (cond (iGt a b) m m') Q:=Ok.lt (a:=b) (b:=a) h h'
theorem Ok.ge{α:Type}{m m':Option α}{Q:α→Prop}{a b:Int}(h:b≤a→Ok m Q)(h':a<b→Ok m' Q):Ok (cond (iGe a b) m m') Q:=Ok.le (a:=b) (b:=a) h h'
theorem Ok.eq{α:Type}{m m':Option α}{Q:α→Prop}{a b:Int}(h:a=b→Ok m Q)(h':a≠b→Ok m' Q):Ok (cond (iEq a b) m m') Q:=by
 by_cases k:a=b
 ·rw[qhs k];exact h k
 ·rw[qj0 k];exact h' k
theorem Ok.neg{α:Type}{m m':Option α}{Q:α→Prop}{b:Bool}(h:Ok (cond b m' m) Q):Ok (cond (!b) m m') Q:=by
 cases b<;>exact h
theorem Ok.iter{σ ξ π:Type}{step:(σ→Option ξ)→σ→Option ξ}(mk:π→σ)(I:π→Prop)(μ:π→Nat){Q:ξ→Prop}
  (hs:∀rec p,I p→(∀p',I p'→μ p'<μ p→Ok (rec (mk p')) Q)→Ok (step rec (mk p)) Q):∀n p,I p→μ p<n→Ok (qh n step (mk p)) Q
 | 0,p,_,h=>absurd h (Nat.not_lt_zero _)
 | n+1,p,hp,h=>by
  rw[qM]
  exact hs _ p hp fun p' hp' hm=>Ok.iter mk I μ hs n p' hp' (by omega)
theorem iw{n:Int}(h:-1000000≤n)(h':n≤1000000):iW n=n:=qto (by omega) (by omega)
theorem qiC{α:Type}[Inhabited α](d:List α)(i j:Nat):List.set (List.set d i (G d j)) j (G d i)=swp d i j:=rfl
theorem qjT{α:Type}[Inhabited α]{d:List α}{i:Nat}{x:α}{k:Int}(h0:0≤k)(h:k.toNat<d.length):lat (List.set d i x) k=some (G (List.set d i x) k.toNat):=qeY h0 (by rw[List.length_set];exact h)
theorem qjU{α:Type}[Inhabited α]{d:List α}{i:Nat}{x:α}{k:Nat}(h:k<d.length):(List.set d i x)[k]?=some (G (List.set d i x) k):=qiS (by rw[List.length_set];exact h)
structure MInv (key:Msg→Int) (n:Nat) (d:List Msg):Prop where
 len:d.length≤1000
 fit:∀x,x∈d→x.2.2.2.2.length≤1000
 cmp:∀x y,x∈d→y∈d→(cmpM x y<0↔key x<key y)
 big:5000≤n
theorem MInv.perm{key:Msg→Int}{n:Nat}{d e:List Msg}(h:MInv key n d)(p:e.Perm d):MInv key n e :=
 ⟨p.length_eq ▸ h.len,fun x hx=>h.fit x (p.mem_iff.1 hx),fun x y hx hy=>h.cmp x y (p.mem_iff.1 hx) (p.mem_iff.1 hy),h.big⟩
theorem Ok.cmp{key:Msg→Int}{n:Nat}{d:List Msg}(hI:MInv key n d){α:Type}{m m':Option α}{Q:α→Prop}{i j:Nat}(hi:i<d.length)(hj:j<d.length)(h:key (G d i)<key (G d j)→Ok m Q)(h':key (G d j)≤key (G d i)→Ok m' Q) :
  Ok (Option.bind (qZ n (G d i,(G d j,()))) fun y=>cond (iLt y.1 0) m m') Q:=by
 rw[qEP n _ _ (hI.fit _ (qES hi)) (by have:=hI.big;omega),Option.bind_some]
 have:=hI.cmp _ _ (qES hi) (qES hj)
 exact Ok.lt (fun k=>h (this.1 k)) fun k=>h' (by
  rcases Int.lt_or_le (key (G d i)) (key (G d j)) with q | q
  ·have:=this.2 q;omega
  ·exact q)
theorem Ok.cmpN{key:Msg→Int}{n:Nat}{d:List Msg}(hI:MInv key n d){α:Type}{m m':Option α}{Q:α→Prop}{i j:Nat}(hi:i<d.length)(hj:j<d.length)(h:key (G d j)≤key (G d i)→Ok m Q)(h':key (G d i)<key (G d j)→Ok m' Q) :
  Ok (Option.bind (qZ n (G d i,(G d j,()))) fun y=>cond (!(iLt y.1 0)) m m') Q:=by
 have:=Ok.cmp hI (m:=m') (m':=m) (Q:=Q) hi hj h' h
 obtain ⟨a,e,ha⟩:=this
 refine ⟨a,?_,ha⟩
 rw[← e]
 cases qZ n (G d i,(G d j,())) with
 | none=>rfl
 | some y=>simp only[Option.bind_some];cases iLt y.1 0<;>rfl
theorem ins1{key:Msg→Int}{n:Nat}(a b i j:Int)(d:List Msg)(hI:MInv key n d)(h0:0≤a)(haj:a≤j)(hji:j≤i)(hil:i<d.length)
  (hS:∀p q:Nat,a≤p→p<q→(q:Int)≤i→(q:Int)≠j→key (G d p)≤key (G d q)) :
  Ok (qh n (qP n) (a,(b,(((),()),(i,(j,(d,()))))))) fun r=>∃e,r=(a,(b,(((),()),(i,(e,())))))∧PermR a.toNat (i.toNat+1) d e∧SortedR key e a.toNat (i.toNat+1):=by
 have hlen:=hI.len
 have hbig:=hI.big
 refine Ok.iter (step:=qP n) (fun p:Int×List Msg=>(a,(b,(((),()),(i,(p.1,(p.2,()))))))) (fun p=>a≤p.1∧p.1≤i∧PermR a.toNat (i.toNat+1) d p.2∧∀u v:Nat,a≤u→u<v→(v:Int)≤i→(v:Int)≠p.1→key (G p.2 u)≤key (G p.2 v)) (fun p=>(p.1-a).toNat) ?_ n (j,d) ⟨haj,hji,PermR.refl _ _ _,hS⟩ (by dsimp only;omega)
 rintro rec ⟨j,e⟩ ⟨h1,h2,hP,hS⟩ ih
 have hl:e.length=d.length:=hP.len
 have hE:MInv key n e:=hI.perm hP.perm
 dsimp only at h1 h2 hP hS ih ⊢
 rw[qcU]
 try dsimp only
 refine Ok.gt (fun h=>?_) (fun h=>?_)
 ·simp (disch:=omega) only [qeY,qiS,iw,Option.bind_some,qjT,qjU,iAdd,iSub,qiC]
  refine Ok.cmp hE (by omega) (by omega) (fun k=>?_) (fun k=>?_)
  ·refine ih (j-1,swp e j.toNat (j-1).toNat) ⟨by dsimp only;omega,by dsimp only;omega,hP.trans (PermR.swp (by omega) (by omega) (by omega)),fun u v h3 h4 h5 h6=>?_⟩ (by dsimp only;omega)
   try dsimp only at h6 ⊢
   rw[qET (by omega) (by omega),qET (by omega) (by omega)]
   have q:=hS u v h3 h4 h5
   have q1:=hS u (j-1).toNat h3
   have q2:=hS (j-1).toNat v (by omega)
   have q3:=hS j.toNat v (by omega)
   by_cases c1:v=j.toNat
   ·rw[if_neg (show ¬v=(j-1).toNat by omega),if_pos c1]
    by_cases c2:u=(j-1).toNat
    ·rw[if_pos c2];omega
    ·rw[if_neg c2,if_neg (by omega)]
     exact q1 (by omega) (by omega) (by omega)
   ·rw[if_neg (show ¬v=(j-1).toNat by omega),if_neg c1]
    by_cases c2:u=(j-1).toNat
    ·rw[if_pos c2]
     exact q3 (by omega) h5 (by omega)
    ·rw[if_neg c2]
     by_cases c3:u=j.toNat
     ·rw[if_pos c3]
      exact q2 (by omega) h5 (by omega)
     ·rw[if_neg c3]
      exact q (by omega)
  ·refine Ok.ret ⟨e,rfl,hP,fun u v h3 h4 h5=>?_⟩
   by_cases c:v=j.toNat
   ·subst c
    by_cases c2:u=(j-1).toNat
    ·rw[c2];exact k
    ·have:=hS u (j-1).toNat (by omega) (by omega) (by omega) (by omega)
     omega
   ·exact hS u v (by omega) h4 (by omega) (by omega)
 ·refine Ok.ret ⟨e,rfl,hP,fun u v h3 h4 h5=>?_⟩
  exact hS u v (by omega) h4 (by omega) (by omega)
theorem qPO{key:Msg→Int}{n:Nat}(a b:Int)(d:List Msg)(hI:MInv key n d)(h0:0≤a)(hab:a≤b)(hb:b≤d.length) :
  Ok (qcg n (a,(b,(((),()),(d,()))))) fun r=>∃e,r=(e,())∧PermR a.toNat b.toNat d e∧SortedR key e a.toNat b.toNat:=by
 have hlen:=hI.len
 have hbig:=hI.big
 rw[qf5]
 refine Ok.bind (Q:=fun r=>∃e,r=(e,())∧PermR a.toNat b.toNat d e∧SortedR key e a.toNat b.toNat) ?_ fun r hr=>Ok.ret hr
 by_cases hba:b≤a
 ·rw[show n=(n-1)+1 by omega,qM,q9]
  simp (disch:=omega) only [iw,iAdd]
  exact Ok.lt (fun h=>by omega) fun h=>Ok.ret ⟨d,rfl,PermR.refl _ _ _,fun i j h1 h2 h3=>by omega⟩
 ·simp (disch:=omega) only [iw,iAdd]
  refine Ok.iter (step:=qF n) (fun p:Int×List Msg=>(a,(b,(((),()),(p.1,(p.2,())))))) (fun p=>a+1≤p.1∧p.1≤b∧PermR a.toNat b.toNat d p.2∧SortedR key p.2 a.toNat p.1.toNat) (fun p=>(b-p.1).toNat) ?_ n (a+1,d) ⟨Int.le_refl _,by dsimp only;omega,PermR.refl _ _ _,fun i j h1 h2 h3=>by dsimp only at h3;omega⟩ (by dsimp only;omega)
  rintro rec ⟨i,e⟩ ⟨h1,h2,hP,hS⟩ ih
  have hl:e.length=d.length:=hP.len
  have hE:MInv key n e:=hI.perm hP.perm
  dsimp only at h1 h2 hP hS ih ⊢
  rw[q9]
  try dsimp only
  refine Ok.lt (fun h=>?_) (fun h=>?_)
  ·refine Ok.bind (ins1 a b i i e hE h0 (by omega) (Int.le_refl _) (by omega) fun p q k1 k2 k3 k4=>hS p q (by omega) k2 (by omega)) ?_
   rintro _ ⟨f,rfl,f1,f2⟩
   simp (disch:=omega) only [iw,iAdd]
   refine ih (i+1,f) ⟨by dsimp only;omega,by dsimp only;omega,hP.trans (f1.wide (Nat.le_refl _) (by omega)),?_⟩ (by dsimp only;omega)
   try dsimp only
   rw[show (i+1).toNat=i.toNat+1 by omega]
   exact f2
  ·refine Ok.ret ⟨e,rfl,hP,?_⟩
   rw[show b.toNat=i.toNat by omega]
   exact hS
end Go.Proofs.Ytcjgodgpaokbnaa
/- Plain: the sort by a heap of a part. -/
namespace Go.Proofs.Ytcjgodgpaokbnaa
open Go Go.Proofs Go.RowKit
set_option maxHeartbeats 1000000
def GI(d:List Msg)(i:Int):Msg:=G d i.toNat
theorem qxE{d:List Msg}{i j k:Int}(hi:0≤i∧i<d.length)(hj:0≤j∧j<d.length)(hk:0≤k):GI (swp d i.toNat j.toNat) k=if k=j then GI d i else if k=i then GI d j else GI d k:=by
 unfold GI
 rw[qET (by omega) (by omega)]
 by_cases h:k=j
 ·rw[if_pos (by omega),if_pos h]
 ·rw[if_neg (by omega),if_neg h]
  by_cases h':k=i
  ·rw[if_pos (by omega),if_pos h']
  ·rw[if_neg (by omega),if_neg h']
def HeapX(key:Msg→Int)(d:List Msg)(f lo hi r:Int):Prop :=
 (∀i c:Int,lo≤i→(c=2*i+1∨c=2*i+2)→c<hi→i≠r→key (GI d (f+c))≤key (GI d (f+i))) ∧
 (∀p c:Int,lo≤p→(r=2*p+1∨r=2*p+2)→(c=2*r+1∨c=2*r+2)→c<hi→key (GI d (f+c))≤key (GI d (f+p)))
def Heap(key:Msg→Int)(d:List Msg)(f lo hi:Int):Prop :=
 ∀i c:Int,lo≤i→(c=2*i+1∨c=2*i+2)→c<hi→key (GI d (f+c))≤key (GI d (f+i))
theorem HeapX.step{key:Msg→Int}{d:List Msg}{f lo hi r ch:Int}(h:HeapX key d f lo hi r)(hf:0≤f)(hl:0≤lo)(hr:lo≤r)(hc:ch=2*r+1∨ch=2*r+2)(hch:ch<hi)(hd:f+hi≤d.length)
  (h1:key (GI d (f+r))≤key (GI d (f+ch))) (h2:∀c,(c=2*r+1∨c=2*r+2)→c<hi→key (GI d (f+c))≤key (GI d (f+ch))):HeapX key (swp d (f+r).toNat (f+ch).toNat) f lo hi ch:=by
 constructor
 ·intro i c k1 k2 k3 k4
  rw[qxE (by omega) (by omega) (by omega),qxE (by omega) (by omega) (by omega)]
  by_cases e:i=r
  ·subst e
   rw[if_neg (show ¬f+i=f+ch by omega),if_pos rfl]
   by_cases e':c=ch
   ·subst e';rw[if_pos rfl];exact h1
   ·rw[if_neg (by omega),if_neg (by omega)];exact h2 c k2 k3
  ·rw[if_neg (show ¬f+i=f+ch by omega),if_neg (show ¬f+i=f+r by omega),if_neg (show ¬f+c=f+ch by omega)]
   by_cases e':c=r
   ·subst e'
    rw[if_pos rfl]
    exact h.2 i ch k1 k2 hc hch
   ·rw[if_neg (by omega)]
    exact h.1 i c k1 k2 k3 e
 ·intro p c k1 k2 k3 k4
  have e:p=r:=by omega
  subst e
  rw[qxE (by omega) (by omega) (by omega),qxE (by omega) (by omega) (by omega),if_neg (show ¬f+c=f+ch by omega),if_neg (show ¬f+c=f+p by omega),if_neg (show ¬f+p=f+ch by omega),if_pos rfl]
  exact h.1 ch c (by omega) k3 k4 (by omega)
theorem HeapX.done{key:Msg→Int}{d:List Msg}{f lo hi r:Int}(h:HeapX key d f lo hi r)(h2:∀c,(c=2*r+1∨c=2*r+2)→c<hi→key (GI d (f+c))≤key (GI d (f+r))):Heap key d f lo hi:=fun i c k1 k2 k3=>by
 by_cases e:i=r
 ·subst e;exact h2 c k2 k3
 ·exact h.1 i c k1 k2 k3 e
theorem PermR.outI{a b:Int}{d e:List Msg}(h:PermR a.toNat b.toNat d e){k:Int}(hk:0≤k)(h1:k<a∨b≤k):GI e k=GI d k:=h.out k.toNat (by omega)
theorem PermR.insI{a b:Int}{d e:List Msg}(h:PermR a.toNat b.toNat d e)(ha:0≤a){k:Int}(h1:a≤k)(h2:k<b):∃m,a≤m∧m<b∧GI e k=GI d m:=by
 obtain ⟨m,h3,h4,h5⟩:=h.ins k.toNat (by omega) (by omega)
 exact ⟨m,by omega,by omega,h5⟩
def SortI(key:Msg→Int)(d:List Msg)(a b:Int):Prop:=∀i j,a≤i→i<j→j<b→key (GI d i)≤key (GI d j)
theorem SortI.toR{key:Msg→Int}{d:List Msg}{a b:Int}(h:SortI key d a b):SortedR key d a.toNat b.toNat:=fun i j h1 h2 h3=>h i j (by omega) (by omega) (by omega)
theorem SortI.ofR{key:Msg→Int}{d:List Msg}{a b:Int}(ha:0≤a)(h:SortedR key d a.toNat b.toNat):SortI key d a b:=fun i j h1 h2 h3=>h i.toNat j.toNat (by omega) (by omega) (by omega)
theorem qK0{key:Msg→Int}{n:Nat}(lo hi f:Int)(d:List Msg)(hI:MInv key n d)(hf:0≤f)(hl:0≤lo)(hlo:lo≤4000)(hb:f+hi≤d.length)(hX:HeapX key d f lo hi lo) :
  Ok (qcP n (lo,(hi,(f,(((),()),(d,())))))) fun r=>∃e,r=(e,())∧PermR (f+lo).toNat (f+hi).toNat d e∧Heap key e f lo hi:=by
 have hlen:=hI.len
 have hbig:=hI.big
 rw[qm6]
 refine Ok.bind (Q:=fun r=>∃e,(r=Sum.inl (e,())∨r=Sum.inr (e,()))∧PermR (f+lo).toNat (f+hi).toNat d e∧Heap key e f lo hi) ?_ ?_
 ·refine Ok.iter (step:=qeq n) (fun p:Int×List Msg=>(hi,(f,(((),()),(p.1,(p.2,())))))) (fun p=>lo≤p.1∧p.1≤4000∧PermR (f+lo).toNat (f+hi).toNat d p.2∧HeapX key p.2 f lo hi p.1) (fun p=>(4000-p.1).toNat) ?_ n (lo,d) ⟨Int.le_refl _,hlo,PermR.refl _ _ _,hX⟩ (by dsimp only;omega)
  rintro rec ⟨r,e⟩ ⟨h1,h2,hP,hH⟩ ih
  have hle:e.length=d.length:=hP.len
  have hE:MInv key n e:=hI.perm hP.perm
  dsimp only at h1 h2 hP hH ih ⊢
  rw[qmq]
  try dsimp only
  simp (disch:=omega) only [iw,iAdd,iMul]
  refine Ok.ge (fun h=>Ok.ret ⟨e,Or.inl rfl,hP,hH.done fun c k1 k2=>by omega⟩) (fun h=>?_)
  have key2:∀(ch:Int),(ch=2*r+1∨ch=2*r+2)→ch<hi→(∀c,(c=2*r+1∨c=2*r+2)→c<hi→key (GI e (f+c))≤key (GI e (f+ch)))→key (GI e (f+r))<key (GI e (f+ch)) →
    Ok (rec (hi,(f,(((),()),(ch,(swp e (f+r).toNat (f+ch).toNat,())))))) fun r=>∃e,(r=Sum.inl (e,())∨r=Sum.inr (e,()))∧PermR (f+lo).toNat (f+hi).toNat d e∧Heap key e f lo hi:=fun ch k1 k2 k3 k4 =>
   ih (ch,swp e (f+r).toNat (f+ch).toNat) ⟨by dsimp only;omega,by dsimp only;omega,hP.trans (PermR.swp (by omega) (by omega) (by omega)),hH.step hf hl h1 k1 k2 (by omega) (Int.le_of_lt k4) k3⟩ (by dsimp only;omega)
  refine Ok.lt (fun h'=>?_) (fun h'=>?_)
  ·simp (disch:=omega) only [qeY,qiS,iw,Option.bind_some,qjT,qjU,qiC,Int.add_assoc,Int.reduceAdd]
   simp only[Int.add_assoc,Int.reduceAdd] at h h' key2
   refine Ok.cmp hE (by omega) (by omega) (fun k=>?_) (fun k=>?_)
   ·refine Ok.cmpN hE (by omega) (by omega) (fun k'=>?_) (fun k'=>?_)
    ·refine Ok.ret ⟨e,Or.inr rfl,hP,hH.done fun c k1 k2=>?_⟩
     rcases k1 with rfl | rfl
     ·exact Int.le_trans (Int.le_of_lt k) k'
     ·exact k'
    ·exact key2 (2*r+2) (Or.inr rfl) h' (fun c k1 k2=>by
      rcases k1 with rfl | rfl
      ·exact Int.le_of_lt k
      ·exact Int.le_refl _) k'
   ·refine Ok.cmpN hE (by omega) (by omega) (fun k'=>?_) (fun k'=>?_)
    ·refine Ok.ret ⟨e,Or.inr rfl,hP,hH.done fun c k1 k2=>?_⟩
     rcases k1 with rfl | rfl
     ·exact k'
     ·exact Int.le_trans k k'
    ·exact key2 (2*r+1) (Or.inl rfl) h (fun c k1 k2=>by
      rcases k1 with rfl | rfl
      ·exact Int.le_refl _
      ·exact k) k'
  ·simp (disch:=omega) only [qeY,qiS,iw,Option.bind_some,qjT,qjU,qiC]
   refine Ok.cmpN hE (by omega) (by omega) (fun k'=>?_) (fun k'=>?_)
   ·refine Ok.ret ⟨e,Or.inr rfl,hP,hH.done fun c k1 k2=>?_⟩
    rcases k1 with rfl | rfl
    ·exact k'
    ·omega
   ·exact key2 (2*r+1) (Or.inl rfl) h (fun c k1 k2=>by
     rcases k1 with rfl | rfl
     ·exact Int.le_refl _
     ·omega) k'
 ·rintro _ ⟨e,rfl | rfl,h⟩
  ·exact Ok.ret ⟨e,rfl,h⟩
  ·exact Ok.ret ⟨e,rfl,h⟩
theorem Heap.max{key:Msg→Int}{d:List Msg}{f hi:Int}(h:Heap key d f 0 hi):∀(m:Nat) (j:Int),j<m→0≤j→j<hi→key (GI d (f+j))≤key (GI d f)
 | 0,j,h1,h2,_=>by omega
 | m+1,j,h1,h2,h3=>by
  by_cases e:j=0
  ·subst e;rw[Int.add_zero];exact Int.le_refl _
  ·exact Int.le_trans (h ((j-1)/2) j (by omega) (by omega) h3) (Heap.max h m ((j-1)/2) (by omega) (by omega) (by omega))
theorem qPd{key:Msg→Int}{n:Nat}(a b:Int)(d:List Msg)(hI:MInv key n d)(h0:0≤a)(hab:a<b)(hb:b≤d.length) :
  Ok (qeW n (a,(b,(((),()),(d,()))))) fun r=>∃e,r=(e,())∧PermR a.toNat b.toNat d e∧SortI key e a b:=by
 have hlen:=hI.len
 have hbig:=hI.big
 rw[qm7]
 rw[show q7 (iNe (2:Int) (0:Int))=some () from rfl,Option.bind_some]
 simp (disch:=omega) only [iw,iSub]
 rw[Int.tdiv_eq_ediv_of_nonneg (by omega)]
 simp (disch:=omega) only [iw,iSub]
 refine Ok.bind (Q:=fun r=>∃e,r=(((),()),(a,(0,(b-a,(e,())))))∧PermR a.toNat b.toNat d e∧Heap key e a 0 (b-a)) ?_ ?_
 ·refine Ok.iter (step:=qer n) (fun p:Int×List Msg=>(((),()),(a,(0,(b-a,(p.1,(p.2,()))))))) (fun p=>-1≤p.1∧p.1≤(b-a-1)/2∧PermR a.toNat b.toNat d p.2∧Heap key p.2 a (p.1+1) (b-a)) (fun p=>(p.1+1).toNat) ?_ n ((b-a-1)/2,d) ⟨by dsimp only;omega,Int.le_refl _,PermR.refl _ _ _,fun i c k1 k2 k3=>by dsimp only at k1;omega⟩ (by dsimp only;omega)
  rintro rec ⟨i,e⟩ ⟨h1,h2,hP,hH⟩ ih
  have hle:e.length=d.length:=hP.len
  have hE:MInv key n e:=hI.perm hP.perm
  dsimp only at h1 h2 hP hH ih ⊢
  rw[qmr]
  try dsimp only
  refine Ok.ge (fun h=>?_) (fun h=>?_)
  ·refine Ok.bind (qK0 i (b-a) a e hE h0 h (by omega) (by omega) ⟨fun x c k1 k2 k3 k4=>hH x c (by omega) k2 k3,fun p c k1 k2 k3 k4=>by omega⟩) ?_
   rintro _ ⟨g,rfl,g1,g2⟩
   simp (disch:=omega) only [iw,iSub]
   refine ih (i-1,g) ⟨by dsimp only;omega,by dsimp only;omega,hP.trans (g1.wide (by omega) (by omega)),?_⟩ (by dsimp only;omega)
   try dsimp only
   rw[show i-1+1=i by omega]
   exact g2
  ·refine Ok.ret ⟨e,rfl,hP,?_⟩
   rw[show i+1=0 by omega] at hH
   exact hH
 ·rintro _ ⟨e0,rfl,hP0,hH0⟩
  refine Ok.bind (Q:=fun r=>∃e,r=(e,())∧PermR a.toNat b.toNat d e∧SortI key e a b) ?_ fun r hr=>Ok.ret hr
  have hle0:e0.length=d.length:=hP0.len
  simp (disch:=omega) only [iw,iSub]
  refine Ok.iter (step:=qes n) (fun p:Int×List Msg=>(((),()),(a,(0,(p.1,(p.2,())))))) (fun p=>-1≤p.1∧p.1≤b-a-1∧PermR a.toNat b.toNat d p.2∧Heap key p.2 a 0 (p.1+1)∧SortI key p.2 (a+p.1+1) b∧∀i j,a≤i→i≤a+p.1→a+p.1<j→j<b→key (GI p.2 i)≤key (GI p.2 j)) (fun p=>(p.1+1).toNat) ?_ n (b-a-1,e0) ⟨by dsimp only;omega,Int.le_refl _,hP0,by dsimp only;rw[show b-a-1+1=b-a by omega];exact hH0,fun i j k1 k2 k3=>by dsimp only at k1;omega,fun i j k1 k2 k3 k4=>by dsimp only at k3;omega⟩ (by dsimp only;omega)
  rintro rec ⟨i,e⟩ ⟨h1,h2,hP,hH,hS,hA⟩ ih
  have hle:e.length=d.length:=hP.len
  have hE:MInv key n e:=hI.perm hP.perm
  dsimp only at h1 h2 hP hH hS hA ih ⊢
  rw[qms]
  try dsimp only
  refine Ok.ge (fun h=>?_) (fun h=>?_)
  ·simp (disch:=omega) only [qeY,qiS,iw,Option.bind_some,qjT,qjU,qiC,iAdd,iSub]
   have hQ:PermR a.toNat b.toNat e (swp e a.toNat (a+i).toNat):=PermR.swp (by omega) (by omega) (by omega)
   have hQ':PermR a.toNat (a+i+1).toNat e (swp e a.toNat (a+i).toNat):=PermR.swp (by omega) (by omega) (by omega)
   have sw:∀k,0≤k→GI (swp e a.toNat (a+i).toNat) k=if k=a+i then GI e a else if k=a then GI e (a+i) else GI e k:=fun k hk=>qxE (by omega) (by omega) hk
   have mx:=hH.max (i+1).toNat
   have hl1:(swp e a.toNat (a+i).toNat).length=d.length:=by rw[qHF];exact hle
   refine Ok.bind (qK0 0 i a _ (hE.perm hQ.perm) h0 (Int.le_refl _) (by omega) (by omega) ⟨fun x c k1 k2 k3 k4=>?_,fun p c k1 k2 k3 k4=>by omega⟩) ?_
   ·rw[sw _ (by omega),sw _ (by omega),if_neg (by omega),if_neg (by omega),if_neg (by omega),if_neg (by omega)]
    exact hH x c k1 k2 (by omega)
   ·rintro _ ⟨g,rfl,g1,g2⟩
    rw[Int.add_zero] at g1
    have hA2:∀x y,a≤x→x<a+i→a+i≤y→y<b→key (GI g x)≤key (GI g y):=fun x y k1 k2 k3 k4=>by
     obtain ⟨m,m1,m2,m3⟩:=g1.insI h0 k1 k2
     obtain ⟨m',m4,m5,m6⟩:=hQ'.insI h0 m1 (show m<a+i+1 by omega)
     rw[m3,m6,g1.outI (by omega) (Or.inr k3),sw y (by omega)]
     by_cases c:y=a+i
     ·rw[if_pos c]
      have:=mx (m'-a) (by omega) (by omega) (by omega)
      rw[show a+(m'-a)=m' by omega] at this
      exact this
     ·rw[if_neg c,if_neg (by omega)]
      exact hA m' y m4 (by omega) (by omega) k4
    refine ih (i-1,g) ⟨by dsimp only;omega,by dsimp only;omega,(hP.trans hQ).trans (g1.wide (Nat.le_refl _) (by omega)),?_,fun x y k1 k2 k3=>?_,fun x y k1 k2 k3 k4=>?_⟩ (by dsimp only;omega)
    ·try dsimp only
     rw[show i-1+1=i by omega]
     exact g2
    ·try dsimp only at k1 ⊢
     rw[g1.outI (by omega) (Or.inr (by omega)),g1.outI (by omega) (Or.inr (by omega)),sw x (by omega),sw y (by omega),if_neg (show ¬y=a+i by omega),if_neg (show ¬y=a by omega)]
     by_cases c:x=a+i
     ·rw[if_pos c]
      exact hA a y (Int.le_refl _) (by omega) (by omega) k3
     ·rw[if_neg c,if_neg (by omega)]
      exact hS x y (by omega) k2 k3
    ·try dsimp only at k2 k3 ⊢
     exact hA2 x y k1 (by omega) (by omega) k4
  ·refine Ok.ret ⟨e,rfl,hP,fun x y k1 k2 k3=>hS x y (by omega) k2 k3⟩
end Go.Proofs.Ytcjgodgpaokbnaa
/- Plain: a part turned round, and the choice of a pivot. -/
namespace Go.Proofs.Ytcjgodgpaokbnaa
open Go Go.Proofs Go.RowKit
set_option maxHeartbeats 1000000
theorem qPP{key:Msg→Int}{n:Nat}(a b:Int)(d:List Msg)(hI:MInv key n d)(h0:0≤a)(hab:a≤b)(hb:b≤d.length) :
  Ok (qdX n (a,(b,(((),()),(d,()))))) fun r=>∃e,r=(e,())∧PermR a.toNat b.toNat d e:=by
 have hlen:=hI.len
 have hbig:=hI.big
 rw[qlv]
 refine Ok.bind (Q:=fun r=>∃e,r=(e,())∧PermR a.toNat b.toNat d e) ?_ fun r hr=>Ok.ret hr
 simp (disch:=omega) only [iw,iSub]
 refine Ok.iter (step:=qdL n) (fun p:Int×(Int×List Msg)=>(p.1,(p.2.1,(p.2.2,())))) (fun p=>a≤p.1∧p.1≤1000∧-1≤p.2.1∧p.2.1<b∧PermR a.toNat b.toNat d p.2.2) (fun p=>(2000-p.1).toNat) ?_ n (a,(b-1,d)) ⟨Int.le_refl _,by dsimp only;omega,by dsimp only;omega,by dsimp only;omega,PermR.refl _ _ _⟩ (by dsimp only;omega)
 rintro rec ⟨i,j,e⟩ ⟨h1,h2,h3,h4,hP⟩ ih
 have hle:e.length=d.length:=hP.len
 dsimp only at h1 h2 h3 h4 hP ih ⊢
 rw[qkV]
 try dsimp only
 refine Ok.lt (fun h=>?_) (fun h=>Ok.ret ⟨e,rfl,hP⟩)
 simp (disch:=omega) only [qeY,qiS,iw,Option.bind_some,qjT,qjU,qiC,iAdd,iSub]
 exact ih (i+1,(j-1,swp e i.toNat j.toNat)) ⟨by dsimp only;omega,by dsimp only;omega,by dsimp only;omega,by dsimp only;omega,hP.trans (PermR.swp (by omega) (by omega) (by omega))⟩ (by dsimp only;omega)
theorem qEn{key:Msg→Int}{n:Nat}(a b:Int)(d:List Msg)(s:Int)(hI:MInv key n d)(ha:0≤a∧a<d.length)(hb:0≤b∧b<d.length) :
  Ok (qbY n (d,(a,(b,(((),()),(s,())))))) fun r=>(r.1=a∨r.1=b)∧(r.2.1=a∨r.2.1=b):=by
 rw[qnJ]
 simp (disch:=omega) only [qeY,Option.bind_some]
 exact Ok.cmp hI (by omega) (by omega) (fun _=>Ok.ret ⟨Or.inr rfl,Or.inl rfl⟩) fun _=>Ok.ret ⟨Or.inl rfl,Or.inr rfl⟩
theorem qEo{key:Msg→Int}{n:Nat}(a b c:Int)(d:List Msg)(s:Int)(hI:MInv key n d)(ha:0≤a∧a<d.length)(hb:0≤b∧b<d.length)(hc:0≤c∧c<d.length) :
  Ok (qbZ n (d,(a,(b,(c,(((),()),(s,()))))))) fun r=>r.1=a∨r.1=b∨r.1=c:=by
 rw[qnK]
 refine Ok.bind (qEn a b d s hI ha hb) ?_
 rintro ⟨x,y,s,_⟩ ⟨h1,h2⟩
 refine Ok.bind (qEn y c d s hI (by dsimp only at h2;omega) hc) ?_
 rintro ⟨x',y',s',_⟩ ⟨h3,h4⟩
 refine Ok.bind (qEn x x' d s' hI (by dsimp only at h1;omega) (by dsimp only at h2 h3;omega)) ?_
 rintro ⟨x2,y2,s2,_⟩ ⟨h5,h6⟩
 refine Ok.ret ?_
 try dsimp only at h1 h2 h3 h4 h5 h6 ⊢
 omega
theorem qEp{key:Msg→Int}{n:Nat}(a:Int)(d:List Msg)(s:Int)(hI:MInv key n d)(ha:1≤a∧a+1<d.length) :
  Ok (qbp n (d,(a,(((),()),(s,()))))) fun r=>a-1≤r.1∧r.1≤a+1:=by
 have hlen:=hI.len
 rw[qkW]
 simp (disch:=omega) only [iw,iAdd,iSub]
 refine Ok.bind (qEo (a-1) a (a+1) d s hI (by omega) (by omega) (by omega)) ?_
 rintro ⟨x,r⟩ h
 refine Ok.ret ?_
 try dsimp only at h ⊢
 omega
theorem qN9{key:Msg→Int}{n:Nat}(a b:Int)(d:List Msg)(hI:MInv key n d)(h0:0≤a)(hab:a+8≤b)(hb:b≤d.length) :
  Ok (qet n (d,(a,(b,(((),()),()))))) fun r=>a≤r.1∧r.1<b:=by
 have hlen:=hI.len
 rw[qmt]
 simp only[show q7 (iNe (4:Int) (0:Int))=some () from rfl,Option.bind_some]
 simp (disch:=omega) only [iw,iSub]
 simp (disch:=omega) only [Int.tdiv_eq_ediv_of_nonneg]
 simp (disch:=omega) only [iw,iAdd,iMul]
 have fin:∀(y:Int×(Int×Unit)),(a≤y.1∧y.1<b)→Ok (cond (iEq y.2.1 (0:Int)) (some (y.1,((1:Int),()))) (cond (iEq y.2.1 (12:Int)) (some (y.1,((2:Int),()))) (some (y.1,((0:Int),()))))) fun r=>a≤r.1∧r.1<b:=fun y hy =>
  Ok.eq (fun _=>Ok.ret hy) fun _=>Ok.eq (fun _=>Ok.ret hy) fun _=>Ok.ret hy
 refine Ok.ge (fun _=>Ok.ge (fun _=>?_) fun _=>?_) fun _=>by omega
 ·refine Ok.bind (qEp (a+(b-a)/4*1) d 0 hI (by omega)) ?_
  rintro ⟨p,s,_⟩ h1
  refine Ok.bind (qEp (a+(b-a)/4*2) d s hI (by omega)) ?_
  rintro ⟨q,s,_⟩ h2
  refine Ok.bind (qEp (a+(b-a)/4*3) d s hI (by omega)) ?_
  rintro ⟨r,s,_⟩ h3
  try dsimp only at h1 h2 h3
  refine Ok.bind (qEo p q r d s hI (by omega) (by omega) (by omega)) ?_
  rintro y h4
  exact fin y (by omega)
 ·refine Ok.bind (qEo (a+(b-a)/4*1) (a+(b-a)/4*2) (a+(b-a)/4*3) d 0 hI (by omega) (by omega) (by omega)) ?_
  rintro y h4
  exact fin y (by omega)
end Go.Proofs.Ytcjgodgpaokbnaa
/- printed by gen_ds4.py. Plain: a part divided at a pivot. -/
namespace Go.Proofs.Ytcjgodgpaokbnaa
open Go Go.Proofs Go.RowKit
set_option maxHeartbeats 1000000
theorem qQf{key:Msg→Int}{n:Nat}(a i j:Int)(d:List Msg)(hI:MInv key n d)(h0:0≤a)(hai:a<i)(hij:i≤j+1)(hj:j<d.length) :
  Ok (qh n (qcl n) (a,(((),()),(i,(j,(d,())))))) fun r=>∃i',r=(a,(((),()),(i',(j,(d,())))))∧i≤i'∧i'≤j+1∧(∀k,i≤k→k<i'→key (GI d k)<key (GI d a))∧(i'≤j→key (GI d a)≤key (GI d i')):=by
 have hlen:=hI.len
 have hbig:=hI.big
 refine Ok.iter (step:=qcl n) (fun p:Int=>(a,(((),()),(p,(j,(d,())))))) (fun p=>i≤p∧p≤j+1∧∀k,i≤k→k<p→key (GI d k)<key (GI d a)) (fun p=>(j+1-p).toNat) ?_ n i ⟨Int.le_refl _,hij,fun k k1 k2=>by omega⟩ (by omega)
 rintro rec p ⟨h1,h2,hS⟩ ih
 rw[qlR]
 try dsimp only
 refine Ok.le (fun h=>?_) (fun h=>Ok.ret ⟨p,rfl,h1,h2,hS,fun h'=>by omega⟩)
 simp (disch:=omega) only [qeY,qiS,iw,Option.bind_some,iAdd]
 refine Ok.cmp hI (by omega) (by omega) (fun k=>?_) (fun k=>Ok.ret ⟨p,rfl,h1,h2,hS,fun _=>k⟩)
 exact ih (p+1) ⟨by omega,by omega,fun q q1 q2=>by
  by_cases e:q=p
  ·subst e;exact k
  ·exact hS q q1 (by omega)⟩ (by omega)
theorem qQg{key:Msg→Int}{n:Nat}(a i j:Int)(d:List Msg)(hI:MInv key n d)(h0:0≤a)(hai:a<i)(hij:i≤j+1)(hj:j<d.length) :
  Ok (qh n (qcm n) (a,(((),()),(i,(j,(d,())))))) fun r=>∃j',r=(a,(((),()),(i,(j',(d,())))))∧i≤j'+1∧j'≤j∧(∀k,j'<k→k≤j→key (GI d a)≤key (GI d k))∧(i≤j'→key (GI d j')<key (GI d a)):=by
 have hlen:=hI.len
 have hbig:=hI.big
 refine Ok.iter (step:=qcm n) (fun p:Int=>(a,(((),()),(i,(p,(d,())))))) (fun p=>i≤p+1∧p≤j∧∀k,p<k→k≤j→key (GI d a)≤key (GI d k)) (fun p=>(p+1-i).toNat) ?_ n j ⟨hij,Int.le_refl _,fun k k1 k2=>by omega⟩ (by omega)
 rintro rec p ⟨h1,h2,hS⟩ ih
 rw[qlS]
 try dsimp only
 refine Ok.le (fun h=>?_) (fun h=>Ok.ret ⟨p,rfl,h1,h2,hS,fun h'=>by omega⟩)
 simp (disch:=omega) only [qeY,qiS,iw,Option.bind_some,iSub]
 refine Ok.cmpN hI (by omega) (by omega) (fun k=>?_) (fun k=>Ok.ret ⟨p,rfl,h1,h2,hS,fun _=>k⟩)
 exact ih (p-1) ⟨by omega,by omega,fun q q1 q2=>by
  by_cases e:q=p
  ·subst e;exact k
  ·exact hS q (by omega) q2⟩ (by omega)
theorem qQh{key:Msg→Int}{n:Nat}(a i j:Int)(d:List Msg)(hI:MInv key n d)(h0:0≤a)(hai:a<i)(hij:i≤j+1)(hj:j<d.length) :
  Ok (qh n (qcn n) (a,(((),()),(i,(j,(d,())))))) fun r=>∃i',r=(a,(((),()),(i',(j,(d,())))))∧i≤i'∧i'≤j+1∧(∀k,i≤k→k<i'→key (GI d k)<key (GI d a))∧(i'≤j→key (GI d a)≤key (GI d i')):=by
 have hlen:=hI.len
 have hbig:=hI.big
 refine Ok.iter (step:=qcn n) (fun p:Int=>(a,(((),()),(p,(j,(d,())))))) (fun p=>i≤p∧p≤j+1∧∀k,i≤k→k<p→key (GI d k)<key (GI d a)) (fun p=>(j+1-p).toNat) ?_ n i ⟨Int.le_refl _,hij,fun k k1 k2=>by omega⟩ (by omega)
 rintro rec p ⟨h1,h2,hS⟩ ih
 rw[qlT]
 try dsimp only
 refine Ok.le (fun h=>?_) (fun h=>Ok.ret ⟨p,rfl,h1,h2,hS,fun h'=>by omega⟩)
 simp (disch:=omega) only [qeY,qiS,iw,Option.bind_some,iAdd]
 refine Ok.cmp hI (by omega) (by omega) (fun k=>?_) (fun k=>Ok.ret ⟨p,rfl,h1,h2,hS,fun _=>k⟩)
 exact ih (p+1) ⟨by omega,by omega,fun q q1 q2=>by
  by_cases e:q=p
  ·subst e;exact k
  ·exact hS q q1 (by omega)⟩ (by omega)
theorem qQi{key:Msg→Int}{n:Nat}(a i j:Int)(d:List Msg)(hI:MInv key n d)(h0:0≤a)(hai:a<i)(hij:i≤j+1)(hj:j<d.length) :
  Ok (qh n (qco n) (a,(((),()),(i,(j,(d,())))))) fun r=>∃j',r=(a,(((),()),(i,(j',(d,())))))∧i≤j'+1∧j'≤j∧(∀k,j'<k→k≤j→key (GI d a)≤key (GI d k))∧(i≤j'→key (GI d j')<key (GI d a)):=by
 have hlen:=hI.len
 have hbig:=hI.big
 refine Ok.iter (step:=qco n) (fun p:Int=>(a,(((),()),(i,(p,(d,())))))) (fun p=>i≤p+1∧p≤j∧∀k,p<k→k≤j→key (GI d a)≤key (GI d k)) (fun p=>(p+1-i).toNat) ?_ n j ⟨hij,Int.le_refl _,fun k k1 k2=>by omega⟩ (by omega)
 rintro rec p ⟨h1,h2,hS⟩ ih
 rw[qlU]
 try dsimp only
 refine Ok.le (fun h=>?_) (fun h=>Ok.ret ⟨p,rfl,h1,h2,hS,fun h'=>by omega⟩)
 simp (disch:=omega) only [qeY,qiS,iw,Option.bind_some,iSub]
 refine Ok.cmpN hI (by omega) (by omega) (fun k=>?_) (fun k=>Ok.ret ⟨p,rfl,h1,h2,hS,fun _=>k⟩)
 exact ih (p-1) ⟨by omega,by omega,fun q q1 q2=>by
  by_cases e:q=p
  ·subst e;exact k
  ·exact hS q (by omega) q2⟩ (by omega)
theorem peq1{key:Msg→Int}{n:Nat}(a i j:Int)(d:List Msg)(hI:MInv key n d)(h0:0≤a)(hai:a<i)(hij:i≤j+1)(hj:j<d.length) :
  Ok (qh n (qbW n) (a,(((),()),(i,(j,(d,())))))) fun r=>∃i',r=(a,(((),()),(i',(j,(d,())))))∧i≤i'∧i'≤j+1∧(∀k,i≤k→k<i'→key (GI d k)≤key (GI d a))∧(i'≤j→key (GI d a)<key (GI d i')):=by
 have hlen:=hI.len
 have hbig:=hI.big
 refine Ok.iter (step:=qbW n) (fun p:Int=>(a,(((),()),(p,(j,(d,())))))) (fun p=>i≤p∧p≤j+1∧∀k,i≤k→k<p→key (GI d k)≤key (GI d a)) (fun p=>(j+1-p).toNat) ?_ n i ⟨Int.le_refl _,hij,fun k k1 k2=>by omega⟩ (by omega)
 rintro rec p ⟨h1,h2,hS⟩ ih
 rw[qkr]
 try dsimp only
 refine Ok.le (fun h=>?_) (fun h=>Ok.ret ⟨p,rfl,h1,h2,hS,fun h'=>by omega⟩)
 simp (disch:=omega) only [qeY,qiS,iw,Option.bind_some,iAdd]
 refine Ok.cmpN hI (by omega) (by omega) (fun k=>?_) (fun k=>Ok.ret ⟨p,rfl,h1,h2,hS,fun _=>k⟩)
 exact ih (p+1) ⟨by omega,by omega,fun q q1 q2=>by
  by_cases e:q=p
  ·subst e;exact k
  ·exact hS q q1 (by omega)⟩ (by omega)
theorem peq2{key:Msg→Int}{n:Nat}(a i j:Int)(d:List Msg)(hI:MInv key n d)(h0:0≤a)(hai:a<i)(hij:i≤j+1)(hj:j<d.length) :
  Ok (qh n (qbX n) (a,(((),()),(i,(j,(d,())))))) fun r=>∃j',r=(a,(((),()),(i,(j',(d,())))))∧i≤j'+1∧j'≤j∧(∀k,j'<k→k≤j→key (GI d a)<key (GI d k))∧(i≤j'→key (GI d j')≤key (GI d a)):=by
 have hlen:=hI.len
 have hbig:=hI.big
 refine Ok.iter (step:=qbX n) (fun p:Int=>(a,(((),()),(i,(p,(d,())))))) (fun p=>i≤p+1∧p≤j∧∀k,p<k→k≤j→key (GI d a)<key (GI d k)) (fun p=>(p+1-i).toNat) ?_ n j ⟨hij,Int.le_refl _,fun k k1 k2=>by omega⟩ (by omega)
 rintro rec p ⟨h1,h2,hS⟩ ih
 rw[qks]
 try dsimp only
 refine Ok.le (fun h=>?_) (fun h=>Ok.ret ⟨p,rfl,h1,h2,hS,fun h'=>by omega⟩)
 simp (disch:=omega) only [qeY,qiS,iw,Option.bind_some,iSub]
 refine Ok.cmp hI (by omega) (by omega) (fun k=>?_) (fun k=>Ok.ret ⟨p,rfl,h1,h2,hS,fun _=>k⟩)
 exact ih (p-1) ⟨by omega,by omega,fun q q1 q2=>by
  by_cases e:q=p
  ·subst e;exact k
  ·exact hS q (by omega) q2⟩ (by omega)
theorem qjV{d:List Msg}{i j k:Int}(hi:0≤i∧i<d.length)(hj:0≤j∧j<d.length)(hk:0≤k)(h1:k≠i)(h2:k≠j):GI (swp d i.toNat j.toNat) k=GI d k:=by
 rw[qxE hi hj hk,if_neg h2,if_neg h1]
theorem quH{d:List Msg}{i j:Int}(hi:0≤i∧i<d.length)(hj:0≤j∧j<d.length):GI (swp d i.toNat j.toNat) i=GI d j:=by
 rw[qxE hi hj hi.1]
 by_cases h:i=j
 ·rw[if_pos h,h]
 ·rw[if_neg h,if_pos rfl]
theorem qzK{d:List Msg}{i j:Int}(hi:0≤i∧i<d.length)(hj:0≤j∧j<d.length):GI (swp d i.toNat j.toNat) j=GI d i:=by
 rw[qxE hi hj hj.1,if_pos rfl]
def DivI(key:Msg→Int)(d:List Msg)(a m b:Int):Prop:=(∀k,a≤k→k<m→key (GI d k)≤key (GI d m))∧∀k,m<k→k<b→key (GI d m)≤key (GI d k)
theorem qOa{key:Msg→Int}{d:List Msg}{a b j:Int}(h0:0≤a)(haj:a≤j)(hjb:j<b)(hb:b≤d.length)(h1:∀k,a<k→k≤j→key (GI d k)<key (GI d a))(h2:∀k,j<k→k<b→key (GI d a)≤key (GI d k)):DivI key (swp d j.toNat a.toNat) a j b:=by
 constructor
 ·intro k k1 k2
  rw[quH (by omega) (by omega)]
  by_cases e:k=a
  ·subst e
   rw[qzK (by omega) (by omega)]
   exact Int.le_of_lt (h1 j (by omega) (Int.le_refl _))
  ·rw[qjV (by omega) (by omega) (by omega) (by omega) e]
   exact Int.le_of_lt (h1 k (by omega) (by omega))
 ·intro k k1 k2
  rw[quH (by omega) (by omega),qjV (by omega) (by omega) (by omega) (by omega) (by omega)]
  exact h2 k k1 k2
structure PInv (key:Msg→Int) (d0 d:List Msg) (a b i j:Int):Prop where
 perm:PermR a.toNat b.toNat d0 d
 ai:a<i
 ij:i≤j+1
 jb:j<b
 lo:∀k,a<k→k<i→key (GI d k)<key (GI d a)
 hi:∀k,j<k→k<b→key (GI d a)≤key (GI d k)
theorem PInv.swap{key:Msg→Int}{d0 d:List Msg}{a b i j:Int}(h:PInv key d0 d a b i j)(h0:0≤a)(hb:b≤d0.length)(hij:i≤j)(h1:key (GI d a)≤key (GI d i))(h2:key (GI d j)<key (GI d a)):PInv key d0 (swp d i.toNat j.toNat) a b (i+1) (j-1):=by
 have hl:=h.perm.len
 have ai:=h.ai
 have jb:=h.jb
 have ne:i≠j:=fun e=>by subst e;omega
 have ga:GI (swp d i.toNat j.toNat) a=GI d a:=qjV (by omega) (by omega) (by omega) (by omega) (by omega)
 refine ⟨h.perm.trans (PermR.swp (by omega) (by omega) (by omega)),by omega,by omega,by omega,fun k k1 k2=>?_,fun k k1 k2=>?_⟩
 ·rw[ga]
  by_cases e:k=i
  ·subst e;rw[quH (by omega) (by omega)];exact h2
  ·rw[qjV (by omega) (by omega) (by omega) e (by omega)];exact h.lo k k1 (by omega)
 ·rw[ga]
  by_cases e:k=j
  ·subst e;rw[qzK (by omega) (by omega)];exact h1
  ·rw[qjV (by omega) (by omega) (by omega) (by omega) e];exact h.hi k (by omega) k2
theorem qQj{key:Msg→Int}{n:Nat}(a b i j:Int)(d0 d:List Msg)(hI:MInv key n d0)(h0:0≤a)(hb:b≤d0.length)(hP:PInv key d0 d a b i j) :
  Ok (qh n (qcp n) (a,(((),()),(i,(j,(d,())))))) fun r=>∃j' e,r=(a,(j',(e,())))∧PInv key d0 e a b (j'+1) j':=by
 have hlen:=hI.len
 have hbig:=hI.big
 refine Ok.iter (step:=qcp n) (fun p:Int×(Int×List Msg)=>(a,(((),()),(p.1,(p.2.1,(p.2.2,())))))) (fun p=>PInv key d0 p.2.2 a b p.1 p.2.1) (fun p=>(p.2.1+1-p.1).toNat) ?_ n (i,(j,d)) hP (by have:=hP.jb;have:=hP.ai;dsimp only;omega)
 rintro rec ⟨i,j,e⟩ hP ih
 dsimp only at hP ih ⊢
 have hE:MInv key n e:=hI.perm hP.perm.perm
 have hl:=hP.perm.len
 have ai:=hP.ai
 have jb:=hP.jb
 rw[qlV]
 try dsimp only
 refine Ok.bind (qQh a i j e hE h0 hP.ai hP.ij (by omega)) ?_
 rintro _ ⟨i',rfl,u1,u2,u3,u4⟩
 refine Ok.bind (qQi a i' j e hE h0 (by omega) u2 (by omega)) ?_
 rintro _ ⟨j',rfl,v1,v2,v3,v4⟩
 have hQ:PInv key d0 e a b i' j':=⟨hP.perm,by omega,v1,by omega,fun k k1 k2=>by
   rcases Int.lt_or_le k i with q | q
   ·exact hP.lo k k1 q
   ·exact u3 k q k2,fun k k1 k2=>by
   rcases Int.lt_or_le j k with q | q
   ·exact hP.hi k q k2
   ·exact v3 k k1 q⟩
 refine Ok.gt (fun h=>?_) (fun h=>?_)
 ·refine Ok.ret ⟨j',e,rfl,?_⟩
  have:i'=j'+1:=by dsimp only at h;omega
  rw[this] at hQ
  exact hQ
 ·try dsimp only at h ⊢
  simp (disch:=omega) only [qeY,qiS,iw,Option.bind_some,qjT,qjU,qiC,iAdd,iSub]
  exact ih (i'+1,(j'-1,swp e i'.toNat j'.toNat)) (hQ.swap h0 hb h (u4 (by omega)) (v4 h)) (by dsimp only;omega)
theorem qPe{key:Msg→Int}{n:Nat}(a b pv:Int)(d:List Msg)(hI:MInv key n d)(h0:0≤a)(hap:a≤pv)(hpb:pv<b)(hb:b≤d.length) :
  Ok (qr n (a,(b,(pv,(((),()),(d,())))))) fun r=>∃m t e,r=(m,(t,(e,())))∧a≤m∧m<b∧PermR a.toNat b.toNat d e∧DivI key e a m b:=by
 have hlen:=hI.len
 have hbig:=hI.big
 rw[qmA]
 simp (disch:=omega) only [qeY,qiS,iw,Option.bind_some,qjT,qjU,qiC,iAdd,iSub]
 have hp0:PermR a.toNat b.toNat d (swp d a.toNat pv.toNat):=PermR.swp (by omega) (by omega) (by omega)
 generalize swp d a.toNat pv.toNat=e at hp0 ⊢
 have hE:MInv key n e:=hI.perm hp0.perm
 have hl:=hp0.len
 have fin:∀(j:Int) (g:List Msg),PInv key d g a b (j+1) j→PermR a.toNat b.toNat d (swp g j.toNat a.toNat)∧DivI key (swp g j.toNat a.toNat) a j b:=fun j g h=>by
  have:=h.perm.len
  have:=h.ai
  have:=h.jb
  exact ⟨h.perm.trans (PermR.swp (by omega) (by omega) (by omega)),qOa h0 (by omega) h.jb (by omega) (fun k k1 k2=>h.lo k k1 (by omega)) h.hi⟩
 refine Ok.bind (qQf a (a+1) (b-1) e hE h0 (by omega) (by omega) (by omega)) ?_
 rintro _ ⟨i',rfl,u1,u2,u3,u4⟩
 refine Ok.bind (qQg a i' (b-1) e hE h0 (by omega) u2 (by omega)) ?_
 rintro _ ⟨j',rfl,v1,v2,v3,v4⟩
 have hQ:PInv key d e a b i' j':=⟨hp0,by omega,v1,by omega,fun k k1 k2=>u3 k (by omega) k2,fun k k1 k2=>v3 k k1 (by omega)⟩
 refine Ok.gt (fun h=>?_) (fun h=>?_)
 ·try dsimp only at h ⊢
  simp (disch:=omega) only [qeY,qiS,Option.bind_some,qjT,qjU,qiC]
  have:i'=j'+1:=by omega
  rw[this] at hQ
  obtain ⟨w1,w2⟩:=fin j' e hQ
  exact Ok.ret ⟨j',true,_,rfl,by omega,by omega,w1,w2⟩
 ·try dsimp only at h ⊢
  simp (disch:=omega) only [qeY,qiS,iw,Option.bind_some,qjT,qjU,qiC,iAdd,iSub]
  refine Ok.bind (qQj a b (i'+1) (j'-1) d _ hI h0 hb (hQ.swap h0 hb h (u4 (by omega)) (v4 h))) ?_
  rintro _ ⟨j,g,rfl,hR⟩
  have:=hR.perm.len
  have:=hR.ai
  have:=hR.jb
  try dsimp only
  simp (disch:=omega) only [qeY,qiS,Option.bind_some,qjT,qjU,qiC]
  obtain ⟨w1,w2⟩:=fin j g hR
  exact Ok.ret ⟨j,false,_,rfl,by omega,by omega,w1,w2⟩
theorem qPQ{key:Msg→Int}{n:Nat}(a b pv:Int)(d:List Msg)(hI:MInv key n d)(h0:0≤a)(hap:a≤pv)(hpb:pv<b)(hb:b≤d.length)(hmin:∀k,a≤k→k<b→key (GI d pv)≤key (GI d k)) :
  Ok (qdM n (a,(b,(pv,(((),()),(d,())))))) fun r=>∃m e,r=(m,(e,()))∧a<m∧m≤b∧PermR a.toNat b.toNat d e∧SortI key e a m∧∀x y,a≤x→x<m→m≤y→y<b→key (GI e x)≤key (GI e y):=by
 have hlen:=hI.len
 have hbig:=hI.big
 rw[qkX]
 simp (disch:=omega) only [qeY,qiS,iw,Option.bind_some,qjT,qjU,qiC,iAdd,iSub]
 have hp0:PermR a.toNat b.toNat d (swp d a.toNat pv.toNat):=PermR.swp (by omega) (by omega) (by omega)
 have hmin':∀k,a≤k→k<b→key (GI (swp d a.toNat pv.toNat) a)≤key (GI (swp d a.toNat pv.toNat) k):=fun k k1 k2=>by
  obtain ⟨q,q1,q2,q3⟩:=hp0.insI h0 k1 k2
  rw[quH (by omega) (by omega),q3]
  exact hmin q q1 q2
 generalize swp d a.toNat pv.toNat=e at hp0 hmin' ⊢
 refine Ok.bind (Q:=fun r=>∃m e,r=(m,(e,()))∧a<m∧m≤b∧PermR a.toNat b.toNat d e∧SortI key e a m∧∀x y,a≤x→x<m→m≤y→y<b→key (GI e x)≤key (GI e y)) ?_ fun r hr=>Ok.ret hr
 have hl:=hp0.len
 refine Ok.iter (step:=qc3 n) (fun p:Int×(Int×List Msg)=>(a,(((),()),(p.1,(p.2.1,(p.2.2,())))))) (fun p=>a<p.1∧p.1≤p.2.1+1∧p.2.1<b∧PermR a.toNat b.toNat d p.2.2∧(∀k,a≤k→k<p.1→key (GI p.2.2 k)=key (GI p.2.2 a))∧(∀k,p.2.1<k→k<b→key (GI p.2.2 a)<key (GI p.2.2 k))∧∀k,a≤k→k<b→key (GI p.2.2 a)≤key (GI p.2.2 k)) (fun p=>(p.2.1+1-p.1).toNat) ?_ n (a+1,(b-1,e)) ⟨by dsimp only;omega,by dsimp only;omega,by dsimp only;omega,hp0,fun k k1 k2=>by dsimp only at k2;rw[show k=a by omega],fun k k1 k2=>by dsimp only at k1;omega,hmin'⟩ (by dsimp only;omega)
 rintro rec ⟨i,j,g⟩ ⟨ai,ij,jb,hP,hA,hB,hM⟩ ih
 dsimp only at ai ij jb hP hA hB hM ih ⊢
 have hE:MInv key n g:=hI.perm hP.perm
 have hlg:=hP.len
 rw[qkt]
 try dsimp only
 refine Ok.bind (peq1 a i j g hE h0 ai ij (by omega)) ?_
 rintro _ ⟨i',rfl,u1,u2,u3,u4⟩
 refine Ok.bind (peq2 a i' j g hE h0 (by omega) u2 (by omega)) ?_
 rintro _ ⟨j',rfl,v1,v2,v3,v4⟩
 have hA':∀k,a≤k→k<i'→key (GI g k)=key (GI g a):=fun k k1 k2=>by
  rcases Int.lt_or_le k i with q | q
  ·exact hA k k1 q
  ·have:=u3 k q k2
   have:=hM k k1 (by omega)
   omega
 have hB':∀k,j'<k→k<b→key (GI g a)<key (GI g k):=fun k k1 k2=>by
  rcases Int.lt_or_le j k with q | q
  ·exact hB k q k2
  ·exact v3 k k1 q
 refine Ok.gt (fun h=>?_) (fun h=>?_)
 ·try dsimp only at h ⊢
  refine Ok.ret ⟨i',g,rfl,by omega,by omega,hP,fun x y k1 k2 k3=>?_,fun x y k1 k2 k3 k4=>?_⟩
  ·have:=hA' x k1 (by omega)
   have:=hA' y (by omega) k3
   omega
  ·have:=hA' x k1 k2
   have:=hB' y (by omega) k4
   omega
 ·try dsimp only at h ⊢
  have w1:=u4 (by omega)
  have w2:=v4 h
  have ne:i'≠j':=fun e=>by subst e;omega
  simp (disch:=omega) only [qeY,qiS,iw,Option.bind_some,qjT,qjU,qiC,iAdd,iSub]
  have ga:GI (swp g i'.toNat j'.toNat) a=GI g a:=qjV (by omega) (by omega) (by omega) (by omega) (by omega)
  refine ih (i'+1,(j'-1,swp g i'.toNat j'.toNat)) ⟨by dsimp only;omega,by dsimp only;omega,by dsimp only;omega,hP.trans (PermR.swp (by omega) (by omega) (by omega)),fun k k1 k2=>?_,fun k k1 k2=>?_,fun k k1 k2=>?_⟩ (by dsimp only;omega)
  ·try dsimp only at k2 ⊢
   rw[ga]
   by_cases e:k=i'
   ·subst e
    rw[quH (by omega) (by omega)]
    have:=hM j' (by omega) (by omega)
    omega
   ·rw[qjV (by omega) (by omega) (by omega) e (by omega)]
    exact hA' k k1 (by omega)
  ·try dsimp only at k1 ⊢
   rw[ga]
   by_cases e:k=j'
   ·subst e;rw[qzK (by omega) (by omega)];exact w1
   ·rw[qjV (by omega) (by omega) (by omega) (by omega) e];exact hB' k (by omega) k2
  ·try dsimp only
   rw[ga]
   have hs:PermR a.toNat b.toNat g (swp g i'.toNat j'.toNat):=PermR.swp (by omega) (by omega) (by omega)
   obtain ⟨q,q1,q2,q3⟩:=hs.insI h0 k1 k2
   rw[q3]
   exact hM q q1 q2
end Go.Proofs.Ytcjgodgpaokbnaa
