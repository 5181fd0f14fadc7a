/- Texts Dt5, Dt6 in one. -/
import Derived.Test.YtbdockhccdkdiaaTa
import Derived.Test.YtbdockhccdkdiaaTb
/- Ropes: the ropes that the program gives: they serve, and if any serve there are some. -/
set_option linter.constructorNameAsVariable false
set_option linter.unusedSimpArgs false
set_option linter.unusedVariables false
set_option linter.unusedSectionVars false
namespace Go.Proofs.Ytbdockhccdkdiaa
open Go Go.Proofs Go.RowKit
set_option maxHeartbeats 1000000
def atI(l:List Int)(g:Nat):Int:=(l[g]?).getD 0
theorem qdU{l:List Int}{g:Nat}(h:g<l.length):l[g]?=some (atI l g)∧l[g]=atI l g:=by
 unfold atI;rw[List.getElem?_eq_getElem h];exact ⟨rfl,rfl⟩
def qew(l:List Int):Nat→List Int
 | 0=>[]
 | k+1=>cond (iGt (atI l k) 0) (qew l k++[(k:Int)]) (qew l k)
theorem qyN{a b:Nat}(h:a<b):iGe (a:Int) (b:Int)=false:=decide_eq_false (by omega)
theorem qmr(l:List Int):∀k,(qew l k).length≤k
 | 0=>Nat.le_refl _
 | k+1=>by
  have:=qmr l k
  unfold qew
  cases iGt (atI l k) 0<;>simp<;>omega
theorem qms(l:List Int)(x:Int):∀k,(x∈qew l k↔∃i:Nat,x=i∧i<k∧0<atI l i)
 | 0=>by
  constructor
  ·intro h;cases h
  ·rintro ⟨i,_,h,_⟩;omega
 | k+1=>by
  have ih:=qms l x k
  unfold qew
  by_cases hp:0<atI l k
  ·rw[show iGt (atI l k) 0=true from decide_eq_true hp]
   simp only[cond_true,List.mem_append,List.mem_singleton,ih]
   constructor
   ·rintro (⟨i,a,b,c⟩ | h)
    ·exact ⟨i,a,by omega,c⟩
    ·exact ⟨k,h,by omega,hp⟩
   ·rintro ⟨i,a,b,c⟩
    by_cases hik:i=k
    ·subst hik;exact .inr a
    ·exact .inl ⟨i,a,by omega,c⟩
  ·rw[show iGt (atI l k) 0=false from decide_eq_false hp]
   simp only[cond_false,ih]
   constructor
   ·rintro ⟨i,a,b,c⟩;exact ⟨i,a,by omega,c⟩
   ·rintro ⟨i,a,b,c⟩
    by_cases hik:i=k
    ·subst hik;exact absurd c hp
    ·exact ⟨i,a,by omega,c⟩
theorem qpS(l:List Int):∀k,(qew l k).Nodup
 | 0=>List.nodup_nil
 | k+1=>by
  have ih:=qpS l k
  unfold qew
  cases iGt (atI l k) 0 with
  | false=>exact ih
  | true =>
   simp only[cond_true]
   rw[List.nodup_append]
   refine ⟨ih,by simp,fun a ha b hb=>?_⟩
   rw[List.mem_singleton] at hb
   subst hb
   obtain ⟨i,h1,h2,_⟩:=(qms l a k).1 ha
   omega
def ordS(l:List Int):List Int:=(qiA (fun g=>-(atI l g.toNat)) [] (qew l l.length)).reverse
theorem qpb(l:List Int):(ordS l).Perm (qew l l.length):=by
 have:=qk7 (fun g=>-(atI l g.toNat)) (qew l l.length) []
 rw[List.nil_append] at this
 exact (List.reverse_perm _).trans this
theorem qtR(l:List Int):(ordS l).Pairwise fun a b=>atI l b.toNat≤atI l a.toNat:=by
 unfold ordS
 rw[List.pairwise_reverse]
 refine List.Pairwise.imp ?_ (qlE (fun g=>-(atI l g.toNat)) (qew l l.length) (Q:=[]) List.Pairwise.nil)
 intro a b h
 omega
theorem qiF(l:List Int)(x:Int):x∈ordS l↔∃i:Nat,x=i∧i<l.length∧0<atI l i:=by
 rw[(qpb l).mem_iff,qms]
theorem qqX(l:List Int):(ordS l).Nodup:=(qpb l).nodup_iff.2 (qpS l _)
theorem qxt(l:List Int):(ordS l).length≤l.length:=by rw[(qpb l).length_eq];exact qmr l _
def qd8(G:Nat)(fit ord:List Int):Nat→List Int
 | 0=>List.replicate G (-1)
 | k+1=>(qd8 G fit ord k).set (atI ord k).toNat (atI fit k)
theorem qi8(G:Nat)(fit ord:List Int):∀k,(qd8 G fit ord k).length=G
 | 0=>by unfold qd8;simp
 | k+1=>by unfold qd8;rw[List.length_set];exact qi8 G fit ord k
theorem qtu{G:Nat}{fit ord:List Int}(hnd:ord.Nodup)(hr:∀x,x∈ord→0≤x∧x<(G:Int)):∀k,k≤ord.length→(∀i,i<k→(qd8 G fit ord k)[(atI ord i).toNat]?=some (atI fit i))∧(∀g:Nat,g<G→(∀i,i<k→atI ord i≠(g:Int))→(qd8 G fit ord k)[g]?=some (-1))
 | 0,_=>⟨fun i h=>by omega,fun g hg _=>by unfold qd8;rw[List.getElem?_replicate_of_lt hg]⟩
 | k+1,hk=>by
  obtain ⟨h1,h2⟩:=qtu hnd hr k (by omega)
  have hm:∀i,i<ord.length→atI ord i∈ord:=fun i hi=>by rw[← (qdU hi).2];exact List.getElem_mem hi
  have hne:∀i,i<k→atI ord i≠atI ord k:=fun i hi=>by
   rw[← (qdU (show i<ord.length by omega)).2,← (qdU (show k<ord.length by omega)).2]
   exact List.pairwise_iff_getElem.1 hnd i k (by omega) (by omega) hi
  have hk0:=hr _ (hm k (by omega))
  have hlen:=qi8 G fit ord k
  refine ⟨fun i hi=>?_,fun g hg hi=>?_⟩
  ·unfold qd8
   rw[List.getElem?_set]
   by_cases hik:i=k
   ·subst hik
    rw[if_pos rfl,if_pos (by omega)]
   ·have hi0:=hr _ (hm i (by omega))
    have:=hne i (by omega)
    rw[if_neg (by omega)]
    exact h1 i (by omega)
  ·have:=hi k (by omega)
   unfold qd8
   rw[List.getElem?_set,if_neg (by omega)]
   exact h2 g hg fun i h=>hi i (by omega)
structure RopedOk (o:qp) (l rep:List Int):Prop where
 len:rep.length=o.2.2.2.1.length
 no:∀g,g<o.2.2.2.1.length→atI l g=0→rep[g]?=some (-1)
 yes:∀g,g<o.2.2.2.1.length→0<atI l g→∃r:Nat,rep[g]?=some (r:Int)∧(∃h:r<o.2.2.2.2.2.2.length,fits o o.2.2.2.2.2.2[r]=true)∧o.2.2.1*atI l g≤qcK o r
 own:∀g h,g<o.2.2.2.1.length→h<o.2.2.2.1.length→0<atI l g→0<atI l h→rep[g]?=rep[h]?→g=h
theorem qv4(n:Nat)(o:qp)(l:List Int)(hk:Okay9 o)(hl:l.length=o.2.2.2.1.length)(hb:∀c,c∈l→0≤c∧c≤6)(hn:2000≤n) :
  (qka (qcK o) (fun g=>o.2.2.1*atI l g.toNat) (fitS o) (ordS l)∧qcG n ((o,fitS o),(l,()))=some (qd8 o.2.2.2.1.length (fitS o) (ordS l) (ordS l).length,(true,(l,())))) ∨
  (¬qka (qcK o) (fun g=>o.2.2.1*atI l g.toNat) (fitS o) (ordS l)∧qcG n ((o,fitS o),(l,()))=some ([],(false,(l,())))):=by
 obtain ⟨_,o2,o3,_⟩:=hk.oth'
 have hrep:qbq n (((Int.negSucc (0:Nat))::[]),((o.2.2.2.1.length:Int),()))=some (List.replicate o.2.2.2.1.length (-1),()):=by
  obtain ⟨m,rfl⟩:∃m,n=m+8:=⟨n-8,by omega⟩
  exact qv0 m _ o3
 have l0:=forN (qcw n) l.length (fun k=>((o,fitS o),((l.length:Int),((k:Int),(l,(List.replicate o.2.2.2.1.length (-1),(qew l k,(((0:Nat),l.length),())))))))) (some ((o,fitS o),(l,(List.replicate o.2.2.2.1.length (-1),(qew l l.length,()))))) (fun k hkl rec=>by
  have hlen:=qmr l k
  rw[qcH]
  simp only[iLtN hkl,cond_true,List.drop_zero,List.take_length,qJ l hkl,Option.bind_some,show nAdd 0 (Int.toNat (k:Int))=k from Nat.zero_add k,(qdU hkl).1,bleT (nAdd (qew l k).length 1) 17592186044416 (by show (qew l k).length+1≤_;omega),qC (show k<9223372036854775807 by omega)]
  conv=>rhs;unfold qew
  cases iGt (atI l k) 0<;>rfl) (fun rec=>by
   rw[qcH]
   simp only[qcW (Nat.le_refl l.length),cond_false]) n (by omega)
 have hD:∀x,x∈qew l l.length→0≤x∧x<(l.length:Int):=fun x hx=>by
  obtain ⟨i,h1,h2,_⟩:=(qms l x _).1 hx
  omega
 have hs:=qtg n (fun g=>-((l[g.toNat]?).getD 0)) (fun g=>0≤g∧g<(l.length:Int)) (l,()) (fun m g h hg hh=>by rw[rcmp m l g h hg hh,qqd]) (qew l l.length) hD (by have:=qmr l l.length;omega) hn
 have hs2:qM n (qew l l.length,(l,()))=some (ordS l,(l,())):=hs
 have hol:=qxt l
 have hom:∀k (h:k<(ordS l).length),∃i:Nat,(ordS l)[k]=i∧i<l.length∧0<atI l i:=fun k h=>(qiF l _).1 (List.getElem_mem h)
 have l1:=qmm (qX n) (ordS l).length (fun k=>((o,fitS o),(ordS l,(((ordS l).length:Int),((k:Int),(l,(qd8 o.2.2.2.1.length (fitS o) (ordS l) k,()))))))) (fun k=>decide (k<(fitS o).length∧o.2.2.1*atI l (atI (ordS l) k).toNat≤qcK o (atI (fitS o) k))) (some (Sum.inl (l,(qd8 o.2.2.2.1.length (fitS o) (ordS l) (ordS l).length,())))) (fun _=>some (Sum.inr ([],(false,(l,()))))) (fun k hkl hj rec=>by
  obtain ⟨i,hi,hil,hip⟩:=hom k hkl
  have ei:atI (ordS l) k=i:=by rw[← (qdU hkl).2];exact hi
  rw[qcI]
  simp only[iLtN hkl,cond_true,qJ (ordS l) hkl,Option.bind_some,hi]
  by_cases hf:k<(fitS o).length
  ·have hfr:=qnZ o _ (List.getElem_mem hf)
   obtain ⟨z,hz1,hz2⟩:=qky hfr
   have ef:atI (fitS o) k=(fitS o)[k]:=(qdU hf).2.symm
   have hc:=hb _ (List.getElem_mem hil)
   have e1:l[i]=atI l i:=(qdU hil).2
   have hmul:iW (iMul o.2.2.1 (atI l i))=o.2.2.1*atI l i:=by
    rw[← e1]
    have h1:=Int.mul_le_mul o2.2 hc.2 hc.1 (by omega)
    have h0:0≤o.2.2.1*l[i]:=Int.mul_nonneg (by omega) hc.1
    exact qh0 (by show _≤o.2.2.1*l[i];omega) (by show o.2.2.1*l[i]≤_;omega)
   have hrl:qcK o (fitS o)[k]=z.2.2.1:=by unfold qcK;rw[hz2];rfl
   have hrep1:lat (qd8 o.2.2.2.1.length (fitS o) (ordS l) k) (i:Int)=some ((qd8 o.2.2.2.1.length (fitS o) (ordS l) k)[i]'(by rw[qi8];omega)):=qJ _ (by rw[qi8];omega)
   have hrep2:(qd8 o.2.2.2.1.length (fitS o) (ordS l) k)[i]?=some ((qd8 o.2.2.2.1.length (fitS o) (ordS l) k)[i]'(by rw[qi8];omega)):=List.getElem?_eq_getElem _
   simp only[qyN hf,cond_false,qJ (fitS o) hf,Option.bind_some,hz1,qJ l hil,Int.toNat_natCast,(qdU hil).1,hmul,hrep1,hrep2,qC (show k<9223372036854775807 by omega)]
   rw[ei,ef,hrl,Int.toNat_natCast]
   by_cases hle:o.2.2.1*atI l i≤z.2.2.1
   ·rw[show iLt z.2.2.1 (o.2.2.1*atI l i)=false from decide_eq_false (by omega),decide_eq_true ⟨hf,hle⟩]
    have er:qd8 o.2.2.2.1.length (fitS o) (ordS l) (k+1)=(qd8 o.2.2.2.1.length (fitS o) (ordS l) k).set i (fitS o)[k]:=by
     conv=>lhs;unfold qd8
     rw[ei,ef,Int.toNat_natCast]
    rw[er]
    rfl
   ·rw[show iLt z.2.2.1 (o.2.2.1*atI l i)=true from decide_eq_true (by omega),decide_eq_false (fun h=>hle h.2)]
    rfl
  ·rw[decide_eq_false (fun h=>hf h.1)]
   simp only[show iGe (k:Int) ((fitS o).length:Int)=true from decide_eq_true (by omega),cond_true]
   rfl) (fun _ rec=>by
   rw[qcI]
   simp only[qcW (Nat.le_refl (ordS l).length),cond_false]) n (by omega)
 have heq:(List.range (ordS l).length).all (fun k=>decide (k<(fitS o).length∧o.2.2.1*atI l (atI (ordS l) k).toNat≤qcK o (atI (fitS o) k)))=true↔qka (qcK o) (fun g=>o.2.2.1*atI l g.toNat) (fitS o) (ordS l):=by
  rw[List.all_eq_true]
  constructor
  ·intro h i hi
   have:=h i (List.mem_range.2 hi)
   rw[decide_eq_true_eq] at this
   refine ⟨this.1,?_⟩
   rw[(qdU hi).2,(qdU this.1).2]
   exact this.2
  ·intro h i hi
   rw[List.mem_range] at hi
   obtain ⟨h1,h2⟩:=h i hi
   rw[decide_eq_true_eq]
   refine ⟨h1,?_⟩
   rw[(qdU hi).2,(qdU h1).2] at h2
   exact h2
 rw[qgh]
 simp only[hrep,Option.bind_some]
 have e0:ql n (qcw n) ((o,fitS o),((l.length:Int),((0:Int),(l,(List.replicate o.2.2.2.1.length (-1),([],(((0:Nat),l.length),())))))))=some ((o,fitS o),(l,(List.replicate o.2.2.2.1.length (-1),(qew l l.length,())))):=l0
 rw[e0]
 simp only[Option.bind_some,hs2]
 rcases l1 with ⟨a,b⟩ | ⟨a,k,_,b⟩
 ·refine .inl ⟨heq.1 a,?_⟩
  have b2:ql n (qX n) ((o,fitS o),(ordS l,(((ordS l).length:Int),((0:Int),(l,(List.replicate o.2.2.2.1.length (-1),()))))))=some (Sum.inl (l,(qd8 o.2.2.2.1.length (fitS o) (ordS l) (ordS l).length,()))):=b
  rw[b2]
  rfl
 ·refine .inr ⟨fun h=>Bool.noConfusion ((heq.2 h).symm.trans a),?_⟩
  have b2:ql n (qX n) ((o,fitS o),(ordS l,(((ordS l).length:Int),((0:Int),(l,(List.replicate o.2.2.2.1.length (-1),()))))))=some (Sum.inr ([],(false,(l,())))):=b
  rw[b2]
  rfl
theorem qxu{o:qp}{l:List Int}(hl:l.length=o.2.2.2.1.length)(hb:∀c,c∈l→0≤c∧c≤6)(hg:qka (qcK o) (fun g=>o.2.2.1*atI l g.toNat) (fitS o) (ordS l)):RopedOk o l (qd8 o.2.2.2.1.length (fitS o) (ordS l) (ordS l).length):=by
 have hr:∀x,x∈ordS l→0≤x∧x<(o.2.2.2.1.length:Int):=fun x hx=>by
  obtain ⟨i,h1,h2,_⟩:=(qiF l x).1 hx
  omega
 obtain ⟨h1,h2⟩:=qtu (G:=o.2.2.2.1.length) (fit:=fitS o) (qqX l) hr (ordS l).length (Nat.le_refl _)
 have place:∀g:Nat,g<o.2.2.2.1.length→0<atI l g→∃i,∃h:i<(ordS l).length,∃h':i<(fitS o).length,atI (ordS l) i=(g:Int)∧(qd8 o.2.2.2.1.length (fitS o) (ordS l) (ordS l).length)[g]?=some (fitS o)[i]∧o.2.2.1*atI l g≤qcK o (fitS o)[i]:=fun g hgl hp=>by
  obtain ⟨i,hi,he⟩:=List.getElem_of_mem ((qiF l (g:Int)).2 ⟨g,rfl,by omega,hp⟩)
  obtain ⟨hf,hle⟩:=hg i hi
  have ea:atI (ordS l) i=(g:Int):=by rw[← (qdU hi).2];exact he
  have:=h1 i hi
  rw[ea,Int.toNat_natCast,← (qdU hf).2] at this
  have hle':o.2.2.1*atI l ((ordS l)[i]).toNat≤qcK o (fitS o)[i]:=hle
  rw[he,Int.toNat_natCast] at hle'
  exact ⟨i,hi,hf,ea,this,hle'⟩
 refine ⟨qi8 _ _ _ _,fun g hgl h0=>?_,fun g hgl hp=>?_,fun g h hgl hhl hp hq he=>?_⟩
 ·refine h2 g hgl fun i hi he=>?_
  have hm:atI (ordS l) i∈ordS l:=by rw[← (qdU hi).2];exact List.getElem_mem hi
  obtain ⟨j,a,b,c⟩:=(qiF l _).1 hm
  have:j=g:=by omega
  subst this
  omega
 ·obtain ⟨i,hi,hf,_,a,b⟩:=place g hgl hp
  obtain ⟨r,hr1,hr2⟩:=(qqf o _).1 (List.getElem_mem hf)
  exact ⟨r,by rw[a,hr1],hr2,by rw[← hr1];exact b⟩
 ·obtain ⟨i,hi,hf,ei,a,_⟩:=place g hgl hp
  obtain ⟨j,hj,hf',ej,b,_⟩:=place h hhl hq
  rw[a,b] at he
  injection he with he
  have hij:i=j:=by
   rcases Nat.lt_trichotomy i j with hlt | heq | hlt
   ·exact absurd he (List.pairwise_iff_getElem.1 (qqU o) i j hf hf' hlt)
   ·exact heq
   ·exact absurd he.symm (List.pairwise_iff_getElem.1 (qqU o) j i hf' hf hlt)
  subst hij
  omega
theorem qv5{o:qp}{l rep:List Int}(hk:Okay9 o)(hl:l.length=o.2.2.2.1.length)(h:RopedOk o l rep):qka (qcK o) (fun g=>o.2.2.1*atI l g.toNat) (fitS o) (ordS l):=by
 obtain ⟨_,o2,_⟩:=hk.oth'
 refine qqV (qtQ o) ?_ (qqX l) (fun g=>atI rep g.toNat) (fun g hg=>?_) (fun g h hg hh he=>?_)
 ·refine List.Pairwise.imp ?_ (qtR l)
  intro a b hab
  exact Int.mul_le_mul_of_nonneg_left hab (by omega)
 ·obtain ⟨i,rfl,hi,hp⟩:=(qiF l g).1 hg
  obtain ⟨r,a,b,c⟩:=h.yes i (by omega) hp
  rw[Int.toNat_natCast]
  have er:atI rep i=r:=by unfold atI;rw[a];rfl
  rw[er]
  exact ⟨(qqf o _).2 ⟨r,rfl,b⟩,c⟩
 ·obtain ⟨i,rfl,hi,hp⟩:=(qiF l g).1 hg
  obtain ⟨j,rfl,hj,hq⟩:=(qiF l h).1 hh
  rw[Int.toNat_natCast,Int.toNat_natCast] at he
  obtain ⟨r,a,_⟩:=h.yes i (by omega) hp
  obtain ⟨s,b,_⟩:=h.yes j (by omega) hq
  have er:atI rep i=r:=by unfold atI;rw[a];rfl
  have es:atI rep j=s:=by unfold atI;rw[b];rfl
  rw[er,es] at he
  have:=h.own i j (by omega) (by omega) hp hq (by rw[a,b,he])
  rw[this]
def qfG(o:qp):OutX:=(o,fitS o)
theorem qyO(n:Nat)(o:qp)(l:List Int)(hk:Okay9 o)(hl:l.length=o.2.2.2.1.length)(hb:∀c,c∈l→0≤c∧c≤6)(hn:2000≤n):(∀rep,tmRp n (qfG o) l=some rep→RopedOk o l rep)∧((∃rep,RopedOk o l rep)→∃rep,tmRp n (qfG o) l=some rep):=by
 rcases qv4 n o l hk hl hb hn with ⟨h1,h2⟩ | ⟨h1,h2⟩
 ·have e:tmRp n (qfG o) l=some (qd8 o.2.2.2.1.length (fitS o) (ordS l) (ordS l).length):=(qrn (x:=qfG o) ((qnT n (qfG o) l).trans h2)).trans rfl
  rw[e]
  refine ⟨fun rep h=>?_,fun _=>⟨_,rfl⟩⟩
  injection h with h
  subst h
  exact qxu hl hb h1
 ·have e:tmRp n (qfG o) l=none:=(qrn (x:=qfG o) ((qnT n (qfG o) l).trans h2)).trans rfl
  rw[e]
  exact ⟨fun rep h=>(by cases h),fun⟨rep,h⟩=>absurd (qv5 hk hl h) h1⟩
def nI(l:List Nat):List Int:=l.map fun g:Nat=>(g:Int)
theorem qkC(l:List Nat):(nI l).length=l.length:=by unfold nI;simp
theorem qyP(l:List Nat){k:Nat}(h:k<l.length):lat (nI l) (k:Int)=some (l[k]:Int):=by
 rw[qrj];unfold nI;rw[List.getElem?_map,List.getElem?_eq_getElem h];rfl
theorem qyQ(l:List Nat)(g:Nat):List.append (List.append [] (nI l)) ((g:Int)::[])=nI (l++[g]):=by
 show ([]++nI l)++[(g:Int)]=_
 unfold nI
 rw[List.nil_append,List.map_append]
 rfl
theorem qv6(l:List Nat)(g:Nat):(g:Int)∈nI l↔g∈l:=by
 unfold nI
 rw[List.mem_map]
 constructor
 ·rintro ⟨a,h1,h2⟩
  have:a=g:=by omega
  rwa [← this]
 ·intro h;exact ⟨g,h,rfl⟩
theorem qv7{C:List Int}(hC:∀c,c∈C→0≤c∧c≤20)(gs:List Nat)(g:Nat):∀k,0≤ldP C gs g k∧ldP C gs g k≤20*k
 | 0=>by unfold ldP;omega
 | k+1=>by
  have:=qv7 hC gs g k
  have h0:0≤(C[k]?).getD 0∧(C[k]?).getD 0≤20:=by
   cases hc:C[k]? with
   | none=>exact ⟨by decide,by decide⟩
   | some c=>exact hC c (List.mem_of_getElem? hc)
  show 0≤ldP C gs g k+(if gs[k]?=some g then (C[k]?).getD 0 else 0)∧ldP C gs g k+(if gs[k]?=some g then (C[k]?).getD 0 else 0)≤_
  split<;>omega
theorem qrq(n:Nat)(o:qp)(gs:List Nat)(g:Nat)(hC:∀c,c∈o.2.2.2.2.1→0≤c∧c≤20)(hl:gs.length≤o.2.2.2.2.1.length)(h6:gs.length≤50)(hn:100≤n):qel n (o,(nI gs,((g:Int),())))=some (ldC gs g gs.length,(ldP o.2.2.2.2.1 gs g gs.length,())):=by
 rw[qmJ]
 have:=forN (qeV n) gs.length (fun k=>(nI gs,((g:Int),(ldC gs g k,(ldP o.2.2.2.2.1 gs g k,((k:Int),(o,()))))))) (some (ldC gs g gs.length,(ldP o.2.2.2.2.1 gs g gs.length,()))) (fun k hk rec=>by
  have b1:=qjA gs g k
  have b2:=qv7 hC gs g k
  have hkC:k<o.2.2.2.2.1.length:=by omega
  have b3:=hC _ (List.getElem_mem hkC)
  rw[qhQ]
  have e1:ldC gs g (k+1)=ldC gs g k+(if gs[k]=g then 1 else 0):=by
   show ldC gs g k+(if gs[k]?=some g then 1 else 0)=_
   rw[List.getElem?_eq_getElem hk]
   simp
  have e2:ldP o.2.2.2.2.1 gs g (k+1)=ldP o.2.2.2.2.1 gs g k+(if gs[k]=g then o.2.2.2.2.1[k] else 0):=by
   show ldP o.2.2.2.2.1 gs g k+(if gs[k]?=some g then (o.2.2.2.2.1[k]?).getD 0 else 0)=_
   rw[List.getElem?_eq_getElem hk,List.getElem?_eq_getElem hkC]
   simp
  simp only[qkC,iLtN hk,cond_true,qyP gs hk,Option.bind_some,qJ o.2.2.2.2.1 hkC,qC (show k<9223372036854775807 by omega)]
  rw[e1,e2]
  by_cases hg:gs[k]=g
  ·rw[if_pos hg,if_pos hg,show iEq (gs[k]:Int) (g:Int)=true by rw[hg];unfold iEq;simp]
   simp only[cond_true]
   rw[show iW (iAdd (ldC gs g k) 1)=ldC gs g k+1 from qh0 (by unfold iAdd;omega) (by unfold iAdd;omega),show iW (iAdd (ldP o.2.2.2.2.1 gs g k) o.2.2.2.2.1[k])=ldP o.2.2.2.2.1 gs g k+o.2.2.2.2.1[k] from qh0 (by unfold iAdd;omega) (by unfold iAdd;omega)]
  ·rw[if_neg hg,if_neg hg,show iEq (gs[k]:Int) (g:Int)=false from beq_eq_false_iff_ne.2 (by omega),Int.add_zero,Int.add_zero]
   rfl) (fun rec=>by
   rw[qhQ]
   simp only[qkC,qcW (Nat.le_refl gs.length),cond_false]) n (by omega)
 have e0:ql n (qeV n) (nI gs,((g:Int),((0:Int),((0:Int),((0:Int),(o,()))))))=some (ldC gs g gs.length,(ldP o.2.2.2.2.1 gs g gs.length,())):=this
 rw[e0]
 rfl
def qjB(o:qp)(g:Nat):Bool:=match o.2.2.2.1[g]? with
 | some z=>decide (o.2.1≤z.1)&&decide (o.1≤z.2.1)
 | none=>false
theorem qr5(n:Nat)(o:qp)(g:Nat)(hg:g<o.2.2.2.1.length):qfb n (o,((g:Int),()))=some (qjB o g,()):=by
 rw[ql0]
 simp only[qJ o.2.2.2.1 hg,Option.bind_some]
 unfold qjB
 rw[List.getElem?_eq_getElem hg]
 show cond (decide (o.2.2.2.1[g].1≥o.2.1)) (some (decide (o.2.2.2.1[g].2.1≥o.1),())) _=some (decide (o.2.1≤o.2.2.2.1[g].1)&&decide (o.1≤o.2.2.2.1[g].2.1),())
 rw[show decide (o.2.2.2.1[g].1≥o.2.1)=decide (o.2.1≤o.2.2.2.1[g].1) from rfl,show decide (o.2.2.2.1[g].2.1≥o.1)=decide (o.1≤o.2.2.2.1[g].2.1) from rfl]
 cases decide (o.2.1≤o.2.2.2.1[g].1)<;>rfl
theorem qv8(n:Nat)(o:qp)(g:Nat)(hg:g<o.2.2.2.1.length):qeP n (qfG o,((g:Int),()))=some (qjB o g,()):=by
 rw[qhG]
 have hl:lat (qfG o).1.2.2.2.1 (g:Int)=some o.2.2.2.1[g]:=qJ o.2.2.2.1 hg
 simp only[hl,Option.bind_some]
 unfold qjB
 rw[List.getElem?_eq_getElem hg]
 show cond (decide (o.2.2.2.1[g].1≥o.2.1)) (some (decide (o.2.2.2.1[g].2.1≥o.1),())) _=some (decide (o.2.1≤o.2.2.2.1[g].1)&&decide (o.1≤o.2.2.2.1[g].2.1),())
 rw[show decide (o.2.2.2.1[g].1≥o.2.1)=decide (o.2.1≤o.2.2.2.1[g].1) from rfl,show decide (o.2.2.2.1[g].2.1≥o.1)=decide (o.1≤o.2.2.2.1[g].2.1) from rfl]
 cases decide (o.2.1≤o.2.2.2.1[g].1)<;>rfl
noncomputable def tO(n:Nat)(o:qp):TmO:=tmO n (qfG o)
theorem tO_G(n:Nat)(o:qp):(tO n o).G=o.2.2.2.1.length:=rfl
theorem tO_C(n:Nat)(o:qp):(tO n o).clients=o.2.2.2.2.1:=rfl
theorem qtv(n:Nat)(o:qp){g:Nat}(hg:g<o.2.2.2.1.length):(tO n o).pts g=o.2.2.2.1[g].2.2:=by
 show (((o.2.2.2.1)[g]?).map fun z=>z.2.2).getD 0=_
 rw[List.getElem?_eq_getElem hg];rfl
theorem qrr(n:Nat)(o:qp){g:Nat}(hg:g<o.2.2.2.1.length):(tO n o).lead g=qjB o g:=by
 show tmLd n (qfG o) g=_
 exact qup ((qr1 n (qfG o) g).trans (qv8 n o g hg))
theorem qcR(n:Nat)(o:qp)(gs:List Nat){g:Nat}(hg:g<o.2.2.2.1.length):atI (cnts (tO n o) gs) g=ldC gs g gs.length:=by
 unfold atI;rw[qnj (tO n o) gs hg];rfl
theorem qym(n:Nat)(o:qp)(gs:List Nat)(h6:gs.length≤6):∀c,c∈cnts (tO n o) gs→0≤c∧c≤6:=by
 intro c hc
 unfold cnts at hc
 obtain ⟨g,_,rfl⟩:=List.mem_map.1 hc
 have:=qjA gs g gs.length
 omega
def qfA(o:qp)(r:Nat)(c:Int):Bool:=match o.2.2.2.2.2.2[r]? with
 | some z=>fits o z&&decide (o.2.2.1*c≤z.2.2.1)
 | none=>false
theorem qkD{o:qp}{r:Nat}{c:Int}:qfA o r c=true↔(∃h:r<o.2.2.2.2.2.2.length,fits o o.2.2.2.2.2.2[r]=true)∧o.2.2.1*c≤qcK o r:=by
 unfold qfA qcK
 rw[Int.toNat_natCast]
 by_cases h:r<o.2.2.2.2.2.2.length
 ·rw[List.getElem?_eq_getElem h]
  simp only[Bool.and_eq_true,decide_eq_true_eq]
  constructor
  ·rintro ⟨a,b⟩;exact ⟨⟨h,a⟩,b⟩
  ·rintro ⟨⟨_,a⟩,b⟩;exact ⟨a,b⟩
 ·rw[List.getElem?_eq_none (by omega)]
  constructor
  ·intro h;cases h
  ·rintro ⟨⟨a,_⟩,_⟩;exact absurd a h
theorem qr6(n:Nat)(o:qp)(r:Nat)(c:Int)(hk:Okay9 o)(hr:r<o.2.2.2.2.2.2.length)(hc:0≤c∧c≤6)(hn:100≤n):qeW n (o,((r:Int),(c,())))=some (qfA o r c,()):=by
 obtain ⟨_,o2,_⟩:=hk.oth'
 have hrk:=hk.rps _ (List.getElem_mem hr)
 obtain ⟨_,_,_,r4,r5⟩:=qmp hrk
 have m3:=(qmq hk.mdl).2.2
 have hmul:iW (iMul o.2.2.1 c)=o.2.2.1*c:=by
  have h1:=Int.mul_le_mul o2.2 hc.2 hc.1 (by omega)
  have h0:0≤o.2.2.1*c:=Int.mul_nonneg (by omega) hc.1
  exact qh0 (by show _≤o.2.2.1*c;omega) (by show o.2.2.1*c≤_;omega)
 rw[qlK]
 simp only[qJ o.2.2.2.2.2.2 hr,Option.bind_some,qu5 n o.2.2.2.2.2.1 o.2.2.2.2.2.2[r] o.1 r5 (show o.2.2.2.2.2.1.2.2.2.length≤50 by omega) (show o.2.2.2.2.2.2[r].2.2.2.length≤50 by omega) hn,qv3 n o.2.2.2.2.2.1 o.2.2.2.2.2.2[r] o.1 _ hk.mdl hrk,hmul]
 unfold qfA
 rw[List.getElem?_eq_getElem hr]
 show cond (fits o o.2.2.2.2.2.2[r]) (some (decide (o.2.2.2.2.2.2[r].2.2.1≥o.2.2.1*c),())) _=some (fits o o.2.2.2.2.2.2[r]&&decide (o.2.2.1*c≤o.2.2.2.2.2.2[r].2.2.1),())
 rw[show decide (o.2.2.2.2.2.2[r].2.2.1≥o.2.2.1*c)=decide (o.2.2.1*c≤o.2.2.2.2.2.2[r].2.2.1) from rfl]
 cases fits o o.2.2.2.2.2.2[r]<;>rfl
theorem qtw(n:Nat)(l:List Int)(x:Int)(hl:l.length≤50)(hn:100≤n):qeF n (l,(x,()))=some (decide (x∈l),()):=by
 rw[qnh]
 have:=qjz (qgR n) l (fun y=>!decide (y=x)) (fun k=>(l,(x,((k:Int),())))) (some (Sum.inl ())) (fun _=>some (Sum.inr (true,()))) (fun k hk rec=>by
  rw[qif]
  simp only[iLtN hk,cond_true,qJ l hk,Option.bind_some,qC (show k<9223372036854775807 by omega)]
  have e:iEq l[k] x=decide (l[k]=x):=by unfold iEq;rw[Bool.eq_iff_iff];simp
  rw[e]
  cases decide (l[k]=x)<;>rfl) (fun rec=>by
   rw[qif]
   simp only[qcW (Nat.le_refl l.length),cond_false]) n (by omega)
 rw[show ((0:Nat):Int)=0 from rfl] at this
 rcases this with ⟨a,b⟩ | ⟨a,k,_,b⟩
 ·rw[b]
  rw[List.all_eq_true] at a
  rw[decide_eq_false fun h=>by have:=a x h;simp at this]
  rfl
 ·rw[b]
  rw[List.all_eq_false] at a
  obtain ⟨y,hy,h⟩:=a
  have:y=x:=by simpa using h
  subst this
  rw[decide_eq_true hy]
  rfl
def qjC(o:qp)(gs:List Nat)(g:Nat)(taken:List Int):Prop:=∃f:Nat→Nat,(∀h,g≤h→h<o.2.2.2.1.length→0<ldC gs h gs.length→qfA o (f h) (ldC gs h gs.length)=true∧¬((f h:Int)∈taken))∧∀h h',g≤h→h<o.2.2.2.1.length→0<ldC gs h gs.length→g≤h'→h'<o.2.2.2.1.length→0<ldC gs h' gs.length→f h=f h'→h=h'
theorem qu6(o:qp)(gs:List Nat)(taken:List Int):qjC o gs o.2.2.2.1.length taken:=⟨fun _=>0,fun h h1 h2=>by omega,fun h h' h1 h2=>by omega⟩
theorem qtS{o:qp}{gs:List Nat}{g:Nat}{taken:List Int}(h0:ldC gs g gs.length=0):qjC o gs g taken↔qjC o gs (g+1) taken:=by
 constructor
 ·rintro ⟨f,h1,h2⟩
  exact ⟨f,fun h a b c=>h1 h (by omega) b c,fun h h' a b c a' b' c'=>h2 h h' (by omega) b c (by omega) b' c'⟩
 ·rintro ⟨f,h1,h2⟩
  have hne:∀h,g≤h→0<ldC gs h gs.length→g+1≤h:=fun h a c=>by
   by_cases e:h=g
   ·subst e;omega
   ·omega
  exact ⟨f,fun h a b c=>h1 h (hne h a c) b c,fun h h' a b c a' b' c'=>h2 h h' (hne h a c) b c (hne h' a' c') b' c'⟩
theorem qqY{o:qp}{gs:List Nat}{g:Nat}{taken:List Int}(hg:g<o.2.2.2.1.length)(hp:0<ldC gs g gs.length):qjC o gs g taken↔∃r:Nat,(¬(r:Int)∈taken)∧qfA o r (ldC gs g gs.length)=true∧qjC o gs (g+1) (taken++[(r:Int)]):=by
 constructor
 ·rintro ⟨f,h1,h2⟩
  obtain ⟨a,b⟩:=h1 g (Nat.le_refl _) hg hp
  refine ⟨f g,b,a,f,fun h x y z=>⟨(h1 h (by omega) y z).1,fun hm=>?_⟩,fun h h' a b c a' b' c'=>h2 h h' (by omega) b c (by omega) b' c'⟩
  rcases List.mem_append.1 hm with hm | hm
  ·exact (h1 h (by omega) y z).2 hm
  ·rw[List.mem_singleton] at hm
   have:=h2 h g (by omega) y z (Nat.le_refl _) hg hp (by omega)
   omega
 ·rintro ⟨r,hr,hs,f,h1,h2⟩
  refine ⟨fun h=>if h=g then r else f h,fun h a b c=>?_,fun h h' a b c a' b' c' he=>?_⟩
  ·by_cases e:h=g
   ·subst e
    simp only[if_true]
    exact ⟨hs,hr⟩
   ·simp only[if_neg e]
    obtain ⟨x,y⟩:=h1 h (by omega) b c
    exact ⟨x,fun hm=>y (List.mem_append_left _ hm)⟩
  ·by_cases e:h=g
   ·by_cases e':h'=g
    ·omega
    ·simp only[if_pos e,if_neg e'] at he
     exact absurd (List.mem_append_right taken (by rw[List.mem_singleton,← he])) (h1 h' (by omega) b' c').2
   ·by_cases e':h'=g
    ·simp only[if_neg e,if_pos e'] at he
     exact absurd (List.mem_append_right taken (by rw[List.mem_singleton,he])) (h1 h (by omega) b c).2
    ·simp only[if_neg e,if_neg e'] at he
     exact h2 h h' (by omega) b c (by omega) b' c' he
noncomputable def qiB(o:qp)(gs:List Nat)(g:Nat)(taken:List Int):Bool:=@decide (qjC o gs g taken) (Classical.propDecidable _)
theorem qi9{o:qp}{gs:List Nat}{g:Nat}{taken:List Int}:qiB o gs g taken=true↔qjC o gs g taken:=@decide_eq_true_iff _ (Classical.propDecidable _)
theorem qn4{o:qp}{gs:List Nat}{g:Nat}{taken:List Int}{b:Bool}(h:b=true↔qjC o gs g taken):b=qiB o gs g taken:=by
 rw[Bool.eq_iff_iff,qi9];exact h
theorem qyn(n:Nat)(o:qp)(gs:List Nat)(hk:Okay9 o)(hl:gs.length≤o.2.2.2.2.1.length)(hn:100≤n):∀(d g k:Nat) (taken:List Int),g+d=o.2.2.2.1.length→d≤k→taken.length≤g →
  qdS (qbs n (k+1)) (o,(nI gs,((g:Int),(taken,()))))=some (qiB o gs g taken,()):=by
 obtain ⟨_,o2,o3,_,o5,o6,o7,_⟩:=hk.oth'
 have hC:∀c,c∈o.2.2.2.2.1→0≤c∧c≤20:=fun c hc=>by have:=o6 c hc;omega
 intro d
 induction d with
 | zero =>
  intro g k taken hg hkk ht
  rw[qhp,qhR]
  have:g=o.2.2.2.1.length:=by omega
  subst this
  rw[show iEq (o.2.2.2.1.length:Int) (o.2.2.2.1.length:Int)=true by unfold iEq;simp]
  rw[← qn4 (b:=true) ⟨fun _=>qu6 o gs taken,fun _=>rfl⟩]
  rfl
 | succ d ih =>
  intro g k taken hg hkk ht
  obtain ⟨k,rfl⟩:∃j,k=j+1:=⟨k-1,by omega⟩
  have hgl:g<o.2.2.2.1.length:=by omega
  have hb:=qjA gs g gs.length
  rw[qhp,qhR]
  rw[show iEq (g:Int) (o.2.2.2.1.length:Int)=false from beq_eq_false_iff_ne.2 (by omega)]
  simp only[cond_false,qrq n o gs g hC hl (show gs.length≤50 by omega) hn,Option.bind_some]
  by_cases h0:ldC gs g gs.length=0
  ·rw[show iEq (ldC gs g gs.length) 0=true by rw[h0];rfl]
   simp only[cond_true,qC (show g<9223372036854775807 by omega),ih (g+1) k taken (by omega) (by omega) (by omega),Option.bind_some]
   rw[show qiB o gs g taken=qiB o gs (g+1) taken from (qn4 (b:=qiB o gs (g+1) taken) (g:=g) (by rw[qi9];exact (qtS h0).symm)).symm]
  ·rw[show iEq (ldC gs g gs.length) 0=false from beq_eq_false_iff_ne.2 h0]
   simp only[cond_false]
   have hp:0<ldC gs g gs.length:=by omega
   have:=qmm (qgf n (qbs n (k+1))) o.2.2.2.2.2.2.length (fun r=>(nI gs,((g:Int),(taken,(ldC gs g gs.length,((r:Int),(o,()))))))) (fun r=>!(!decide ((r:Int)∈taken)&&(qfA o r (ldC gs g gs.length)&&qiB o gs (g+1) (taken++[(r:Int)])))) (some (Sum.inl ())) (fun _=>some (Sum.inr (true,()))) (fun r hr _ rec=>by
    rw[qho]
    have happ:List.append (List.append [] taken) ((r:Int)::[])=taken++[(r:Int)]:=by
     show ([]++taken)++[(r:Int)]=_
     rw[List.nil_append]
    have hle2:(List.append [] taken).length=taken.length:=by show ([]++taken).length=_;rw[List.nil_append]
    simp only[iLtN hr,cond_true,qtw n taken (r:Int) (show taken.length≤50 by omega) hn,qr6 n o r (ldC gs g gs.length) hk hr (by omega) hn,Option.bind_some,bleT (nAdd (0:Nat) taken.length) 17592186044416 (by show 0+taken.length≤_;omega),bleT (nAdd (List.append [] taken).length 1) 17592186044416 (by show (List.append [] taken).length+1≤_;omega),happ,qC (show g<9223372036854775807 by omega),qC (show r<9223372036854775807 by omega),ih (g+1) k (taken++[(r:Int)]) (by omega) (by omega) (by rw[List.length_append];simp;omega)]
    cases decide ((r:Int)∈taken)<;>cases qfA o r (ldC gs g gs.length)<;>cases qiB o gs (g+1) (taken++[(r:Int)])<;>rfl) (fun _ rec=>by
     rw[qho]
     simp only[qcW (Nat.le_refl o.2.2.2.2.2.2.length),cond_false]) n (by omega)
   rw[show ((0:Nat):Int)=0 from rfl] at this
   rcases this with ⟨a,b⟩ | ⟨a,r,_,b⟩
   ·rw[b]
    rw[← qn4 (b:=false) ?_]
    ·rfl
    ·rw[qqY hgl hp]
     constructor
     ·intro h;cases h
     ·rintro ⟨r,h1,h2,h3⟩
      have hr:=(qkD.1 h2).1.1
      have:=List.all_eq_true.1 a r (List.mem_range.2 hr)
      rw[decide_eq_false h1,h2,qi9.2 h3] at this
      cases this
   ·rw[b]
    rw[← qn4 (b:=true) ?_]
    ·rfl
    ·rw[qqY hgl hp]
     rw[List.all_eq_false] at a
     obtain ⟨r,_,hr⟩:=a
     simp only[Bool.not_eq_true',Bool.not_eq_false',Bool.and_eq_true,decide_eq_false_iff_not] at hr
     have hr':(!decide ((r:Int)∈taken)&&(qfA o r (ldC gs g gs.length)&&qiB o gs (g+1) (taken++[(r:Int)])))=true:=by
      cases hx:(!decide ((r:Int)∈taken)&&(qfA o r (ldC gs g gs.length)&&qiB o gs (g+1) (taken++[(r:Int)]))) with
      | true=>rfl
      | false=>simp[hx] at hr
     rw[Bool.and_eq_true,Bool.and_eq_true,Bool.not_eq_true',decide_eq_false_iff_not,qi9] at hr'
     exact ⟨fun _=>⟨r,hr'⟩,fun _=>rfl⟩
theorem qyo(n:Nat)(o:qp)(gs:List Nat)(hk:Okay9 o)(hl:gs.length≤o.2.2.2.2.1.length)(hn:100≤n):qgS n (o,(nI gs,((0:Int),(([]:List Int),()))))=some (qiB o gs 0 [],()):=by
 obtain ⟨_,o2,o3,_⟩:=hk.oth'
 rw[ql1]
 obtain ⟨m,hm⟩:∃m,n=m+1:=⟨n-1,by omega⟩
 have:=qyn n o gs hk hl hn o.2.2.2.1.length 0 m [] (by omega) (by omega) (by simp)
 rw[← hm] at this
 exact this
theorem qpc(n:Nat)(o:qp)(gs:List Nat):qjC o gs 0 []↔∃rep,RopedOk o (cnts (tO n o) gs) rep:=by
 constructor
 ·rintro ⟨f,h1,h2⟩
  have hat:∀g,g<o.2.2.2.1.length→((List.range o.2.2.2.1.length).map fun g=>if 0<ldC gs g gs.length then (f g:Int) else -1)[g]?=some (if 0<ldC gs g gs.length then (f g:Int) else -1):=fun g hg=>by
   rw[List.getElem?_map,List.getElem?_range hg];rfl
  refine ⟨(List.range o.2.2.2.1.length).map fun g=>if 0<ldC gs g gs.length then (f g:Int) else -1,by simp,fun g hg h0=>?_,fun g hg hp=>?_,fun g h hg hh hp hq he=>?_⟩
  ·rw[qcR n o gs hg] at h0
   rw[hat g hg,if_neg (by omega)]
  ·rw[qcR n o gs hg] at hp ⊢
   obtain ⟨a,_⟩:=h1 g (Nat.zero_le _) hg hp
   rw[qkD] at a
   exact ⟨f g,by rw[hat g hg,if_pos hp],a.1,a.2⟩
  ·rw[qcR n o gs hg] at hp
   rw[qcR n o gs hh] at hq
   rw[hat g hg,hat h hh,if_pos hp,if_pos hq] at he
   injection he with he
   exact h2 g h (Nat.zero_le _) hg hp (Nat.zero_le _) hh hq (by omega)
 ·rintro ⟨rep,h⟩
  have hy:∀g,g<o.2.2.2.1.length→0<ldC gs g gs.length→∃r:Nat,rep[g]?=some (r:Int)∧(atI rep g).toNat=r∧qfA o r (ldC gs g gs.length)=true:=fun g hg hp=>by
   rw[← qcR n o gs hg] at hp ⊢
   obtain ⟨r,a,b,c⟩:=h.yes g hg hp
   refine ⟨r,a,?_,qkD.2 ⟨b,c⟩⟩
   unfold atI
   rw[a]
   simp
  refine ⟨fun g=>(atI rep g).toNat,fun g _ hg hp=>?_,fun g g' _ hg hp _ hg' hp' he=>?_⟩
  ·obtain ⟨r,_,b,c⟩:=hy g hg hp
   simp only[b]
   exact ⟨c,by simp⟩
  ·obtain ⟨r,a,b,c⟩:=hy g hg hp
   obtain ⟨r',a',b',c'⟩:=hy g' hg' hp'
   simp only[b,b'] at he
   exact h.own g g' hg hg' (by rw[qcR n o gs hg];exact hp) (by rw[qcR n o gs hg'];exact hp') (by rw[a,a',he])
end Go.Proofs.Ytbdockhccdkdiaa
