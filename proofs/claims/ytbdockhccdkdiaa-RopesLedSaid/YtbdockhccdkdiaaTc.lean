/- Texts Dt5, Dt6 in one. -/
import Derived.Test.YtbdockhccdkdiaaTa
import Derived.Test.YtbdockhccdkdiaaTb
/- Ropes: the ropes that the program gives: they serve, and if any serve there are some. -/
set_option linter.constructorNameAsVariable false
set_option linter.unusedSimpArgs false
set_option linter.unusedVariables false
set_option linter.unusedSectionVars false
namespace Go.Proofs.Ytbdockhccdkdiaa
open Go Go.Proofs Go.RowKit
set_option maxHeartbeats 1000000
def atI(l:List Int)(g:Nat):Int:=(l[g]?).getD 0
theorem qdX{l:List Int}{g:Nat}(h:g<l.length):l[g]?=some (atI l g)∧l[g]=atI l g:=by
 unfold atI;rw[List.getElem?_eq_getElem h];exact ⟨rfl,rfl⟩
def qeC(l:List Int):Nat→List Int
 | 0=>[]
 | k+1=>cond (iGt (atI l k) 0) (qeC l k++[(k:Int)]) (qeC l k)
theorem qyQ{a b:Nat}(h:a<b):iGe (a:Int) (b:Int)=false:=decide_eq_false (by omega)
theorem qmm(l:List Int):∀k,(qeC l k).length≤k
 | 0=>Nat.le_refl _
 | k+1=>by
  have:=qmm l k
  unfold qeC
  cases iGt (atI l k) 0<;>simp<;>omega
theorem qmn(l:List Int)(x:Int):∀k,(x∈qeC l k↔∃i:Nat,x=i∧i<k∧0<atI l i)
 | 0=>by
  constructor
  ·intro h;cases h
  ·rintro ⟨i,_,h,_⟩;omega
 | k+1=>by
  have ih:=qmn l x k
  unfold qeC
  by_cases hp:0<atI l k
  ·rw[show iGt (atI l k) 0=true from decide_eq_true hp]
   simp only[cond_true,List.mem_append,List.mem_singleton,ih]
   constructor
   ·rintro (⟨i,a,b,c⟩ | h)
    ·exact ⟨i,a,by omega,c⟩
    ·exact ⟨k,h,by omega,hp⟩
   ·rintro ⟨i,a,b,c⟩
    by_cases hik:i=k
    ·subst hik;exact .inr a
    ·exact .inl ⟨i,a,by omega,c⟩
  ·rw[show iGt (atI l k) 0=false from decide_eq_false hp]
   simp only[cond_false,ih]
   constructor
   ·rintro ⟨i,a,b,c⟩;exact ⟨i,a,by omega,c⟩
   ·rintro ⟨i,a,b,c⟩
    by_cases hik:i=k
    ·subst hik;exact absurd c hp
    ·exact ⟨i,a,by omega,c⟩
theorem qpV(l:List Int):∀k,(qeC l k).Nodup
 | 0=>List.nodup_nil
 | k+1=>by
  have ih:=qpV l k
  unfold qeC
  cases iGt (atI l k) 0 with
  | false=>exact ih
  | true =>
   simp only[cond_true]
   rw[List.nodup_append]
   refine ⟨ih,by simp,fun a ha b hb=>?_⟩
   rw[List.mem_singleton] at hb
   subst hb
   obtain ⟨i,h1,h2,_⟩:=(qmn l a k).1 ha
   omega
def ordS(l:List Int):List Int:=(qiE (fun g=>-(atI l g.toNat)) [] (qeC l l.length)).reverse
theorem qpd(l:List Int):(ordS l).Perm (qeC l l.length):=by
 have:=qk5 (fun g=>-(atI l g.toNat)) (qeC l l.length) []
 rw[List.nil_append] at this
 exact (List.reverse_perm _).trans this
theorem qtY(l:List Int):(ordS l).Pairwise fun a b=>atI l b.toNat≤atI l a.toNat:=by
 unfold ordS
 rw[List.pairwise_reverse]
 refine List.Pairwise.imp ?_ (qlC (fun g=>-(atI l g.toNat)) (qeC l l.length) (Q:=[]) List.Pairwise.nil)
 intro a b h
 omega
theorem qiJ(l:List Int)(x:Int):x∈ordS l↔∃i:Nat,x=i∧i<l.length∧0<atI l i:=by
 rw[(qpd l).mem_iff,qmn]
theorem qq6(l:List Int):(ordS l).Nodup:=(qpd l).nodup_iff.2 (qpV l _)
theorem qxx(l:List Int):(ordS l).length≤l.length:=by rw[(qpd l).length_eq];exact qmm l _
def qeb(G:Nat)(fit ord:List Int):Nat→List Int
 | 0=>List.replicate G (-1)
 | k+1=>(qeb G fit ord k).set (atI ord k).toNat (atI fit k)
theorem qjb(G:Nat)(fit ord:List Int):∀k,(qeb G fit ord k).length=G
 | 0=>by unfold qeb;simp
 | k+1=>by unfold qeb;rw[List.length_set];exact qjb G fit ord k
theorem qtD{G:Nat}{fit ord:List Int}(hnd:ord.Nodup)(hr:∀x,x∈ord→0≤x∧x<(G:Int)):∀k,k≤ord.length→(∀i,i<k→(qeb G fit ord k)[(atI ord i).toNat]?=some (atI fit i))∧(∀g:Nat,g<G→(∀i,i<k→atI ord i≠(g:Int))→(qeb G fit ord k)[g]?=some (-1))
 | 0,_=>⟨fun i h=>by omega,fun g hg _=>by unfold qeb;rw[List.getElem?_replicate_of_lt hg]⟩
 | k+1,hk=>by
  obtain ⟨h1,h2⟩:=qtD hnd hr k (by omega)
  have hm:∀i,i<ord.length→atI ord i∈ord:=fun i hi=>by rw[← (qdX hi).2];exact List.getElem_mem hi
  have hne:∀i,i<k→atI ord i≠atI ord k:=fun i hi=>by
   rw[← (qdX (show i<ord.length by omega)).2,← (qdX (show k<ord.length by omega)).2]
   exact List.pairwise_iff_getElem.1 hnd i k (by omega) (by omega) hi
  have hk0:=hr _ (hm k (by omega))
  have hlen:=qjb G fit ord k
  refine ⟨fun i hi=>?_,fun g hg hi=>?_⟩
  ·unfold qeb
   rw[List.getElem?_set]
   by_cases hik:i=k
   ·subst hik
    rw[if_pos rfl,if_pos (by omega)]
   ·have hi0:=hr _ (hm i (by omega))
    have:=hne i (by omega)
    rw[if_neg (by omega)]
    exact h1 i (by omega)
  ·have:=hi k (by omega)
   unfold qeb
   rw[List.getElem?_set,if_neg (by omega)]
   exact h2 g hg fun i h=>hi i (by omega)
structure RopedOk (o:qp) (l rep:List Int):Prop where
 len:rep.length=o.2.2.2.1.length
 no:∀g,g<o.2.2.2.1.length→atI l g=0→rep[g]?=some (-1)
 yes:∀g,g<o.2.2.2.1.length→0<atI l g→∃r:Nat,rep[g]?=some (r:Int)∧(∃h:r<o.2.2.2.2.2.2.length,fits o o.2.2.2.2.2.2[r]=true)∧o.2.2.1*atI l g≤qcQ o r
 own:∀g h,g<o.2.2.2.1.length→h<o.2.2.2.1.length→0<atI l g→0<atI l h→rep[g]?=rep[h]?→g=h
theorem qv8(n:Nat)(o:qp)(l:List Int)(hk:Okay9 o)(hl:l.length=o.2.2.2.1.length)(hb:∀c,c∈l→0≤c∧c≤6)(hn:2000≤n) :
  (qka (qcQ o) (fun g=>o.2.2.1*atI l g.toNat) (fitS o) (ordS l)∧qcL n ((o,fitS o),(l,()))=some (qeb o.2.2.2.1.length (fitS o) (ordS l) (ordS l).length,(true,(l,())))) ∨
  (¬qka (qcQ o) (fun g=>o.2.2.1*atI l g.toNat) (fitS o) (ordS l)∧qcL n ((o,fitS o),(l,()))=some ([],(false,(l,())))):=by
 obtain ⟨_,o2,o3,_⟩:=hk.oth'
 have hrep:qbu n (((Int.negSucc (0:Nat))::[]),((o.2.2.2.1.length:Int),()))=some (List.replicate o.2.2.2.1.length (-1),()):=by
  obtain ⟨m,rfl⟩:∃m,n=m+8:=⟨n-8,by omega⟩
  exact qv4 m _ o3
 have l0:=forN (qcz n) l.length (fun k=>((o,fitS o),((l.length:Int),((k:Int),(l,(List.replicate o.2.2.2.1.length (-1),(qeC l k,(((0:Nat),l.length),())))))))) (some ((o,fitS o),(l,(List.replicate o.2.2.2.1.length (-1),(qeC l l.length,()))))) (fun k hkl rec=>by
  have hlen:=qmm l k
  rw[qcM]
  simp only[iLtN hkl,cond_true,List.drop_zero,List.take_length,qE l hkl,Option.bind_some,show nAdd 0 (Int.toNat (k:Int))=k from Nat.zero_add k,(qdX hkl).1,bleT (nAdd (qeC l k).length 1) 17592186044416 (by show (qeC l k).length+1≤_;omega),qD (show k<9223372036854775807 by omega)]
  conv=>rhs;unfold qeC
  cases iGt (atI l k) 0<;>rfl) (fun rec=>by
   rw[qcM]
   simp only[qcO (Nat.le_refl l.length),cond_false]) n (by omega)
 have hD:∀x,x∈qeC l l.length→0≤x∧x<(l.length:Int):=fun x hx=>by
  obtain ⟨i,h1,h2,_⟩:=(qmn l x _).1 hx
  omega
 have hs:=qtp n (fun g=>-((l[g.toNat]?).getD 0)) (fun g=>0≤g∧g<(l.length:Int)) (l,()) (fun m g h hg hh=>by rw[rcmp m l g h hg hh,qqk]) (qeC l l.length) hD (by have:=qmm l l.length;omega) hn
 have hs2:qN n (qeC l l.length,(l,()))=some (ordS l,(l,())):=hs
 have hol:=qxx l
 have hom:∀k (h:k<(ordS l).length),∃i:Nat,(ordS l)[k]=i∧i<l.length∧0<atI l i:=fun k h=>(qiJ l _).1 (List.getElem_mem h)
 have l1:=qmj (qZ n) (ordS l).length (fun k=>((o,fitS o),(ordS l,(((ordS l).length:Int),((k:Int),(l,(qeb o.2.2.2.1.length (fitS o) (ordS l) k,()))))))) (fun k=>decide (k<(fitS o).length∧o.2.2.1*atI l (atI (ordS l) k).toNat≤qcQ o (atI (fitS o) k))) (some (Sum.inl (l,(qeb o.2.2.2.1.length (fitS o) (ordS l) (ordS l).length,())))) (fun _=>some (Sum.inr ([],(false,(l,()))))) (fun k hkl hj rec=>by
  obtain ⟨i,hi,hil,hip⟩:=hom k hkl
  have ei:atI (ordS l) k=i:=by rw[← (qdX hkl).2];exact hi
  rw[qcN]
  simp only[iLtN hkl,cond_true,qE (ordS l) hkl,Option.bind_some,hi]
  by_cases hf:k<(fitS o).length
  ·have hfr:=qnY o _ (List.getElem_mem hf)
   obtain ⟨z,hz1,hz2⟩:=qkx hfr
   have ef:atI (fitS o) k=(fitS o)[k]:=(qdX hf).2.symm
   have hc:=hb _ (List.getElem_mem hil)
   have e1:l[i]=atI l i:=(qdX hil).2
   have hmul:iW (iMul o.2.2.1 (atI l i))=o.2.2.1*atI l i:=by
    rw[← e1]
    have h1:=Int.mul_le_mul o2.2 hc.2 hc.1 (by omega)
    have h0:0≤o.2.2.1*l[i]:=Int.mul_nonneg (by omega) hc.1
    exact qh3 (by show _≤o.2.2.1*l[i];omega) (by show o.2.2.1*l[i]≤_;omega)
   have hrl:qcQ o (fitS o)[k]=z.2.2.1:=by unfold qcQ;rw[hz2];rfl
   have hrep1:lat (qeb o.2.2.2.1.length (fitS o) (ordS l) k) (i:Int)=some ((qeb o.2.2.2.1.length (fitS o) (ordS l) k)[i]'(by rw[qjb];omega)):=qE _ (by rw[qjb];omega)
   have hrep2:(qeb o.2.2.2.1.length (fitS o) (ordS l) k)[i]?=some ((qeb o.2.2.2.1.length (fitS o) (ordS l) k)[i]'(by rw[qjb];omega)):=List.getElem?_eq_getElem _
   simp only[qyQ hf,cond_false,qE (fitS o) hf,Option.bind_some,hz1,qE l hil,Int.toNat_natCast,(qdX hil).1,hmul,hrep1,hrep2,qD (show k<9223372036854775807 by omega)]
   rw[ei,ef,hrl,Int.toNat_natCast]
   by_cases hle:o.2.2.1*atI l i≤z.2.2.1
   ·rw[show iLt z.2.2.1 (o.2.2.1*atI l i)=false from decide_eq_false (by omega),decide_eq_true ⟨hf,hle⟩]
    have er:qeb o.2.2.2.1.length (fitS o) (ordS l) (k+1)=(qeb o.2.2.2.1.length (fitS o) (ordS l) k).set i (fitS o)[k]:=by
     conv=>lhs;unfold qeb
     rw[ei,ef,Int.toNat_natCast]
    rw[er]
    rfl
   ·rw[show iLt z.2.2.1 (o.2.2.1*atI l i)=true from decide_eq_true (by omega),decide_eq_false (fun h=>hle h.2)]
    rfl
  ·rw[decide_eq_false (fun h=>hf h.1)]
   simp only[show iGe (k:Int) ((fitS o).length:Int)=true from decide_eq_true (by omega),cond_true]
   rfl) (fun _ rec=>by
   rw[qcN]
   simp only[qcO (Nat.le_refl (ordS l).length),cond_false]) n (by omega)
 have heq:(List.range (ordS l).length).all (fun k=>decide (k<(fitS o).length∧o.2.2.1*atI l (atI (ordS l) k).toNat≤qcQ o (atI (fitS o) k)))=true↔qka (qcQ o) (fun g=>o.2.2.1*atI l g.toNat) (fitS o) (ordS l):=by
  rw[List.all_eq_true]
  constructor
  ·intro h i hi
   have:=h i (List.mem_range.2 hi)
   rw[decide_eq_true_eq] at this
   refine ⟨this.1,?_⟩
   rw[(qdX hi).2,(qdX this.1).2]
   exact this.2
  ·intro h i hi
   rw[List.mem_range] at hi
   obtain ⟨h1,h2⟩:=h i hi
   rw[decide_eq_true_eq]
   refine ⟨h1,?_⟩
   rw[(qdX hi).2,(qdX h1).2] at h2
   exact h2
 rw[qgk]
 simp only[hrep,Option.bind_some]
 have e0:qj n (qcz n) ((o,fitS o),((l.length:Int),((0:Int),(l,(List.replicate o.2.2.2.1.length (-1),([],(((0:Nat),l.length),())))))))=some ((o,fitS o),(l,(List.replicate o.2.2.2.1.length (-1),(qeC l l.length,())))):=l0
 rw[e0]
 simp only[Option.bind_some,hs2]
 rcases l1 with ⟨a,b⟩ | ⟨a,k,_,b⟩
 ·refine .inl ⟨heq.1 a,?_⟩
  have b2:qj n (qZ n) ((o,fitS o),(ordS l,(((ordS l).length:Int),((0:Int),(l,(List.replicate o.2.2.2.1.length (-1),()))))))=some (Sum.inl (l,(qeb o.2.2.2.1.length (fitS o) (ordS l) (ordS l).length,()))):=b
  rw[b2]
  rfl
 ·refine .inr ⟨fun h=>Bool.noConfusion ((heq.2 h).symm.trans a),?_⟩
  have b2:qj n (qZ n) ((o,fitS o),(ordS l,(((ordS l).length:Int),((0:Int),(l,(List.replicate o.2.2.2.1.length (-1),()))))))=some (Sum.inr ([],(false,(l,())))):=b
  rw[b2]
  rfl
theorem qxy{o:qp}{l:List Int}(hl:l.length=o.2.2.2.1.length)(hb:∀c,c∈l→0≤c∧c≤6)(hg:qka (qcQ o) (fun g=>o.2.2.1*atI l g.toNat) (fitS o) (ordS l)):RopedOk o l (qeb o.2.2.2.1.length (fitS o) (ordS l) (ordS l).length):=by
 have hr:∀x,x∈ordS l→0≤x∧x<(o.2.2.2.1.length:Int):=fun x hx=>by
  obtain ⟨i,h1,h2,_⟩:=(qiJ l x).1 hx
  omega
 obtain ⟨h1,h2⟩:=qtD (G:=o.2.2.2.1.length) (fit:=fitS o) (qq6 l) hr (ordS l).length (Nat.le_refl _)
 have place:∀g:Nat,g<o.2.2.2.1.length→0<atI l g→∃i,∃h:i<(ordS l).length,∃h':i<(fitS o).length,atI (ordS l) i=(g:Int)∧(qeb o.2.2.2.1.length (fitS o) (ordS l) (ordS l).length)[g]?=some (fitS o)[i]∧o.2.2.1*atI l g≤qcQ o (fitS o)[i]:=fun g hgl hp=>by
  obtain ⟨i,hi,he⟩:=List.getElem_of_mem ((qiJ l (g:Int)).2 ⟨g,rfl,by omega,hp⟩)
  obtain ⟨hf,hle⟩:=hg i hi
  have ea:atI (ordS l) i=(g:Int):=by rw[← (qdX hi).2];exact he
  have:=h1 i hi
  rw[ea,Int.toNat_natCast,← (qdX hf).2] at this
  have hle':o.2.2.1*atI l ((ordS l)[i]).toNat≤qcQ o (fitS o)[i]:=hle
  rw[he,Int.toNat_natCast] at hle'
  exact ⟨i,hi,hf,ea,this,hle'⟩
 refine ⟨qjb _ _ _ _,fun g hgl h0=>?_,fun g hgl hp=>?_,fun g h hgl hhl hp hq he=>?_⟩
 ·refine h2 g hgl fun i hi he=>?_
  have hm:atI (ordS l) i∈ordS l:=by rw[← (qdX hi).2];exact List.getElem_mem hi
  obtain ⟨j,a,b,c⟩:=(qiJ l _).1 hm
  have:j=g:=by omega
  subst this
  omega
 ·obtain ⟨i,hi,hf,_,a,b⟩:=place g hgl hp
  obtain ⟨r,hr1,hr2⟩:=(qqm o _).1 (List.getElem_mem hf)
  exact ⟨r,by rw[a,hr1],hr2,by rw[← hr1];exact b⟩
 ·obtain ⟨i,hi,hf,ei,a,_⟩:=place g hgl hp
  obtain ⟨j,hj,hf',ej,b,_⟩:=place h hhl hq
  rw[a,b] at he
  injection he with he
  have hij:i=j:=by
   rcases Nat.lt_trichotomy i j with hlt | heq | hlt
   ·exact absurd he (List.pairwise_iff_getElem.1 (qq3 o) i j hf hf' hlt)
   ·exact heq
   ·exact absurd he.symm (List.pairwise_iff_getElem.1 (qq3 o) j i hf' hf hlt)
  subst hij
  omega
theorem qv9{o:qp}{l rep:List Int}(hk:Okay9 o)(hl:l.length=o.2.2.2.1.length)(h:RopedOk o l rep):qka (qcQ o) (fun g=>o.2.2.1*atI l g.toNat) (fitS o) (ordS l):=by
 obtain ⟨_,o2,_⟩:=hk.oth'
 refine qq4 (qtX o) ?_ (qq6 l) (fun g=>atI rep g.toNat) (fun g hg=>?_) (fun g h hg hh he=>?_)
 ·refine List.Pairwise.imp ?_ (qtY l)
  intro a b hab
  exact Int.mul_le_mul_of_nonneg_left hab (by omega)
 ·obtain ⟨i,rfl,hi,hp⟩:=(qiJ l g).1 hg
  obtain ⟨r,a,b,c⟩:=h.yes i (by omega) hp
  rw[Int.toNat_natCast]
  have er:atI rep i=r:=by unfold atI;rw[a];rfl
  rw[er]
  exact ⟨(qqm o _).2 ⟨r,rfl,b⟩,c⟩
 ·obtain ⟨i,rfl,hi,hp⟩:=(qiJ l g).1 hg
  obtain ⟨j,rfl,hj,hq⟩:=(qiJ l h).1 hh
  rw[Int.toNat_natCast,Int.toNat_natCast] at he
  obtain ⟨r,a,_⟩:=h.yes i (by omega) hp
  obtain ⟨s,b,_⟩:=h.yes j (by omega) hq
  have er:atI rep i=r:=by unfold atI;rw[a];rfl
  have es:atI rep j=s:=by unfold atI;rw[b];rfl
  rw[er,es] at he
  have:=h.own i j (by omega) (by omega) hp hq (by rw[a,b,he])
  rw[this]
def qfL(o:qp):OutX:=(o,fitS o)
theorem qyR(n:Nat)(o:qp)(l:List Int)(hk:Okay9 o)(hl:l.length=o.2.2.2.1.length)(hb:∀c,c∈l→0≤c∧c≤6)(hn:2000≤n):(∀rep,tmRp n (qfL o) l=some rep→RopedOk o l rep)∧((∃rep,RopedOk o l rep)→∃rep,tmRp n (qfL o) l=some rep):=by
 rcases qv8 n o l hk hl hb hn with ⟨h1,h2⟩ | ⟨h1,h2⟩
 ·have e:tmRp n (qfL o) l=some (qeb o.2.2.2.1.length (fitS o) (ordS l) (ordS l).length):=(qrx (x:=qfL o) ((qnS n (qfL o) l).trans h2)).trans rfl
  rw[e]
  refine ⟨fun rep h=>?_,fun _=>⟨_,rfl⟩⟩
  injection h with h
  subst h
  exact qxy hl hb h1
 ·have e:tmRp n (qfL o) l=none:=(qrx (x:=qfL o) ((qnS n (qfL o) l).trans h2)).trans rfl
  rw[e]
  exact ⟨fun rep h=>(by cases h),fun⟨rep,h⟩=>absurd (qv9 hk hl h) h1⟩
def nI(l:List Nat):List Int:=l.map fun g:Nat=>(g:Int)
theorem qkC(l:List Nat):(nI l).length=l.length:=by unfold nI;simp
theorem qyS(l:List Nat){k:Nat}(h:k<l.length):lat (nI l) (k:Int)=some (l[k]:Int):=by
 rw[qrt];unfold nI;rw[List.getElem?_map,List.getElem?_eq_getElem h];rfl
theorem qyT(l:List Nat)(g:Nat):List.append (List.append [] (nI l)) ((g:Int)::[])=nI (l++[g]):=by
 show ([]++nI l)++[(g:Int)]=_
 unfold nI
 rw[List.nil_append,List.map_append]
 rfl
theorem qwa(l:List Nat)(g:Nat):(g:Int)∈nI l↔g∈l:=by
 unfold nI
 rw[List.mem_map]
 constructor
 ·rintro ⟨a,h1,h2⟩
  have:a=g:=by omega
  rwa [← this]
 ·intro h;exact ⟨g,h,rfl⟩
theorem qwb{C:List Int}(hC:∀c,c∈C→0≤c∧c≤20)(gs:List Nat)(g:Nat):∀k,0≤ldP C gs g k∧ldP C gs g k≤20*k
 | 0=>by unfold ldP;omega
 | k+1=>by
  have:=qwb hC gs g k
  have h0:0≤(C[k]?).getD 0∧(C[k]?).getD 0≤20:=by
   cases hc:C[k]? with
   | none=>exact ⟨by decide,by decide⟩
   | some c=>exact hC c (List.mem_of_getElem? hc)
  show 0≤ldP C gs g k+(if gs[k]?=some g then (C[k]?).getD 0 else 0)∧ldP C gs g k+(if gs[k]?=some g then (C[k]?).getD 0 else 0)≤_
  split<;>omega
theorem qrB(n:Nat)(o:qp)(gs:List Nat)(g:Nat)(hC:∀c,c∈o.2.2.2.2.1→0≤c∧c≤20)(hl:gs.length≤o.2.2.2.2.1.length)(h6:gs.length≤50)(hn:100≤n):qeq n (o,(nI gs,((g:Int),())))=some (ldC gs g gs.length,(ldP o.2.2.2.2.1 gs g gs.length,())):=by
 rw[qmG]
 have:=forN (qe1 n) gs.length (fun k=>(nI gs,((g:Int),(ldC gs g k,(ldP o.2.2.2.2.1 gs g k,((k:Int),(o,()))))))) (some (ldC gs g gs.length,(ldP o.2.2.2.2.1 gs g gs.length,()))) (fun k hk rec=>by
  have b1:=qiB gs g k
  have b2:=qwb hC gs g k
  have hkC:k<o.2.2.2.2.1.length:=by omega
  have b3:=hC _ (List.getElem_mem hkC)
  rw[qhQ]
  have e1:ldC gs g (k+1)=ldC gs g k+(if gs[k]=g then 1 else 0):=by
   show ldC gs g k+(if gs[k]?=some g then 1 else 0)=_
   rw[List.getElem?_eq_getElem hk]
   simp
  have e2:ldP o.2.2.2.2.1 gs g (k+1)=ldP o.2.2.2.2.1 gs g k+(if gs[k]=g then o.2.2.2.2.1[k] else 0):=by
   show ldP o.2.2.2.2.1 gs g k+(if gs[k]?=some g then (o.2.2.2.2.1[k]?).getD 0 else 0)=_
   rw[List.getElem?_eq_getElem hk,List.getElem?_eq_getElem hkC]
   simp
  simp only[qkC,iLtN hk,cond_true,qyS gs hk,Option.bind_some,qE o.2.2.2.2.1 hkC,qD (show k<9223372036854775807 by omega)]
  rw[e1,e2]
  by_cases hg:gs[k]=g
  ·rw[if_pos hg,if_pos hg,show iEq (gs[k]:Int) (g:Int)=true by rw[hg];unfold iEq;simp]
   simp only[cond_true]
   rw[show iW (iAdd (ldC gs g k) 1)=ldC gs g k+1 from qh3 (by unfold iAdd;omega) (by unfold iAdd;omega),show iW (iAdd (ldP o.2.2.2.2.1 gs g k) o.2.2.2.2.1[k])=ldP o.2.2.2.2.1 gs g k+o.2.2.2.2.1[k] from qh3 (by unfold iAdd;omega) (by unfold iAdd;omega)]
  ·rw[if_neg hg,if_neg hg,show iEq (gs[k]:Int) (g:Int)=false from beq_eq_false_iff_ne.2 (by omega),Int.add_zero,Int.add_zero]
   rfl) (fun rec=>by
   rw[qhQ]
   simp only[qkC,qcO (Nat.le_refl gs.length),cond_false]) n (by omega)
 have e0:qj n (qe1 n) (nI gs,((g:Int),((0:Int),((0:Int),((0:Int),(o,()))))))=some (ldC gs g gs.length,(ldP o.2.2.2.2.1 gs g gs.length,())):=this
 rw[e0]
 rfl
def qjD(o:qp)(g:Nat):Bool:=match o.2.2.2.1[g]? with
 | some z=>decide (o.2.1≤z.1)&&decide (o.1≤z.2.1)
 | none=>false
theorem qsh(n:Nat)(o:qp)(g:Nat)(hg:g<o.2.2.2.1.length):qfi n (o,((g:Int),()))=some (qjD o g,()):=by
 rw[qlX]
 simp only[qE o.2.2.2.1 hg,Option.bind_some]
 unfold qjD
 rw[List.getElem?_eq_getElem hg]
 show cond (decide (o.2.2.2.1[g].1≥o.2.1)) (some (decide (o.2.2.2.1[g].2.1≥o.1),())) _=some (decide (o.2.1≤o.2.2.2.1[g].1)&&decide (o.1≤o.2.2.2.1[g].2.1),())
 rw[show decide (o.2.2.2.1[g].1≥o.2.1)=decide (o.2.1≤o.2.2.2.1[g].1) from rfl,show decide (o.2.2.2.1[g].2.1≥o.1)=decide (o.1≤o.2.2.2.1[g].2.1) from rfl]
 cases decide (o.2.1≤o.2.2.2.1[g].1)<;>rfl
theorem qwc(n:Nat)(o:qp)(g:Nat)(hg:g<o.2.2.2.1.length):qeV n (qfL o,((g:Int),()))=some (qjD o g,()):=by
 rw[qhI]
 have hl:lat (qfL o).1.2.2.2.1 (g:Int)=some o.2.2.2.1[g]:=qE o.2.2.2.1 hg
 simp only[hl,Option.bind_some]
 unfold qjD
 rw[List.getElem?_eq_getElem hg]
 show cond (decide (o.2.2.2.1[g].1≥o.2.1)) (some (decide (o.2.2.2.1[g].2.1≥o.1),())) _=some (decide (o.2.1≤o.2.2.2.1[g].1)&&decide (o.1≤o.2.2.2.1[g].2.1),())
 rw[show decide (o.2.2.2.1[g].1≥o.2.1)=decide (o.2.1≤o.2.2.2.1[g].1) from rfl,show decide (o.2.2.2.1[g].2.1≥o.1)=decide (o.1≤o.2.2.2.1[g].2.1) from rfl]
 cases decide (o.2.1≤o.2.2.2.1[g].1)<;>rfl
noncomputable def tO(n:Nat)(o:qp):TmO:=tmO n (qfL o)
theorem tO_G(n:Nat)(o:qp):(tO n o).G=o.2.2.2.1.length:=rfl
theorem tO_C(n:Nat)(o:qp):(tO n o).clients=o.2.2.2.2.1:=rfl
theorem qtE(n:Nat)(o:qp){g:Nat}(hg:g<o.2.2.2.1.length):(tO n o).pts g=o.2.2.2.1[g].2.2:=by
 show (((o.2.2.2.1)[g]?).map fun z=>z.2.2).getD 0=_
 rw[List.getElem?_eq_getElem hg];rfl
theorem qrC(n:Nat)(o:qp){g:Nat}(hg:g<o.2.2.2.1.length):(tO n o).lead g=qjD o g:=by
 show tmLd n (qfL o) g=_
 exact quu ((qsc n (qfL o) g).trans (qwc n o g hg))
theorem qcA(n:Nat)(o:qp)(gs:List Nat){g:Nat}(hg:g<o.2.2.2.1.length):atI (cnts (tO n o) gs) g=ldC gs g gs.length:=by
 unfold atI;rw[qng (tO n o) gs hg];rfl
theorem qyr(n:Nat)(o:qp)(gs:List Nat)(h6:gs.length≤6):∀c,c∈cnts (tO n o) gs→0≤c∧c≤6:=by
 intro c hc
 unfold cnts at hc
 obtain ⟨g,_,rfl⟩:=List.mem_map.1 hc
 have:=qiB gs g gs.length
 omega
def qfF(o:qp)(r:Nat)(c:Int):Bool:=match o.2.2.2.2.2.2[r]? with
 | some z=>fits o z&&decide (o.2.2.1*c≤z.2.2.1)
 | none=>false
theorem qkD{o:qp}{r:Nat}{c:Int}:qfF o r c=true↔(∃h:r<o.2.2.2.2.2.2.length,fits o o.2.2.2.2.2.2[r]=true)∧o.2.2.1*c≤qcQ o r:=by
 unfold qfF qcQ
 rw[Int.toNat_natCast]
 by_cases h:r<o.2.2.2.2.2.2.length
 ·rw[List.getElem?_eq_getElem h]
  simp only[Bool.and_eq_true,decide_eq_true_eq]
  constructor
  ·rintro ⟨a,b⟩;exact ⟨⟨h,a⟩,b⟩
  ·rintro ⟨⟨_,a⟩,b⟩;exact ⟨a,b⟩
 ·rw[List.getElem?_eq_none (by omega)]
  constructor
  ·intro h;cases h
  ·rintro ⟨⟨a,_⟩,_⟩;exact absurd a h
theorem qsi(n:Nat)(o:qp)(r:Nat)(c:Int)(hk:Okay9 o)(hr:r<o.2.2.2.2.2.2.length)(hc:0≤c∧c≤6)(hn:100≤n):qe2 n (o,((r:Int),(c,())))=some (qfF o r c,()):=by
 obtain ⟨_,o2,_⟩:=hk.oth'
 have hrk:=hk.rps _ (List.getElem_mem hr)
 obtain ⟨_,_,_,r4,r5⟩:=qkz hrk
 have m3:=(qkA hk.mdl).2.2
 have hmul:iW (iMul o.2.2.1 c)=o.2.2.1*c:=by
  have h1:=Int.mul_le_mul o2.2 hc.2 hc.1 (by omega)
  have h0:0≤o.2.2.1*c:=Int.mul_nonneg (by omega) hc.1
  exact qh3 (by show _≤o.2.2.1*c;omega) (by show o.2.2.1*c≤_;omega)
 rw[qlH]
 simp only[qE o.2.2.2.2.2.2 hr,Option.bind_some,qva n o.2.2.2.2.2.1 o.2.2.2.2.2.2[r] o.1 r5 (show o.2.2.2.2.2.1.2.2.2.length≤50 by omega) (show o.2.2.2.2.2.2[r].2.2.2.length≤50 by omega) hn,qv6 n o.2.2.2.2.2.1 o.2.2.2.2.2.2[r] o.1 _ hk.mdl hrk,hmul]
 unfold qfF
 rw[List.getElem?_eq_getElem hr]
 show cond (fits o o.2.2.2.2.2.2[r]) (some (decide (o.2.2.2.2.2.2[r].2.2.1≥o.2.2.1*c),())) _=some (fits o o.2.2.2.2.2.2[r]&&decide (o.2.2.1*c≤o.2.2.2.2.2.2[r].2.2.1),())
 rw[show decide (o.2.2.2.2.2.2[r].2.2.1≥o.2.2.1*c)=decide (o.2.2.1*c≤o.2.2.2.2.2.2[r].2.2.1) from rfl]
 cases fits o o.2.2.2.2.2.2[r]<;>rfl
theorem qtF(n:Nat)(l:List Int)(x:Int)(hl:l.length≤50)(hn:100≤n):qeL n (l,(x,()))=some (decide (x∈l),()):=by
 rw[qne]
 have:=qjB (qgT n) l (fun y=>!decide (y=x)) (fun k=>(l,(x,((k:Int),())))) (some (Sum.inl ())) (fun _=>some (Sum.inr (true,()))) (fun k hk rec=>by
  rw[qii]
  simp only[iLtN hk,cond_true,qE l hk,Option.bind_some,qD (show k<9223372036854775807 by omega)]
  have e:iEq l[k] x=decide (l[k]=x):=by unfold iEq;rw[Bool.eq_iff_iff];simp
  rw[e]
  cases decide (l[k]=x)<;>rfl) (fun rec=>by
   rw[qii]
   simp only[qcO (Nat.le_refl l.length),cond_false]) n (by omega)
 rw[show ((0:Nat):Int)=0 from rfl] at this
 rcases this with ⟨a,b⟩ | ⟨a,k,_,b⟩
 ·rw[b]
  rw[List.all_eq_true] at a
  rw[decide_eq_false fun h=>by have:=a x h;simp at this]
  rfl
 ·rw[b]
  rw[List.all_eq_false] at a
  obtain ⟨y,hy,h⟩:=a
  have:y=x:=by simpa using h
  subst this
  rw[decide_eq_true hy]
  rfl
def qjE(o:qp)(gs:List Nat)(g:Nat)(taken:List Int):Prop:=∃f:Nat→Nat,(∀h,g≤h→h<o.2.2.2.1.length→0<ldC gs h gs.length→qfF o (f h) (ldC gs h gs.length)=true∧¬((f h:Int)∈taken))∧∀h h',g≤h→h<o.2.2.2.1.length→0<ldC gs h gs.length→g≤h'→h'<o.2.2.2.1.length→0<ldC gs h' gs.length→f h=f h'→h=h'
theorem qvb(o:qp)(gs:List Nat)(taken:List Int):qjE o gs o.2.2.2.1.length taken:=⟨fun _=>0,fun h h1 h2=>by omega,fun h h' h1 h2=>by omega⟩
theorem qtZ{o:qp}{gs:List Nat}{g:Nat}{taken:List Int}(h0:ldC gs g gs.length=0):qjE o gs g taken↔qjE o gs (g+1) taken:=by
 constructor
 ·rintro ⟨f,h1,h2⟩
  exact ⟨f,fun h a b c=>h1 h (by omega) b c,fun h h' a b c a' b' c'=>h2 h h' (by omega) b c (by omega) b' c'⟩
 ·rintro ⟨f,h1,h2⟩
  have hne:∀h,g≤h→0<ldC gs h gs.length→g+1≤h:=fun h a c=>by
   by_cases e:h=g
   ·subst e;omega
   ·omega
  exact ⟨f,fun h a b c=>h1 h (hne h a c) b c,fun h h' a b c a' b' c'=>h2 h h' (hne h a c) b c (hne h' a' c') b' c'⟩
theorem qq7{o:qp}{gs:List Nat}{g:Nat}{taken:List Int}(hg:g<o.2.2.2.1.length)(hp:0<ldC gs g gs.length):qjE o gs g taken↔∃r:Nat,(¬(r:Int)∈taken)∧qfF o r (ldC gs g gs.length)=true∧qjE o gs (g+1) (taken++[(r:Int)]):=by
 constructor
 ·rintro ⟨f,h1,h2⟩
  obtain ⟨a,b⟩:=h1 g (Nat.le_refl _) hg hp
  refine ⟨f g,b,a,f,fun h x y z=>⟨(h1 h (by omega) y z).1,fun hm=>?_⟩,fun h h' a b c a' b' c'=>h2 h h' (by omega) b c (by omega) b' c'⟩
  rcases List.mem_append.1 hm with hm | hm
  ·exact (h1 h (by omega) y z).2 hm
  ·rw[List.mem_singleton] at hm
   have:=h2 h g (by omega) y z (Nat.le_refl _) hg hp (by omega)
   omega
 ·rintro ⟨r,hr,hs,f,h1,h2⟩
  refine ⟨fun h=>if h=g then r else f h,fun h a b c=>?_,fun h h' a b c a' b' c' he=>?_⟩
  ·by_cases e:h=g
   ·subst e
    simp only[if_true]
    exact ⟨hs,hr⟩
   ·simp only[if_neg e]
    obtain ⟨x,y⟩:=h1 h (by omega) b c
    exact ⟨x,fun hm=>y (List.mem_append_left _ hm)⟩
  ·by_cases e:h=g
   ·by_cases e':h'=g
    ·omega
    ·simp only[if_pos e,if_neg e'] at he
     exact absurd (List.mem_append_right taken (by rw[List.mem_singleton,← he])) (h1 h' (by omega) b' c').2
   ·by_cases e':h'=g
    ·simp only[if_neg e,if_pos e'] at he
     exact absurd (List.mem_append_right taken (by rw[List.mem_singleton,he])) (h1 h (by omega) b c).2
    ·simp only[if_neg e,if_neg e'] at he
     exact h2 h h' (by omega) b c (by omega) b' c' he
noncomputable def qiF(o:qp)(gs:List Nat)(g:Nat)(taken:List Int):Bool:=@decide (qjE o gs g taken) (Classical.propDecidable _)
theorem qjc{o:qp}{gs:List Nat}{g:Nat}{taken:List Int}:qiF o gs g taken=true↔qjE o gs g taken:=@decide_eq_true_iff _ (Classical.propDecidable _)
theorem qn3{o:qp}{gs:List Nat}{g:Nat}{taken:List Int}{b:Bool}(h:b=true↔qjE o gs g taken):b=qiF o gs g taken:=by
 rw[Bool.eq_iff_iff,qjc];exact h
theorem qys(n:Nat)(o:qp)(gs:List Nat)(hk:Okay9 o)(hl:gs.length≤o.2.2.2.2.1.length)(hn:100≤n):∀(d g k:Nat) (taken:List Int),g+d=o.2.2.2.1.length→d≤k→taken.length≤g →
  qdW (qbw n (k+1)) (o,(nI gs,((g:Int),(taken,()))))=some (qiF o gs g taken,()):=by
 obtain ⟨_,o2,o3,_,o5,o6,o7,_⟩:=hk.oth'
 have hC:∀c,c∈o.2.2.2.2.1→0≤c∧c≤20:=fun c hc=>by have:=o6 c hc;omega
 intro d
 induction d with
 | zero =>
  intro g k taken hg hkk ht
  rw[qhr,qhR]
  have:g=o.2.2.2.1.length:=by omega
  subst this
  rw[show iEq (o.2.2.2.1.length:Int) (o.2.2.2.1.length:Int)=true by unfold iEq;simp]
  rw[← qn3 (b:=true) ⟨fun _=>qvb o gs taken,fun _=>rfl⟩]
  rfl
 | succ d ih =>
  intro g k taken hg hkk ht
  obtain ⟨k,rfl⟩:∃j,k=j+1:=⟨k-1,by omega⟩
  have hgl:g<o.2.2.2.1.length:=by omega
  have hb:=qiB gs g gs.length
  rw[qhr,qhR]
  rw[show iEq (g:Int) (o.2.2.2.1.length:Int)=false from beq_eq_false_iff_ne.2 (by omega)]
  simp only[cond_false,qrB n o gs g hC hl (show gs.length≤50 by omega) hn,Option.bind_some]
  by_cases h0:ldC gs g gs.length=0
  ·rw[show iEq (ldC gs g gs.length) 0=true by rw[h0];rfl]
   simp only[cond_true,qD (show g<9223372036854775807 by omega),ih (g+1) k taken (by omega) (by omega) (by omega),Option.bind_some]
   rw[show qiF o gs g taken=qiF o gs (g+1) taken from (qn3 (b:=qiF o gs (g+1) taken) (g:=g) (by rw[qjc];exact (qtZ h0).symm)).symm]
  ·rw[show iEq (ldC gs g gs.length) 0=false from beq_eq_false_iff_ne.2 h0]
   simp only[cond_false]
   have hp:0<ldC gs g gs.length:=by omega
   have:=qmj (qgi n (qbw n (k+1))) o.2.2.2.2.2.2.length (fun r=>(nI gs,((g:Int),(taken,(ldC gs g gs.length,((r:Int),(o,()))))))) (fun r=>!(!decide ((r:Int)∈taken)&&(qfF o r (ldC gs g gs.length)&&qiF o gs (g+1) (taken++[(r:Int)])))) (some (Sum.inl ())) (fun _=>some (Sum.inr (true,()))) (fun r hr _ rec=>by
    rw[qhq]
    have happ:List.append (List.append [] taken) ((r:Int)::[])=taken++[(r:Int)]:=by
     show ([]++taken)++[(r:Int)]=_
     rw[List.nil_append]
    have hle2:(List.append [] taken).length=taken.length:=by show ([]++taken).length=_;rw[List.nil_append]
    simp only[iLtN hr,cond_true,qtF n taken (r:Int) (show taken.length≤50 by omega) hn,qsi n o r (ldC gs g gs.length) hk hr (by omega) hn,Option.bind_some,bleT (nAdd (0:Nat) taken.length) 17592186044416 (by show 0+taken.length≤_;omega),bleT (nAdd (List.append [] taken).length 1) 17592186044416 (by show (List.append [] taken).length+1≤_;omega),happ,qD (show g<9223372036854775807 by omega),qD (show r<9223372036854775807 by omega),ih (g+1) k (taken++[(r:Int)]) (by omega) (by omega) (by rw[List.length_append];simp;omega)]
    cases decide ((r:Int)∈taken)<;>cases qfF o r (ldC gs g gs.length)<;>cases qiF o gs (g+1) (taken++[(r:Int)])<;>rfl) (fun _ rec=>by
     rw[qhq]
     simp only[qcO (Nat.le_refl o.2.2.2.2.2.2.length),cond_false]) n (by omega)
   rw[show ((0:Nat):Int)=0 from rfl] at this
   rcases this with ⟨a,b⟩ | ⟨a,r,_,b⟩
   ·rw[b]
    rw[← qn3 (b:=false) ?_]
    ·rfl
    ·rw[qq7 hgl hp]
     constructor
     ·intro h;cases h
     ·rintro ⟨r,h1,h2,h3⟩
      have hr:=(qkD.1 h2).1.1
      have:=List.all_eq_true.1 a r (List.mem_range.2 hr)
      rw[decide_eq_false h1,h2,qjc.2 h3] at this
      cases this
   ·rw[b]
    rw[← qn3 (b:=true) ?_]
    ·rfl
    ·rw[qq7 hgl hp]
     rw[List.all_eq_false] at a
     obtain ⟨r,_,hr⟩:=a
     simp only[Bool.not_eq_true',Bool.not_eq_false',Bool.and_eq_true,decide_eq_false_iff_not] at hr
     have hr':(!decide ((r:Int)∈taken)&&(qfF o r (ldC gs g gs.length)&&qiF o gs (g+1) (taken++[(r:Int)])))=true:=by
      cases hx:(!decide ((r:Int)∈taken)&&(qfF o r (ldC gs g gs.length)&&qiF o gs (g+1) (taken++[(r:Int)]))) with
      | true=>rfl
      | false=>simp[hx] at hr
     rw[Bool.and_eq_true,Bool.and_eq_true,Bool.not_eq_true',decide_eq_false_iff_not,qjc] at hr'
     exact ⟨fun _=>⟨r,hr'⟩,fun _=>rfl⟩
theorem qyt(n:Nat)(o:qp)(gs:List Nat)(hk:Okay9 o)(hl:gs.length≤o.2.2.2.2.1.length)(hn:100≤n):qgU n (o,(nI gs,((0:Int),(([]:List Int),()))))=some (qiF o gs 0 [],()):=by
 obtain ⟨_,o2,o3,_⟩:=hk.oth'
 rw[qlY]
 obtain ⟨m,hm⟩:∃m,n=m+1:=⟨n-1,by omega⟩
 have:=qys n o gs hk hl hn o.2.2.2.1.length 0 m [] (by omega) (by omega) (by simp)
 rw[← hm] at this
 exact this
theorem qpe(n:Nat)(o:qp)(gs:List Nat):qjE o gs 0 []↔∃rep,RopedOk o (cnts (tO n o) gs) rep:=by
 constructor
 ·rintro ⟨f,h1,h2⟩
  have hat:∀g,g<o.2.2.2.1.length→((List.range o.2.2.2.1.length).map fun g=>if 0<ldC gs g gs.length then (f g:Int) else -1)[g]?=some (if 0<ldC gs g gs.length then (f g:Int) else -1):=fun g hg=>by
   rw[List.getElem?_map,List.getElem?_range hg];rfl
  refine ⟨(List.range o.2.2.2.1.length).map fun g=>if 0<ldC gs g gs.length then (f g:Int) else -1,by simp,fun g hg h0=>?_,fun g hg hp=>?_,fun g h hg hh hp hq he=>?_⟩
  ·rw[qcA n o gs hg] at h0
   rw[hat g hg,if_neg (by omega)]
  ·rw[qcA n o gs hg] at hp ⊢
   obtain ⟨a,_⟩:=h1 g (Nat.zero_le _) hg hp
   rw[qkD] at a
   exact ⟨f g,by rw[hat g hg,if_pos hp],a.1,a.2⟩
  ·rw[qcA n o gs hg] at hp
   rw[qcA n o gs hh] at hq
   rw[hat g hg,hat h hh,if_pos hp,if_pos hq] at he
   injection he with he
   exact h2 g h (Nat.zero_le _) hg hp (Nat.zero_le _) hh hq (by omega)
 ·rintro ⟨rep,h⟩
  have hy:∀g,g<o.2.2.2.1.length→0<ldC gs g gs.length→∃r:Nat,rep[g]?=some (r:Int)∧(atI rep g).toNat=r∧qfF o r (ldC gs g gs.length)=true:=fun g hg hp=>by
   rw[← qcA n o gs hg] at hp ⊢
   obtain ⟨r,a,b,c⟩:=h.yes g hg hp
   refine ⟨r,a,?_,qkD.2 ⟨b,c⟩⟩
   unfold atI
   rw[a]
   simp
  refine ⟨fun g=>(atI rep g).toNat,fun g _ hg hp=>?_,fun g g' _ hg hp _ hg' hp' he=>?_⟩
  ·obtain ⟨r,_,b,c⟩:=hy g hg hp
   simp only[b]
   exact ⟨c,by simp⟩
  ·obtain ⟨r,a,b,c⟩:=hy g hg hp
   obtain ⟨r',a',b',c'⟩:=hy g' hg' hp'
   simp only[b,b'] at he
   exact h.own g g' hg hg' (by rw[qcA n o gs hg];exact hp) (by rw[qcA n o gs hg'];exact hp') (by rw[a,a',he])
end Go.Proofs.Ytbdockhccdkdiaa
