/- Texts Dt5, Dt6 in one. -/
import Derived.Test.YtfnflenkeljkiaaGreatTa
import Derived.Test.YtfnflenkeljkiaaGreatTb
/- Ropes: the ropes that the program gives: they serve, and if any serve there are some. -/
set_option linter.constructorNameAsVariable false
set_option linter.unusedSimpArgs false
set_option linter.unusedVariables false
set_option linter.unusedSectionVars false
namespace Go.Proofs.YtfnflenkeljkiaaGreat
open Go Go.Proofs Go.RowKit
set_option maxHeartbeats 1000000
def atI(l:List Int)(g:Nat):Int:=(l[g]?).getD 0
theorem qer{l:List Int}{g:Nat}(h:g<l.length):l[g]?=some (atI l g)∧l[g]=atI l g:=by
 unfold atI;rw[List.getElem?_eq_getElem h];exact ⟨rfl,rfl⟩
def qeY(l:List Int):Nat→List Int
 | 0=>[]
 | k+1=>cond (iGt (atI l k) 0) (qeY l k++[(k:Int)]) (qeY l k)
theorem qAL{a b:Nat}(h:a<b):iGe (a:Int) (b:Int)=false:=decide_eq_false (by omega)
theorem qnd(l:List Int):∀k,(qeY l k).length≤k
 | 0=>Nat.le_refl _
 | k+1=>by
  have:=qnd l k
  unfold qeY
  cases iGt (atI l k) 0<;>simp<;>omega
theorem qne(l:List Int)(x:Int):∀k,(x∈qeY l k↔∃i:Nat,x=i∧i<k∧0<atI l i)
 | 0=>by
  constructor
  ·intro h;cases h
  ·rintro ⟨i,_,h,_⟩;omega
 | k+1=>by
  have ih:=qne l x k
  unfold qeY
  by_cases hp:0<atI l k
  ·rw[show iGt (atI l k) 0=true from decide_eq_true hp]
   simp only[cond_true,List.mem_append,List.mem_singleton,ih]
   constructor
   ·rintro (⟨i,a,b,c⟩ | h)
    ·exact ⟨i,a,by omega,c⟩
    ·exact ⟨k,h,by omega,hp⟩
   ·rintro ⟨i,a,b,c⟩
    by_cases hik:i=k
    ·subst hik;exact .inr a
    ·exact .inl ⟨i,a,by omega,c⟩
  ·rw[show iGt (atI l k) 0=false from decide_eq_false hp]
   simp only[cond_false,ih]
   constructor
   ·rintro ⟨i,a,b,c⟩;exact ⟨i,a,by omega,c⟩
   ·rintro ⟨i,a,b,c⟩
    by_cases hik:i=k
    ·subst hik;exact absurd c hp
    ·exact ⟨i,a,by omega,c⟩
theorem qq7(l:List Int):∀k,(qeY l k).Nodup
 | 0=>List.nodup_nil
 | k+1=>by
  have ih:=qq7 l k
  unfold qeY
  cases iGt (atI l k) 0 with
  | false=>exact ih
  | true =>
   simp only[cond_true]
   rw[List.nodup_append]
   refine ⟨ih,by simp,fun a ha b hb=>?_⟩
   rw[List.mem_singleton] at hb
   subst hb
   obtain ⟨i,h1,h2,_⟩:=(qne l a k).1 ha
   omega
def ordS(l:List Int):List Int:=(qju (fun g=>-(atI l g.toNat)) [] (qeY l l.length)).reverse
theorem qp5(l:List Int):(ordS l).Perm (qeY l l.length):=by
 have:=qlX (fun g=>-(atI l g.toNat)) (qeY l l.length) []
 rw[List.nil_append] at this
 exact (List.reverse_perm _).trans this
theorem qvr(l:List Int):(ordS l).Pairwise fun a b=>atI l b.toNat≤atI l a.toNat:=by
 unfold ordS
 rw[List.pairwise_reverse]
 refine List.Pairwise.imp ?_ (qmr (fun g=>-(atI l g.toNat)) (qeY l l.length) (Q:=[]) List.Pairwise.nil)
 intro a b h
 omega
theorem qjA(l:List Int)(x:Int):x∈ordS l↔∃i:Nat,x=i∧i<l.length∧0<atI l i:=by
 rw[(qp5 l).mem_iff,qne]
theorem qsl(l:List Int):(ordS l).Nodup:=(qp5 l).nodup_iff.2 (qq7 l _)
theorem qzj(l:List Int):(ordS l).length≤l.length:=by rw[(qp5 l).length_eq];exact qnd l _
def qes(G:Nat)(fit ord:List Int):Nat→List Int
 | 0=>List.replicate G (-1)
 | k+1=>(qes G fit ord k).set (atI ord k).toNat (atI fit k)
theorem qj1(G:Nat)(fit ord:List Int):∀k,(qes G fit ord k).length=G
 | 0=>by unfold qes;simp
 | k+1=>by unfold qes;rw[List.length_set];exact qj1 G fit ord k
theorem quZ{G:Nat}{fit ord:List Int}(hnd:ord.Nodup)(hr:∀x,x∈ord→0≤x∧x<(G:Int)):∀k,k≤ord.length→(∀i,i<k→(qes G fit ord k)[(atI ord i).toNat]?=some (atI fit i))∧(∀g:Nat,g<G→(∀i,i<k→atI ord i≠(g:Int))→(qes G fit ord k)[g]?=some (-1))
 | 0,_=>⟨fun i h=>by omega,fun g hg _=>by unfold qes;rw[List.getElem?_replicate_of_lt hg]⟩
 | k+1,hk=>by
  obtain ⟨h1,h2⟩:=quZ hnd hr k (by omega)
  have hm:∀i,i<ord.length→atI ord i∈ord:=fun i hi=>by rw[← (qer hi).2];exact List.getElem_mem hi
  have hne:∀i,i<k→atI ord i≠atI ord k:=fun i hi=>by
   rw[← (qer (show i<ord.length by omega)).2,← (qer (show k<ord.length by omega)).2]
   exact List.pairwise_iff_getElem.1 hnd i k (by omega) (by omega) hi
  have hk0:=hr _ (hm k (by omega))
  have hlen:=qj1 G fit ord k
  refine ⟨fun i hi=>?_,fun g hg hi=>?_⟩
  ·unfold qes
   rw[List.getElem?_set]
   by_cases hik:i=k
   ·subst hik
    rw[if_pos rfl,if_pos (by omega)]
   ·have hi0:=hr _ (hm i (by omega))
    have:=hne i (by omega)
    rw[if_neg (by omega)]
    exact h1 i (by omega)
  ·have:=hi k (by omega)
   unfold qes
   rw[List.getElem?_set,if_neg (by omega)]
   exact h2 g hg fun i h=>hi i (by omega)
structure RopedOk (o:qz) (l rep:List Int):Prop where
 len:rep.length=o.2.2.2.1.length
 no:∀g,g<o.2.2.2.1.length→atI l g=0→rep[g]?=some (-1)
 yes:∀g,g<o.2.2.2.1.length→0<atI l g→∃r:Nat,rep[g]?=some (r:Int)∧(∃h:r<o.2.2.2.2.2.2.length,fits o o.2.2.2.2.2.2[r]=true)∧o.2.2.1*atI l g≤qcV o r
 own:∀g h,g<o.2.2.2.1.length→h<o.2.2.2.1.length→0<atI l g→0<atI l h→rep[g]?=rep[h]?→g=h
theorem qxG(n:Nat)(o:qz)(l:List Int)(hk:Okay9 o)(hl:l.length=o.2.2.2.1.length)(hb:∀c,c∈l→0≤c∧c≤6)(hn:2000≤n) :
  (qkU (qcV o) (fun g=>o.2.2.1*atI l g.toNat) (fitS o) (ordS l)∧qcQ n ((o,fitS o),(l,()))=some (qes o.2.2.2.1.length (fitS o) (ordS l) (ordS l).length,(true,(l,())))) ∨
  (¬qkU (qcV o) (fun g=>o.2.2.1*atI l g.toNat) (fitS o) (ordS l)∧qcQ n ((o,fitS o),(l,()))=some ([],(false,(l,())))):=by
 obtain ⟨_,o2,o3,_⟩:=hk.oth'
 have hrep:qS n (((Int.negSucc (0:Nat))::[]),((o.2.2.2.1.length:Int),()))=some (List.replicate o.2.2.2.1.length (-1),()):=by
  obtain ⟨m,rfl⟩:∃m,n=m+8:=⟨n-8,by omega⟩
  exact qxB m _ o3
 have l0:=forN (qcH n) l.length (fun k=>((o,fitS o),((l.length:Int),((k:Int),(l,(List.replicate o.2.2.2.1.length (-1),(qeY l k,(((0:Nat),l.length),())))))))) (some ((o,fitS o),(l,(List.replicate o.2.2.2.1.length (-1),(qeY l l.length,()))))) (fun k hkl rec=>by
  have hlen:=qnd l k
  rw[qcT]
  simp only[iLtN hkl,cond_true,List.drop_zero,List.take_length,qr l hkl,Option.bind_some,show nAdd 0 (Int.toNat (k:Int))=k from Nat.zero_add k,(qer hkl).1,bleT (nAdd (qeY l k).length 1) 17592186044416 (by show (qeY l k).length+1≤_;omega),qQ (show k<9223372036854775807 by omega)]
  conv=>rhs;unfold qeY
  cases iGt (atI l k) 0<;>rfl) (fun rec=>by
   rw[qcT]
   simp only[qcu (Nat.le_refl l.length),cond_false]) n (by omega)
 have hD:∀x,x∈qeY l l.length→0≤x∧x<(l.length:Int):=fun x hx=>by
  obtain ⟨i,h1,h2,_⟩:=(qne l x _).1 hx
  omega
 have hs:=quR n (fun g=>-((l[g.toNat]?).getD 0)) (fun g=>0≤g∧g<(l.length:Int)) (l,()) (fun m g h hg hh=>by rw[rcmp m l g h hg hh,qru]) (qeY l l.length) hD (by have:=qnd l l.length;omega) hn
 have hs2:qbe n (qeY l l.length,(l,()))=some (ordS l,(l,())):=hs
 have hol:=qzj l
 have hom:∀k (h:k<(ordS l).length),∃i:Nat,(ordS l)[k]=i∧i<l.length∧0<atI l i:=fun k h=>(qjA l _).1 (List.getElem_mem h)
 have l1:=qoQ (qbr n) (ordS l).length (fun k=>((o,fitS o),(ordS l,(((ordS l).length:Int),((k:Int),(l,(qes o.2.2.2.1.length (fitS o) (ordS l) k,()))))))) (fun k=>decide (k<(fitS o).length∧o.2.2.1*atI l (atI (ordS l) k).toNat≤qcV o (atI (fitS o) k))) (some (Sum.inl (l,(qes o.2.2.2.1.length (fitS o) (ordS l) (ordS l).length,())))) (fun _=>some (Sum.inr ([],(false,(l,()))))) (fun k hkl hj rec=>by
  obtain ⟨i,hi,hil,hip⟩:=hom k hkl
  have ei:atI (ordS l) k=i:=by rw[← (qer hkl).2];exact hi
  rw[qcU]
  simp only[iLtN hkl,cond_true,qr (ordS l) hkl,Option.bind_some,hi]
  by_cases hf:k<(fitS o).length
  ·have hfr:=qoU o _ (List.getElem_mem hf)
   obtain ⟨z,hz1,hz2⟩:=qll hfr
   have ef:atI (fitS o) k=(fitS o)[k]:=(qer hf).2.symm
   have hc:=hb _ (List.getElem_mem hil)
   have e1:l[i]=atI l i:=(qer hil).2
   have hmul:iW (iMul o.2.2.1 (atI l i))=o.2.2.1*atI l i:=by
    rw[← e1]
    have h1:=Int.mul_le_mul o2.2 hc.2 hc.1 (by omega)
    have h0:0≤o.2.2.1*l[i]:=Int.mul_nonneg (by omega) hc.1
    exact qfF (by show _≤o.2.2.1*l[i];omega) (by show o.2.2.1*l[i]≤_;omega)
   have hrl:qcV o (fitS o)[k]=z.2.2.1:=by unfold qcV;rw[hz2];rfl
   have hrep1:lat (qes o.2.2.2.1.length (fitS o) (ordS l) k) (i:Int)=some ((qes o.2.2.2.1.length (fitS o) (ordS l) k)[i]'(by rw[qj1];omega)):=qr _ (by rw[qj1];omega)
   have hrep2:(qes o.2.2.2.1.length (fitS o) (ordS l) k)[i]?=some ((qes o.2.2.2.1.length (fitS o) (ordS l) k)[i]'(by rw[qj1];omega)):=List.getElem?_eq_getElem _
   simp only[qAL hf,cond_false,qr (fitS o) hf,Option.bind_some,hz1,qr l hil,Int.toNat_natCast,(qer hil).1,hmul,hrep1,hrep2,qQ (show k<9223372036854775807 by omega)]
   rw[ei,ef,hrl,Int.toNat_natCast]
   by_cases hle:o.2.2.1*atI l i≤z.2.2.1
   ·rw[show iLt z.2.2.1 (o.2.2.1*atI l i)=false from decide_eq_false (by omega),decide_eq_true ⟨hf,hle⟩]
    have er:qes o.2.2.2.1.length (fitS o) (ordS l) (k+1)=(qes o.2.2.2.1.length (fitS o) (ordS l) k).set i (fitS o)[k]:=by
     conv=>lhs;unfold qes
     rw[ei,ef,Int.toNat_natCast]
    rw[er]
    rfl
   ·rw[show iLt z.2.2.1 (o.2.2.1*atI l i)=true from decide_eq_true (by omega),decide_eq_false (fun h=>hle h.2)]
    rfl
  ·rw[decide_eq_false (fun h=>hf h.1)]
   simp only[show iGe (k:Int) ((fitS o).length:Int)=true from decide_eq_true (by omega),cond_true]
   rfl) (fun _ rec=>by
   rw[qcU]
   simp only[qcu (Nat.le_refl (ordS l).length),cond_false]) n (by omega)
 have heq:(List.range (ordS l).length).all (fun k=>decide (k<(fitS o).length∧o.2.2.1*atI l (atI (ordS l) k).toNat≤qcV o (atI (fitS o) k)))=true↔qkU (qcV o) (fun g=>o.2.2.1*atI l g.toNat) (fitS o) (ordS l):=by
  rw[List.all_eq_true]
  constructor
  ·intro h i hi
   have:=h i (List.mem_range.2 hi)
   rw[decide_eq_true_eq] at this
   refine ⟨this.1,?_⟩
   rw[(qer hi).2,(qer this.1).2]
   exact this.2
  ·intro h i hi
   rw[List.mem_range] at hi
   obtain ⟨h1,h2⟩:=h i hi
   rw[decide_eq_true_eq]
   refine ⟨h1,?_⟩
   rw[(qer hi).2,(qer h1).2] at h2
   exact h2
 rw[qgW]
 simp only[hrep,Option.bind_some]
 have e0:qg n (qcH n) ((o,fitS o),((l.length:Int),((0:Int),(l,(List.replicate o.2.2.2.1.length (-1),([],(((0:Nat),l.length),())))))))=some ((o,fitS o),(l,(List.replicate o.2.2.2.1.length (-1),(qeY l l.length,())))):=l0
 rw[e0]
 simp only[Option.bind_some,hs2]
 rcases l1 with ⟨a,b⟩ | ⟨a,k,_,b⟩
 ·refine .inl ⟨heq.1 a,?_⟩
  have b2:qg n (qbr n) ((o,fitS o),(ordS l,(((ordS l).length:Int),((0:Int),(l,(List.replicate o.2.2.2.1.length (-1),()))))))=some (Sum.inl (l,(qes o.2.2.2.1.length (fitS o) (ordS l) (ordS l).length,()))):=b
  rw[b2]
  rfl
 ·refine .inr ⟨fun h=>Bool.noConfusion ((heq.2 h).symm.trans a),?_⟩
  have b2:qg n (qbr n) ((o,fitS o),(ordS l,(((ordS l).length:Int),((0:Int),(l,(List.replicate o.2.2.2.1.length (-1),()))))))=some (Sum.inr ([],(false,(l,())))):=b
  rw[b2]
  rfl
theorem qzk{o:qz}{l:List Int}(hl:l.length=o.2.2.2.1.length)(hb:∀c,c∈l→0≤c∧c≤6)(hg:qkU (qcV o) (fun g=>o.2.2.1*atI l g.toNat) (fitS o) (ordS l)):RopedOk o l (qes o.2.2.2.1.length (fitS o) (ordS l) (ordS l).length):=by
 have hr:∀x,x∈ordS l→0≤x∧x<(o.2.2.2.1.length:Int):=fun x hx=>by
  obtain ⟨i,h1,h2,_⟩:=(qjA l x).1 hx
  omega
 obtain ⟨h1,h2⟩:=quZ (G:=o.2.2.2.1.length) (fit:=fitS o) (qsl l) hr (ordS l).length (Nat.le_refl _)
 have place:∀g:Nat,g<o.2.2.2.1.length→0<atI l g→∃i,∃h:i<(ordS l).length,∃h':i<(fitS o).length,atI (ordS l) i=(g:Int)∧(qes o.2.2.2.1.length (fitS o) (ordS l) (ordS l).length)[g]?=some (fitS o)[i]∧o.2.2.1*atI l g≤qcV o (fitS o)[i]:=fun g hgl hp=>by
  obtain ⟨i,hi,he⟩:=List.getElem_of_mem ((qjA l (g:Int)).2 ⟨g,rfl,by omega,hp⟩)
  obtain ⟨hf,hle⟩:=hg i hi
  have ea:atI (ordS l) i=(g:Int):=by rw[← (qer hi).2];exact he
  have:=h1 i hi
  rw[ea,Int.toNat_natCast,← (qer hf).2] at this
  have hle':o.2.2.1*atI l ((ordS l)[i]).toNat≤qcV o (fitS o)[i]:=hle
  rw[he,Int.toNat_natCast] at hle'
  exact ⟨i,hi,hf,ea,this,hle'⟩
 refine ⟨qj1 _ _ _ _,fun g hgl h0=>?_,fun g hgl hp=>?_,fun g h hgl hhl hp hq he=>?_⟩
 ·refine h2 g hgl fun i hi he=>?_
  have hm:atI (ordS l) i∈ordS l:=by rw[← (qer hi).2];exact List.getElem_mem hi
  obtain ⟨j,a,b,c⟩:=(qjA l _).1 hm
  have:j=g:=by omega
  subst this
  omega
 ·obtain ⟨i,hi,hf,_,a,b⟩:=place g hgl hp
  obtain ⟨r,hr1,hr2⟩:=(qrw o _).1 (List.getElem_mem hf)
  exact ⟨r,by rw[a,hr1],hr2,by rw[← hr1];exact b⟩
 ·obtain ⟨i,hi,hf,ei,a,_⟩:=place g hgl hp
  obtain ⟨j,hj,hf',ej,b,_⟩:=place h hhl hq
  rw[a,b] at he
  injection he with he
  have hij:i=j:=by
   rcases Nat.lt_trichotomy i j with hlt | heq | hlt
   ·exact absurd he (List.pairwise_iff_getElem.1 (qsi o) i j hf hf' hlt)
   ·exact heq
   ·exact absurd he.symm (List.pairwise_iff_getElem.1 (qsi o) j i hf' hf hlt)
  subst hij
  omega
theorem qxH{o:qz}{l rep:List Int}(hk:Okay9 o)(hl:l.length=o.2.2.2.1.length)(h:RopedOk o l rep):qkU (qcV o) (fun g=>o.2.2.1*atI l g.toNat) (fitS o) (ordS l):=by
 obtain ⟨_,o2,_⟩:=hk.oth'
 refine qsk (qvq o) ?_ (qsl l) (fun g=>atI rep g.toNat) (fun g hg=>?_) (fun g h hg hh he=>?_)
 ·refine List.Pairwise.imp ?_ (qvr l)
  intro a b hab
  exact Int.mul_le_mul_of_nonneg_left hab (by omega)
 ·obtain ⟨i,rfl,hi,hp⟩:=(qjA l g).1 hg
  obtain ⟨r,a,b,c⟩:=h.yes i (by omega) hp
  rw[Int.toNat_natCast]
  have er:atI rep i=r:=by unfold atI;rw[a];rfl
  rw[er]
  exact ⟨(qrw o _).2 ⟨r,rfl,b⟩,c⟩
 ·obtain ⟨i,rfl,hi,hp⟩:=(qjA l g).1 hg
  obtain ⟨j,rfl,hj,hq⟩:=(qjA l h).1 hh
  rw[Int.toNat_natCast,Int.toNat_natCast] at he
  obtain ⟨r,a,_⟩:=h.yes i (by omega) hp
  obtain ⟨s,b,_⟩:=h.yes j (by omega) hq
  have er:atI rep i=r:=by unfold atI;rw[a];rfl
  have es:atI rep j=s:=by unfold atI;rw[b];rfl
  rw[er,es] at he
  have:=h.own i j (by omega) (by omega) hp hq (by rw[a,b,he])
  rw[this]
def qgD(o:qz):OutX:=(o,fitS o)
theorem qAM(n:Nat)(o:qz)(l:List Int)(hk:Okay9 o)(hl:l.length=o.2.2.2.1.length)(hb:∀c,c∈l→0≤c∧c≤6)(hn:2000≤n):(∀rep,tmRp n (qgD o) l=some rep→RopedOk o l rep)∧((∃rep,RopedOk o l rep)→∃rep,tmRp n (qgD o) l=some rep):=by
 rcases qxG n o l hk hl hb hn with ⟨h1,h2⟩ | ⟨h1,h2⟩
 ·have e:tmRp n (qgD o) l=some (qes o.2.2.2.1.length (fitS o) (ordS l) (ordS l).length):=(qsS (x:=qgD o) ((qoP n (qgD o) l).trans h2)).trans rfl
  rw[e]
  refine ⟨fun rep h=>?_,fun _=>⟨_,rfl⟩⟩
  injection h with h
  subst h
  exact qzk hl hb h1
 ·have e:tmRp n (qgD o) l=none:=(qsS (x:=qgD o) ((qoP n (qgD o) l).trans h2)).trans rfl
  rw[e]
  exact ⟨fun rep h=>(by cases h),fun⟨rep,h⟩=>absurd (qxH hk hl h) h1⟩
def nI(l:List Nat):List Int:=l.map fun g:Nat=>(g:Int)
theorem qu0(l:List Nat):(nI l).length=l.length:=by unfold nI;simp
theorem qAN(l:List Nat){k:Nat}(h:k<l.length):lat (nI l) (k:Int)=some (l[k]:Int):=by
 rw[qnR];unfold nI;rw[List.getElem?_map,List.getElem?_eq_getElem h];rfl
theorem qAO(l:List Nat)(g:Nat):(g:Int)∈nI l↔g∈l:=by
 unfold nI
 rw[List.mem_map]
 constructor
 ·rintro ⟨a,h1,h2⟩
  have:a=g:=by omega
  rwa [← this]
 ·intro h;exact ⟨g,h,rfl⟩
theorem qxI{C:List Int}(hC:∀c,c∈C→0≤c∧c≤20)(gs:List Nat)(g:Nat):∀k,0≤ldP C gs g k∧ldP C gs g k≤20*k
 | 0=>by unfold ldP;omega
 | k+1=>by
  have:=qxI hC gs g k
  have h0:0≤(C[k]?).getD 0∧(C[k]?).getD 0≤20:=by
   cases hc:C[k]? with
   | none=>exact ⟨by decide,by decide⟩
   | some c=>exact hC c (List.mem_of_getElem? hc)
  show 0≤ldP C gs g k+(if gs[k]?=some g then (C[k]?).getD 0 else 0)∧ldP C gs g k+(if gs[k]?=some g then (C[k]?).getD 0 else 0)≤_
  split<;>omega
theorem qAi(n:Nat)(o:qz)(gs:List Nat)(g:Nat)(hC:∀c,c∈o.2.2.2.2.1→0≤c∧c≤20)(hl:gs.length≤o.2.2.2.2.1.length)(h6:gs.length≤50)(hn:100≤n):qh1 n (o,(nI gs,((g:Int),())))=some (ldC gs g gs.length,(ldP o.2.2.2.2.1 gs g gs.length,())):=by
 rw[qnt]
 have:=forN (qfp n) gs.length (fun k=>(nI gs,((g:Int),(ldC gs g k,(ldP o.2.2.2.2.1 gs g k,((k:Int),(o,()))))))) (some (ldC gs g gs.length,(ldP o.2.2.2.2.1 gs g gs.length,()))) (fun k hk rec=>by
  have b1:=qlo gs g k
  have b2:=qxI hC gs g k
  have hkC:k<o.2.2.2.2.1.length:=by omega
  have b3:=hC _ (List.getElem_mem hkC)
  rw[qiH]
  have e1:ldC gs g (k+1)=ldC gs g k+(if gs[k]=g then 1 else 0):=by
   show ldC gs g k+(if gs[k]?=some g then 1 else 0)=_
   rw[List.getElem?_eq_getElem hk]
   simp
  have e2:ldP o.2.2.2.2.1 gs g (k+1)=ldP o.2.2.2.2.1 gs g k+(if gs[k]=g then o.2.2.2.2.1[k] else 0):=by
   show ldP o.2.2.2.2.1 gs g k+(if gs[k]?=some g then (o.2.2.2.2.1[k]?).getD 0 else 0)=_
   rw[List.getElem?_eq_getElem hk,List.getElem?_eq_getElem hkC]
   simp
  simp only[qu0,iLtN hk,cond_true,qAN gs hk,Option.bind_some,qr o.2.2.2.2.1 hkC,qQ (show k<9223372036854775807 by omega)]
  rw[e1,e2]
  by_cases hg:gs[k]=g
  ·rw[if_pos hg,if_pos hg,show iEq (gs[k]:Int) (g:Int)=true by rw[hg];unfold iEq;simp]
   simp only[cond_true]
   rw[show iW (iAdd (ldC gs g k) 1)=ldC gs g k+1 from qfF (by unfold iAdd;omega) (by unfold iAdd;omega),show iW (iAdd (ldP o.2.2.2.2.1 gs g k) o.2.2.2.2.1[k])=ldP o.2.2.2.2.1 gs g k+o.2.2.2.2.1[k] from qfF (by unfold iAdd;omega) (by unfold iAdd;omega)]
  ·rw[if_neg hg,if_neg hg,show iEq (gs[k]:Int) (g:Int)=false from beq_eq_false_iff_ne.2 (by omega),Int.add_zero,Int.add_zero]
   rfl) (fun rec=>by
   rw[qiH]
   simp only[qu0,qcu (Nat.le_refl gs.length),cond_false]) n (by omega)
 have e0:qg n (qfp n) (nI gs,((g:Int),((0:Int),((0:Int),((0:Int),(o,()))))))=some (ldC gs g gs.length,(ldP o.2.2.2.2.1 gs g gs.length,())):=this
 rw[e0]
 rfl
def ql1(o:qz)(g:Nat):Bool:=match o.2.2.2.1[g]? with
 | some z=>decide (o.2.1≤z.1)&&decide (o.1≤z.2.1)
 | none=>false
theorem qxJ(n:Nat)(o:qz)(g:Nat)(hg:g<o.2.2.2.1.length):qhy n (o,((g:Int),()))=some (ql1 o g,()):=by
 rw[qmL]
 simp only[qr o.2.2.2.1 hg,Option.bind_some]
 unfold ql1
 rw[List.getElem?_eq_getElem hg]
 show cond (decide (o.2.2.2.1[g].1≥o.2.1)) (some (decide (o.2.2.2.1[g].2.1≥o.1),())) _=some (decide (o.2.1≤o.2.2.2.1[g].1)&&decide (o.1≤o.2.2.2.1[g].2.1),())
 rw[show decide (o.2.2.2.1[g].1≥o.2.1)=decide (o.2.1≤o.2.2.2.1[g].1) from rfl,show decide (o.2.2.2.1[g].2.1≥o.1)=decide (o.1≤o.2.2.2.1[g].2.1) from rfl]
 cases decide (o.2.1≤o.2.2.2.1[g].1)<;>rfl
theorem qxK(n:Nat)(o:qz)(g:Nat)(hg:g<o.2.2.2.1.length):qfk n (qgD o,((g:Int),()))=some (ql1 o g,()):=by
 rw[qiy]
 have hl:lat (qgD o).1.2.2.2.1 (g:Int)=some o.2.2.2.1[g]:=qr o.2.2.2.1 hg
 simp only[hl,Option.bind_some]
 unfold ql1
 rw[List.getElem?_eq_getElem hg]
 show cond (decide (o.2.2.2.1[g].1≥o.2.1)) (some (decide (o.2.2.2.1[g].2.1≥o.1),())) _=some (decide (o.2.1≤o.2.2.2.1[g].1)&&decide (o.1≤o.2.2.2.1[g].2.1),())
 rw[show decide (o.2.2.2.1[g].1≥o.2.1)=decide (o.2.1≤o.2.2.2.1[g].1) from rfl,show decide (o.2.2.2.1[g].2.1≥o.1)=decide (o.1≤o.2.2.2.1[g].2.1) from rfl]
 cases decide (o.2.1≤o.2.2.2.1[g].1)<;>rfl
noncomputable def tO(n:Nat)(o:qz):TmO:=tmO n (qgD o)
theorem tO_G(n:Nat)(o:qz):(tO n o).G=o.2.2.2.1.length:=rfl
theorem qzJ(n:Nat)(o:qz):(tO n o).clients=o.2.2.2.2.1:=rfl
theorem qxL(n:Nat)(o:qz){g:Nat}(hg:g<o.2.2.2.1.length):(tO n o).pts g=o.2.2.2.1[g].2.2:=by
 show (((o.2.2.2.1)[g]?).map fun z=>z.2.2).getD 0=_
 rw[List.getElem?_eq_getElem hg];rfl
theorem qsW(n:Nat)(o:qz){g:Nat}(hg:g<o.2.2.2.1.length):(tO n o).lead g=ql1 o g:=by
 show tmLd n (qgD o) g=_
 exact qvU ((qtC n (qgD o) g).trans (qxK n o g hg))
theorem qga(n:Nat)(o:qz)(gs:List Nat){g:Nat}(hg:g<o.2.2.2.1.length):atI (cnts (tO n o) gs) g=ldC gs g gs.length:=by
 unfold atI;rw[qn5 (tO n o) gs hg];rfl
theorem qAj(n:Nat)(o:qz)(gs:List Nat)(h6:gs.length≤6):∀c,c∈cnts (tO n o) gs→0≤c∧c≤6:=by
 intro c hc
 unfold cnts at hc
 obtain ⟨g,_,rfl⟩:=List.mem_map.1 hc
 have:=qlo gs g gs.length
 omega
def qlp(o:qz)(r:Nat)(c:Int):Bool:=match o.2.2.2.2.2.2[r]? with
 | some z=>fits o z&&decide (o.2.2.1*c≤z.2.2.1)
 | none=>false
theorem qtH{o:qz}{r:Nat}{c:Int}:qlp o r c=true↔(∃h:r<o.2.2.2.2.2.2.length,fits o o.2.2.2.2.2.2[r]=true)∧o.2.2.1*c≤qcV o r:=by
 unfold qlp qcV
 rw[Int.toNat_natCast]
 by_cases h:r<o.2.2.2.2.2.2.length
 ·rw[List.getElem?_eq_getElem h]
  simp only[Bool.and_eq_true,decide_eq_true_eq]
  constructor
  ·rintro ⟨a,b⟩;exact ⟨⟨h,a⟩,b⟩
  ·rintro ⟨⟨_,a⟩,b⟩;exact ⟨a,b⟩
 ·rw[List.getElem?_eq_none (by omega)]
  constructor
  ·intro h;cases h
  ·rintro ⟨⟨a,_⟩,_⟩;exact absurd a h
theorem qxM(n:Nat)(o:qz)(r:Nat)(c:Int)(hk:Okay9 o)(hr:r<o.2.2.2.2.2.2.length)(hc:0≤c∧c≤6)(hn:100≤n):qhb n (o,((r:Int),(c,())))=some (qlp o r c,()):=by
 obtain ⟨_,o2,_⟩:=hk.oth'
 have hrk:=hk.rps _ (List.getElem_mem hr)
 obtain ⟨_,_,_,r4,r5⟩:=qnb hrk
 have m3:=(qnc hk.mdl).2.2
 have hmul:iW (iMul o.2.2.1 c)=o.2.2.1*c:=by
  have h1:=Int.mul_le_mul o2.2 hc.2 hc.1 (by omega)
  have h0:0≤o.2.2.1*c:=Int.mul_nonneg (by omega) hc.1
  exact qfF (by show _≤o.2.2.1*c;omega) (by show o.2.2.1*c≤_;omega)
 rw[qmv]
 simp only[qr o.2.2.2.2.2.2 hr,Option.bind_some,qwE n o.2.2.2.2.2.1 o.2.2.2.2.2.2[r] o.1 r5 (show o.2.2.2.2.2.1.2.2.2.length≤50 by omega) (show o.2.2.2.2.2.2[r].2.2.2.length≤50 by omega) hn,qxE n o.2.2.2.2.2.1 o.2.2.2.2.2.2[r] o.1 _ hk.mdl hrk,hmul]
 unfold qlp
 rw[List.getElem?_eq_getElem hr]
 show cond (fits o o.2.2.2.2.2.2[r]) (some (decide (o.2.2.2.2.2.2[r].2.2.1≥o.2.2.1*c),())) _=some (fits o o.2.2.2.2.2.2[r]&&decide (o.2.2.1*c≤o.2.2.2.2.2.2[r].2.2.1),())
 rw[show decide (o.2.2.2.2.2.2[r].2.2.1≥o.2.2.1*c)=decide (o.2.2.1*c≤o.2.2.2.2.2.2[r].2.2.1) from rfl]
 cases fits o o.2.2.2.2.2.2[r]<;>rfl
theorem qAP(n:Nat)(l:List Int)(x:Int)(hl:l.length≤50)(hn:100≤n):qiE n (l,(x,()))=some (decide (x∈l),()):=by
 rw[qn2]
 have:=qgZ (qhz n) l (fun y=>!decide (y=x)) (fun k=>(l,(x,((k:Int),())))) (some (Sum.inl ())) (fun _=>some (Sum.inr (true,()))) (fun k hk rec=>by
  rw[qi2]
  simp only[iLtN hk,cond_true,qr l hk,Option.bind_some,qQ (show k<9223372036854775807 by omega)]
  have e:iEq l[k] x=decide (l[k]=x):=by unfold iEq;rw[Bool.eq_iff_iff];simp
  rw[e]
  cases decide (l[k]=x)<;>rfl) (fun rec=>by
   rw[qi2]
   simp only[qcu (Nat.le_refl l.length),cond_false]) n (by omega)
 rw[show ((0:Nat):Int)=0 from rfl] at this
 rcases this with ⟨a,b⟩ | ⟨a,k,_,b⟩
 ·rw[b]
  rw[List.all_eq_true] at a
  rw[decide_eq_false fun h=>by have:=a x h;simp at this]
  rfl
 ·rw[b]
  rw[List.all_eq_false] at a
  obtain ⟨y,hy,h⟩:=a
  have:y=x:=by simpa using h
  subst this
  rw[decide_eq_true hy]
  rfl
end Go.Proofs.YtfnflenkeljkiaaGreat
