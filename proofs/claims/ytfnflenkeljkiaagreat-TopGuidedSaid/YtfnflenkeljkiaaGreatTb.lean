/- Texts Dt0, Dt1 in one. -/
import Derived.Test.YtfnflenkeljkiaaGreatKc
import Derived.Test.YtfnflenkeljkiaaGreatTg
/- Ropes, plain: the longest ropes to the most clients; loads; the fewest. Nothing here speaks of the program. -/
set_option linter.constructorNameAsVariable false
set_option linter.unusedSimpArgs false
set_option linter.unusedVariables false
set_option linter.unusedSectionVars false
namespace Go.Proofs.YtfnflenkeljkiaaGreat
open Go Go.Proofs Go.RowKit
set_option maxHeartbeats 1000000
theorem quU{α:Type}[DecidableEq α]:∀l m:List α,l.Nodup→(∀x,x∈l→x∈m)→l.length≤m.length
 | [],m,_,_=>Nat.zero_le _
 | a::l,m,h,hs=>by
  rw[List.nodup_cons] at h
  have ha:=hs a List.mem_cons_self
  have:=quU l (m.erase a) h.2 fun x hx=>(List.mem_erase_of_ne (fun e=>h.1 (by rw[← e];exact hx))).2 (hs x (List.mem_cons_of_mem _ hx))
  rw[List.length_erase_of_mem ha] at this
  have hpos:0<m.length:=List.length_pos_iff.2 fun e=>by rw[e] at ha;cases ha
  rw[List.length_cons]
  omega
def qkU(len need:Int→Int)(fit order:List Int):Prop:=∀i (h:i<order.length),∃h':i<fit.length,need order[i]≤len fit[i]
theorem qsk{len need:Int→Int}{fit order:List Int}(hfit:fit.Pairwise (fun a b=>len b≤len a))(hord:order.Pairwise (fun a b=>need b≤need a))(hnd:order.Nodup)(f:Int→Int)(hf:∀g,g∈order→f g∈fit∧need g≤len (f g))(hinj:∀g h,g∈order→h∈order→f g=f h→g=h):qkU len need fit order:=by
 intro i hi
 have hsub:∀g,g∈order.take (i+1)→g∈order:=fun g hg=>List.mem_of_mem_take hg
 have hle:∀g,g∈order.take (i+1)→need order[i]≤need g:=fun g hg=>by
  obtain ⟨k,hk,rfl⟩:=List.getElem_of_mem hg
  rw[List.length_take] at hk
  rw[List.getElem_take]
  by_cases hki:k=i
  ·subst hki;exact Int.le_refl _
  ·exact List.pairwise_iff_getElem.1 hord k i (by omega) hi (by omega)
 have hnd2:((order.take (i+1)).map f).Nodup:=by
  have h1:(order.take (i+1)).Nodup:=hnd.sublist (List.take_sublist _ _)
  unfold List.Nodup
  rw[List.pairwise_map]
  refine List.Pairwise.imp_of_mem (R:=(·≠·)) (fun {a b} ha hb hab he=>hab (hinj a b (hsub a ha) (hsub b hb) he)) h1
 have hlen:i+1≤(fit.filter fun r=>decide (need order[i]≤len r)).length:=by
  have:=quU ((order.take (i+1)).map f) (fit.filter fun r=>decide (need order[i]≤len r)) hnd2 fun x hx=>by
   obtain ⟨g,hg,rfl⟩:=List.mem_map.1 hx
   obtain ⟨h1,h2⟩:=hf g (hsub g hg)
   rw[List.mem_filter,decide_eq_true_eq]
   have:=hle g hg
   exact ⟨h1,by omega⟩
  rw[List.length_map,List.length_take] at this
  omega
 rw[← List.countP_eq_length_filter] at hlen
 have hcl:fit.countP (fun r=>decide (need order[i]≤len r))≤fit.length:=List.countP_le_length
 refine ⟨by omega,?_⟩
 by_cases hp:need order[i]≤len (fit[i]'(by omega))
 ·exact hp
 ·exfalso
  have e:fit.take i++fit.drop i=fit:=List.take_append_drop _ _
  have h2:fit.countP (fun r=>decide (need order[i]≤len r))=(fit.take i).countP (fun r=>decide (need order[i]≤len r))+(fit.drop i).countP (fun r=>decide (need order[i]≤len r)):=by
   rw[← List.countP_append,e]
  have h3:(fit.drop i).countP (fun r=>decide (need order[i]≤len r))=0:=by
   rw[List.countP_eq_zero]
   intro x hx hx2
   rw[decide_eq_true_eq] at hx2
   obtain ⟨j,hj,rfl⟩:=List.getElem_of_mem hx
   rw[List.length_drop] at hj
   rw[List.getElem_drop] at hx2
   have:len (fit[i+j]'(by omega))≤len (fit[i]'(by omega)):=by
    by_cases hj0:j=0
    ·subst hj0;exact Int.le_refl _
    ·exact List.pairwise_iff_getElem.1 hfit i (i+j) (by omega) (by omega) (by omega)
   omega
  have h4:(fit.take i).countP (fun r=>decide (need order[i]≤len r))≤(fit.take i).length:=List.countP_le_length
  rw[List.length_take] at h4
  omega
def ldC(gs:List Nat)(g:Nat):Nat→Int
 | 0=>0
 | k+1=>ldC gs g k+(if gs[k]?=some g then 1 else 0)
def ldP(C:List Int)(gs:List Nat)(g:Nat):Nat→Int
 | 0=>0
 | k+1=>ldP C gs g k+(if gs[k]?=some g then (C[k]?).getD 0 else 0)
theorem qtE{gs hs:List Nat}(g:Nat):∀k,(∀i,i<k→gs[i]?=hs[i]?)→ldC gs g k=ldC hs g k
 | 0,_=>rfl
 | k+1,h=>by unfold ldC;rw[qtE g k fun i hi=>h i (by omega),h k (by omega)]
theorem qp4(C:List Int){gs hs:List Nat}(g:Nat):∀k,(∀i,i<k→gs[i]?=hs[i]?)→ldP C gs g k=ldP C hs g k
 | 0,_=>rfl
 | k+1,h=>by unfold ldP;rw[qp4 C g k fun i hi=>h i (by omega),h k (by omega)]
theorem qlo(gs:List Nat)(g:Nat):∀k,0≤ldC gs g k∧ldC gs g k≤k
 | 0=>⟨Int.le_refl _,Int.le_refl _⟩
 | k+1=>by have:=qlo gs g k;unfold ldC;split<;>omega
theorem qzc(gs:List Nat)(g h:Nat):ldC (gs++[g]) h (gs.length+1)=ldC gs h gs.length+(if h=g then 1 else 0):=by
 show ldC (gs++[g]) h gs.length+(if (gs++[g])[gs.length]?=some h then 1 else 0)=_
 rw[qtE h gs.length (fun i hi=>List.getElem?_append_left hi),List.getElem?_concat_length]
 by_cases e:h=g
 ·subst e;simp
 ·rw[if_neg e,if_neg (fun x=>e (by injection x with x;exact x.symm))]
theorem qzd(C:List Int)(gs:List Nat)(g h:Nat):ldP C (gs++[g]) h (gs.length+1)=ldP C gs h gs.length+(if h=g then (C[gs.length]?).getD 0 else 0):=by
 show ldP C (gs++[g]) h gs.length+(if (gs++[g])[gs.length]?=some h then (C[gs.length]?).getD 0 else 0)=_
 rw[qp4 C h gs.length (fun i hi=>List.getElem?_append_left hi),List.getElem?_concat_length]
 by_cases e:h=g
 ·subst e;simp
 ·rw[if_neg e,if_neg (fun x=>e (by injection x with x;exact x.symm))]
theorem quV{C:List Int}(hC:∀c,c∈C→0≤c)(gs:List Nat)(g:Nat):∀(d k:Nat),ldP C gs g k≤ldP C gs g (k+d)
 | 0,k=>Int.le_refl _
 | d+1,k=>by
  have:=quV hC gs g d k
  rw[← Nat.add_assoc]
  show _≤ldP C gs g (k+d)+(if gs[k+d]?=some g then (C[k+d]?).getD 0 else 0)
  have h0:0≤(C[k+d]?).getD 0:=by
   cases hc:C[k+d]? with
   | none=>exact Int.le_refl _
   | some c=>exact hC c (List.mem_of_getElem? hc)
  split<;>omega
theorem quW(gs:List Nat)(g:Nat):∀(d k:Nat),ldC gs g k≤ldC gs g (k+d)
 | 0,k=>Int.le_refl _
 | d+1,k=>by
  have:=quW gs g d k
  rw[← Nat.add_assoc]
  show _≤ldC gs g (k+d)+(if gs[k+d]?=some g then 1 else 0)
  split<;>omega
theorem qAh{gs:List Nat}{g k:Nat}(h:gs[k]?=some g){n:Nat}(hn:k<n):0<ldC gs g n:=by
 obtain ⟨d,rfl⟩:∃d,n=k+1+d:=⟨n-(k+1),by omega⟩
 have h1:=quW gs g d (k+1)
 have h2:=(qlo gs g k).1
 have h3:ldC gs g (k+1)=ldC gs g k+1:=by
  show ldC gs g k+(if gs[k]?=some g then 1 else 0)=_
  rw[if_pos h]
 omega
theorem qxF{gs:List Nat}{g:Nat}:∀{n:Nat},0<ldC gs g n→∃k,k<n∧gs[k]?=some g
 | 0,h=>by unfold ldC at h;omega
 | n+1,h=>by
  by_cases hk:gs[n]?=some g
  ·exact ⟨n,by omega,hk⟩
  ·have h:0<ldC gs g n+(if gs[n]?=some g then 1 else 0):=h
   rw[if_neg hk] at h
   obtain ⟨k,h1,h2⟩:=qxF (gs:=gs) (g:=g) (n:=n) (by omega)
   exact ⟨k,by omega,h2⟩
def IsFew{α:Type}(P:α→Prop)(u:α→Int)(n:Int):Prop:=(n = -1∧∀x,¬P x)∨(0≤n∧(∃x,P x∧u x=n)∧∀x,P x→n≤u x)
def few2(a b:Int):Int:=if 0≤b∧(a<0∨b<a) then b else a
theorem IsFew.or{α:Type}{P Q:α→Prop}{u:α→Int}{a b:Int}(h:IsFew P u a)(h':IsFew Q u b):IsFew (fun x=>P x∨Q x) u (few2 a b):=by
 unfold few2
 rcases h with ⟨rfl,h⟩ | ⟨h0,⟨x,hx,hu⟩,h⟩<;>rcases h' with ⟨rfl,h'⟩ | ⟨h0',⟨y,hy,hv⟩,h'⟩
 ·rw[if_neg (by omega)]
  exact .inl ⟨rfl,fun x hx=>hx.elim (h x) (h' x)⟩
 ·rw[if_pos (by omega)]
  exact .inr ⟨h0',⟨y,.inr hy,hv⟩,fun z hz=>hz.elim (fun hz=>absurd hz (h z)) (h' z)⟩
 ·rw[if_neg (by omega)]
  exact .inr ⟨h0,⟨x,.inl hx,hu⟩,fun z hz=>hz.elim (h z) (fun hz=>absurd hz (h' z))⟩
 ·by_cases hba:b<a
  ·rw[if_pos (by omega)]
   exact .inr ⟨h0',⟨y,.inr hy,hv⟩,fun z hz=>hz.elim (fun hz=>by have:=h z hz;omega) (h' z)⟩
  ·rw[if_neg (by omega)]
   exact .inr ⟨h0,⟨x,.inl hx,hu⟩,fun z hz=>hz.elim (h z) (fun hz=>by have:=h' z hz;omega)⟩
def cnts(O:TmO)(gs:List Nat):List Int:=(List.range O.G).map fun g=>ldC gs g gs.length
def ptsL(O:TmO)(gs:List Nat):List Int:=(List.range O.G).map fun g=>ldP O.clients gs g gs.length
theorem qoV(O:TmO)(gs:List Nat):(cnts O gs).length=O.G:=by unfold cnts;simp
theorem qn5(O:TmO)(gs:List Nat){g:Nat}(h:g<O.G):(cnts O gs)[g]?=some (ldC gs g gs.length):=by unfold cnts;rw[List.getElem?_map,List.getElem?_range h];rfl
theorem ql7(O:TmO)(gs:List Nat){g:Nat}(h:g<O.G):(ptsL O gs)[g]?=some (ldP O.clients gs g gs.length):=by unfold ptsL;rw[List.getElem?_map,List.getElem?_range h];rfl
theorem qtF(O:TmO)(gs:List Nat)(g:Nat)(hg:g<O.G):(cnts O gs).set g (cntN (cnts O gs) g+1)=cnts O (gs++[g]):=by
 refine List.ext_getElem? fun i=>?_
 rw[List.getElem?_set]
 have hl:=qoV O gs
 by_cases hi:i<O.G
 ·rw[qn5 O (gs++[g]) hi,List.length_append,List.length_singleton,qzc]
  by_cases e:g=i
  ·subst e
   rw[if_pos rfl,if_pos (by omega),if_pos rfl]
   unfold cntN
   rw[qn5 O gs hg]
   rfl
  ·rw[if_neg e,if_neg (fun x=>e x.symm),qn5 O gs hi,Int.add_zero]
 ·have h1:(cnts O (gs++[g]))[i]?=none:=List.getElem?_eq_none (by rw[qoV];omega)
  have h2:(cnts O gs)[i]?=none:=List.getElem?_eq_none (by omega)
  rw[h1,if_neg (by omega),h2]
theorem qtG(O:TmO)(gs:List Nat)(g:Nat)(hg:g<O.G):(ptsL O gs).set g (cntN (ptsL O gs) g+cntN O.clients gs.length)=ptsL O (gs++[g]):=by
 have hl:∀hs:List Nat,(ptsL O hs).length=O.G:=fun hs=>by unfold ptsL;simp
 refine List.ext_getElem? fun i=>?_
 rw[List.getElem?_set]
 by_cases hi:i<O.G
 ·rw[ql7 O (gs++[g]) hi,List.length_append,List.length_singleton,qzd]
  by_cases e:g=i
  ·subst e
   rw[if_pos rfl,if_pos (by rw[hl];omega),if_pos rfl]
   unfold cntN
   rw[ql7 O gs hg]
   rfl
  ·rw[if_neg e,if_neg (fun x=>e x.symm),ql7 O gs hi,Int.add_zero]
 ·have h1:(ptsL O (gs++[g]))[i]?=none:=List.getElem?_eq_none (by rw[hl];omega)
  have h2:(ptsL O gs)[i]?=none:=List.getElem?_eq_none (by rw[hl];omega)
  rw[h1,if_neg (by omega),h2]
def quX(O:TmO)(gs:List Nat)(k:Nat):Prop:=∃g,gs[k]?=some g∧g<O.G∧O.lead g=true∧ldP O.clients gs g (k+1)≤O.pts g
theorem quY{O:TmO}{gs suf:List Nat}{g:Nat}:quX O (gs++g::suf) gs.length↔g<O.G∧O.lead g=true∧ldP O.clients gs g gs.length+cntN O.clients gs.length≤O.pts g:=by
 have e1:(gs++g::suf)[gs.length]?=some g:=by rw[List.getElem?_append_right (Nat.le_refl _),Nat.sub_self];rfl
 have e2:ldP O.clients (gs++g::suf) g (gs.length+1)=ldP O.clients gs g gs.length+cntN O.clients gs.length:=by
  show ldP O.clients (gs++g::suf) g gs.length+(if (gs++g::suf)[gs.length]?=some g then (O.clients[gs.length]?).getD 0 else 0)=_
  rw[e1,if_pos rfl,qp4 O.clients g gs.length fun i hi=>List.getElem?_append_left hi]
  rfl
 constructor
 ·rintro ⟨g',h1,h2,h3,h4⟩
  rw[e1] at h1
  injection h1 with h1
  subst h1
  rw[e2] at h4
  exact ⟨h2,h3,h4⟩
 ·rintro ⟨h2,h3,h4⟩
  exact ⟨g,e1,h2,h3,by rw[e2];exact h4⟩
def ExtT(O:TmO)(m:Nat)(gs:List Nat)(e:List Nat):Prop:=∃suf,suf.length=m∧e=gs++suf∧∀k,gs.length≤k→k<e.length→quX O e k
theorem qze{O:TmO}{gs e:List Nat}:ExtT O 0 gs e↔e=gs:=by
 constructor
 ·rintro ⟨suf,h1,h2,_⟩
  have:suf=[]:=List.eq_nil_of_length_eq_zero h1
  subst this
  rw[h2,List.append_nil]
 ·rintro rfl
  exact ⟨[],rfl,(List.append_nil _).symm,fun k h1 h2=>by omega⟩
theorem qzf{O:TmO}{m:Nat}{gs e:List Nat}:ExtT O (m+1) gs e↔∃g,g<O.G∧(O.lead g=true∧ldP O.clients gs g gs.length+cntN O.clients gs.length≤O.pts g)∧ExtT O m (gs++[g]) e:=by
 constructor
 ·rintro ⟨suf,h1,h2,h3⟩
  cases suf with
  | nil=>cases h1
  | cons g suf =>
   have hlen:e.length=gs.length+(m+1):=by rw[h2,List.length_append,h1]
   have hn:=h3 gs.length (Nat.le_refl _) (by omega)
   rw[h2,quY] at hn
   refine ⟨g,hn.1,hn.2,suf,by simpa using h1,by rw[h2];simp,fun k hk hk2=>h3 k (by rw[List.length_append] at hk;omega) hk2⟩
 ·rintro ⟨g,h1,h2,suf,h3,h4,h5⟩
  have he:e=gs++g::suf:=by rw[h4];simp
  refine ⟨g::suf,by simp[h3],he,fun k hk hk2=>?_⟩
  by_cases hkg:k=gs.length
  ·subst hkg
   rw[he,quY]
   exact ⟨h1,h2⟩
  ·exact h5 k (by rw[List.length_append,List.length_singleton];omega) hk2
theorem qoW(O:TmO):∀(m:Nat) (gs:List Nat) (e:List Nat×List Int),e∈qf2 O m gs (ptsL O gs) (cnts O gs)↔ExtT O m gs e.1∧O.rop (cnts O e.1)=some e.2
 | 0,gs,e=>by
  rw[qze]
  unfold qf2
  cases hr:O.rop (cnts O gs) with
  | none =>
   constructor
   ·intro h;cases h
   ·rintro ⟨h1,h2⟩;rw[h1,hr] at h2;cases h2
  | some r =>
   rw[List.mem_singleton]
   constructor
   ·rintro rfl;exact ⟨rfl,hr⟩
   ·rintro ⟨h1,h2⟩
    rw[h1,hr] at h2
    injection h2 with h2
    rw[h2,← h1]
 | m+1,gs,e=>by
  rw[qzf,qno,List.mem_flatMap]
  constructor
  ·rintro ⟨g,hg,he⟩
   rw[List.mem_range] at hg
   unfold qsc at he
   split at he
   ·next hc =>
    rw[qtG O gs g hg,qtF O gs g hg,qoW O m (gs++[g])] at he
    refine ⟨⟨g,hg,⟨hc.1,?_⟩,he.1⟩,he.2⟩
    have:=hc.2
    unfold cntN at this ⊢
    rwa [ql7 O gs hg] at this
   ·cases he
  ·rintro ⟨⟨g,hg,hc,he⟩,hr⟩
   refine ⟨g,List.mem_range.2 hg,?_⟩
   unfold qsc
   rw[if_pos ⟨hc.1,by have:=hc.2;unfold cntN at this ⊢;rwa [ql7 O gs hg]⟩,qtG O gs g hg,qtF O gs g hg,qoW O m (gs++[g])]
   exact ⟨he,hr⟩
theorem qzg(O:TmO):cnts O []=List.replicate O.G 0:=by
 refine List.ext_getElem? fun i=>?_
 by_cases hi:i<O.G
 ·rw[qn5 O [] hi,List.getElem?_replicate_of_lt hi];rfl
 ·rw[List.getElem?_eq_none (by rw[qoV];omega),List.getElem?_eq_none (by rw[List.length_replicate];omega)]
theorem qzh(O:TmO):ptsL O []=List.replicate O.G 0:=by
 have hl:∀hs:List Nat,(ptsL O hs).length=O.G:=fun hs=>by unfold ptsL;simp
 refine List.ext_getElem? fun i=>?_
 by_cases hi:i<O.G
 ·rw[ql7 O [] hi,List.getElem?_replicate_of_lt hi];rfl
 ·rw[List.getElem?_eq_none (by rw[hl];omega),List.getElem?_eq_none (by rw[List.length_replicate];omega)]
def Good(O:TmO)(gs:List Nat):Prop:=gs.length=O.clients.length∧∀k,k<gs.length→quX O gs k
theorem qzi{O:TmO}{gs:List Nat}:ExtT O O.clients.length [] gs↔Good O gs:=by
 constructor
 ·rintro ⟨suf,h1,h2,h3⟩
  rw[List.nil_append] at h2
  subst h2
  exact ⟨h1,fun k hk=>h3 k (Nat.zero_le _) hk⟩
 ·rintro ⟨h1,h2⟩
  exact ⟨gs,h1,rfl,fun k _ hk=>h2 k hk⟩
theorem qwF(O:TmO)(e:List Nat×List Int):e∈qdI O↔Good O e.1∧O.rop (cnts O e.1)=some e.2:=by
 unfold qdI
 rw[← qzi,← qoW O O.clients.length [] e,qzh,qzg]
theorem qrx{O:TmO}(hC:∀c,c∈O.clients→0≤c){gs:List Nat}:Good O gs↔gs.length=O.clients.length∧(∀g,g∈gs→g<O.G)∧∀g,g<O.G→0<ldC gs g gs.length→O.lead g=true∧ldP O.clients gs g gs.length≤O.pts g:=by
 constructor
 ·rintro ⟨h1,h2⟩
  refine ⟨h1,fun g hg=>?_,fun g hg hp=>⟨?_,?_⟩⟩
  ·obtain ⟨k,hk,rfl⟩:=List.getElem_of_mem hg
   obtain ⟨g',a,b,_⟩:=h2 k hk
   rw[List.getElem?_eq_getElem hk] at a
   injection a with a
   rw[a]
   exact b
  ·obtain ⟨k,hk,hg⟩:=qxF hp
   obtain ⟨g',a,b,c,_⟩:=h2 k hk
   rw[hg] at a
   injection a with a
   rw[a]
   exact c
  ·have go:∀k,k≤gs.length→0<ldC gs g k→ldP O.clients gs g k≤O.pts g:=by
    intro k
    induction k with
    | zero=>intro _ h;unfold ldC at h;omega
    | succ k ih =>
     intro hk hp
     by_cases hgk:gs[k]?=some g
     ·obtain ⟨g',a,_,_,d⟩:=h2 k (by omega)
      rw[hgk] at a
      injection a with a
      rw[a]
      exact d
     ·have hp2:0<ldC gs g k+(if gs[k]?=some g then 1 else 0):=hp
      show ldP O.clients gs g k+(if gs[k]?=some g then (O.clients[k]?).getD 0 else 0)≤_
      rw[if_neg hgk] at hp2 ⊢
      rw[Int.add_zero]
      exact ih (by omega) (by omega)
   exact go gs.length (Nat.le_refl _) hp
 ·rintro ⟨h1,h2,h3⟩
  refine ⟨h1,fun k hk=>⟨gs[k],List.getElem?_eq_getElem hk,h2 _ (List.getElem_mem hk),?_⟩⟩
  obtain ⟨a,b⟩:=h3 gs[k] (h2 _ (List.getElem_mem hk)) (qAh (List.getElem?_eq_getElem hk) hk)
  refine ⟨a,Int.le_trans ?_ b⟩
  have:=quV hC gs gs[k] (gs.length-(k+1)) (k+1)
  rwa [show k+1+(gs.length-(k+1))=gs.length by omega] at this
end Go.Proofs.YtfnflenkeljkiaaGreat
