/- Texts Tm0, Tm1, Tm2 in one. -/
import Derived.Test.YtfnflenkeljkiaaGreatNd
import Derived.Test.YtfnflenkeljkiaaGreatKc
import Derived.Test.YtfnflenkeljkiaaGreatTy
/- A block that is a whole row, seen as an own row for a call. Nothing here speaks of the program. -/
set_option linter.constructorNameAsVariable false
set_option linter.unusedSimpArgs false
set_option linter.unusedVariables false
set_option linter.unusedSectionVars false
namespace Go.Proofs.YtfnflenkeljkiaaGreat
open Go Go.Proofs Go.RowKit
set_option maxHeartbeats 1000000
theorem qyZ{w:World}{base e sz n c:Nat}{A:Option Addr}{xs:List Value}(h:w.ownsRow base e sz (.slice A n c) n xs):n≤c:=by
 rcases h.2 with ⟨h1,h2⟩ | ⟨g,cap,cur,h1,_,_,hnc,_⟩
 ·omega
 ·injection h1 with _ _ h3;omega
section
variable {P:Program} {w0:Bs} {S:Nat→Prop} {a:Act} {w:World} {t:List AV} {b te n sz:Nat} {cs:List AV}
theorem SRel.blk_own(hn:n*sz=cs.length)(hm:n≤maxLen)(h:SRel w0 S t [.blk b te cs] a w):SRel w0 S t [.own (.slice (some ⟨b,0,none⟩) n n) te sz n cs] a w:=by
 have hal:∀k,Al w0 S [HE.blk b te cs] k→Al w0 S [HE.own (.slice (some ⟨b,0,none⟩) n n) te sz n cs] k:=fun k hk=>⟨hk.1,hk.2.1,fun e he hb=>by
  rw[List.mem_singleton] at he
  subst he
  have hb':some b=some k:=hb
  injection hb' with hb'
  exact hk.2.2 _ (List.mem_singleton.2 rfl) hb'⟩
 refine h.conv rfl rfl (fun k e e' he he'=>?_) fun _ i hi=>hi.mono fun k _ hk=>hal k hk
 cases k with
 | succ k=>simp at he
 | zero =>
  injection he with he
  injection he' with he'
  subst he he'
  refine ⟨trivial,.inr ⟨trivial,fun k hk=>?_⟩,fun hok=>?_⟩
  ·have hk':some b=some k:=hk
   injection hk' with hk'
  ·obtain ⟨h1,vs,h2,h3,h4⟩:=hok
   refine ⟨fun k hk=>?_,vs,⟨by rw[h3,hn],.inr ⟨b,n,vs.toArray,rfl,Nat.zero_le _,h2,Nat.le_refl _,hm,by simp[h3,hn],?_⟩⟩,h3,fun i d hi=>(h4 i d hi).mono fun k _ hk=>hal k hk⟩
   ·have hk':some b=some k:=hk
    injection hk' with hk'
    subst hk'
    exact h1
   ·show vs.take _=vs
    rw[List.take_of_length_le (by omega)]
theorem SRel.own_blk(h:SRel w0 S t [.own (.slice (some ⟨b,0,none⟩) n n) te sz n cs] a w):SRel w0 S t [.blk b te cs] a w:=by
 have hal:∀k,Al w0 S [HE.own (.slice (some ⟨b,0,none⟩) n n) te sz n cs] k→Al w0 S [HE.blk b te cs] k:=fun k hk=>⟨hk.1,hk.2.1,fun e he hb=>by
  rw[List.mem_singleton] at he
  subst he
  have hb':b=k:=hb
  subst hb'
  exact hk.2.2 _ (List.mem_singleton.2 rfl) rfl⟩
 refine h.conv rfl rfl (fun k e e' he he'=>?_) fun _ i hi=>hi.mono fun k _ hk=>hal k hk
 cases k with
 | succ k=>simp at he
 | zero =>
  injection he with he
  injection he' with he'
  subst he he'
  refine ⟨trivial,.inr ⟨trivial,fun k hk=>?_⟩,fun hok=>?_⟩
  ·have hk':b=k:=hk
   subst hk'
   rfl
  ·obtain ⟨h1,xs,⟨h2,h3⟩,h4,h5⟩:=hok
   rcases h3 with ⟨h3,_⟩ | ⟨g,cap,cur,q1,_,q2,q3,q4,q5,q6⟩
   ·cases h3
   injection q1 with q1 _ q7
   injection q1 with q1
   injection q1 with q1
   subst q1 q7
   have hxs:xs=cur.toList:=by
    rw[← q6,List.take_of_length_le (by simp[q5])]
   refine ⟨h1 b rfl,xs,?_,h4,fun i d hi=>(h5 i d hi).mono fun k _ hk=>hal k hk⟩
   unfold Blk
   rw[hxs]
   simpa using q2
theorem MC.blkOwn{f:FuncId}{args:List AV}{R:AV→List HE→Prop}(hn:n*sz=cs.length)(hm:n≤maxLen)(h:MC P f args [.own (.slice (some ⟨b,0,none⟩) n n) te sz n cs] R)(hR:∀r H',R r H'→H'=[.own (.slice (some ⟨b,0,none⟩) n n) te sz n cs]) :
  MC P f args [.blk b te cs] fun r H'=>H'=[.blk b te cs]∧R r [.own (.slice (some ⟨b,0,none⟩) n n) te sz n cs]:=by
 refine ⟨h.1,fun w S N vs hT hs=>?_⟩
 have e:qf [HE.blk b te cs]=qf [HE.own (.slice (some ⟨b,0,none⟩) n n) te sz n cs]:=by
  funext k
  refine propext ⟨fun⟨e,he,hk⟩=>?_,fun⟨e,he,hk⟩=>?_⟩
  ·rw[List.mem_singleton] at he
   subst he
   have hk':b=k:=hk
   subst hk'
   exact ⟨_,List.mem_singleton.2 rfl,rfl⟩
  ·rw[List.mem_singleton] at he
   subst he
   have hk':some b=some k:=hk
   injection hk' with hk'
   exact ⟨_,List.mem_singleton.2 rfl,hk'⟩
 rw[e] at hs ⊢
 refine (h.2 w S N vs hT (hs.blk_own hn hm)).mono fun _ _ ⟨u,r,H',h1,h2,h3⟩=>?_
 have h4:=hR r H' h2
 subst h4
 exact ⟨u,r,_,h1,⟨rfl,h2⟩,h3.own_blk⟩
end
set_option maxHeartbeats 4000000
set_option maxRecDepth 20000
structure TmO where
 G:Nat
 clients:List Int
 pts:Nat→Int
 lead:Nat→Bool
 rop:List Int→Option (List Int)
def natI(x:Nat):List Value:=[.int .i64 (x:Int)]
def intC(x:Int):List Value:=[.int .i64 x]
def slA{α:Type}(f:α→List Value)(sz:Nat)(l:List α):AV:=.sl sz (l.map fun x=>(f x).map AV.val)
def cntN(l:List Int)(k:Nat):Int:=(l[k]?).getD 0
theorem qkR(l:List Int)(k:Nat)(h:k<l.length):cntN l k=l[k]:=by unfold cntN;rw[List.getElem?_eq_getElem h];rfl
def ints(l:List Int):List AV:=l.map AV.int
theorem qvS(l:List Int)(k:Nat)(h:k<l.length):(ints l)[k]?=some (.int (cntN l k)):=by unfold ints;rw[List.getElem?_map,List.getElem?_eq_getElem h,qkR l k h];rfl
theorem qmk(l:List Int):(ints l).length=l.length:=by simp[ints]
theorem qoL(l:List Int)(k:Nat)(x:Int):(ints l).set k (.int x)=ints (l.set k x):=by unfold ints;rw[List.map_set]
def nats(l:List Nat):List AV:=l.map fun i:Nat=>AV.int i
theorem qxz(l:List Nat):(l.map fun x=>(natI x).map AV.val).flatten=l.map fun i:Nat=>AV.int i:=by
 induction l with
 | nil=>rfl
 | cons x l ih=>rw[List.map_cons,List.flatten_cons,ih];rfl
def qpR(o:Option (List Int))(r:AV):Prop:=match o with
 | none=>r = .tup [.sl 1 [],.val (.bool false)]
 | some l=>r = .tup [slA intC 1 l,.val (.bool true)]
def qf2(O:TmO):Nat→List Nat→List Int→List Int→List (List Nat×List Int)
 | 0,gs,_,c=>match O.rop c with
  | none=>[]
  | some r=>[(gs,r)]
 | m+1,gs,p,c=>(List.range O.G).flatMap fun g =>
  if O.lead g=true∧cntN p g+cntN O.clients gs.length≤O.pts g then
   qf2 O m (gs++[g]) (p.set g (cntN p g+cntN O.clients gs.length)) (c.set g (cntN c g+1)) else []
def qdI(O:TmO):List (List Nat×List Int):=qf2 O O.clients.length [] (List.replicate O.G 0) (List.replicate O.G 0)
theorem qlV{α:Type}:∀(l:List α) (k:Nat) (h:k<l.length),l.Perm (l[k]::l.eraseIdx k)
 | _::_,0,_=>List.Perm.refl _
 | a::l,k+1,h=>by
  have:=(qlV l k (by simpa using h)).cons a
  exact this.trans (List.Perm.swap _ _ _)
abbrev ptr(b:Nat):Value:=.pointer (some ⟨b,0,none⟩)
def qsc(O:TmO)(m:Nat)(gs:List Nat)(p c:List Int)(g:Nat):List (List Nat×List Int) :=
 if O.lead g=true∧cntN p g+cntN O.clients gs.length≤O.pts g then
   qf2 O m (gs++[g]) (p.set g (cntN p g+cntN O.clients gs.length)) (c.set g (cntN c g+1)) else []
theorem qno(O:TmO)(m:Nat)(gs:List Nat)(p c:List Int):qf2 O (m+1) gs p c=(List.range O.G).flatMap (qsc O m gs p c):=rfl
def preN(f:Nat→List (List Nat×List Int))(g:Nat):Nat:=((List.range g).flatMap f).length
theorem qxA(f:Nat→List (List Nat×List Int))(g:Nat):preN f (g+1)=preN f g+(f g).length:=by
 unfold preN;rw[List.range_succ,List.flatMap_append,List.length_append];simp
theorem qvT(f:Nat→List (List Nat×List Int)):∀(G g:Nat),g<G→∀j e,(f g)[j]?=some e→((List.range G).flatMap f)[preN f g+j]?=some e
 | 0,g,h,_,_,_=>absurd h (Nat.not_lt_zero _)
 | G+1,g,h,j,e,hj=>by
  rw[List.range_succ,List.flatMap_append]
  by_cases hg:g=G
  ·subst hg
   unfold preN
   rw[List.getElem?_append_right (by omega),Nat.add_sub_cancel_left]
   simpa using hj
  ·have:=qvT f G g (by omega) j e hj
   rw[List.getElem?_append_left (List.getElem?_eq_some_iff.1 this).1]
   exact this
theorem quO(Hp:List HE)(X:Nat→Prop)(J:GJ)(h:∀e,e∈Hp→¬e.isGhost):∀i e,(Hp++[HE.ghost X J])[i]?=some e→e.isGhost→i=Hp.length:=fun i e hi hg=>by
 rcases Nat.lt_trichotomy i Hp.length with h1 | h1 | h1
 ·rw[List.getElem?_append_left h1] at hi
  exact (h e (List.mem_of_getElem? hi) hg).elim
 ·exact h1
 ·rw[List.getElem?_eq_none (by simp;omega)] at hi;cases hi
def quP(one:Bool)(x:List Nat×List Int):List AV:=[if one then slA natI 1 x.1 else .any,slA intC 1 x.2]
section
variable (bg bc by_ bp bn rc rq lp:Nat) (G:Nat) (dc:List AV)
def HnA(A:Option Addr)(c0:Nat)(gs:List Nat)(c p:List Int):List HE :=
 [.blk bg 23 [.val (.slice A gs.length c0)],.own (.slice A gs.length c0) 3 1 gs.length (nats gs),.blk bc 23 [.val (.slice (some ⟨rc,0,none⟩) G G)],.blk rc 3 (ints c),.blk by_ 110 [.val (.func (.yield lp) #[] #[])],
  .blk bp 23 [.val (.slice (some ⟨rq,0,none⟩) G G)],.blk rq 3 (ints p),.blk bn 42 [.fn 50 [] dc],.nodef]
def Hn(A:Option Addr)(c0:Nat)(gs:List Nat)(c p:List Int)(X:Nat→Prop)(Jk:GJ):List HE:=HnA bg bc by_ bp bn rc rq lp G dc A c0 gs c p++[.ghost X Jk]
end
def nxR(Hs:Option Addr→Nat→(Nat→Prop)→List HE)(T:Nat→Prop)(n:Nat)(Jx:GJ)(r:AV)(H':List HE):Prop :=
 (r = .val (.bool true)∧∃A' c' X',(∀b,(Value.slice A' n c').ownBlock=some b→T b)∧H'=Hs A' c' X')∨(r = .val (.bool false)∧∃X',HE.ghost X' Jx∈H')
theorem qAD(O:TmO)(one:Bool)(a0 a1 a2 a5 a6 a7 a8 a9 a10:AV)(gg cl:List (List AV))(bg bc by_ bp bn rc rq lp:Nat)(T:Nat→Prop)(J:Nat→GJ)(Jx:GJ)(oc dc as_:List AV)(hoc:oc=[a0,a1,a2,.sl 3 gg,.sl 1 cl,a5,a6,a7,a8,a9,a10])
  (hdc:dc=as_) (has:as_=[.val (ptr bg),.rp [.rp oc],.val (ptr bc),.val (ptr by_),.val (ptr bp),.val (ptr bn)])
  (hG4:O.G≤4) (hC6:O.clients.length≤6) (hcn:∀k:Nat,k<O.clients.length→1≤cntN O.clients k∧cntN O.clients k≤20) (hpt:∀g:Nat,O.pts g≤20)
  (hggl:gg.length=O.G) (hgg:∀g:Nat,g<O.G→∃x y,gg[g]?=some [x,y,.int (O.pts g)]) (hcll:cl.length=O.clients.length) (hclr:∀k:Nat,k<O.clients.length→cl[k]?=some [.int (cntN O.clients k)])
  (hleads:∀g:Nat,g<O.G→PC Tryz.prog 52 [.rp oc,.int (g:Int)] (.bool (O.lead g)))
  (hrop:∀(l:List Int) (rc:Nat),l.length=O.G→(∀x∈l,0≤x∧x≤6)→MC Tryz.prog 51 [.rp oc,.val (.slice (some ⟨rc,0,none⟩) l.length l.length)] [.blk rc 3 (ints l)] fun r H'=>H'=[.blk rc 3 (ints l)]∧qpR (O.rop l) r)
  (hcJ:∀i,qfW (J i)) (hcx:qfW Jx) (hone:one=true→∀i D X w,¬J (i+1) D X w) (hy:∀i e,(qdI O)[i]?=some e→ql8 Tryz.prog T lp (quP one e) (J i) (J (i+1)) Jx) :
  ∀(m:Nat) (gs:List Nat) (p c:List Int) (k:Nat) (X:Nat→Prop) (A:Option Addr) (c0:Nat),m+gs.length=O.clients.length→p.length=O.G→c.length=O.G→(∀x∈c,0≤x∧x≤(gs.length:Int))→(∀x∈p,0≤x∧x≤20)→(∀b,(Value.slice A gs.length c0).ownBlock=some b→T b) →
   (∀j e,(qf2 O m gs p c)[j]?=some e→(qdI O)[k+j]?=some e) →
   MCT Tryz.prog T 50 as_ (Hn bg bc by_ bp bn rc rq lp O.G dc A c0 gs c p X (J k)) (nxR (fun A' c' X'=>Hn bg bc by_ bp bn rc rq lp O.G dc A' c' gs c p X' (J (k+(qf2 O m gs p c).length))) T gs.length Jx):=by
 subst hoc has
 have HDC:=Lib.hid hdc
 clear hdc
 intro m
 induction m with
 | zero =>
  intro gs p c k X A c0 hm hpl hcl hcb hpb hTA hsub
  obtain ⟨tl,htl⟩:∃n,n=(qf2 O 0 gs p c).length:=⟨_,rfl⟩
  rw[← htl]
  have hrc:=hrop c rc hcl fun x hx=>⟨(hcb x hx).1,by have:=(hcb x hx).2;omega⟩
  clear hrop hleads hgg hclr
  rw[hcl] at hrc
  have HSUB:=Lib.hid hsub
  have HY:=Lib.hid hy
  clear hsub hy
  unfold Hn HnA
  generalize O.G=G at *
  simp only[List.cons_append,List.nil_append]
  (refine MCT.of Tryz.func50 (by kernel_rfl) rfl (by simp only[Tryz.ntmps50,List.length_cons,List.length_nil,Nat.reduceAdd,Nat.reduceSub,List.replicate_succ,List.replicate_zero,List.cons_append,List.nil_append];rfl) fun w0 S hM hT=>?_;have hF:Wf Fence.wide:=.inl rfl)
  (repeat' (first | ((first | with_reducible refine AL.id_ ?_ | with_reducible refine AE.id_ ?_);first | refine AL.build0 hF rfl rfl rfl (fun b=>⟨_,(by simp only[AV.put];rfl),?_⟩) | refine W.s rfl rfl (by first | exact AY.bx rfl (by simp only[evO,AV.get];rfl) rfl | exact AY.mkFn rfl (by simp only[List.map_cons,List.map_nil,evO,AV.get];rfl) | exact AY.mkFn1 rfl (by simp only[evO,AV.get];rfl) (by simp only[List.map_cons,List.map_nil,evO,AV.get];rfl) | exact hEQ rfl rfl rfl | exact Step2.sound (by first | (((first | (apply Step2.a;constructor) | (apply Step2.b;constructor))<;>first | infer_instance | skip)<;>(first | infer_instance | (refine w64c ?_;omega) | (refine qw ?_;omega) | (refine qn ?_;omega) | (refine qo ?_;omega) | (refine qv ?_;omega) | ((repeat (first | exact .head _ | refine .tail _ ?_));done) | assumption | (simp only[List.drop_succ_cons,List.drop_zero,List.length_map,Nat.zero_add,Nat.mul_one];rfl) | rfl | omega | (simp;done))) | fail) rfl | exact AY.call rfl rfl _ rfl (by fail) | exact AY.slice1 rfl rfl rfl (by rfl) (by first | (simp;done) | fail) | exact AY.callF rfl _ _ rfl _ rfl (by fail) | exact AY.old1k 0 rfl rfl rfl (by first | assumption | rfl) | exact AY.old1k 1 rfl rfl rfl (by first | assumption | rfl) | exact AY.old1k 2 rfl rfl rfl (by first | assumption | rfl) | exact AY.oldNk 0 rfl rfl rfl (by first | omega | (simp;omega)) (by first | assumption | rfl) | exact AY.oldNk 1 rfl rfl rfl (by first | omega | (simp;omega)) (by first | assumption | rfl)) (by simp only[AV.put];rfl) ?_ | (refine AL.nilK (hK _ _ ?_);clear hK K) | (refine AE.nil (hK _ ?_);clear hK K) | refine W.k rfl rfl (by simp only[AV.put];rfl) ?_ | refine AL.unguardS rfl rfl ?_ | refine AL.al hF rfl rfl rfl (by first | (simp only[Value.cells,List.map_cons,List.map_nil];rfl) | rfl) (fun b=>⟨_,(by simp only[AV.put];rfl),?_⟩) | refine AL.st1 hF rfl rfl rfl rfl (by simp only[evO,AV.get];rfl) (by first | exact qG | exact qH | exact qI | exact qJ | exact qK | exact qL | exact qM | exact qN) (by rfl) rfl (by rfl) (by first | (simp;done) | (simp;omega) | omega) (by simp only[List.set];rfl) ?_ | refine AL.stW hF rfl rfl rfl rfl (by simp only[evO,AV.get];rfl) (by first | exact qG | exact qH | exact qI | exact qJ | exact qK | exact qL | exact qM | exact qN) (by rfl) (by rfl) (by rfl) (by first | rfl | simp) (by simp only[List.set];rfl) ?_) | (with_reducible refine Awp.id_ ?_;first | refine Awp.seq ?_ | refine Awp.regionK (by first | (simp only[AV.putO,AV.put];rfl) | rfl) (fun K hK=>?_) | refine Awp.drawE (by first | (simp only[AV.putO,AV.put];rfl) | rfl) mixed rfl (by kernel_rfl) (fun K hK=>?_) | refine Awp.block ?_ | refine Awp.skip ?_ | refine Awp.exit ?_ | refine Awp.ret ?_ | refine Awp.condT rfl ?_ | refine Awp.condF rfl ?_) | refine qbo ?_ | refine qbL ?_ | refine qbM ?_ | refine qB ?_ | refine qC ?_ | refine qD ?_ | refine qE rfl ?_ | ((first | ((first | with_reducible refine AL.id_ ?_ | with_reducible refine AE.id_ ?_);(fail_if_success refine W.on rfl ?_);refine W.p rfl rfl (by simp only[AV.put];rfl) (by simp only[AV.put];rfl) (fun hb=>?_) (fun hb=>?_)) | (with_reducible refine Awp.id_ ?_;refine Awp.cond _ rfl (fun hb=>?_) (fun hb=>?_)))<;>(try simp only[z1,z2,z3,z4,z5,z6,z7,z8,y5,y6,y7,y8,z9,x1,x2,x3,x4,x5,x6,x7,x8] at hb;try (exfalso;omega)))))
  refine AL.perm (qlV _ 3 (by simp)) ?_
  refine AL.callM [.blk rc 3 (ints c)] _ hF rfl rfl rfl rfl [] [] (.inr ⟨rfl,[],rfl,rfl⟩) _ rfl hrc (fun _ _=>trivial) (fun _ _=>trivial) (.inl fun e he=>by rw[List.mem_singleton.1 he];exact id) (fun r H' hR=>?_) ?_
  ·rw[hR.1]
   exact ⟨fun _ e he=>by rw[List.mem_singleton.1 he];exact id,fun he=>by have:=List.mem_singleton.1 he;cases this⟩
  rintro r H' ⟨rfl,hR⟩
  refine AL.perm (H':=[HE.blk bg 23 [AV.val (.slice A gs.length c0)],HE.own (.slice A gs.length c0) 3 1 gs.length (nats gs),HE.blk bc 23 [.val (.slice (some ⟨rc,0,none⟩) G G)],HE.blk rc 3 (ints c),HE.blk by_ 110 [.val (.func (.yield lp) #[] #[])],HE.blk bp 23 [.val (.slice (some ⟨rq,0,none⟩) G G)],HE.blk rq 3 (ints p),HE.blk bn 42 [.fn 50 [] dc],HE.nodef,HE.ghost X (J k)]) ((qlV [HE.blk bg 23 [AV.val (.slice A gs.length c0)],HE.own (.slice A gs.length c0) 3 1 gs.length (nats gs),HE.blk bc 23 [.val (.slice (some ⟨rc,0,none⟩) G G)],HE.blk rc 3 (ints c),HE.blk by_ 110 [.val (.func (.yield lp) #[] #[])],HE.blk bp 23 [.val (.slice (some ⟨rq,0,none⟩) G G)],HE.blk rq 3 (ints p),HE.blk bn 42 [.fn 50 [] dc],HE.nodef,HE.ghost X (J k)] 3 (by simp)).symm) ?_
  have hgho:∀i e,([HE.blk bg 23 [AV.val (.slice A gs.length c0)],HE.own (.slice A gs.length c0) 3 1 gs.length (nats gs),HE.blk bc 23 [.val (.slice (some ⟨rc,0,none⟩) G G)],HE.blk rc 3 (ints c),HE.blk by_ 110 [.val (.func (.yield lp) #[] #[])],HE.blk bp 23 [.val (.slice (some ⟨rq,0,none⟩) G G)],HE.blk rq 3 (ints p),HE.blk bn 42 [.fn 50 [] dc],HE.nodef,HE.ghost X (J k)])[i]?=some e→e.isGhost→i=9:=quO ([HE.blk bg 23 [AV.val (.slice A gs.length c0)],HE.own (.slice A gs.length c0) 3 1 gs.length (nats gs),HE.blk bc 23 [.val (.slice (some ⟨rc,0,none⟩) G G)],HE.blk rc 3 (ints c),HE.blk by_ 110 [.val (.func (.yield lp) #[] #[])],HE.blk bp 23 [.val (.slice (some ⟨rq,0,none⟩) G G)],HE.blk rq 3 (ints p),HE.blk bn 42 [.fn 50 [] dc],HE.nodef]) X (J k) (by intro e he;simp only[List.mem_cons,List.not_mem_nil,or_false] at he;rcases he with rfl | rfl | rfl | rfl | rfl | rfl | rfl | rfl | rfl<;>exact id)
  have hgho1:∀i e,([HE.blk bg 23 [AV.val (.slice A gs.length c0)],HE.blk bc 23 [.val (.slice (some ⟨rc,0,none⟩) G G)],HE.blk rc 3 (ints c),HE.blk by_ 110 [.val (.func (.yield lp) #[] #[])],HE.blk bp 23 [.val (.slice (some ⟨rq,0,none⟩) G G)],HE.blk rq 3 (ints p),HE.blk bn 42 [.fn 50 [] dc],HE.nodef,HE.ghost X (J k)])[i]?=some e→e.isGhost→i=8:=quO ([HE.blk bg 23 [AV.val (.slice A gs.length c0)],HE.blk bc 23 [.val (.slice (some ⟨rc,0,none⟩) G G)],HE.blk rc 3 (ints c),HE.blk by_ 110 [.val (.func (.yield lp) #[] #[])],HE.blk bp 23 [.val (.slice (some ⟨rq,0,none⟩) G G)],HE.blk rq 3 (ints p),HE.blk bn 42 [.fn 50 [] dc],HE.nodef]) X (J k) (by intro e he;simp only[List.mem_cons,List.not_mem_nil,or_false] at he;rcases he with rfl | rfl | rfl | rfl | rfl | rfl | rfl | rfl<;>exact id)
  unfold qpR at hR
  cases hrv:O.rop c with
  | none =>
   rw[hrv] at hR
   simp only at hR
   subst hR
   have ht:qf2 O 0 gs p c=[]:=by unfold qf2;rw[hrv]
   rw[ht] at htl
   obtain rfl:tl=0:=htl
   refine AL.norm (by simp only[AV.put];rfl) rfl ?_
   (repeat' (first | ((first | with_reducible refine AL.id_ ?_ | with_reducible refine AE.id_ ?_);first | refine AL.build0 hF rfl rfl rfl (fun b=>⟨_,(by simp only[AV.put];rfl),?_⟩) | refine W.s rfl rfl (by first | exact AY.bx rfl (by simp only[evO,AV.get];rfl) rfl | exact AY.mkFn rfl (by simp only[List.map_cons,List.map_nil,evO,AV.get];rfl) | exact AY.mkFn1 rfl (by simp only[evO,AV.get];rfl) (by simp only[List.map_cons,List.map_nil,evO,AV.get];rfl) | exact hEQ rfl rfl rfl | exact Step2.sound (by first | (((first | (apply Step2.a;constructor) | (apply Step2.b;constructor))<;>first | infer_instance | skip)<;>(first | infer_instance | (refine w64c ?_;omega) | (refine qw ?_;omega) | (refine qn ?_;omega) | (refine qo ?_;omega) | (refine qv ?_;omega) | ((repeat (first | exact .head _ | refine .tail _ ?_));done) | assumption | (simp only[List.drop_succ_cons,List.drop_zero,List.length_map,Nat.zero_add,Nat.mul_one];rfl) | rfl | omega | (simp;done))) | fail) rfl | exact AY.call rfl rfl _ rfl (by fail) | exact AY.slice1 rfl rfl rfl (by rfl) (by first | (simp;done) | fail) | exact AY.callF rfl _ _ rfl _ rfl (by fail) | exact AY.old1k 0 rfl rfl rfl (by first | assumption | rfl) | exact AY.old1k 1 rfl rfl rfl (by first | assumption | rfl) | exact AY.old1k 2 rfl rfl rfl (by first | assumption | rfl) | exact AY.oldNk 0 rfl rfl rfl (by first | omega | (simp;omega)) (by first | assumption | rfl) | exact AY.oldNk 1 rfl rfl rfl (by first | omega | (simp;omega)) (by first | assumption | rfl)) (by simp only[AV.put];rfl) ?_ | (refine AL.nilK (hK _ _ ?_);clear hK K) | (refine AE.nil (hK _ ?_);clear hK K) | refine W.k rfl rfl (by simp only[AV.put];rfl) ?_ | refine AL.unguardS rfl rfl ?_ | refine AL.al hF rfl rfl rfl (by first | (simp only[Value.cells,List.map_cons,List.map_nil];rfl) | rfl) (fun b=>⟨_,(by simp only[AV.put];rfl),?_⟩) | refine AL.st1 hF rfl rfl rfl rfl (by simp only[evO,AV.get];rfl) (by first | exact qG | exact qH | exact qI | exact qJ | exact qK | exact qL | exact qM | exact qN) (by rfl) rfl (by rfl) (by first | (simp;done) | (simp;omega) | omega) (by simp only[List.set];rfl) ?_ | refine AL.stW hF rfl rfl rfl rfl (by simp only[evO,AV.get];rfl) (by first | exact qG | exact qH | exact qI | exact qJ | exact qK | exact qL | exact qM | exact qN) (by rfl) (by rfl) (by rfl) (by first | rfl | simp) (by simp only[List.set];rfl) ?_) | (with_reducible refine Awp.id_ ?_;first | refine Awp.seq ?_ | refine Awp.regionK (by first | (simp only[AV.putO,AV.put];rfl) | rfl) (fun K hK=>?_) | refine Awp.drawE (by first | (simp only[AV.putO,AV.put];rfl) | rfl) mixed rfl (by kernel_rfl) (fun K hK=>?_) | refine Awp.block ?_ | refine Awp.skip ?_ | refine Awp.exit ?_ | refine Awp.ret ?_ | refine Awp.condT rfl ?_ | refine Awp.condF rfl ?_) | refine qbo ?_ | refine qbL ?_ | refine qbM ?_ | refine qB ?_ | refine qC ?_ | refine qD ?_ | refine qE rfl ?_ | ((first | ((first | with_reducible refine AL.id_ ?_ | with_reducible refine AE.id_ ?_);(fail_if_success refine W.on rfl ?_);refine W.p rfl rfl (by simp only[AV.put];rfl) (by simp only[AV.put];rfl) (fun hb=>?_) (fun hb=>?_)) | (with_reducible refine Awp.id_ ?_;refine Awp.cond _ rfl (fun hb=>?_) (fun hb=>?_)))<;>(try simp only[z1,z2,z3,z4,z5,z6,z7,z8,y5,y6,y7,y8,z9,x1,x2,x3,x4,x5,x6,x7,x8] at hb;try (exfalso;omega)))))
   exact ql3 rfl (by first | rfl | (simp only[AV.get,AV.put];rfl)) (.inl ⟨rfl,A,c0,X,hTA,rfl⟩)
  | some rl =>
   rw[hrv] at hR
   simp only at hR
   subst hR
   have ht:qf2 O 0 gs p c=[(gs,rl)]:=by unfold qf2;rw[hrv]
   rw[ht] at HSUB htl
   obtain rfl:tl=1:=htl
   have hyk:=HY.out k (gs,rl) (HSUB.out 0 _ rfl)
   unfold slA
   refine AL.norm (by simp only[AV.put];rfl) rfl ?_
   (repeat' (first | ((first | with_reducible refine AL.id_ ?_ | with_reducible refine AE.id_ ?_);first | refine AL.build0 hF rfl rfl rfl (fun b=>⟨_,(by simp only[AV.put];rfl),?_⟩) | refine W.s rfl rfl (by first | exact AY.bx rfl (by simp only[evO,AV.get];rfl) rfl | exact AY.mkFn rfl (by simp only[List.map_cons,List.map_nil,evO,AV.get];rfl) | exact AY.mkFn1 rfl (by simp only[evO,AV.get];rfl) (by simp only[List.map_cons,List.map_nil,evO,AV.get];rfl) | exact hEQ rfl rfl rfl | exact Step2.sound (by first | (((first | (apply Step2.a;constructor) | (apply Step2.b;constructor))<;>first | infer_instance | skip)<;>(first | infer_instance | (refine w64c ?_;omega) | (refine qw ?_;omega) | (refine qn ?_;omega) | (refine qo ?_;omega) | (refine qv ?_;omega) | ((repeat (first | exact .head _ | refine .tail _ ?_));done) | assumption | (simp only[List.drop_succ_cons,List.drop_zero,List.length_map,Nat.zero_add,Nat.mul_one];rfl) | rfl | omega | (simp;done))) | fail) rfl | exact AY.call rfl rfl _ rfl (by fail) | exact AY.slice1 rfl rfl rfl (by rfl) (by first | (simp;done) | fail) | exact AY.callF rfl _ _ rfl _ rfl (by fail) | exact AY.old1k 0 rfl rfl rfl (by first | assumption | rfl) | exact AY.old1k 1 rfl rfl rfl (by first | assumption | rfl) | exact AY.old1k 2 rfl rfl rfl (by first | assumption | rfl) | exact AY.oldNk 0 rfl rfl rfl (by first | omega | (simp;omega)) (by first | assumption | rfl) | exact AY.oldNk 1 rfl rfl rfl (by first | omega | (simp;omega)) (by first | assumption | rfl)) (by simp only[AV.put];rfl) ?_ | (refine AL.nilK (hK _ _ ?_);clear hK K) | (refine AE.nil (hK _ ?_);clear hK K) | refine W.k rfl rfl (by simp only[AV.put];rfl) ?_ | refine AL.unguardS rfl rfl ?_ | refine AL.al hF rfl rfl rfl (by first | (simp only[Value.cells,List.map_cons,List.map_nil];rfl) | rfl) (fun b=>⟨_,(by simp only[AV.put];rfl),?_⟩) | refine AL.st1 hF rfl rfl rfl rfl (by simp only[evO,AV.get];rfl) (by first | exact qG | exact qH | exact qI | exact qJ | exact qK | exact qL | exact qM | exact qN) (by rfl) rfl (by rfl) (by first | (simp;done) | (simp;omega) | omega) (by simp only[List.set];rfl) ?_ | refine AL.stW hF rfl rfl rfl rfl (by simp only[evO,AV.get];rfl) (by first | exact qG | exact qH | exact qI | exact qJ | exact qK | exact qL | exact qM | exact qN) (by rfl) (by rfl) (by rfl) (by first | rfl | simp) (by simp only[List.set];rfl) ?_) | (with_reducible refine Awp.id_ ?_;first | refine Awp.seq ?_ | refine Awp.regionK (by first | (simp only[AV.putO,AV.put];rfl) | rfl) (fun K hK=>?_) | refine Awp.drawE (by first | (simp only[AV.putO,AV.put];rfl) | rfl) mixed rfl (by kernel_rfl) (fun K hK=>?_) | refine Awp.block ?_ | refine Awp.skip ?_ | refine Awp.exit ?_ | refine Awp.ret ?_ | refine Awp.condT rfl ?_ | refine Awp.condF rfl ?_) | refine qbo ?_ | refine qbL ?_ | refine qbM ?_ | refine qB ?_ | refine qC ?_ | refine qD ?_ | refine qE rfl ?_ | ((first | ((first | with_reducible refine AL.id_ ?_ | with_reducible refine AE.id_ ?_);(fail_if_success refine W.on rfl ?_);refine W.p rfl rfl (by simp only[AV.put];rfl) (by simp only[AV.put];rfl) (fun hb=>?_) (fun hb=>?_)) | (with_reducible refine Awp.id_ ?_;refine Awp.cond _ rfl (fun hb=>?_) (fun hb=>?_)))<;>(try simp only[z1,z2,z3,z4,z5,z6,z7,z8,y5,y6,y7,y8,z9,x1,x2,x3,x4,x5,x6,x7,x8] at hb;try (exfalso;omega)))))
   have hTal:∀b,Al w0 S [HE.blk bg 23 [AV.val (.slice A gs.length c0)],HE.own (.slice A gs.length c0) 3 1 gs.length (nats gs),HE.blk bc 23 [.val (.slice (some ⟨rc,0,none⟩) G G)],HE.blk rc 3 (ints c),HE.blk by_ 110 [.val (.func (.yield lp) #[] #[])],HE.blk bp 23 [.val (.slice (some ⟨rq,0,none⟩) G G)],HE.blk rq 3 (ints p),HE.blk bn 42 [.fn 50 [] dc],HE.nodef,HE.ghost X (J k)] b→T b:=fun b hA=>hT b fun h=>(hA.1 h).1
   have hTal1:∀b,Al w0 S [HE.blk bg 23 [AV.val (.slice A gs.length c0)],HE.blk bc 23 [.val (.slice (some ⟨rc,0,none⟩) G G)],HE.blk rc 3 (ints c),HE.blk by_ 110 [.val (.func (.yield lp) #[] #[])],HE.blk bp 23 [.val (.slice (some ⟨rq,0,none⟩) G G)],HE.blk rq 3 (ints p),HE.blk bn 42 [.fn 50 [] dc],HE.nodef,HE.ghost X (J k)] b→T b:=fun b hA=>hT b fun h=>(hA.1 h).1
   cases one with
   | false =>
    refine AL.forget 30 ?_
    refine AL.norm (by simp only[AV.put];rfl) rfl ?_
    refine AL.yield 9 rfl rfl rfl rfl _ rfl rfl hgho (by simp) hTal hyk (hcJ (k+1)) hcx (fun X'=>?_) (fun X'=>?_)
    ·refine AL.norm (by simp only[AV.put];rfl) rfl ?_
     (repeat' (first | ((first | with_reducible refine AL.id_ ?_ | with_reducible refine AE.id_ ?_);first | refine AL.build0 hF rfl rfl rfl (fun b=>⟨_,(by simp only[AV.put];rfl),?_⟩) | refine W.s rfl rfl (by first | exact AY.bx rfl (by simp only[evO,AV.get];rfl) rfl | exact AY.mkFn rfl (by simp only[List.map_cons,List.map_nil,evO,AV.get];rfl) | exact AY.mkFn1 rfl (by simp only[evO,AV.get];rfl) (by simp only[List.map_cons,List.map_nil,evO,AV.get];rfl) | exact hEQ rfl rfl rfl | exact Step2.sound (by first | (((first | (apply Step2.a;constructor) | (apply Step2.b;constructor))<;>first | infer_instance | skip)<;>(first | infer_instance | (refine w64c ?_;omega) | (refine qw ?_;omega) | (refine qn ?_;omega) | (refine qo ?_;omega) | (refine qv ?_;omega) | ((repeat (first | exact .head _ | refine .tail _ ?_));done) | assumption | (simp only[List.drop_succ_cons,List.drop_zero,List.length_map,Nat.zero_add,Nat.mul_one];rfl) | rfl | omega | (simp;done))) | fail) rfl | exact AY.call rfl rfl _ rfl (by fail) | exact AY.slice1 rfl rfl rfl (by rfl) (by first | (simp;done) | fail) | exact AY.callF rfl _ _ rfl _ rfl (by fail) | exact AY.old1k 0 rfl rfl rfl (by first | assumption | rfl) | exact AY.old1k 1 rfl rfl rfl (by first | assumption | rfl) | exact AY.old1k 2 rfl rfl rfl (by first | assumption | rfl) | exact AY.oldNk 0 rfl rfl rfl (by first | omega | (simp;omega)) (by first | assumption | rfl) | exact AY.oldNk 1 rfl rfl rfl (by first | omega | (simp;omega)) (by first | assumption | rfl)) (by simp only[AV.put];rfl) ?_ | (refine AL.nilK (hK _ _ ?_);clear hK K) | (refine AE.nil (hK _ ?_);clear hK K) | refine W.k rfl rfl (by simp only[AV.put];rfl) ?_ | refine AL.unguardS rfl rfl ?_ | refine AL.al hF rfl rfl rfl (by first | (simp only[Value.cells,List.map_cons,List.map_nil];rfl) | rfl) (fun b=>⟨_,(by simp only[AV.put];rfl),?_⟩) | refine AL.st1 hF rfl rfl rfl rfl (by simp only[evO,AV.get];rfl) (by first | exact qG | exact qH | exact qI | exact qJ | exact qK | exact qL | exact qM | exact qN) (by rfl) rfl (by rfl) (by first | (simp;done) | (simp;omega) | omega) (by simp only[List.set];rfl) ?_ | refine AL.stW hF rfl rfl rfl rfl (by simp only[evO,AV.get];rfl) (by first | exact qG | exact qH | exact qI | exact qJ | exact qK | exact qL | exact qM | exact qN) (by rfl) (by rfl) (by rfl) (by first | rfl | simp) (by simp only[List.set];rfl) ?_) | (with_reducible refine Awp.id_ ?_;first | refine Awp.seq ?_ | refine Awp.regionK (by first | (simp only[AV.putO,AV.put];rfl) | rfl) (fun K hK=>?_) | refine Awp.drawE (by first | (simp only[AV.putO,AV.put];rfl) | rfl) mixed rfl (by kernel_rfl) (fun K hK=>?_) | refine Awp.block ?_ | refine Awp.skip ?_ | refine Awp.exit ?_ | refine Awp.ret ?_ | refine Awp.condT rfl ?_ | refine Awp.condF rfl ?_) | refine qbo ?_ | refine qbL ?_ | refine qbM ?_ | refine qB ?_ | refine qC ?_ | refine qD ?_ | refine qE rfl ?_ | ((first | ((first | with_reducible refine AL.id_ ?_ | with_reducible refine AE.id_ ?_);(fail_if_success refine W.on rfl ?_);refine W.p rfl rfl (by simp only[AV.put];rfl) (by simp only[AV.put];rfl) (fun hb=>?_) (fun hb=>?_)) | (with_reducible refine Awp.id_ ?_;refine Awp.cond _ rfl (fun hb=>?_) (fun hb=>?_)))<;>(try simp only[z1,z2,z3,z4,z5,z6,z7,z8,y5,y6,y7,y8,z9,x1,x2,x3,x4,x5,x6,x7,x8] at hb;try (exfalso;omega)))))
     exact ql3 rfl (by first | rfl | (simp only[AV.get,AV.put];rfl)) (.inl ⟨rfl,A,c0,X',hTA,rfl⟩)
    ·refine AL.norm (by simp only[AV.put];rfl) rfl ?_
     (repeat' (first | ((first | with_reducible refine AL.id_ ?_ | with_reducible refine AE.id_ ?_);first | refine AL.build0 hF rfl rfl rfl (fun b=>⟨_,(by simp only[AV.put];rfl),?_⟩) | refine W.s rfl rfl (by first | exact AY.bx rfl (by simp only[evO,AV.get];rfl) rfl | exact AY.mkFn rfl (by simp only[List.map_cons,List.map_nil,evO,AV.get];rfl) | exact AY.mkFn1 rfl (by simp only[evO,AV.get];rfl) (by simp only[List.map_cons,List.map_nil,evO,AV.get];rfl) | exact hEQ rfl rfl rfl | exact Step2.sound (by first | (((first | (apply Step2.a;constructor) | (apply Step2.b;constructor))<;>first | infer_instance | skip)<;>(first | infer_instance | (refine w64c ?_;omega) | (refine qw ?_;omega) | (refine qn ?_;omega) | (refine qo ?_;omega) | (refine qv ?_;omega) | ((repeat (first | exact .head _ | refine .tail _ ?_));done) | assumption | (simp only[List.drop_succ_cons,List.drop_zero,List.length_map,Nat.zero_add,Nat.mul_one];rfl) | rfl | omega | (simp;done))) | fail) rfl | exact AY.call rfl rfl _ rfl (by fail) | exact AY.slice1 rfl rfl rfl (by rfl) (by first | (simp;done) | fail) | exact AY.callF rfl _ _ rfl _ rfl (by fail) | exact AY.old1k 0 rfl rfl rfl (by first | assumption | rfl) | exact AY.old1k 1 rfl rfl rfl (by first | assumption | rfl) | exact AY.old1k 2 rfl rfl rfl (by first | assumption | rfl) | exact AY.oldNk 0 rfl rfl rfl (by first | omega | (simp;omega)) (by first | assumption | rfl) | exact AY.oldNk 1 rfl rfl rfl (by first | omega | (simp;omega)) (by first | assumption | rfl)) (by simp only[AV.put];rfl) ?_ | (refine AL.nilK (hK _ _ ?_);clear hK K) | (refine AE.nil (hK _ ?_);clear hK K) | refine W.k rfl rfl (by simp only[AV.put];rfl) ?_ | refine AL.unguardS rfl rfl ?_ | refine AL.al hF rfl rfl rfl (by first | (simp only[Value.cells,List.map_cons,List.map_nil];rfl) | rfl) (fun b=>⟨_,(by simp only[AV.put];rfl),?_⟩) | refine AL.st1 hF rfl rfl rfl rfl (by simp only[evO,AV.get];rfl) (by first | exact qG | exact qH | exact qI | exact qJ | exact qK | exact qL | exact qM | exact qN) (by rfl) rfl (by rfl) (by first | (simp;done) | (simp;omega) | omega) (by simp only[List.set];rfl) ?_ | refine AL.stW hF rfl rfl rfl rfl (by simp only[evO,AV.get];rfl) (by first | exact qG | exact qH | exact qI | exact qJ | exact qK | exact qL | exact qM | exact qN) (by rfl) (by rfl) (by rfl) (by first | rfl | simp) (by simp only[List.set];rfl) ?_) | (with_reducible refine Awp.id_ ?_;first | refine Awp.seq ?_ | refine Awp.regionK (by first | (simp only[AV.putO,AV.put];rfl) | rfl) (fun K hK=>?_) | refine Awp.drawE (by first | (simp only[AV.putO,AV.put];rfl) | rfl) mixed rfl (by kernel_rfl) (fun K hK=>?_) | refine Awp.block ?_ | refine Awp.skip ?_ | refine Awp.exit ?_ | refine Awp.ret ?_ | refine Awp.condT rfl ?_ | refine Awp.condF rfl ?_) | refine qbo ?_ | refine qbL ?_ | refine qbM ?_ | refine qB ?_ | refine qC ?_ | refine qD ?_ | refine qE rfl ?_ | ((first | ((first | with_reducible refine AL.id_ ?_ | with_reducible refine AE.id_ ?_);(fail_if_success refine W.on rfl ?_);refine W.p rfl rfl (by simp only[AV.put];rfl) (by simp only[AV.put];rfl) (fun hb=>?_) (fun hb=>?_)) | (with_reducible refine Awp.id_ ?_;refine Awp.cond _ rfl (fun hb=>?_) (fun hb=>?_)))<;>(try simp only[z1,z2,z3,z4,z5,z6,z7,z8,y5,y6,y7,y8,z9,x1,x2,x3,x4,x5,x6,x7,x8] at hb;try (exfalso;omega)))))
     exact ql3 rfl (by first | rfl | (simp only[AV.get,AV.put];rfl)) (.inr ⟨rfl,X',List.mem_of_getElem? (i:=9) rfl⟩)
   | true =>
    refine AL.perm (qlV _ 1 (by simp)) ?_
    refine AL.yieldL 8 rfl rfl rfl rfl _ [slA natI 1 gs,slA intC 1 rl] rfl (.cons (.own _ _ 1 _ _ _ (.head _) (by rw[qxz];rfl) (qya natI (fun _=>rfl) _) (by simp)) (.cons (.same _) .nil)) rfl hgho1 (by simp) hTal1 hTA hyk (hcJ (k+1)) hcx (fun X'=>?_) (fun X'=>?_)
    ·exact AL.dead (List.mem_of_getElem? (i:=8) rfl) (hone rfl k)
    ·refine AL.norm (by simp only[AV.put];rfl) rfl ?_
     (repeat' (first | ((first | with_reducible refine AL.id_ ?_ | with_reducible refine AE.id_ ?_);first | refine AL.build0 hF rfl rfl rfl (fun b=>⟨_,(by simp only[AV.put];rfl),?_⟩) | refine W.s rfl rfl (by first | exact AY.bx rfl (by simp only[evO,AV.get];rfl) rfl | exact AY.mkFn rfl (by simp only[List.map_cons,List.map_nil,evO,AV.get];rfl) | exact AY.mkFn1 rfl (by simp only[evO,AV.get];rfl) (by simp only[List.map_cons,List.map_nil,evO,AV.get];rfl) | exact hEQ rfl rfl rfl | exact Step2.sound (by first | (((first | (apply Step2.a;constructor) | (apply Step2.b;constructor))<;>first | infer_instance | skip)<;>(first | infer_instance | (refine w64c ?_;omega) | (refine qw ?_;omega) | (refine qn ?_;omega) | (refine qo ?_;omega) | (refine qv ?_;omega) | ((repeat (first | exact .head _ | refine .tail _ ?_));done) | assumption | (simp only[List.drop_succ_cons,List.drop_zero,List.length_map,Nat.zero_add,Nat.mul_one];rfl) | rfl | omega | (simp;done))) | fail) rfl | exact AY.call rfl rfl _ rfl (by fail) | exact AY.slice1 rfl rfl rfl (by rfl) (by first | (simp;done) | fail) | exact AY.callF rfl _ _ rfl _ rfl (by fail) | exact AY.old1k 0 rfl rfl rfl (by first | assumption | rfl) | exact AY.old1k 1 rfl rfl rfl (by first | assumption | rfl) | exact AY.old1k 2 rfl rfl rfl (by first | assumption | rfl) | exact AY.oldNk 0 rfl rfl rfl (by first | omega | (simp;omega)) (by first | assumption | rfl) | exact AY.oldNk 1 rfl rfl rfl (by first | omega | (simp;omega)) (by first | assumption | rfl)) (by simp only[AV.put];rfl) ?_ | (refine AL.nilK (hK _ _ ?_);clear hK K) | (refine AE.nil (hK _ ?_);clear hK K) | refine W.k rfl rfl (by simp only[AV.put];rfl) ?_ | refine AL.unguardS rfl rfl ?_ | refine AL.al hF rfl rfl rfl (by first | (simp only[Value.cells,List.map_cons,List.map_nil];rfl) | rfl) (fun b=>⟨_,(by simp only[AV.put];rfl),?_⟩) | refine AL.st1 hF rfl rfl rfl rfl (by simp only[evO,AV.get];rfl) (by first | exact qG | exact qH | exact qI | exact qJ | exact qK | exact qL | exact qM | exact qN) (by rfl) rfl (by rfl) (by first | (simp;done) | (simp;omega) | omega) (by simp only[List.set];rfl) ?_ | refine AL.stW hF rfl rfl rfl rfl (by simp only[evO,AV.get];rfl) (by first | exact qG | exact qH | exact qI | exact qJ | exact qK | exact qL | exact qM | exact qN) (by rfl) (by rfl) (by rfl) (by first | rfl | simp) (by simp only[List.set];rfl) ?_) | (with_reducible refine Awp.id_ ?_;first | refine Awp.seq ?_ | refine Awp.regionK (by first | (simp only[AV.putO,AV.put];rfl) | rfl) (fun K hK=>?_) | refine Awp.drawE (by first | (simp only[AV.putO,AV.put];rfl) | rfl) mixed rfl (by kernel_rfl) (fun K hK=>?_) | refine Awp.block ?_ | refine Awp.skip ?_ | refine Awp.exit ?_ | refine Awp.ret ?_ | refine Awp.condT rfl ?_ | refine Awp.condF rfl ?_) | refine qbo ?_ | refine qbL ?_ | refine qbM ?_ | refine qB ?_ | refine qC ?_ | refine qD ?_ | refine qE rfl ?_ | ((first | ((first | with_reducible refine AL.id_ ?_ | with_reducible refine AE.id_ ?_);(fail_if_success refine W.on rfl ?_);refine W.p rfl rfl (by simp only[AV.put];rfl) (by simp only[AV.put];rfl) (fun hb=>?_) (fun hb=>?_)) | (with_reducible refine Awp.id_ ?_;refine Awp.cond _ rfl (fun hb=>?_) (fun hb=>?_)))<;>(try simp only[z1,z2,z3,z4,z5,z6,z7,z8,y5,y6,y7,y8,z9,x1,x2,x3,x4,x5,x6,x7,x8] at hb;try (exfalso;omega)))))
     exact ql3 rfl (by first | rfl | (simp only[AV.get,AV.put];rfl)) (.inr ⟨rfl,X',List.mem_of_getElem? (i:=8) rfl⟩)
 | succ m ih =>
  intro gs p c k X A c0 hm hpl hcl hcb hpb hTA hsub
  have hgl:gs.length<O.clients.length:=by omega
  have hcr0:=hclr gs.length hgl
  have hnn:=hcn gs.length hgl
  obtain ⟨ch,hch⟩:∃ch,ch=qsc O m gs p c:=⟨_,rfl⟩
  have HCH:=Lib.hid (show ∀g,ch g=if O.lead g=true∧cntN p g+cntN O.clients gs.length≤O.pts g then qf2 O m (gs++[g]) (p.set g (cntN p g+cntN O.clients gs.length)) (c.set g (cntN c g+1)) else [] from fun g=>by rw[hch];rfl)
  have HSUB:=Lib.hid (show ∀g,g<O.G→∀j e,(ch g)[j]?=some e→(qdI O)[k+preN ch g+j]?=some e from fun g hg j e hj=>by
   rw[Nat.add_assoc]
   refine hsub _ e ?_
   rw[qno,← hch]
   exact qvT ch _ g hg j e hj)
  rw[show (qf2 O (m+1) gs p c).length=preN ch O.G by rw[qno,← hch];rfl]
  clear hsub hch
  have HIH:=Lib.hid ih
  have HGG:=Lib.hid hgg
  have HLD:=Lib.hid hleads
  clear ih hgg hclr hrop hy hleads hcn
  obtain ⟨nn,hnn'⟩:∃nn,nn=cntN O.clients gs.length:=⟨_,rfl⟩
  rw[← hnn'] at hcr0 hnn HCH
  unfold Hn HnA
  simp only[List.cons_append,List.nil_append]
  (refine MCT.of Tryz.func50 (by kernel_rfl) rfl (by simp only[Tryz.ntmps50,List.length_cons,List.length_nil,Nat.reduceAdd,Nat.reduceSub,List.replicate_succ,List.replicate_zero,List.cons_append,List.nil_append];rfl) fun w0 S hM hT=>?_;have hF:Wf Fence.wide:=.inl rfl)
  (repeat' (first | ((first | with_reducible refine AL.id_ ?_ | with_reducible refine AE.id_ ?_);first | refine AL.build0 hF rfl rfl rfl (fun b=>⟨_,(by simp only[AV.put];rfl),?_⟩) | refine W.s rfl rfl (by first | exact AY.bx rfl (by simp only[evO,AV.get];rfl) rfl | exact AY.mkFn rfl (by simp only[List.map_cons,List.map_nil,evO,AV.get];rfl) | exact AY.mkFn1 rfl (by simp only[evO,AV.get];rfl) (by simp only[List.map_cons,List.map_nil,evO,AV.get];rfl) | exact hEQ rfl rfl rfl | exact Step2.sound (by first | (((first | (apply Step2.a;constructor) | (apply Step2.b;constructor))<;>first | infer_instance | skip)<;>(first | infer_instance | (refine w64c ?_;omega) | (refine qw ?_;omega) | (refine qn ?_;omega) | (refine qo ?_;omega) | (refine qv ?_;omega) | ((repeat (first | exact .head _ | refine .tail _ ?_));done) | assumption | (simp only[List.drop_succ_cons,List.drop_zero,List.length_map,Nat.zero_add,Nat.mul_one];rfl) | rfl | omega | (simp;done))) | fail) rfl | exact AY.call rfl rfl _ rfl (by fail) | exact AY.slice1 rfl rfl rfl (by rfl) (by first | (simp;done) | fail) | exact AY.callF rfl _ _ rfl _ rfl (by fail) | exact AY.old1k 0 rfl rfl rfl (by first | assumption | rfl) | exact AY.old1k 1 rfl rfl rfl (by first | assumption | rfl) | exact AY.old1k 2 rfl rfl rfl (by first | assumption | rfl) | exact AY.oldNk 0 rfl rfl rfl (by first | omega | (simp;omega)) (by first | assumption | rfl) | exact AY.oldNk 1 rfl rfl rfl (by first | omega | (simp;omega)) (by first | assumption | rfl)) (by simp only[AV.put];rfl) ?_ | (refine AL.nilK (hK _ _ ?_);clear hK K) | (refine AE.nil (hK _ ?_);clear hK K) | refine W.k rfl rfl (by simp only[AV.put];rfl) ?_ | refine AL.unguardS rfl rfl ?_ | refine AL.al hF rfl rfl rfl (by first | (simp only[Value.cells,List.map_cons,List.map_nil];rfl) | rfl) (fun b=>⟨_,(by simp only[AV.put];rfl),?_⟩) | refine AL.st1 hF rfl rfl rfl rfl (by simp only[evO,AV.get];rfl) (by first | exact qG | exact qH | exact qI | exact qJ | exact qK | exact qL | exact qM | exact qN) (by rfl) rfl (by rfl) (by first | (simp;done) | (simp;omega) | omega) (by simp only[List.set];rfl) ?_ | refine AL.stW hF rfl rfl rfl rfl (by simp only[evO,AV.get];rfl) (by first | exact qG | exact qH | exact qI | exact qJ | exact qK | exact qL | exact qM | exact qN) (by rfl) (by rfl) (by rfl) (by first | rfl | simp) (by simp only[List.set];rfl) ?_) | (with_reducible refine Awp.id_ ?_;first | refine Awp.seq ?_ | refine Awp.regionK (by first | (simp only[AV.putO,AV.put];rfl) | rfl) (fun K hK=>?_) | refine Awp.drawE (by first | (simp only[AV.putO,AV.put];rfl) | rfl) mixed rfl (by kernel_rfl) (fun K hK=>?_) | refine Awp.block ?_ | refine Awp.skip ?_ | refine Awp.exit ?_ | refine Awp.ret ?_ | refine Awp.condT rfl ?_ | refine Awp.condF rfl ?_) | refine qbo ?_ | refine qbL ?_ | refine qbM ?_ | refine qB ?_ | refine qC ?_ | refine qD ?_ | refine qE rfl ?_ | ((first | ((first | with_reducible refine AL.id_ ?_ | with_reducible refine AE.id_ ?_);(fail_if_success refine W.on rfl ?_);refine W.p rfl rfl (by simp only[AV.put];rfl) (by simp only[AV.put];rfl) (fun hb=>?_) (fun hb=>?_)) | (with_reducible refine Awp.id_ ?_;refine Awp.cond _ rfl (fun hb=>?_) (fun hb=>?_)))<;>(try simp only[z1,z2,z3,z4,z5,z6,z7,z8,y5,y6,y7,y8,z9,x1,x2,x3,x4,x5,x6,x7,x8] at hb;try (exfalso;omega)))))
  refine Awp.loopM [6,10,50,51,52,53,54,55,56,57,58,59,60,61,62,63,64,65,66,67,68,69,70,71,72,73,74,75,76,77,78,79,80,81,82,83,84,85,86,87,88,89,90,91,92,93,94,95,96,97,98,99,100,101,102,103,104,105,106,107,108,109,110,111,112] [49] (fun mm vs H=>∃(g:Nat) (A':Option Addr) (c':Nat) (X':Nat→Prop),mm+g=O.G∧vs=[.int g]∧(∀b,(Value.slice A' gs.length c').ownBlock=some b→T b)∧H=[HE.blk bg 23 [AV.val (.slice A' gs.length c')],HE.own (.slice A' gs.length c') 3 1 gs.length (nats gs),HE.blk bc 23 [.val (.slice (some ⟨rc,0,none⟩) O.G O.G)],HE.blk rc 3 (ints c),HE.blk by_ 110 [.val (.func (.yield lp) #[] #[])],HE.blk bp 23 [.val (.slice (some ⟨rq,0,none⟩) O.G O.G)],HE.blk rq 3 (ints p),HE.blk bn 42 [.fn 50 [] dc],HE.nodef,HE.ghost X' (J (k+preN ch g))]) O.G ⟨0,A,c0,X,rfl,rfl,hTA,rfl⟩ ?_
  rintro mm ju vs H ⟨g,A',c',X',hmg,rfl,hTA',rfl⟩
  (refine Awp.slots (by first | (simp only[putl,mask,AV.put];rfl) | rfl) ?_)
  by_cases hg:g<O.G
  ·obtain ⟨xa,xb,hgr⟩:=HGG.out g hg
   have hld:=HLD.out g hg
   have hpr:=qvS p g (by omega)
   have hcr:=qvS c g (by omega)
   have hlp:=qmk p
   have hlc:=qmk c
   have hpg:0≤cntN p g∧cntN p g≤20:=by rw[qkR p g (by omega)];exact hpb _ (List.getElem_mem _)
   have hcg:0≤cntN c g∧cntN c g≤(gs.length:Int):=by rw[qkR c g (by omega)];exact hcb _ (List.getElem_mem _)
   have hptg:=hpt g
   have hchg:=HCH.out g
   have hps:=qxA ch g
   generalize O.pts g=pt at *
   cases hlb:O.lead g with
   | false =>
    rw[hlb] at hld hchg
    rw[if_neg (by simp)] at hchg
    rw[hchg] at hps
    (repeat' (first | ((first | with_reducible refine AL.id_ ?_ | with_reducible refine AE.id_ ?_);first | refine AL.build0 hF rfl rfl rfl (fun b=>⟨_,(by simp only[AV.put];rfl),?_⟩) | refine W.s rfl rfl (by first | exact AY.bx rfl (by simp only[evO,AV.get];rfl) rfl | exact AY.mkFn rfl (by simp only[List.map_cons,List.map_nil,evO,AV.get];rfl) | exact AY.mkFn1 rfl (by simp only[evO,AV.get];rfl) (by simp only[List.map_cons,List.map_nil,evO,AV.get];rfl) | exact hEQ rfl rfl rfl | exact Step2.sound (by first | (((first | (apply Step2.a;constructor) | (apply Step2.b;constructor))<;>first | infer_instance | skip)<;>(first | infer_instance | (refine w64c ?_;omega) | (refine qw ?_;omega) | (refine qn ?_;omega) | (refine qo ?_;omega) | (refine qv ?_;omega) | ((repeat (first | exact .head _ | refine .tail _ ?_));done) | assumption | (simp only[List.drop_succ_cons,List.drop_zero,List.length_map,Nat.zero_add,Nat.mul_one];rfl) | rfl | omega | (simp;done))) | fail) rfl | exact AY.call rfl rfl _ rfl (by exact hld) | exact AY.slice1 rfl rfl rfl (by rfl) (by first | (simp;done) | fail) | exact AY.callF rfl _ _ rfl _ rfl (by exact hld) | exact AY.old1k 0 rfl rfl rfl (by first | assumption | rfl) | exact AY.old1k 1 rfl rfl rfl (by first | assumption | rfl) | exact AY.old1k 2 rfl rfl rfl (by first | assumption | rfl) | exact AY.oldNk 0 rfl rfl rfl (by first | omega | (simp;omega)) (by first | assumption | rfl) | exact AY.oldNk 1 rfl rfl rfl (by first | omega | (simp;omega)) (by first | assumption | rfl)) (by simp only[AV.put];rfl) ?_ | (refine AL.nilK (hK _ _ ?_);clear hK K) | (refine AE.nil (hK _ ?_);clear hK K) | refine W.k rfl rfl (by simp only[AV.put];rfl) ?_ | refine AL.unguardS rfl rfl ?_ | refine AL.al hF rfl rfl rfl (by first | (simp only[Value.cells,List.map_cons,List.map_nil];rfl) | rfl) (fun b=>⟨_,(by simp only[AV.put];rfl),?_⟩) | refine AL.st1 hF rfl rfl rfl rfl (by simp only[evO,AV.get];rfl) (by first | exact qG | exact qH | exact qI | exact qJ | exact qK | exact qL | exact qM | exact qN) (by rfl) rfl (by rfl) (by first | (simp;done) | (simp;omega) | omega) (by simp only[List.set];rfl) ?_ | refine AL.stW hF rfl rfl rfl rfl (by simp only[evO,AV.get];rfl) (by first | exact qG | exact qH | exact qI | exact qJ | exact qK | exact qL | exact qM | exact qN) (by rfl) (by rfl) (by rfl) (by first | rfl | simp) (by simp only[List.set];rfl) ?_) | (with_reducible refine Awp.id_ ?_;first | refine Awp.seq ?_ | refine Awp.regionK (by first | (simp only[AV.putO,AV.put];rfl) | rfl) (fun K hK=>?_) | refine Awp.drawE (by first | (simp only[AV.putO,AV.put];rfl) | rfl) mixed rfl (by kernel_rfl) (fun K hK=>?_) | refine Awp.block ?_ | refine Awp.skip ?_ | refine Awp.exit ?_ | refine Awp.ret ?_ | refine Awp.condT rfl ?_ | refine Awp.condF rfl ?_) | refine qbo ?_ | refine qbL ?_ | refine qbM ?_ | refine qB ?_ | refine qC ?_ | refine qD ?_ | refine qE rfl ?_ | ((first | ((first | with_reducible refine AL.id_ ?_ | with_reducible refine AE.id_ ?_);(fail_if_success refine W.on rfl ?_);refine W.p rfl rfl (by simp only[AV.put];rfl) (by simp only[AV.put];rfl) (fun hb=>?_) (fun hb=>?_)) | (with_reducible refine Awp.id_ ?_;refine Awp.cond _ rfl (fun hb=>?_) (fun hb=>?_)))<;>(try simp only[z1,z2,z3,z4,z5,z6,z7,z8,y5,y6,y7,y8,z9,x1,x2,x3,x4,x5,x6,x7,x8] at hb;try (exfalso;omega)))))
    (refine qsz (mm-1) (by first | (simp only[AV.putO,AV.put];rfl) | rfl) (by omega) ?_ (by simp only[List.map,AV.get,mask,putl,AV.put]))
    exact ⟨g+1,A',c',X',by omega,rfl,hTA',by rw[hps];rfl⟩
   | true =>
    rw[hlb] at hld hchg
    by_cases hle:cntN p g+nn≤pt
    ·rw[if_pos ⟨rfl,hle⟩] at hchg
     have e1:(ints p).set g (AV.int (cntN p g+nn))=ints (p.set g (cntN p g+nn)):=qoL p g _
     have e2:(ints c).set g (AV.int (cntN c g+1))=ints (c.set g (cntN c g+1)):=qoL c g _
     have HI:=Lib.hid (fun A2 c2 X2 hT2=>HIH.out (gs++[g]) (p.set g (cntN p g+nn)) (c.set g (cntN c g+1)) (k+preN ch g) X2 A2 c2 (by simp;omega) (by simpa using hpl) (by simpa using hcl) (fun x hx=>?_) (fun x hx=>?_) hT2 (fun j e hj=>HSUB.out g hg j e (by rw[hchg];exact hj)))
     ·rw[← hchg] at HI
      have HPS:=Lib.hid hps
      clear hps hchg
      (repeat' (first | ((first | with_reducible refine AL.id_ ?_ | with_reducible refine AE.id_ ?_);first | refine AL.build0 hF rfl rfl rfl (fun b=>⟨_,(by simp only[AV.put];rfl),?_⟩) | refine W.s rfl rfl (by first | exact AY.bx rfl (by simp only[evO,AV.get];rfl) rfl | exact AY.mkFn rfl (by simp only[List.map_cons,List.map_nil,evO,AV.get];rfl) | exact AY.mkFn1 rfl (by simp only[evO,AV.get];rfl) (by simp only[List.map_cons,List.map_nil,evO,AV.get];rfl) | exact AY.build rfl (by simp only[List.map_cons,List.map_nil,evO,AV.get];rfl) (by simp only[List.map_cons,List.map_nil];repeat (first | exact Places.nil | apply Places.cons)) (by first | (simp only[zip3,qdn,qeB,qb3,qk,qhK,List.map_cons,List.map_nil,List.length_cons,List.length_nil,List.take_succ_cons,List.take_zero,List.drop_succ_cons,List.drop_zero,List.replicate_succ,List.replicate_zero,List.cons_append,List.nil_append,List.append_nil,List.drop_nil,List.take_nil,List.toList_toArray,Nat.sub_zero,Nat.reduceSub,Nat.reduceAdd,Nat.reduceMul,Nat.zero_mul,Nat.one_mul,Nat.mul_one,Nat.zero_add,Nat.le_refl,Nat.reduceLeDiff,and_self,true_and,and_true,if_true];rfl) | rfl) | exact AY.buildS rfl (by simp only[List.map_cons,List.map_nil,evO,AV.get];rfl) (by first | rfl | decide) (by omega) (by first | (simp only[zip3,qdn,qeB,qb3,qk,qhK,List.map_cons,List.map_nil,List.length_cons,List.length_nil,List.take_succ_cons,List.take_zero,List.drop_succ_cons,List.drop_zero,List.replicate_succ,List.replicate_zero,List.cons_append,List.nil_append,List.append_nil,List.drop_nil,List.take_nil,List.toList_toArray,Nat.sub_zero,Nat.reduceSub,Nat.reduceAdd,Nat.reduceMul,Nat.zero_mul,Nat.one_mul,Nat.mul_one,Nat.zero_add,Nat.le_refl,Nat.reduceLeDiff,and_self,true_and,and_true,if_true];rfl) | rfl) (by first | (simp only[zip3,qdn,qeB,qb3,qk,qhK,List.map_cons,List.map_nil,List.length_cons,List.length_nil,List.take_succ_cons,List.take_zero,List.drop_succ_cons,List.drop_zero,List.replicate_succ,List.replicate_zero,List.cons_append,List.nil_append,List.append_nil,List.drop_nil,List.take_nil,List.toList_toArray,Nat.sub_zero,Nat.reduceSub,Nat.reduceAdd,Nat.reduceMul,Nat.zero_mul,Nat.one_mul,Nat.mul_one,Nat.zero_add,Nat.le_refl,Nat.reduceLeDiff,and_self,true_and,and_true,if_true];rfl) | rfl) | exact hEQ rfl rfl rfl | exact Step2.sound (by first | (((first | (apply Step2.a;constructor) | (apply Step2.b;constructor))<;>first | infer_instance | skip)<;>(first | infer_instance | (refine w64c ?_;omega) | (refine qw ?_;omega) | (refine qn ?_;omega) | (refine qo ?_;omega) | (refine qv ?_;omega) | ((repeat (first | exact .head _ | refine .tail _ ?_));done) | assumption | (simp only[List.drop_succ_cons,List.drop_zero,List.length_map,Nat.zero_add,Nat.mul_one];rfl) | rfl | omega | (simp;done))) | fail) rfl | exact AY.call rfl rfl _ rfl (by exact hld) | exact AY.slice1 rfl rfl rfl (by rfl) (by first | (simp;done) | fail) | exact AY.callF rfl _ _ rfl _ rfl (by exact hld) | exact AY.old1k 0 rfl rfl rfl (by first | assumption | rfl) | exact AY.old1k 1 rfl rfl rfl (by first | assumption | rfl) | exact AY.old1k 2 rfl rfl rfl (by first | assumption | rfl) | exact AY.oldNk 0 rfl rfl rfl (by first | omega | (simp;omega)) (by first | assumption | rfl) | exact AY.oldNk 1 rfl rfl rfl (by first | omega | (simp;omega)) (by first | assumption | rfl)) (by simp only[AV.put];rfl) ?_ | (refine AL.nilK (hK _ _ ?_);clear hK K) | (refine AE.nil (hK _ ?_);clear hK K) | refine W.k rfl rfl (by simp only[AV.put];rfl) ?_ | refine AL.unguardS rfl rfl ?_ | refine AL.al hF rfl rfl rfl (by first | (simp only[Value.cells,List.map_cons,List.map_nil];rfl) | rfl) (fun b=>⟨_,(by simp only[AV.put];rfl),?_⟩) | refine AL.st1 hF rfl rfl rfl rfl (by simp only[evO,AV.get];rfl) (by first | exact qG | exact qH | exact qI | exact qJ | exact qK | exact qL | exact qM | exact qN) (by rfl) rfl (by rfl) (by first | (simp;done) | (simp;omega) | omega) (by simp only[List.set];rfl) ?_ | refine AL.stW hF rfl rfl rfl rfl (by simp only[evO,AV.get];rfl) (by first | exact qG | exact qH | exact qI | exact qJ | exact qK | exact qL | exact qM | exact qN) (by rfl) (by rfl) (by rfl) (by first | rfl | simp) (by simp only[List.set];rfl) ?_) | (with_reducible refine Awp.id_ ?_;first | refine Awp.seq ?_ | refine Awp.regionK (by first | (simp only[AV.putO,AV.put];rfl) | rfl) (fun K hK=>?_) | refine Awp.drawE (by first | (simp only[AV.putO,AV.put];rfl) | rfl) mixed rfl (by kernel_rfl) (fun K hK=>?_) | refine Awp.block ?_ | refine Awp.skip ?_ | refine Awp.exit ?_ | refine Awp.ret ?_ | refine Awp.condT rfl ?_ | refine Awp.condF rfl ?_) | refine qbo ?_ | refine qbL ?_ | refine qbM ?_ | refine qB ?_ | refine qC ?_ | refine qD ?_ | refine qE rfl ?_ | ((first | ((first | with_reducible refine AL.id_ ?_ | with_reducible refine AE.id_ ?_);(fail_if_success refine W.on rfl ?_);refine W.p rfl rfl (by simp only[AV.put];rfl) (by simp only[AV.put];rfl) (fun hb=>?_) (fun hb=>?_)) | (with_reducible refine Awp.id_ ?_;refine Awp.cond _ rfl (fun hb=>?_) (fun hb=>?_)))<;>(try simp only[z1,z2,z3,z4,z5,z6,z7,z8,y5,y6,y7,y8,z9,x1,x2,x3,x4,x5,x6,x7,x8] at hb;try (exfalso;omega)))))
      rw[e1,e2]
      refine AL.appendB hF w0.w.heap.size (fun a w hr=>hr.ext.size) 1 rfl rfl rfl rfl rfl rfl (by first | (simp[AV.one,Value.oneCell'];done) | assumption) (by simp only[List.length_cons,List.length_nil];unfold maxLen;omega) (by first | omega | (simp only[List.length_cons,List.length_nil];omega)) (fun A2 c2 hb2=>?_)
      refine AL.norm (by simp only[AV.put,List.length_cons,List.length_nil,Nat.zero_add];rfl) (by simp only[List.set,List.flatten_cons,List.flatten_nil,List.append_nil,List.length_cons,List.length_nil,Nat.zero_add];rfl) ?_
      have hT2:∀b,(Value.slice A2 (gs++[g]).length c2).ownBlock=some b→T b:=fun b hb=>by
       have hb':(Value.slice A2 (gs.length+[[AV.val (.int .i64 (g:Int))]].length) c2).ownBlock=some b:=by rw[← hb];cases A2<;>rfl
       rcases hb2 b hb' with h | h
       ·exact hTA' b h
       ·exact hT b fun hlt=>absurd hlt (Nat.not_lt.2 h)
      (repeat' (first | ((first | with_reducible refine AL.id_ ?_ | with_reducible refine AE.id_ ?_);first | refine AL.build0 hF rfl rfl rfl (fun b=>⟨_,(by simp only[AV.put];rfl),?_⟩) | refine W.s rfl rfl (by first | exact AY.bx rfl (by simp only[evO,AV.get];rfl) rfl | exact AY.mkFn rfl (by simp only[List.map_cons,List.map_nil,evO,AV.get];rfl) | exact AY.mkFn1 rfl (by simp only[evO,AV.get];rfl) (by simp only[List.map_cons,List.map_nil,evO,AV.get];rfl) | exact hEQ rfl rfl rfl | exact Step2.sound (by first | (((first | (apply Step2.a;constructor) | (apply Step2.b;constructor))<;>first | infer_instance | skip)<;>(first | infer_instance | (refine w64c ?_;omega) | (refine qw ?_;omega) | (refine qn ?_;omega) | (refine qo ?_;omega) | (refine qv ?_;omega) | ((repeat (first | exact .head _ | refine .tail _ ?_));done) | assumption | (simp only[List.drop_succ_cons,List.drop_zero,List.length_map,Nat.zero_add,Nat.mul_one];rfl) | rfl | omega | (simp;done))) | fail) rfl | exact AY.call rfl rfl _ rfl (by fail) | exact AY.slice1 rfl rfl rfl (by rfl) (by first | (simp;done) | fail) | exact AY.callF rfl _ _ rfl _ rfl (by fail) | exact AY.old1k 0 rfl rfl rfl (by first | assumption | rfl) | exact AY.old1k 1 rfl rfl rfl (by first | assumption | rfl) | exact AY.old1k 2 rfl rfl rfl (by first | assumption | rfl) | exact AY.oldNk 0 rfl rfl rfl (by first | omega | (simp;omega)) (by first | assumption | rfl) | exact AY.oldNk 1 rfl rfl rfl (by first | omega | (simp;omega)) (by first | assumption | rfl)) (by simp only[AV.put];rfl) ?_ | (refine AL.nilK (hK _ _ ?_);clear hK K) | (refine AE.nil (hK _ ?_);clear hK K) | refine W.k rfl rfl (by simp only[AV.put];rfl) ?_ | refine AL.unguardS rfl rfl ?_ | refine AL.al hF rfl rfl rfl (by first | (simp only[Value.cells,List.map_cons,List.map_nil];rfl) | rfl) (fun b=>⟨_,(by simp only[AV.put];rfl),?_⟩) | refine AL.st1 hF rfl rfl rfl rfl (by simp only[evO,AV.get];rfl) (by first | exact qG | exact qH | exact qI | exact qJ | exact qK | exact qL | exact qM | exact qN) (by rfl) rfl (by rfl) (by first | (simp;done) | (simp;omega) | omega) (by simp only[List.set];rfl) ?_ | refine AL.stW hF rfl rfl rfl rfl (by simp only[evO,AV.get];rfl) (by first | exact qG | exact qH | exact qI | exact qJ | exact qK | exact qL | exact qM | exact qN) (by rfl) (by rfl) (by rfl) (by first | rfl | simp) (by simp only[List.set];rfl) ?_) | (with_reducible refine Awp.id_ ?_;first | refine Awp.seq ?_ | refine Awp.regionK (by first | (simp only[AV.putO,AV.put];rfl) | rfl) (fun K hK=>?_) | refine Awp.drawE (by first | (simp only[AV.putO,AV.put];rfl) | rfl) mixed rfl (by kernel_rfl) (fun K hK=>?_) | refine Awp.block ?_ | refine Awp.skip ?_ | refine Awp.exit ?_ | refine Awp.ret ?_ | refine Awp.condT rfl ?_ | refine Awp.condF rfl ?_) | refine qbo ?_ | refine qbL ?_ | refine qbM ?_ | refine qB ?_ | refine qC ?_ | refine qD ?_ | refine qE rfl ?_ | ((first | ((first | with_reducible refine AL.id_ ?_ | with_reducible refine AE.id_ ?_);(fail_if_success refine W.on rfl ?_);refine W.p rfl rfl (by simp only[AV.put];rfl) (by simp only[AV.put];rfl) (fun hb=>?_) (fun hb=>?_)) | (with_reducible refine Awp.id_ ?_;refine Awp.cond _ rfl (fun hb=>?_) (fun hb=>?_)))<;>(try simp only[z1,z2,z3,z4,z5,z6,z7,z8,y5,y6,y7,y8,z9,x1,x2,x3,x4,x5,x6,x7,x8] at hb;try (exfalso;omega)))))
      refine AL.callM (Hn bg bc by_ bp bn rc rq lp O.G dc A2 c2 (gs++[g]) (c.set g (cntN c g+1)) (p.set g (cntN p g+nn)) X' (J (k+preN ch g))) [] hF ?_ rfl rfl rfl [] dc (.inl rfl) _ HDC.out (HI.out A2 c2 X' hT2) (fun b hA=>hT b fun h=>(hA.1 h).1) (fun b hb=>hT b fun hlt=>absurd hlt (Nat.not_lt.2 hb)) ?_ ?_ ?_
      ·unfold Hn HnA nats;rw[List.map_append,List.length_append];rfl
      ·exact .inr ⟨fun e he=>(by cases he),List.mem_append_left _ (List.mem_append_left _ (List.mem_of_getElem? (i:=8) rfl))⟩
      ·exact fun r H' _=>⟨fun h=>(h (HE.ghost X' (J (k+preN ch g))) (List.mem_append_right _ (.head _)) trivial).elim,fun _=>List.mem_append_left _ (List.mem_append_left _ (List.mem_of_getElem? (i:=8) rfl))⟩
      rintro r H' (⟨rfl,A3,c3,X3,hT3,rfl⟩ | ⟨rfl,X3,hx⟩)
      ·refine AL.norm (H':=[HE.blk bg 23 [AV.val (.slice A3 (gs.length+1) c3)],HE.own (.slice A3 (gs.length+1) c3) 3 1 (gs.length+1) (nats (gs++[g])),HE.blk bc 23 [.val (.slice (some ⟨rc,0,none⟩) O.G O.G)],HE.blk rc 3 (ints (c.set g (cntN c g+1))),HE.blk by_ 110 [.val (.func (.yield lp) #[] #[])],HE.blk bp 23 [.val (.slice (some ⟨rq,0,none⟩) O.G O.G)],HE.blk rq 3 (ints (p.set g (cntN p g+nn))),HE.blk bn 42 [.fn 50 [] dc],HE.nodef,HE.ghost X3 (J (k+preN ch (g+1)))]) (by simp only[AV.put];rfl) (by unfold Hn HnA;rw[List.append_nil,List.length_append,Nat.add_assoc k,← HPS.out];rfl) ?_
       refine AL.ownCases 1 rfl (fun h1 h2 h3=>absurd h2 (by omega)) (fun g1 c4 h1=>?_)
       injection h1 with h1 h2 h3
       subst h1 h3
       refine AL.know (p:=gs.length+1≤c3) (fun a w hr=>?_) (fun hcap=>?_)
       ·obtain ⟨_,xs,ho,_⟩:=hr.hs _ (List.mem_of_getElem? (i:=1) rfl)
        exact qyZ ho
       (repeat' (first | ((first | with_reducible refine AL.id_ ?_ | with_reducible refine AE.id_ ?_);first | refine AL.build0 hF rfl rfl rfl (fun b=>⟨_,(by simp only[AV.put];rfl),?_⟩) | refine W.s rfl rfl (by first | exact AY.bx rfl (by simp only[evO,AV.get];rfl) rfl | exact AY.mkFn rfl (by simp only[List.map_cons,List.map_nil,evO,AV.get];rfl) | exact AY.mkFn1 rfl (by simp only[evO,AV.get];rfl) (by simp only[List.map_cons,List.map_nil,evO,AV.get];rfl) | exact hEQ rfl rfl rfl | exact Step2.sound (by first | (((first | (apply Step2.a;constructor) | (apply Step2.b;constructor))<;>first | infer_instance | skip)<;>(first | infer_instance | (refine w64c ?_;omega) | (refine qw ?_;omega) | (refine qn ?_;omega) | (refine qo ?_;omega) | (refine qv ?_;omega) | ((repeat (first | exact .head _ | refine .tail _ ?_));done) | assumption | (simp only[List.drop_succ_cons,List.drop_zero,List.length_map,Nat.zero_add,Nat.mul_one];rfl) | rfl | omega | (simp;done))) | fail) rfl | exact AY.call rfl rfl _ rfl (by fail) | exact AY.slice1 rfl rfl rfl (by rfl) (by first | (simp;done) | fail) | exact AY.callF rfl _ _ rfl _ rfl (by fail) | exact AY.old1k 0 rfl rfl rfl (by first | assumption | rfl) | exact AY.old1k 1 rfl rfl rfl (by first | assumption | rfl) | exact AY.old1k 2 rfl rfl rfl (by first | assumption | rfl) | exact AY.oldNk 0 rfl rfl rfl (by first | omega | (simp;omega)) (by first | assumption | rfl) | exact AY.oldNk 1 rfl rfl rfl (by first | omega | (simp;omega)) (by first | assumption | rfl)) (by simp only[AV.put];rfl) ?_ | (refine AL.nilK (hK _ _ ?_);clear hK K) | (refine AE.nil (hK _ ?_);clear hK K) | refine W.k rfl rfl (by simp only[AV.put];rfl) ?_ | refine AL.unguardS rfl rfl ?_ | refine AL.al hF rfl rfl rfl (by first | (simp only[Value.cells,List.map_cons,List.map_nil];rfl) | rfl) (fun b=>⟨_,(by simp only[AV.put];rfl),?_⟩) | refine AL.st1 hF rfl rfl rfl rfl (by simp only[evO,AV.get];rfl) (by first | exact qG | exact qH | exact qI | exact qJ | exact qK | exact qL | exact qM | exact qN) (by rfl) rfl (by rfl) (by first | (simp;done) | (simp;omega) | omega) (by simp only[List.set];rfl) ?_ | refine AL.stW hF rfl rfl rfl rfl (by simp only[evO,AV.get];rfl) (by first | exact qG | exact qH | exact qI | exact qJ | exact qK | exact qL | exact qM | exact qN) (by rfl) (by rfl) (by rfl) (by first | rfl | simp) (by simp only[List.set];rfl) ?_) | (with_reducible refine Awp.id_ ?_;first | refine Awp.seq ?_ | refine Awp.regionK (by first | (simp only[AV.putO,AV.put];rfl) | rfl) (fun K hK=>?_) | refine Awp.drawE (by first | (simp only[AV.putO,AV.put];rfl) | rfl) mixed rfl (by kernel_rfl) (fun K hK=>?_) | refine Awp.block ?_ | refine Awp.skip ?_ | refine Awp.exit ?_ | refine Awp.ret ?_ | refine Awp.condT rfl ?_ | refine Awp.condF rfl ?_) | refine qbo ?_ | refine qbL ?_ | refine qbM ?_ | refine qB ?_ | refine qC ?_ | refine qD ?_ | refine qE rfl ?_ | ((first | ((first | with_reducible refine AL.id_ ?_ | with_reducible refine AE.id_ ?_);(fail_if_success refine W.on rfl ?_);refine W.p rfl rfl (by simp only[AV.put];rfl) (by simp only[AV.put];rfl) (fun hb=>?_) (fun hb=>?_)) | (with_reducible refine Awp.id_ ?_;refine Awp.cond _ rfl (fun hb=>?_) (fun hb=>?_)))<;>(try simp only[z1,z2,z3,z4,z5,z6,z7,z8,y5,y6,y7,y8,z9,x1,x2,x3,x4,x5,x6,x7,x8] at hb;try (exfalso;omega)))))
       refine AL.sn hF 98 (.val (.slice (some ⟨g1,0,none⟩) gs.length c3)) rfl rfl (AY.msliceH rfl rfl rfl (by omega) (by omega)) (by simp only[AV.put];rfl) ?_
       refine AL.shrink 1 gs.length rfl (by omega) (fun _=>by simp) ?_
       have htk:(nats (gs++[g])).take (gs.length*1)=nats gs:=by unfold nats;rw[Nat.mul_one,List.map_append,List.take_left' (by simp)]
       refine AL.norm rfl (by simp only[List.set,htk];rfl) ?_
       have hcr2:(ints (c.set g (cntN c g+1)))[g]?=some (.int (cntN c g+1)):=by unfold ints;rw[List.getElem?_map,List.getElem?_set_self (by omega)];rfl
       have hpr2:(ints (p.set g (cntN p g+nn)))[g]?=some (.int (cntN p g+nn)):=by unfold ints;rw[List.getElem?_map,List.getElem?_set_self (by omega)];rfl
       have hlp2:=qmk (p.set g (cntN p g+nn))
       have hlc2:=qmk (c.set g (cntN c g+1))
       rw[List.length_set] at hlp2 hlc2
       have e3:(ints (c.set g (cntN c g+1))).set g (AV.int (cntN c g+1-1))=ints c:=by
        rw[qoL,List.set_set,show cntN c g+1-1=c[g] by rw[qkR c g (by omega)];omega,List.set_getElem_self]
       have e4:(ints (p.set g (cntN p g+nn))).set g (AV.int (cntN p g+nn-nn))=ints p:=by
        rw[qoL,List.set_set,show cntN p g+nn-nn=p[g] by rw[qkR p g (by omega)];omega,List.set_getElem_self]
       clear e1 e2
       (repeat' (first | ((first | with_reducible refine AL.id_ ?_ | with_reducible refine AE.id_ ?_);first | refine AL.build0 hF rfl rfl rfl (fun b=>⟨_,(by simp only[AV.put];rfl),?_⟩) | refine W.s rfl rfl (by first | exact AY.bx rfl (by simp only[evO,AV.get];rfl) rfl | exact AY.mkFn rfl (by simp only[List.map_cons,List.map_nil,evO,AV.get];rfl) | exact AY.mkFn1 rfl (by simp only[evO,AV.get];rfl) (by simp only[List.map_cons,List.map_nil,evO,AV.get];rfl) | exact hEQ rfl rfl rfl | exact Step2.sound (by first | (((first | (apply Step2.a;constructor) | (apply Step2.b;constructor))<;>first | infer_instance | skip)<;>(first | infer_instance | (refine w64c ?_;omega) | (refine qw ?_;omega) | (refine qn ?_;omega) | (refine qo ?_;omega) | (refine qv ?_;omega) | ((repeat (first | exact .head _ | refine .tail _ ?_));done) | assumption | (simp only[List.drop_succ_cons,List.drop_zero,List.length_map,Nat.zero_add,Nat.mul_one];rfl) | rfl | omega | (simp;done))) | fail) rfl | exact AY.call rfl rfl _ rfl (by fail) | exact AY.slice1 rfl rfl rfl (by rfl) (by first | (simp;done) | fail) | exact AY.callF rfl _ _ rfl _ rfl (by fail) | exact AY.old1k 0 rfl rfl rfl (by first | assumption | rfl) | exact AY.old1k 1 rfl rfl rfl (by first | assumption | rfl) | exact AY.old1k 2 rfl rfl rfl (by first | assumption | rfl) | exact AY.oldNk 0 rfl rfl rfl (by first | omega | (simp;omega)) (by first | assumption | rfl) | exact AY.oldNk 1 rfl rfl rfl (by first | omega | (simp;omega)) (by first | assumption | rfl)) (by simp only[AV.put];rfl) ?_ | (refine AL.nilK (hK _ _ ?_);clear hK K) | (refine AE.nil (hK _ ?_);clear hK K) | refine W.k rfl rfl (by simp only[AV.put];rfl) ?_ | refine AL.unguardS rfl rfl ?_ | refine AL.al hF rfl rfl rfl (by first | (simp only[Value.cells,List.map_cons,List.map_nil];rfl) | rfl) (fun b=>⟨_,(by simp only[AV.put];rfl),?_⟩) | refine AL.st1 hF rfl rfl rfl rfl (by simp only[evO,AV.get];rfl) (by first | exact qG | exact qH | exact qI | exact qJ | exact qK | exact qL | exact qM | exact qN) (by rfl) rfl (by rfl) (by first | (simp;done) | (simp;omega) | omega) (by simp only[List.set];rfl) ?_ | refine AL.stW hF rfl rfl rfl rfl (by simp only[evO,AV.get];rfl) (by first | exact qG | exact qH | exact qI | exact qJ | exact qK | exact qL | exact qM | exact qN) (by rfl) (by rfl) (by rfl) (by first | rfl | simp) (by simp only[List.set];rfl) ?_) | (with_reducible refine Awp.id_ ?_;first | refine Awp.seq ?_ | refine Awp.regionK (by first | (simp only[AV.putO,AV.put];rfl) | rfl) (fun K hK=>?_) | refine Awp.drawE (by first | (simp only[AV.putO,AV.put];rfl) | rfl) mixed rfl (by kernel_rfl) (fun K hK=>?_) | refine Awp.block ?_ | refine Awp.skip ?_ | refine Awp.exit ?_ | refine Awp.ret ?_ | refine Awp.condT rfl ?_ | refine Awp.condF rfl ?_) | refine qbo ?_ | refine qbL ?_ | refine qbM ?_ | refine qB ?_ | refine qC ?_ | refine qD ?_ | refine qE rfl ?_ | ((first | ((first | with_reducible refine AL.id_ ?_ | with_reducible refine AE.id_ ?_);(fail_if_success refine W.on rfl ?_);refine W.p rfl rfl (by simp only[AV.put];rfl) (by simp only[AV.put];rfl) (fun hb=>?_) (fun hb=>?_)) | (with_reducible refine Awp.id_ ?_;refine Awp.cond _ rfl (fun hb=>?_) (fun hb=>?_)))<;>(try simp only[z1,z2,z3,z4,z5,z6,z7,z8,y5,y6,y7,y8,z9,x1,x2,x3,x4,x5,x6,x7,x8] at hb;try (exfalso;omega)))))
       (refine qsz (mm-1) (by first | (simp only[AV.putO,AV.put];rfl) | rfl) (by omega) ?_ (by simp only[List.map,AV.get,mask,putl,AV.put]))
       exact ⟨g+1,some ⟨g1,0,none⟩,c3,X3,by omega,rfl,fun b hb=>hT3 b hb,by rw[e3,e4]⟩
      ·refine AL.norm (by simp only[AV.put];rfl) (List.append_nil _) ?_
       (repeat' (first | ((first | with_reducible refine AL.id_ ?_ | with_reducible refine AE.id_ ?_);first | refine AL.build0 hF rfl rfl rfl (fun b=>⟨_,(by simp only[AV.put];rfl),?_⟩) | refine W.s rfl rfl (by first | exact AY.bx rfl (by simp only[evO,AV.get];rfl) rfl | exact AY.mkFn rfl (by simp only[List.map_cons,List.map_nil,evO,AV.get];rfl) | exact AY.mkFn1 rfl (by simp only[evO,AV.get];rfl) (by simp only[List.map_cons,List.map_nil,evO,AV.get];rfl) | exact hEQ rfl rfl rfl | exact Step2.sound (by first | (((first | (apply Step2.a;constructor) | (apply Step2.b;constructor))<;>first | infer_instance | skip)<;>(first | infer_instance | (refine w64c ?_;omega) | (refine qw ?_;omega) | (refine qn ?_;omega) | (refine qo ?_;omega) | (refine qv ?_;omega) | ((repeat (first | exact .head _ | refine .tail _ ?_));done) | assumption | (simp only[List.drop_succ_cons,List.drop_zero,List.length_map,Nat.zero_add,Nat.mul_one];rfl) | rfl | omega | (simp;done))) | fail) rfl | exact AY.call rfl rfl _ rfl (by fail) | exact AY.slice1 rfl rfl rfl (by rfl) (by first | (simp;done) | fail) | exact AY.callF rfl _ _ rfl _ rfl (by fail) | exact AY.old1k 0 rfl rfl rfl (by first | assumption | rfl) | exact AY.old1k 1 rfl rfl rfl (by first | assumption | rfl) | exact AY.old1k 2 rfl rfl rfl (by first | assumption | rfl) | exact AY.oldNk 0 rfl rfl rfl (by first | omega | (simp;omega)) (by first | assumption | rfl) | exact AY.oldNk 1 rfl rfl rfl (by first | omega | (simp;omega)) (by first | assumption | rfl)) (by simp only[AV.put];rfl) ?_ | (refine AL.nilK (hK _ _ ?_);clear hK K) | (refine AE.nil (hK _ ?_);clear hK K) | refine W.k rfl rfl (by simp only[AV.put];rfl) ?_ | refine AL.unguardS rfl rfl ?_ | refine AL.al hF rfl rfl rfl (by first | (simp only[Value.cells,List.map_cons,List.map_nil];rfl) | rfl) (fun b=>⟨_,(by simp only[AV.put];rfl),?_⟩) | refine AL.st1 hF rfl rfl rfl rfl (by simp only[evO,AV.get];rfl) (by first | exact qG | exact qH | exact qI | exact qJ | exact qK | exact qL | exact qM | exact qN) (by rfl) rfl (by rfl) (by first | (simp;done) | (simp;omega) | omega) (by simp only[List.set];rfl) ?_ | refine AL.stW hF rfl rfl rfl rfl (by simp only[evO,AV.get];rfl) (by first | exact qG | exact qH | exact qI | exact qJ | exact qK | exact qL | exact qM | exact qN) (by rfl) (by rfl) (by rfl) (by first | rfl | simp) (by simp only[List.set];rfl) ?_) | (with_reducible refine Awp.id_ ?_;first | refine Awp.seq ?_ | refine Awp.regionK (by first | (simp only[AV.putO,AV.put];rfl) | rfl) (fun K hK=>?_) | refine Awp.drawE (by first | (simp only[AV.putO,AV.put];rfl) | rfl) mixed rfl (by kernel_rfl) (fun K hK=>?_) | refine Awp.block ?_ | refine Awp.skip ?_ | refine Awp.exit ?_ | refine Awp.ret ?_ | refine Awp.condT rfl ?_ | refine Awp.condF rfl ?_) | refine qbo ?_ | refine qbL ?_ | refine qbM ?_ | refine qB ?_ | refine qC ?_ | refine qD ?_ | refine qE rfl ?_ | ((first | ((first | with_reducible refine AL.id_ ?_ | with_reducible refine AE.id_ ?_);(fail_if_success refine W.on rfl ?_);refine W.p rfl rfl (by simp only[AV.put];rfl) (by simp only[AV.put];rfl) (fun hb=>?_) (fun hb=>?_)) | (with_reducible refine Awp.id_ ?_;refine Awp.cond _ rfl (fun hb=>?_) (fun hb=>?_)))<;>(try simp only[z1,z2,z3,z4,z5,z6,z7,z8,y5,y6,y7,y8,z9,x1,x2,x3,x4,x5,x6,x7,x8] at hb;try (exfalso;omega)))))
       exact ql3 rfl (by first | rfl | (simp only[AV.get,AV.put];rfl)) (.inr ⟨rfl,X3,hx⟩)
     ·rcases List.mem_or_eq_of_mem_set hx with h | h
      ·have:=hcb x h;simp;omega
      ·subst h;simp;omega
     ·rcases List.mem_or_eq_of_mem_set hx with h | h
      ·exact hpb x h
      ·subst h;omega
    ·rw[if_neg (fun h=>hle h.2)] at hchg
     rw[hchg] at hps
     (repeat' (first | ((first | with_reducible refine AL.id_ ?_ | with_reducible refine AE.id_ ?_);first | refine AL.build0 hF rfl rfl rfl (fun b=>⟨_,(by simp only[AV.put];rfl),?_⟩) | refine W.s rfl rfl (by first | exact AY.bx rfl (by simp only[evO,AV.get];rfl) rfl | exact AY.mkFn rfl (by simp only[List.map_cons,List.map_nil,evO,AV.get];rfl) | exact AY.mkFn1 rfl (by simp only[evO,AV.get];rfl) (by simp only[List.map_cons,List.map_nil,evO,AV.get];rfl) | exact hEQ rfl rfl rfl | exact Step2.sound (by first | (((first | (apply Step2.a;constructor) | (apply Step2.b;constructor))<;>first | infer_instance | skip)<;>(first | infer_instance | (refine w64c ?_;omega) | (refine qw ?_;omega) | (refine qn ?_;omega) | (refine qo ?_;omega) | (refine qv ?_;omega) | ((repeat (first | exact .head _ | refine .tail _ ?_));done) | assumption | (simp only[List.drop_succ_cons,List.drop_zero,List.length_map,Nat.zero_add,Nat.mul_one];rfl) | rfl | omega | (simp;done))) | fail) rfl | exact AY.call rfl rfl _ rfl (by exact hld) | exact AY.slice1 rfl rfl rfl (by rfl) (by first | (simp;done) | fail) | exact AY.callF rfl _ _ rfl _ rfl (by exact hld) | exact AY.old1k 0 rfl rfl rfl (by first | assumption | rfl) | exact AY.old1k 1 rfl rfl rfl (by first | assumption | rfl) | exact AY.old1k 2 rfl rfl rfl (by first | assumption | rfl) | exact AY.oldNk 0 rfl rfl rfl (by first | omega | (simp;omega)) (by first | assumption | rfl) | exact AY.oldNk 1 rfl rfl rfl (by first | omega | (simp;omega)) (by first | assumption | rfl)) (by simp only[AV.put];rfl) ?_ | (refine AL.nilK (hK _ _ ?_);clear hK K) | (refine AE.nil (hK _ ?_);clear hK K) | refine W.k rfl rfl (by simp only[AV.put];rfl) ?_ | refine AL.unguardS rfl rfl ?_ | refine AL.al hF rfl rfl rfl (by first | (simp only[Value.cells,List.map_cons,List.map_nil];rfl) | rfl) (fun b=>⟨_,(by simp only[AV.put];rfl),?_⟩) | refine AL.st1 hF rfl rfl rfl rfl (by simp only[evO,AV.get];rfl) (by first | exact qG | exact qH | exact qI | exact qJ | exact qK | exact qL | exact qM | exact qN) (by rfl) rfl (by rfl) (by first | (simp;done) | (simp;omega) | omega) (by simp only[List.set];rfl) ?_ | refine AL.stW hF rfl rfl rfl rfl (by simp only[evO,AV.get];rfl) (by first | exact qG | exact qH | exact qI | exact qJ | exact qK | exact qL | exact qM | exact qN) (by rfl) (by rfl) (by rfl) (by first | rfl | simp) (by simp only[List.set];rfl) ?_) | (with_reducible refine Awp.id_ ?_;first | refine Awp.seq ?_ | refine Awp.regionK (by first | (simp only[AV.putO,AV.put];rfl) | rfl) (fun K hK=>?_) | refine Awp.drawE (by first | (simp only[AV.putO,AV.put];rfl) | rfl) mixed rfl (by kernel_rfl) (fun K hK=>?_) | refine Awp.block ?_ | refine Awp.skip ?_ | refine Awp.exit ?_ | refine Awp.ret ?_ | refine Awp.condT rfl ?_ | refine Awp.condF rfl ?_) | refine qbo ?_ | refine qbL ?_ | refine qbM ?_ | refine qB ?_ | refine qC ?_ | refine qD ?_ | refine qE rfl ?_ | ((first | ((first | with_reducible refine AL.id_ ?_ | with_reducible refine AE.id_ ?_);(fail_if_success refine W.on rfl ?_);refine W.p rfl rfl (by simp only[AV.put];rfl) (by simp only[AV.put];rfl) (fun hb=>?_) (fun hb=>?_)) | (with_reducible refine Awp.id_ ?_;refine Awp.cond _ rfl (fun hb=>?_) (fun hb=>?_)))<;>(try simp only[z1,z2,z3,z4,z5,z6,z7,z8,y5,y6,y7,y8,z9,x1,x2,x3,x4,x5,x6,x7,x8] at hb;try (exfalso;omega)))))
     (refine qsz (mm-1) (by first | (simp only[AV.putO,AV.put];rfl) | rfl) (by omega) ?_ (by simp only[List.map,AV.get,mask,putl,AV.put]))
     exact ⟨g+1,A',c',X',by omega,rfl,hTA',by rw[hps];rfl⟩
  ·obtain rfl:g=O.G:=by omega
   (repeat' (first | ((first | with_reducible refine AL.id_ ?_ | with_reducible refine AE.id_ ?_);first | refine AL.build0 hF rfl rfl rfl (fun b=>⟨_,(by simp only[AV.put];rfl),?_⟩) | refine W.s rfl rfl (by first | exact AY.bx rfl (by simp only[evO,AV.get];rfl) rfl | exact AY.mkFn rfl (by simp only[List.map_cons,List.map_nil,evO,AV.get];rfl) | exact AY.mkFn1 rfl (by simp only[evO,AV.get];rfl) (by simp only[List.map_cons,List.map_nil,evO,AV.get];rfl) | exact hEQ rfl rfl rfl | exact Step2.sound (by first | (((first | (apply Step2.a;constructor) | (apply Step2.b;constructor))<;>first | infer_instance | skip)<;>(first | infer_instance | (refine w64c ?_;omega) | (refine qw ?_;omega) | (refine qn ?_;omega) | (refine qo ?_;omega) | (refine qv ?_;omega) | ((repeat (first | exact .head _ | refine .tail _ ?_));done) | assumption | (simp only[List.drop_succ_cons,List.drop_zero,List.length_map,Nat.zero_add,Nat.mul_one];rfl) | rfl | omega | (simp;done))) | fail) rfl | exact AY.call rfl rfl _ rfl (by fail) | exact AY.slice1 rfl rfl rfl (by rfl) (by first | (simp;done) | fail) | exact AY.callF rfl _ _ rfl _ rfl (by fail) | exact AY.old1k 0 rfl rfl rfl (by first | assumption | rfl) | exact AY.old1k 1 rfl rfl rfl (by first | assumption | rfl) | exact AY.old1k 2 rfl rfl rfl (by first | assumption | rfl) | exact AY.oldNk 0 rfl rfl rfl (by first | omega | (simp;omega)) (by first | assumption | rfl) | exact AY.oldNk 1 rfl rfl rfl (by first | omega | (simp;omega)) (by first | assumption | rfl)) (by simp only[AV.put];rfl) ?_ | (refine AL.nilK (hK _ _ ?_);clear hK K) | (refine AE.nil (hK _ ?_);clear hK K) | refine W.k rfl rfl (by simp only[AV.put];rfl) ?_ | refine AL.unguardS rfl rfl ?_ | refine AL.al hF rfl rfl rfl (by first | (simp only[Value.cells,List.map_cons,List.map_nil];rfl) | rfl) (fun b=>⟨_,(by simp only[AV.put];rfl),?_⟩) | refine AL.st1 hF rfl rfl rfl rfl (by simp only[evO,AV.get];rfl) (by first | exact qG | exact qH | exact qI | exact qJ | exact qK | exact qL | exact qM | exact qN) (by rfl) rfl (by rfl) (by first | (simp;done) | (simp;omega) | omega) (by simp only[List.set];rfl) ?_ | refine AL.stW hF rfl rfl rfl rfl (by simp only[evO,AV.get];rfl) (by first | exact qG | exact qH | exact qI | exact qJ | exact qK | exact qL | exact qM | exact qN) (by rfl) (by rfl) (by rfl) (by first | rfl | simp) (by simp only[List.set];rfl) ?_) | (with_reducible refine Awp.id_ ?_;first | refine Awp.seq ?_ | refine Awp.regionK (by first | (simp only[AV.putO,AV.put];rfl) | rfl) (fun K hK=>?_) | refine Awp.drawE (by first | (simp only[AV.putO,AV.put];rfl) | rfl) mixed rfl (by kernel_rfl) (fun K hK=>?_) | refine Awp.block ?_ | refine Awp.skip ?_ | refine Awp.exit ?_ | refine Awp.ret ?_ | refine Awp.condT rfl ?_ | refine Awp.condF rfl ?_) | refine qbo ?_ | refine qbL ?_ | refine qbM ?_ | refine qB ?_ | refine qC ?_ | refine qD ?_ | refine qE rfl ?_ | ((first | ((first | with_reducible refine AL.id_ ?_ | with_reducible refine AE.id_ ?_);(fail_if_success refine W.on rfl ?_);refine W.p rfl rfl (by simp only[AV.put];rfl) (by simp only[AV.put];rfl) (fun hb=>?_) (fun hb=>?_)) | (with_reducible refine Awp.id_ ?_;refine Awp.cond _ rfl (fun hb=>?_) (fun hb=>?_)))<;>(try simp only[z1,z2,z3,z4,z5,z6,z7,z8,y5,y6,y7,y8,z9,x1,x2,x3,x4,x5,x6,x7,x8] at hb;try (exfalso;omega)))))
   exact ql3 rfl (by first | rfl | (simp only[AV.get,AV.put];rfl)) (.inl ⟨rfl,A',c',X',hTA',rfl⟩)
theorem qy0(O:TmO)(one:Bool)(a0 a1 a2 a5 a6 a7 a8 a9 a10:AV)(gg cl:List (List AV))(hG4:O.G≤4)(hC6:O.clients.length≤6)(hcn:∀k:Nat,k<O.clients.length→1≤cntN O.clients k∧cntN O.clients k≤20)(hpt:∀g:Nat,O.pts g≤20)
  (hggl:gg.length=O.G) (hggr:∀g:Nat,g<O.G→∃x y,gg[g]?=some [x,y,.int (O.pts g)]) (hcll:cl.length=O.clients.length) (hclr:∀k:Nat,k<O.clients.length→cl[k]?=some [.int (cntN O.clients k)])
  (hleads0:∀g:Nat,g<O.G→PC Tryz.prog 52 [.rp [a0,a1,a2,.sl 3 gg,.sl 1 cl,a5,a6,a7,a8,a9,a10],.int (g:Int)] (.bool (O.lead g)))
  (hroped0:∀(l:List Int) (rc:Nat),l.length=O.G→(∀x∈l,0≤x∧x≤6)→MC Tryz.prog 51 [.rp [a0,a1,a2,.sl 3 gg,.sl 1 cl,a5,a6,a7,a8,a9,a10],.val (.slice (some ⟨rc,0,none⟩) l.length l.length)] [.blk rc 3 (ints l)] fun r H'=>H'=[.blk rc 3 (ints l)]∧qpR (O.rop l) r) :
  qkZ Tryz.prog one 49 [] [.rp [.rp [a0,a1,a2,.sl 3 gg,.sl 1 cl,a5,a6,a7,a8,a9,a10]]] ((qdI O).map (quP one)):=by
 refine ⟨enters_of Tryz.func49 (by kernel_rfl) rfl,fun lp T J Jx X hcJ hcx hone hy=>?_⟩
 have HNX:=Lib.hid (qAD O one)
 have hleads:=Lib.hid hleads0
 have hroped:=Lib.hid hroped0
 (refine MCT.of Tryz.func49 (by kernel_rfl) rfl (by simp only[Tryz.ntmps49,List.length_cons,List.length_nil,Nat.reduceAdd,Nat.reduceSub,List.replicate_succ,List.replicate_zero,List.cons_append,List.nil_append];rfl) fun w0 S hM hT=>?_;have hF:Wf Fence.wide:=.inl rfl)
 refine Awp.seq ?_
 refine Awp.regionK (by first | (simp only[AV.putO,AV.put];rfl) | rfl) (fun K hK=>?_)
 refine AL.ef hF rfl (EF.box rfl rfl rfl fun by_=>?_)
 refine AL.norm (by simp only[AV.putO,AV.put];rfl) rfl ?_
 refine AL.nilK (hK _ _ ?_)
 clear hK K
 refine qbo ?_
 refine Awp.seq ?_
 refine Awp.drawC hF (fun t H=>∃b3 b4 b13 b20:Nat,t=[.val (.func (.yield lp) #[] #[]),.rp [.rp [a0,a1,a2,.sl 3 gg,.sl 1 cl,a5,a6,a7,a8,a9,a10]],.val (ptr by_),.val (ptr b3),.val (ptr b4),.undef,.undef,
  .rp [a0,a1,a2,.sl 3 gg,.sl 1 cl,a5,a6,a7,a8,a9,a10],.rp [a0,a1,a2,.sl 3 gg,.sl 1 cl,a5,a6,a7,a8,a9,a10],.rp [a0,a1,a2,.sl 3 gg,.sl 1 cl,a5,a6,a7,a8,a9,a10],.rp [.sl 3 gg,.sl 1 cl,a5,a6,a7,a8,a9,a10],.sl 3 gg,.int O.G,.val (.slice (some ⟨b13,0,none⟩) O.G O.G),
  .rp [a0,a1,a2,.sl 3 gg,.sl 1 cl,a5,a6,a7,a8,a9,a10],.rp [a0,a1,a2,.sl 3 gg,.sl 1 cl,a5,a6,a7,a8,a9,a10],.rp [a0,a1,a2,.sl 3 gg,.sl 1 cl,a5,a6,a7,a8,a9,a10],.rp [.sl 3 gg,.sl 1 cl,a5,a6,a7,a8,a9,a10],.sl 3 gg,.int O.G,.val (.slice (some ⟨b20,0,none⟩) O.G O.G),.undef,.undef,.undef] ∧
  H.Perm [.blk b3 23 [.val (.slice (some ⟨b13,0,none⟩) O.G O.G)],.blk b4 23 [.val (.slice (some ⟨b20,0,none⟩) O.G O.G)],.blk b13 3 ((List.range (O.G*1)).map fun j=>AV.val ((Value.int .i64 0).cells.getD (j % 1) undef)),.blk b20 3 ((List.range (O.G*1)).map fun j=>AV.val ((Value.int .i64 0).cells.getD (j % 1) undef)),
   .blk by_ 110 [.val (.func (.yield lp) #[] #[])],.nodef,.ghost X (J 0)]) (by first | (simp only[AV.putO,AV.put];rfl) | rfl) rfl mixed ?_ ?_
 ·skip
  refine qey 0 rfl (by kernel_rfl) rfl rfl (fun H=>(by first | exact Step2.sound (by first | (((first | (apply Step2.a;constructor) | (apply Step2.b;constructor))<;>first | infer_instance | skip)<;>(first | infer_instance | (refine w64c ?_;omega) | (refine qw ?_;omega) | (refine qn ?_;omega) | (refine qo ?_;omega) | (refine qv ?_;omega) | ((repeat (first | exact .head _ | refine .tail _ ?_));done) | assumption | (simp only[List.drop_succ_cons,List.drop_zero,List.length_map,Nat.zero_add,Nat.mul_one];rfl) | rfl | omega | (simp;done))) | fail) rfl | exact AY.old1k 0 rfl rfl rfl (by first | assumption | rfl) | exact AY.old1k 1 rfl rfl rfl (by first | assumption | rfl) | exact AY.old1k 2 rfl rfl rfl (by first | assumption | rfl) | exact AY.oldNk 0 rfl rfl rfl (by first | omega | (simp;omega)) (by first | assumption | rfl) | exact AY.oldNk 1 rfl rfl rfl (by first | omega | (simp;omega)) (by first | assumption | rfl))) (by simp only[AV.put];rfl) ?_
  (first | refine qey 1 rfl (by kernel_rfl) rfl rfl (fun H=>(by first | exact AY.bx rfl (by simp only[evO,AV.get];rfl) rfl | exact AY.mkFn rfl (by simp only[List.map_cons,List.map_nil,evO,AV.get];rfl) | exact AY.mkFn1 rfl (by simp only[evO,AV.get];rfl) (by simp only[List.map_cons,List.map_nil,evO,AV.get];rfl) | exact hEQ rfl rfl rfl | exact Step2.sound (by first | (((first | (apply Step2.a;constructor) | (apply Step2.b;constructor))<;>first | infer_instance | skip)<;>(first | infer_instance | (refine w64c ?_;omega) | (refine qw ?_;omega) | (refine qn ?_;omega) | (refine qo ?_;omega) | (refine qv ?_;omega) | ((repeat (first | exact .head _ | refine .tail _ ?_));done) | assumption | (simp only[List.drop_succ_cons,List.drop_zero,List.length_map,Nat.zero_add,Nat.mul_one];rfl) | rfl | omega | (simp;done))) | fail) rfl | exact AY.call rfl rfl _ rfl (by fail) | exact AY.slice1 rfl rfl rfl (by rfl) (by first | (simp;done) | fail) | exact AY.callF rfl _ _ rfl _ rfl (by fail) | exact AY.old1k 0 rfl rfl rfl (by first | assumption | rfl) | exact AY.old1k 1 rfl rfl rfl (by first | assumption | rfl) | exact AY.old1k 2 rfl rfl rfl (by first | assumption | rfl) | exact AY.oldNk 0 rfl rfl rfl (by first | omega | (simp;omega)) (by first | assumption | rfl) | exact AY.oldNk 1 rfl rfl rfl (by first | omega | (simp;omega)) (by first | assumption | rfl))) (by simp only[AV.put];rfl) ?_ | refine qT 1 rfl (by kernel_rfl) rfl rfl (by first | exact AY.bx rfl (by simp only[evO,AV.get];rfl) rfl | exact AY.mkFn rfl (by simp only[List.map_cons,List.map_nil,evO,AV.get];rfl) | exact AY.mkFn1 rfl (by simp only[evO,AV.get];rfl) (by simp only[List.map_cons,List.map_nil,evO,AV.get];rfl) | exact hEQ rfl rfl rfl | exact Step2.sound (by first | (((first | (apply Step2.a;constructor) | (apply Step2.b;constructor))<;>first | infer_instance | skip)<;>(first | infer_instance | (refine w64c ?_;omega) | (refine qw ?_;omega) | (refine qn ?_;omega) | (refine qo ?_;omega) | (refine qv ?_;omega) | ((repeat (first | exact .head _ | refine .tail _ ?_));done) | assumption | (simp only[List.drop_succ_cons,List.drop_zero,List.length_map,Nat.zero_add,Nat.mul_one];rfl) | rfl | omega | (simp;done))) | fail) rfl | exact AY.call rfl rfl _ rfl (by fail) | exact AY.slice1 rfl rfl rfl (by rfl) (by first | (simp;done) | fail) | exact AY.callF rfl _ _ rfl _ rfl (by fail) | exact AY.old1k 0 rfl rfl rfl (by first | assumption | rfl) | exact AY.old1k 1 rfl rfl rfl (by first | assumption | rfl) | exact AY.old1k 2 rfl rfl rfl (by first | assumption | rfl) | exact AY.oldNk 0 rfl rfl rfl (by first | omega | (simp;omega)) (by first | assumption | rfl) | exact AY.oldNk 1 rfl rfl rfl (by first | omega | (simp;omega)) (by first | assumption | rfl)) (by simp only[AV.put];rfl) ?_)
  refine qey 2 rfl (by kernel_rfl) rfl rfl (fun H=>Step2.sound (by first | (((first | (apply Step2.a;constructor) | (apply Step2.b;constructor))<;>first | infer_instance | skip)<;>(first | infer_instance | (refine w64c ?_;omega) | (refine qw ?_;omega) | (refine qn ?_;omega) | (refine qo ?_;omega) | (refine qv ?_;omega) | ((repeat (first | exact .head _ | refine .tail _ ?_));done) | assumption | (simp only[List.drop_succ_cons,List.drop_zero,List.length_map,Nat.zero_add,Nat.mul_one];rfl) | rfl | omega | (simp;done))) | fail) rfl) (by simp only[AV.put];rfl) ?_
  refine qey 3 rfl (by kernel_rfl) rfl rfl (fun H=>Step2.sound (by first | (((first | (apply Step2.a;constructor) | (apply Step2.b;constructor))<;>first | infer_instance | skip)<;>(first | infer_instance | (refine w64c ?_;omega) | (refine qw ?_;omega) | (refine qn ?_;omega) | (refine qo ?_;omega) | (refine qv ?_;omega) | ((repeat (first | exact .head _ | refine .tail _ ?_));done) | assumption | (simp only[List.drop_succ_cons,List.drop_zero,List.length_map,Nat.zero_add,Nat.mul_one];rfl) | rfl | omega | (simp;done))) | fail) rfl) (by simp only[AV.put];rfl) ?_
  refine qey 4 rfl (by kernel_rfl) rfl rfl (fun H=>(by first | exact Step2.sound (by first | (((first | (apply Step2.a;constructor) | (apply Step2.b;constructor))<;>first | infer_instance | skip)<;>(first | infer_instance | (refine w64c ?_;omega) | (refine qw ?_;omega) | (refine qn ?_;omega) | (refine qo ?_;omega) | (refine qv ?_;omega) | ((repeat (first | exact .head _ | refine .tail _ ?_));done) | assumption | (simp only[List.drop_succ_cons,List.drop_zero,List.length_map,Nat.zero_add,Nat.mul_one];rfl) | rfl | omega | (simp;done))) | fail) rfl | exact AY.old1k 0 rfl rfl rfl (by first | assumption | rfl) | exact AY.old1k 1 rfl rfl rfl (by first | assumption | rfl) | exact AY.old1k 2 rfl rfl rfl (by first | assumption | rfl) | exact AY.oldNk 0 rfl rfl rfl (by first | omega | (simp;omega)) (by first | assumption | rfl) | exact AY.oldNk 1 rfl rfl rfl (by first | omega | (simp;omega)) (by first | assumption | rfl))) (by simp only[AV.put];rfl) ?_
  (first | refine qey 5 rfl (by kernel_rfl) rfl rfl (fun H=>(by first | exact AY.bx rfl (by simp only[evO,AV.get];rfl) rfl | exact AY.mkFn rfl (by simp only[List.map_cons,List.map_nil,evO,AV.get];rfl) | exact AY.mkFn1 rfl (by simp only[evO,AV.get];rfl) (by simp only[List.map_cons,List.map_nil,evO,AV.get];rfl) | exact hEQ rfl rfl rfl | exact Step2.sound (by first | (((first | (apply Step2.a;constructor) | (apply Step2.b;constructor))<;>first | infer_instance | skip)<;>(first | infer_instance | (refine w64c ?_;omega) | (refine qw ?_;omega) | (refine qn ?_;omega) | (refine qo ?_;omega) | (refine qv ?_;omega) | ((repeat (first | exact .head _ | refine .tail _ ?_));done) | assumption | (simp only[List.drop_succ_cons,List.drop_zero,List.length_map,Nat.zero_add,Nat.mul_one];rfl) | rfl | omega | (simp;done))) | fail) rfl | exact AY.call rfl rfl _ rfl (by fail) | exact AY.slice1 rfl rfl rfl (by rfl) (by first | (simp;done) | fail) | exact AY.callF rfl _ _ rfl _ rfl (by fail) | exact AY.old1k 0 rfl rfl rfl (by first | assumption | rfl) | exact AY.old1k 1 rfl rfl rfl (by first | assumption | rfl) | exact AY.old1k 2 rfl rfl rfl (by first | assumption | rfl) | exact AY.oldNk 0 rfl rfl rfl (by first | omega | (simp;omega)) (by first | assumption | rfl) | exact AY.oldNk 1 rfl rfl rfl (by first | omega | (simp;omega)) (by first | assumption | rfl))) (by simp only[AV.put];rfl) ?_ | refine qT 5 rfl (by kernel_rfl) rfl rfl (by first | exact AY.bx rfl (by simp only[evO,AV.get];rfl) rfl | exact AY.mkFn rfl (by simp only[List.map_cons,List.map_nil,evO,AV.get];rfl) | exact AY.mkFn1 rfl (by simp only[evO,AV.get];rfl) (by simp only[List.map_cons,List.map_nil,evO,AV.get];rfl) | exact hEQ rfl rfl rfl | exact Step2.sound (by first | (((first | (apply Step2.a;constructor) | (apply Step2.b;constructor))<;>first | infer_instance | skip)<;>(first | infer_instance | (refine w64c ?_;omega) | (refine qw ?_;omega) | (refine qn ?_;omega) | (refine qo ?_;omega) | (refine qv ?_;omega) | ((repeat (first | exact .head _ | refine .tail _ ?_));done) | assumption | (simp only[List.drop_succ_cons,List.drop_zero,List.length_map,Nat.zero_add,Nat.mul_one];rfl) | rfl | omega | (simp;done))) | fail) rfl | exact AY.call rfl rfl _ rfl (by fail) | exact AY.slice1 rfl rfl rfl (by rfl) (by first | (simp;done) | fail) | exact AY.callF rfl _ _ rfl _ rfl (by fail) | exact AY.old1k 0 rfl rfl rfl (by first | assumption | rfl) | exact AY.old1k 1 rfl rfl rfl (by first | assumption | rfl) | exact AY.old1k 2 rfl rfl rfl (by first | assumption | rfl) | exact AY.oldNk 0 rfl rfl rfl (by first | omega | (simp;omega)) (by first | assumption | rfl) | exact AY.oldNk 1 rfl rfl rfl (by first | omega | (simp;omega)) (by first | assumption | rfl)) (by simp only[AV.put];rfl) ?_)
  refine qey 7 rfl (by kernel_rfl) rfl rfl (fun H=>(by first | exact Step2.sound (by first | (((first | (apply Step2.a;constructor) | (apply Step2.b;constructor))<;>first | infer_instance | skip)<;>(first | infer_instance | (refine w64c ?_;omega) | (refine qw ?_;omega) | (refine qn ?_;omega) | (refine qo ?_;omega) | (refine qv ?_;omega) | ((repeat (first | exact .head _ | refine .tail _ ?_));done) | assumption | (simp only[List.drop_succ_cons,List.drop_zero,List.length_map,Nat.zero_add,Nat.mul_one];rfl) | rfl | omega | (simp;done))) | fail) rfl | exact AY.old1k 0 rfl rfl rfl (by first | assumption | rfl) | exact AY.old1k 1 rfl rfl rfl (by first | assumption | rfl) | exact AY.old1k 2 rfl rfl rfl (by first | assumption | rfl) | exact AY.oldNk 0 rfl rfl rfl (by first | omega | (simp;omega)) (by first | assumption | rfl) | exact AY.oldNk 1 rfl rfl rfl (by first | omega | (simp;omega)) (by first | assumption | rfl))) (by simp only[AV.put];rfl) ?_
  (first | refine qey 8 rfl (by kernel_rfl) rfl rfl (fun H=>(by first | exact AY.bx rfl (by simp only[evO,AV.get];rfl) rfl | exact AY.mkFn rfl (by simp only[List.map_cons,List.map_nil,evO,AV.get];rfl) | exact AY.mkFn1 rfl (by simp only[evO,AV.get];rfl) (by simp only[List.map_cons,List.map_nil,evO,AV.get];rfl) | exact hEQ rfl rfl rfl | exact Step2.sound (by first | (((first | (apply Step2.a;constructor) | (apply Step2.b;constructor))<;>first | infer_instance | skip)<;>(first | infer_instance | (refine w64c ?_;omega) | (refine qw ?_;omega) | (refine qn ?_;omega) | (refine qo ?_;omega) | (refine qv ?_;omega) | ((repeat (first | exact .head _ | refine .tail _ ?_));done) | assumption | (simp only[List.drop_succ_cons,List.drop_zero,List.length_map,Nat.zero_add,Nat.mul_one];rfl) | rfl | omega | (simp;done))) | fail) rfl | exact AY.call rfl rfl _ rfl (by fail) | exact AY.slice1 rfl rfl rfl (by rfl) (by first | (simp;done) | fail) | exact AY.callF rfl _ _ rfl _ rfl (by fail) | exact AY.old1k 0 rfl rfl rfl (by first | assumption | rfl) | exact AY.old1k 1 rfl rfl rfl (by first | assumption | rfl) | exact AY.old1k 2 rfl rfl rfl (by first | assumption | rfl) | exact AY.oldNk 0 rfl rfl rfl (by first | omega | (simp;omega)) (by first | assumption | rfl) | exact AY.oldNk 1 rfl rfl rfl (by first | omega | (simp;omega)) (by first | assumption | rfl))) (by simp only[AV.put];rfl) ?_ | refine qT 8 rfl (by kernel_rfl) rfl rfl (by first | exact AY.bx rfl (by simp only[evO,AV.get];rfl) rfl | exact AY.mkFn rfl (by simp only[List.map_cons,List.map_nil,evO,AV.get];rfl) | exact AY.mkFn1 rfl (by simp only[evO,AV.get];rfl) (by simp only[List.map_cons,List.map_nil,evO,AV.get];rfl) | exact hEQ rfl rfl rfl | exact Step2.sound (by first | (((first | (apply Step2.a;constructor) | (apply Step2.b;constructor))<;>first | infer_instance | skip)<;>(first | infer_instance | (refine w64c ?_;omega) | (refine qw ?_;omega) | (refine qn ?_;omega) | (refine qo ?_;omega) | (refine qv ?_;omega) | ((repeat (first | exact .head _ | refine .tail _ ?_));done) | assumption | (simp only[List.drop_succ_cons,List.drop_zero,List.length_map,Nat.zero_add,Nat.mul_one];rfl) | rfl | omega | (simp;done))) | fail) rfl | exact AY.call rfl rfl _ rfl (by fail) | exact AY.slice1 rfl rfl rfl (by rfl) (by first | (simp;done) | fail) | exact AY.callF rfl _ _ rfl _ rfl (by fail) | exact AY.old1k 0 rfl rfl rfl (by first | assumption | rfl) | exact AY.old1k 1 rfl rfl rfl (by first | assumption | rfl) | exact AY.old1k 2 rfl rfl rfl (by first | assumption | rfl) | exact AY.oldNk 0 rfl rfl rfl (by first | omega | (simp;omega)) (by first | assumption | rfl) | exact AY.oldNk 1 rfl rfl rfl (by first | omega | (simp;omega)) (by first | assumption | rfl)) (by simp only[AV.put];rfl) ?_)
  refine qey 9 rfl (by kernel_rfl) rfl rfl (fun H=>Step2.sound (by first | (((first | (apply Step2.a;constructor) | (apply Step2.b;constructor))<;>first | infer_instance | skip)<;>(first | infer_instance | (refine w64c ?_;omega) | (refine qw ?_;omega) | (refine qn ?_;omega) | (refine qo ?_;omega) | (refine qv ?_;omega) | ((repeat (first | exact .head _ | refine .tail _ ?_));done) | assumption | (simp only[List.drop_succ_cons,List.drop_zero,List.length_map,Nat.zero_add,Nat.mul_one];rfl) | rfl | omega | (simp;done))) | fail) rfl) (by simp only[AV.put];rfl) ?_
  refine qey 10 rfl (by kernel_rfl) rfl rfl (fun H=>Step2.sound (by first | (((first | (apply Step2.a;constructor) | (apply Step2.b;constructor))<;>first | infer_instance | skip)<;>(first | infer_instance | (refine w64c ?_;omega) | (refine qw ?_;omega) | (refine qn ?_;omega) | (refine qo ?_;omega) | (refine qv ?_;omega) | ((repeat (first | exact .head _ | refine .tail _ ?_));done) | assumption | (simp only[List.drop_succ_cons,List.drop_zero,List.length_map,Nat.zero_add,Nat.mul_one];rfl) | rfl | omega | (simp;done))) | fail) rfl) (by simp only[AV.put];rfl) ?_
  refine qey 11 rfl (by kernel_rfl) rfl rfl (fun H=>(by first | exact Step2.sound (by first | (((first | (apply Step2.a;constructor) | (apply Step2.b;constructor))<;>first | infer_instance | skip)<;>(first | infer_instance | (refine w64c ?_;omega) | (refine qw ?_;omega) | (refine qn ?_;omega) | (refine qo ?_;omega) | (refine qv ?_;omega) | ((repeat (first | exact .head _ | refine .tail _ ?_));done) | assumption | (simp only[List.drop_succ_cons,List.drop_zero,List.length_map,Nat.zero_add,Nat.mul_one];rfl) | rfl | omega | (simp;done))) | fail) rfl | exact AY.old1k 0 rfl rfl rfl (by first | assumption | rfl) | exact AY.old1k 1 rfl rfl rfl (by first | assumption | rfl) | exact AY.old1k 2 rfl rfl rfl (by first | assumption | rfl) | exact AY.oldNk 0 rfl rfl rfl (by first | omega | (simp;omega)) (by first | assumption | rfl) | exact AY.oldNk 1 rfl rfl rfl (by first | omega | (simp;omega)) (by first | assumption | rfl))) (by simp only[AV.put];rfl) ?_
  (first | refine qey 12 rfl (by kernel_rfl) rfl rfl (fun H=>(by first | exact AY.bx rfl (by simp only[evO,AV.get];rfl) rfl | exact AY.mkFn rfl (by simp only[List.map_cons,List.map_nil,evO,AV.get];rfl) | exact AY.mkFn1 rfl (by simp only[evO,AV.get];rfl) (by simp only[List.map_cons,List.map_nil,evO,AV.get];rfl) | exact hEQ rfl rfl rfl | exact Step2.sound (by first | (((first | (apply Step2.a;constructor) | (apply Step2.b;constructor))<;>first | infer_instance | skip)<;>(first | infer_instance | (refine w64c ?_;omega) | (refine qw ?_;omega) | (refine qn ?_;omega) | (refine qo ?_;omega) | (refine qv ?_;omega) | ((repeat (first | exact .head _ | refine .tail _ ?_));done) | assumption | (simp only[List.drop_succ_cons,List.drop_zero,List.length_map,Nat.zero_add,Nat.mul_one];rfl) | rfl | omega | (simp;done))) | fail) rfl | exact AY.call rfl rfl _ rfl (by fail) | exact AY.slice1 rfl rfl rfl (by rfl) (by first | (simp;done) | fail) | exact AY.callF rfl _ _ rfl _ rfl (by fail) | exact AY.old1k 0 rfl rfl rfl (by first | assumption | rfl) | exact AY.old1k 1 rfl rfl rfl (by first | assumption | rfl) | exact AY.old1k 2 rfl rfl rfl (by first | assumption | rfl) | exact AY.oldNk 0 rfl rfl rfl (by first | omega | (simp;omega)) (by first | assumption | rfl) | exact AY.oldNk 1 rfl rfl rfl (by first | omega | (simp;omega)) (by first | assumption | rfl))) (by simp only[AV.put];rfl) ?_ | refine qT 12 rfl (by kernel_rfl) rfl rfl (by first | exact AY.bx rfl (by simp only[evO,AV.get];rfl) rfl | exact AY.mkFn rfl (by simp only[List.map_cons,List.map_nil,evO,AV.get];rfl) | exact AY.mkFn1 rfl (by simp only[evO,AV.get];rfl) (by simp only[List.map_cons,List.map_nil,evO,AV.get];rfl) | exact hEQ rfl rfl rfl | exact Step2.sound (by first | (((first | (apply Step2.a;constructor) | (apply Step2.b;constructor))<;>first | infer_instance | skip)<;>(first | infer_instance | (refine w64c ?_;omega) | (refine qw ?_;omega) | (refine qn ?_;omega) | (refine qo ?_;omega) | (refine qv ?_;omega) | ((repeat (first | exact .head _ | refine .tail _ ?_));done) | assumption | (simp only[List.drop_succ_cons,List.drop_zero,List.length_map,Nat.zero_add,Nat.mul_one];rfl) | rfl | omega | (simp;done))) | fail) rfl | exact AY.call rfl rfl _ rfl (by fail) | exact AY.slice1 rfl rfl rfl (by rfl) (by first | (simp;done) | fail) | exact AY.callF rfl _ _ rfl _ rfl (by fail) | exact AY.old1k 0 rfl rfl rfl (by first | assumption | rfl) | exact AY.old1k 1 rfl rfl rfl (by first | assumption | rfl) | exact AY.old1k 2 rfl rfl rfl (by first | assumption | rfl) | exact AY.oldNk 0 rfl rfl rfl (by first | omega | (simp;omega)) (by first | assumption | rfl) | exact AY.oldNk 1 rfl rfl rfl (by first | omega | (simp;omega)) (by first | assumption | rfl)) (by simp only[AV.put];rfl) ?_)
  refine qb [6,13,14,15] (by kernel_rfl) ⟨?_,?_,?_,?_,trivial⟩
  ·(refine ql rfl rfl rfl (EF.make _ rfl rfl rfl rfl rfl (by omega) (by omega) (by first | omega | (unfold maxLen;omega)) fun b13=>?_);refine qd (AV.putO_some (by rfl) (by simp only[AV.put];rfl)) rfl ?_)
   refine qb [13,14,15] (by kernel_rfl) ⟨?_,?_,?_,trivial⟩
   ·(refine ql rfl rfl rfl (EF.make _ rfl rfl rfl rfl rfl (by omega) (by omega) (by first | omega | (unfold maxLen;omega)) fun b20=>?_);refine qd (AV.putO_some (by rfl) (by simp only[AV.put];rfl)) rfl ?_)
    refine qb [14,15] (by kernel_rfl) ⟨?_,?_,trivial⟩
    ·(refine ql rfl rfl rfl (EF.alloc rfl (by first | (simp only[Value.cells,List.map_cons,List.map_nil];rfl) | rfl) fun b3=>?_);refine qd (AV.putO_some (by rfl) (by simp only[AV.put];rfl)) rfl ?_)
     refine qb [15] (by kernel_rfl) ⟨?_,trivial⟩
     ·(refine ql rfl rfl rfl (EF.alloc rfl (by first | (simp only[Value.cells,List.map_cons,List.map_nil];rfl) | rfl) fun b4=>?_);refine qd (AV.putO_some (by rfl) (by simp only[AV.put];rfl)) rfl ?_)
      refine qb [16] (by kernel_rfl) ⟨?_,trivial⟩
      ·refine qm 1 rfl rfl rfl rfl rfl (by simp only[evO,AV.get];rfl) rfl (by rfl) rfl (by rfl) (by simp) (by simp only[List.set];rfl) ?_
       refine qb [17] (by kernel_rfl) ⟨?_,trivial⟩
       ·refine qm 0 rfl rfl rfl rfl rfl (by simp only[evO,AV.get];rfl) rfl (by rfl) rfl (by rfl) (by simp) (by simp only[List.set];rfl) ?_
        refine q9 (by kernel_rfl) ?_
        exact ⟨b3,b4,b13,b20,rfl,List.Perm.trans (List.Perm.swap _ _ _) (List.Perm.cons _ (List.Perm.cons _ (List.Perm.swap _ _ _)))⟩
    ·(refine ql rfl rfl rfl (EF.alloc rfl (by first | (simp only[Value.cells,List.map_cons,List.map_nil];rfl) | rfl) fun b4=>?_);refine qd (AV.putO_some (by rfl) (by simp only[AV.put];rfl)) rfl ?_)
     refine qb [14] (by kernel_rfl) ⟨?_,trivial⟩
     ·(refine ql rfl rfl rfl (EF.alloc rfl (by first | (simp only[Value.cells,List.map_cons,List.map_nil];rfl) | rfl) fun b3=>?_);refine qd (AV.putO_some (by rfl) (by simp only[AV.put];rfl)) rfl ?_)
      refine qb [16] (by kernel_rfl) ⟨?_,trivial⟩
      ·refine qm 0 rfl rfl rfl rfl rfl (by simp only[evO,AV.get];rfl) rfl (by rfl) rfl (by rfl) (by simp) (by simp only[List.set];rfl) ?_
       refine qb [17] (by kernel_rfl) ⟨?_,trivial⟩
       ·refine qm 1 rfl rfl rfl rfl rfl (by simp only[evO,AV.get];rfl) rfl (by rfl) rfl (by rfl) (by simp) (by simp only[List.set];rfl) ?_
        refine q9 (by kernel_rfl) ?_
        exact ⟨b3,b4,b13,b20,rfl,List.Perm.cons _ (List.Perm.cons _ (List.Perm.swap _ _ _))⟩
   ·(refine ql rfl rfl rfl (EF.alloc rfl (by first | (simp only[Value.cells,List.map_cons,List.map_nil];rfl) | rfl) fun b3=>?_);refine qd (AV.putO_some (by rfl) (by simp only[AV.put];rfl)) rfl ?_)
    refine qb [13,15] (by kernel_rfl) ⟨?_,?_,trivial⟩
    ·(refine ql rfl rfl rfl (EF.make _ rfl rfl rfl rfl rfl (by omega) (by omega) (by first | omega | (unfold maxLen;omega)) fun b20=>?_);refine qd (AV.putO_some (by rfl) (by simp only[AV.put];rfl)) rfl ?_)
     refine qb [15] (by kernel_rfl) ⟨?_,trivial⟩
     ·(refine ql rfl rfl rfl (EF.alloc rfl (by first | (simp only[Value.cells,List.map_cons,List.map_nil];rfl) | rfl) fun b4=>?_);refine qd (AV.putO_some (by rfl) (by simp only[AV.put];rfl)) rfl ?_)
      refine qb [16] (by kernel_rfl) ⟨?_,trivial⟩
      ·refine qm 2 rfl rfl rfl rfl rfl (by simp only[evO,AV.get];rfl) rfl (by rfl) rfl (by rfl) (by simp) (by simp only[List.set];rfl) ?_
       refine qb [17] (by kernel_rfl) ⟨?_,trivial⟩
       ·refine qm 0 rfl rfl rfl rfl rfl (by simp only[evO,AV.get];rfl) rfl (by rfl) rfl (by rfl) (by simp) (by simp only[List.set];rfl) ?_
        refine q9 (by kernel_rfl) ?_
        exact ⟨b3,b4,b13,b20,rfl,List.Perm.trans (List.Perm.cons _ (List.Perm.swap _ _ _)) (List.Perm.trans (List.Perm.cons _ (List.Perm.cons _ (List.Perm.swap _ _ _))) (List.Perm.swap _ _ _))⟩
    ·(refine ql rfl rfl rfl (EF.alloc rfl (by first | (simp only[Value.cells,List.map_cons,List.map_nil];rfl) | rfl) fun b4=>?_);refine qd (AV.putO_some (by rfl) (by simp only[AV.put];rfl)) rfl ?_)
     refine qb [13,16] (by kernel_rfl) ⟨?_,?_,trivial⟩
     ·(refine ql rfl rfl rfl (EF.make _ rfl rfl rfl rfl rfl (by omega) (by omega) (by first | omega | (unfold maxLen;omega)) fun b20=>?_);refine qd (AV.putO_some (by rfl) (by simp only[AV.put];rfl)) rfl ?_)
      refine qb [16] (by kernel_rfl) ⟨?_,trivial⟩
      ·refine qm 2 rfl rfl rfl rfl rfl (by simp only[evO,AV.get];rfl) rfl (by rfl) rfl (by rfl) (by simp) (by simp only[List.set];rfl) ?_
       refine qb [17] (by kernel_rfl) ⟨?_,trivial⟩
       ·refine qm 1 rfl rfl rfl rfl rfl (by simp only[evO,AV.get];rfl) rfl (by rfl) rfl (by rfl) (by simp) (by simp only[List.set];rfl) ?_
        refine q9 (by kernel_rfl) ?_
        exact ⟨b3,b4,b13,b20,rfl,List.Perm.trans (List.Perm.swap _ _ _) (List.Perm.trans (List.Perm.cons _ (List.Perm.swap _ _ _)) (List.Perm.trans (List.Perm.cons _ (List.Perm.cons _ (List.Perm.swap _ _ _))) (List.Perm.swap _ _ _)))⟩
     ·refine qm 1 rfl rfl rfl rfl rfl (by simp only[evO,AV.get];rfl) rfl (by rfl) rfl (by rfl) (by simp) (by simp only[List.set];rfl) ?_
      refine qb [13] (by kernel_rfl) ⟨?_,trivial⟩
      ·(refine ql rfl rfl rfl (EF.make _ rfl rfl rfl rfl rfl (by omega) (by omega) (by first | omega | (unfold maxLen;omega)) fun b20=>?_);refine qd (AV.putO_some (by rfl) (by simp only[AV.put];rfl)) rfl ?_)
       refine qb [17] (by kernel_rfl) ⟨?_,trivial⟩
       ·refine qm 1 rfl rfl rfl rfl rfl (by simp only[evO,AV.get];rfl) rfl (by rfl) rfl (by rfl) (by simp) (by simp only[List.set];rfl) ?_
        refine q9 (by kernel_rfl) ?_
        exact ⟨b3,b4,b13,b20,rfl,List.Perm.trans (List.Perm.swap _ _ _) (List.Perm.trans (List.Perm.cons _ (List.Perm.swap _ _ _)) (List.Perm.trans (List.Perm.cons _ (List.Perm.cons _ (List.Perm.swap _ _ _))) (List.Perm.swap _ _ _)))⟩
   ·(refine ql rfl rfl rfl (EF.alloc rfl (by first | (simp only[Value.cells,List.map_cons,List.map_nil];rfl) | rfl) fun b4=>?_);refine qd (AV.putO_some (by rfl) (by simp only[AV.put];rfl)) rfl ?_)
    refine qb [13,14] (by kernel_rfl) ⟨?_,?_,trivial⟩
    ·(refine ql rfl rfl rfl (EF.make _ rfl rfl rfl rfl rfl (by omega) (by omega) (by first | omega | (unfold maxLen;omega)) fun b20=>?_);refine qd (AV.putO_some (by rfl) (by simp only[AV.put];rfl)) rfl ?_)
     refine qb [14] (by kernel_rfl) ⟨?_,trivial⟩
     ·(refine ql rfl rfl rfl (EF.alloc rfl (by first | (simp only[Value.cells,List.map_cons,List.map_nil];rfl) | rfl) fun b3=>?_);refine qd (AV.putO_some (by rfl) (by simp only[AV.put];rfl)) rfl ?_)
      refine qb [16] (by kernel_rfl) ⟨?_,trivial⟩
      ·refine qm 0 rfl rfl rfl rfl rfl (by simp only[evO,AV.get];rfl) rfl (by rfl) rfl (by rfl) (by simp) (by simp only[List.set];rfl) ?_
       refine qb [17] (by kernel_rfl) ⟨?_,trivial⟩
       ·refine qm 2 rfl rfl rfl rfl rfl (by simp only[evO,AV.get];rfl) rfl (by rfl) rfl (by rfl) (by simp) (by simp only[List.set];rfl) ?_
        refine q9 (by kernel_rfl) ?_
        exact ⟨b3,b4,b13,b20,rfl,List.Perm.trans (List.Perm.cons _ (List.Perm.swap _ _ _)) (List.Perm.cons _ (List.Perm.cons _ (List.Perm.swap _ _ _)))⟩
    ·(refine ql rfl rfl rfl (EF.alloc rfl (by first | (simp only[Value.cells,List.map_cons,List.map_nil];rfl) | rfl) fun b3=>?_);refine qd (AV.putO_some (by rfl) (by simp only[AV.put];rfl)) rfl ?_)
     refine qb [13,16] (by kernel_rfl) ⟨?_,?_,trivial⟩
     ·(refine ql rfl rfl rfl (EF.make _ rfl rfl rfl rfl rfl (by omega) (by omega) (by first | omega | (unfold maxLen;omega)) fun b20=>?_);refine qd (AV.putO_some (by rfl) (by simp only[AV.put];rfl)) rfl ?_)
      refine qb [16] (by kernel_rfl) ⟨?_,trivial⟩
      ·refine qm 1 rfl rfl rfl rfl rfl (by simp only[evO,AV.get];rfl) rfl (by rfl) rfl (by rfl) (by simp) (by simp only[List.set];rfl) ?_
       refine qb [17] (by kernel_rfl) ⟨?_,trivial⟩
       ·refine qm 2 rfl rfl rfl rfl rfl (by simp only[evO,AV.get];rfl) rfl (by rfl) rfl (by rfl) (by simp) (by simp only[List.set];rfl) ?_
        refine q9 (by kernel_rfl) ?_
        exact ⟨b3,b4,b13,b20,rfl,List.Perm.trans (List.Perm.swap _ _ _) (List.Perm.trans (List.Perm.cons _ (List.Perm.swap _ _ _)) (List.Perm.cons _ (List.Perm.cons _ (List.Perm.swap _ _ _))))⟩
     ·refine qm 0 rfl rfl rfl rfl rfl (by simp only[evO,AV.get];rfl) rfl (by rfl) rfl (by rfl) (by simp) (by simp only[List.set];rfl) ?_
      refine qb [13] (by kernel_rfl) ⟨?_,trivial⟩
      ·(refine ql rfl rfl rfl (EF.make _ rfl rfl rfl rfl rfl (by omega) (by omega) (by first | omega | (unfold maxLen;omega)) fun b20=>?_);refine qd (AV.putO_some (by rfl) (by simp only[AV.put];rfl)) rfl ?_)
       refine qb [17] (by kernel_rfl) ⟨?_,trivial⟩
       ·refine qm 2 rfl rfl rfl rfl rfl (by simp only[evO,AV.get];rfl) rfl (by rfl) rfl (by rfl) (by simp) (by simp only[List.set];rfl) ?_
        refine q9 (by kernel_rfl) ?_
        exact ⟨b3,b4,b13,b20,rfl,List.Perm.trans (List.Perm.swap _ _ _) (List.Perm.trans (List.Perm.cons _ (List.Perm.swap _ _ _)) (List.Perm.cons _ (List.Perm.cons _ (List.Perm.swap _ _ _))))⟩
  ·(refine ql rfl rfl rfl (EF.make _ rfl rfl rfl rfl rfl (by omega) (by omega) (by first | omega | (unfold maxLen;omega)) fun b20=>?_);refine qd (AV.putO_some (by rfl) (by simp only[AV.put];rfl)) rfl ?_)
   refine qb [6,14,15] (by kernel_rfl) ⟨?_,?_,?_,trivial⟩
   ·(refine ql rfl rfl rfl (EF.make _ rfl rfl rfl rfl rfl (by omega) (by omega) (by first | omega | (unfold maxLen;omega)) fun b13=>?_);refine qd (AV.putO_some (by rfl) (by simp only[AV.put];rfl)) rfl ?_)
    refine qb [14,15] (by kernel_rfl) ⟨?_,?_,trivial⟩
    ·(refine ql rfl rfl rfl (EF.alloc rfl (by first | (simp only[Value.cells,List.map_cons,List.map_nil];rfl) | rfl) fun b3=>?_);refine qd (AV.putO_some (by rfl) (by simp only[AV.put];rfl)) rfl ?_)
     refine qb [15] (by kernel_rfl) ⟨?_,trivial⟩
     ·(refine ql rfl rfl rfl (EF.alloc rfl (by first | (simp only[Value.cells,List.map_cons,List.map_nil];rfl) | rfl) fun b4=>?_);refine qd (AV.putO_some (by rfl) (by simp only[AV.put];rfl)) rfl ?_)
      refine qb [16] (by kernel_rfl) ⟨?_,trivial⟩
      ·refine qm 1 rfl rfl rfl rfl rfl (by simp only[evO,AV.get];rfl) rfl (by rfl) rfl (by rfl) (by simp) (by simp only[List.set];rfl) ?_
       refine qb [17] (by kernel_rfl) ⟨?_,trivial⟩
       ·refine qm 0 rfl rfl rfl rfl rfl (by simp only[evO,AV.get];rfl) rfl (by rfl) rfl (by rfl) (by simp) (by simp only[List.set];rfl) ?_
        refine q9 (by kernel_rfl) ?_
        exact ⟨b3,b4,b13,b20,rfl,List.Perm.swap _ _ _⟩
    ·(refine ql rfl rfl rfl (EF.alloc rfl (by first | (simp only[Value.cells,List.map_cons,List.map_nil];rfl) | rfl) fun b4=>?_);refine qd (AV.putO_some (by rfl) (by simp only[AV.put];rfl)) rfl ?_)
     refine qb [14] (by kernel_rfl) ⟨?_,trivial⟩
     ·(refine ql rfl rfl rfl (EF.alloc rfl (by first | (simp only[Value.cells,List.map_cons,List.map_nil];rfl) | rfl) fun b3=>?_);refine qd (AV.putO_some (by rfl) (by simp only[AV.put];rfl)) rfl ?_)
      refine qb [16] (by kernel_rfl) ⟨?_,trivial⟩
      ·refine qm 0 rfl rfl rfl rfl rfl (by simp only[evO,AV.get];rfl) rfl (by rfl) rfl (by rfl) (by simp) (by simp only[List.set];rfl) ?_
       refine qb [17] (by kernel_rfl) ⟨?_,trivial⟩
       ·refine qm 1 rfl rfl rfl rfl rfl (by simp only[evO,AV.get];rfl) rfl (by rfl) rfl (by rfl) (by simp) (by simp only[List.set];rfl) ?_
        refine q9 (by kernel_rfl) ?_
        exact ⟨b3,b4,b13,b20,rfl,List.Perm.refl _⟩
   ·(refine ql rfl rfl rfl (EF.alloc rfl (by first | (simp only[Value.cells,List.map_cons,List.map_nil];rfl) | rfl) fun b3=>?_);refine qd (AV.putO_some (by rfl) (by simp only[AV.put];rfl)) rfl ?_)
    refine qb [6,15] (by kernel_rfl) ⟨?_,?_,trivial⟩
    ·(refine ql rfl rfl rfl (EF.make _ rfl rfl rfl rfl rfl (by omega) (by omega) (by first | omega | (unfold maxLen;omega)) fun b13=>?_);refine qd (AV.putO_some (by rfl) (by simp only[AV.put];rfl)) rfl ?_)
     refine qb [15] (by kernel_rfl) ⟨?_,trivial⟩
     ·(refine ql rfl rfl rfl (EF.alloc rfl (by first | (simp only[Value.cells,List.map_cons,List.map_nil];rfl) | rfl) fun b4=>?_);refine qd (AV.putO_some (by rfl) (by simp only[AV.put];rfl)) rfl ?_)
      refine qb [16] (by kernel_rfl) ⟨?_,trivial⟩
      ·refine qm 2 rfl rfl rfl rfl rfl (by simp only[evO,AV.get];rfl) rfl (by rfl) rfl (by rfl) (by simp) (by simp only[List.set];rfl) ?_
       refine qb [17] (by kernel_rfl) ⟨?_,trivial⟩
       ·refine qm 0 rfl rfl rfl rfl rfl (by simp only[evO,AV.get];rfl) rfl (by rfl) rfl (by rfl) (by simp) (by simp only[List.set];rfl) ?_
        refine q9 (by kernel_rfl) ?_
        exact ⟨b3,b4,b13,b20,rfl,List.Perm.trans (List.Perm.cons _ (List.Perm.swap _ _ _)) (List.Perm.swap _ _ _)⟩
    ·(refine ql rfl rfl rfl (EF.alloc rfl (by first | (simp only[Value.cells,List.map_cons,List.map_nil];rfl) | rfl) fun b4=>?_);refine qd (AV.putO_some (by rfl) (by simp only[AV.put];rfl)) rfl ?_)
     refine qb [6] (by kernel_rfl) ⟨?_,trivial⟩
     ·(refine ql rfl rfl rfl (EF.make _ rfl rfl rfl rfl rfl (by omega) (by omega) (by first | omega | (unfold maxLen;omega)) fun b13=>?_);refine qd (AV.putO_some (by rfl) (by simp only[AV.put];rfl)) rfl ?_)
      refine qb [16] (by kernel_rfl) ⟨?_,trivial⟩
      ·refine qm 2 rfl rfl rfl rfl rfl (by simp only[evO,AV.get];rfl) rfl (by rfl) rfl (by rfl) (by simp) (by simp only[List.set];rfl) ?_
       refine qb [17] (by kernel_rfl) ⟨?_,trivial⟩
       ·refine qm 1 rfl rfl rfl rfl rfl (by simp only[evO,AV.get];rfl) rfl (by rfl) rfl (by rfl) (by simp) (by simp only[List.set];rfl) ?_
        refine q9 (by kernel_rfl) ?_
        exact ⟨b3,b4,b13,b20,rfl,List.Perm.trans (List.Perm.swap _ _ _) (List.Perm.trans (List.Perm.cons _ (List.Perm.swap _ _ _)) (List.Perm.swap _ _ _))⟩
   ·(refine ql rfl rfl rfl (EF.alloc rfl (by first | (simp only[Value.cells,List.map_cons,List.map_nil];rfl) | rfl) fun b4=>?_);refine qd (AV.putO_some (by rfl) (by simp only[AV.put];rfl)) rfl ?_)
    refine qb [6,14] (by kernel_rfl) ⟨?_,?_,trivial⟩
    ·(refine ql rfl rfl rfl (EF.make _ rfl rfl rfl rfl rfl (by omega) (by omega) (by first | omega | (unfold maxLen;omega)) fun b13=>?_);refine qd (AV.putO_some (by rfl) (by simp only[AV.put];rfl)) rfl ?_)
     refine qb [14] (by kernel_rfl) ⟨?_,trivial⟩
     ·(refine ql rfl rfl rfl (EF.alloc rfl (by first | (simp only[Value.cells,List.map_cons,List.map_nil];rfl) | rfl) fun b3=>?_);refine qd (AV.putO_some (by rfl) (by simp only[AV.put];rfl)) rfl ?_)
      refine qb [16] (by kernel_rfl) ⟨?_,trivial⟩
      ·refine qm 0 rfl rfl rfl rfl rfl (by simp only[evO,AV.get];rfl) rfl (by rfl) rfl (by rfl) (by simp) (by simp only[List.set];rfl) ?_
       refine qb [17] (by kernel_rfl) ⟨?_,trivial⟩
       ·refine qm 2 rfl rfl rfl rfl rfl (by simp only[evO,AV.get];rfl) rfl (by rfl) rfl (by rfl) (by simp) (by simp only[List.set];rfl) ?_
        refine q9 (by kernel_rfl) ?_
        exact ⟨b3,b4,b13,b20,rfl,List.Perm.cons _ (List.Perm.swap _ _ _)⟩
    ·(refine ql rfl rfl rfl (EF.alloc rfl (by first | (simp only[Value.cells,List.map_cons,List.map_nil];rfl) | rfl) fun b3=>?_);refine qd (AV.putO_some (by rfl) (by simp only[AV.put];rfl)) rfl ?_)
     refine qb [6] (by kernel_rfl) ⟨?_,trivial⟩
     ·(refine ql rfl rfl rfl (EF.make _ rfl rfl rfl rfl rfl (by omega) (by omega) (by first | omega | (unfold maxLen;omega)) fun b13=>?_);refine qd (AV.putO_some (by rfl) (by simp only[AV.put];rfl)) rfl ?_)
      refine qb [16] (by kernel_rfl) ⟨?_,trivial⟩
      ·refine qm 1 rfl rfl rfl rfl rfl (by simp only[evO,AV.get];rfl) rfl (by rfl) rfl (by rfl) (by simp) (by simp only[List.set];rfl) ?_
       refine qb [17] (by kernel_rfl) ⟨?_,trivial⟩
       ·refine qm 2 rfl rfl rfl rfl rfl (by simp only[evO,AV.get];rfl) rfl (by rfl) rfl (by rfl) (by simp) (by simp only[List.set];rfl) ?_
        refine q9 (by kernel_rfl) ?_
        exact ⟨b3,b4,b13,b20,rfl,List.Perm.trans (List.Perm.swap _ _ _) (List.Perm.cons _ (List.Perm.swap _ _ _))⟩
  ·(refine ql rfl rfl rfl (EF.alloc rfl (by first | (simp only[Value.cells,List.map_cons,List.map_nil];rfl) | rfl) fun b3=>?_);refine qd (AV.putO_some (by rfl) (by simp only[AV.put];rfl)) rfl ?_)
   refine qb [6,13,15] (by kernel_rfl) ⟨?_,?_,?_,trivial⟩
   ·(refine ql rfl rfl rfl (EF.make _ rfl rfl rfl rfl rfl (by omega) (by omega) (by first | omega | (unfold maxLen;omega)) fun b13=>?_);refine qd (AV.putO_some (by rfl) (by simp only[AV.put];rfl)) rfl ?_)
    refine qb [13,15] (by kernel_rfl) ⟨?_,?_,trivial⟩
    ·(refine ql rfl rfl rfl (EF.make _ rfl rfl rfl rfl rfl (by omega) (by omega) (by first | omega | (unfold maxLen;omega)) fun b20=>?_);refine qd (AV.putO_some (by rfl) (by simp only[AV.put];rfl)) rfl ?_)
     refine qb [15] (by kernel_rfl) ⟨?_,trivial⟩
     ·(refine ql rfl rfl rfl (EF.alloc rfl (by first | (simp only[Value.cells,List.map_cons,List.map_nil];rfl) | rfl) fun b4=>?_);refine qd (AV.putO_some (by rfl) (by simp only[AV.put];rfl)) rfl ?_)
      refine qb [16] (by kernel_rfl) ⟨?_,trivial⟩
      ·refine qm 3 rfl rfl rfl rfl rfl (by simp only[evO,AV.get];rfl) rfl (by rfl) rfl (by rfl) (by simp) (by simp only[List.set];rfl) ?_
       refine qb [17] (by kernel_rfl) ⟨?_,trivial⟩
       ·refine qm 0 rfl rfl rfl rfl rfl (by simp only[evO,AV.get];rfl) rfl (by rfl) rfl (by rfl) (by simp) (by simp only[List.set];rfl) ?_
        refine q9 (by kernel_rfl) ?_
        exact ⟨b3,b4,b13,b20,rfl,List.Perm.trans (List.Perm.cons _ (List.Perm.swap _ _ _)) (List.Perm.trans (List.Perm.cons _ (List.Perm.cons _ (List.Perm.swap _ _ _))) (List.Perm.trans (List.Perm.cons _ (List.Perm.swap _ _ _)) (List.Perm.swap _ _ _)))⟩
    ·(refine ql rfl rfl rfl (EF.alloc rfl (by first | (simp only[Value.cells,List.map_cons,List.map_nil];rfl) | rfl) fun b4=>?_);refine qd (AV.putO_some (by rfl) (by simp only[AV.put];rfl)) rfl ?_)
     refine qb [13,16] (by kernel_rfl) ⟨?_,?_,trivial⟩
     ·(refine ql rfl rfl rfl (EF.make _ rfl rfl rfl rfl rfl (by omega) (by omega) (by first | omega | (unfold maxLen;omega)) fun b20=>?_);refine qd (AV.putO_some (by rfl) (by simp only[AV.put];rfl)) rfl ?_)
      refine qb [16] (by kernel_rfl) ⟨?_,trivial⟩
      ·refine qm 3 rfl rfl rfl rfl rfl (by simp only[evO,AV.get];rfl) rfl (by rfl) rfl (by rfl) (by simp) (by simp only[List.set];rfl) ?_
       refine qb [17] (by kernel_rfl) ⟨?_,trivial⟩
       ·refine qm 1 rfl rfl rfl rfl rfl (by simp only[evO,AV.get];rfl) rfl (by rfl) rfl (by rfl) (by simp) (by simp only[List.set];rfl) ?_
        refine q9 (by kernel_rfl) ?_
        exact ⟨b3,b4,b13,b20,rfl,List.Perm.trans (List.Perm.swap _ _ _) (List.Perm.trans (List.Perm.cons _ (List.Perm.swap _ _ _)) (List.Perm.trans (List.Perm.cons _ (List.Perm.cons _ (List.Perm.swap _ _ _))) (List.Perm.trans (List.Perm.cons _ (List.Perm.swap _ _ _)) (List.Perm.swap _ _ _))))⟩
     ·refine qm 2 rfl rfl rfl rfl rfl (by simp only[evO,AV.get];rfl) rfl (by rfl) rfl (by rfl) (by simp) (by simp only[List.set];rfl) ?_
      refine qb [13] (by kernel_rfl) ⟨?_,trivial⟩
      ·(refine ql rfl rfl rfl (EF.make _ rfl rfl rfl rfl rfl (by omega) (by omega) (by first | omega | (unfold maxLen;omega)) fun b20=>?_);refine qd (AV.putO_some (by rfl) (by simp only[AV.put];rfl)) rfl ?_)
       refine qb [17] (by kernel_rfl) ⟨?_,trivial⟩
       ·refine qm 1 rfl rfl rfl rfl rfl (by simp only[evO,AV.get];rfl) rfl (by rfl) rfl (by rfl) (by simp) (by simp only[List.set];rfl) ?_
        refine q9 (by kernel_rfl) ?_
        exact ⟨b3,b4,b13,b20,rfl,List.Perm.trans (List.Perm.swap _ _ _) (List.Perm.trans (List.Perm.cons _ (List.Perm.swap _ _ _)) (List.Perm.trans (List.Perm.cons _ (List.Perm.cons _ (List.Perm.swap _ _ _))) (List.Perm.trans (List.Perm.cons _ (List.Perm.swap _ _ _)) (List.Perm.swap _ _ _))))⟩
   ·(refine ql rfl rfl rfl (EF.make _ rfl rfl rfl rfl rfl (by omega) (by omega) (by first | omega | (unfold maxLen;omega)) fun b20=>?_);refine qd (AV.putO_some (by rfl) (by simp only[AV.put];rfl)) rfl ?_)
    refine qb [6,15] (by kernel_rfl) ⟨?_,?_,trivial⟩
    ·(refine ql rfl rfl rfl (EF.make _ rfl rfl rfl rfl rfl (by omega) (by omega) (by first | omega | (unfold maxLen;omega)) fun b13=>?_);refine qd (AV.putO_some (by rfl) (by simp only[AV.put];rfl)) rfl ?_)
     refine qb [15] (by kernel_rfl) ⟨?_,trivial⟩
     ·(refine ql rfl rfl rfl (EF.alloc rfl (by first | (simp only[Value.cells,List.map_cons,List.map_nil];rfl) | rfl) fun b4=>?_);refine qd (AV.putO_some (by rfl) (by simp only[AV.put];rfl)) rfl ?_)
      refine qb [16] (by kernel_rfl) ⟨?_,trivial⟩
      ·refine qm 3 rfl rfl rfl rfl rfl (by simp only[evO,AV.get];rfl) rfl (by rfl) rfl (by rfl) (by simp) (by simp only[List.set];rfl) ?_
       refine qb [17] (by kernel_rfl) ⟨?_,trivial⟩
       ·refine qm 0 rfl rfl rfl rfl rfl (by simp only[evO,AV.get];rfl) rfl (by rfl) rfl (by rfl) (by simp) (by simp only[List.set];rfl) ?_
        refine q9 (by kernel_rfl) ?_
        exact ⟨b3,b4,b13,b20,rfl,List.Perm.trans (List.Perm.cons _ (List.Perm.cons _ (List.Perm.swap _ _ _))) (List.Perm.trans (List.Perm.cons _ (List.Perm.swap _ _ _)) (List.Perm.swap _ _ _))⟩
    ·(refine ql rfl rfl rfl (EF.alloc rfl (by first | (simp only[Value.cells,List.map_cons,List.map_nil];rfl) | rfl) fun b4=>?_);refine qd (AV.putO_some (by rfl) (by simp only[AV.put];rfl)) rfl ?_)
     refine qb [6] (by kernel_rfl) ⟨?_,trivial⟩
     ·(refine ql rfl rfl rfl (EF.make _ rfl rfl rfl rfl rfl (by omega) (by omega) (by first | omega | (unfold maxLen;omega)) fun b13=>?_);refine qd (AV.putO_some (by rfl) (by simp only[AV.put];rfl)) rfl ?_)
      refine qb [16] (by kernel_rfl) ⟨?_,trivial⟩
      ·refine qm 3 rfl rfl rfl rfl rfl (by simp only[evO,AV.get];rfl) rfl (by rfl) rfl (by rfl) (by simp) (by simp only[List.set];rfl) ?_
       refine qb [17] (by kernel_rfl) ⟨?_,trivial⟩
       ·refine qm 1 rfl rfl rfl rfl rfl (by simp only[evO,AV.get];rfl) rfl (by rfl) rfl (by rfl) (by simp) (by simp only[List.set];rfl) ?_
        refine q9 (by kernel_rfl) ?_
        exact ⟨b3,b4,b13,b20,rfl,List.Perm.trans (List.Perm.swap _ _ _) (List.Perm.trans (List.Perm.cons _ (List.Perm.cons _ (List.Perm.swap _ _ _))) (List.Perm.trans (List.Perm.cons _ (List.Perm.swap _ _ _)) (List.Perm.swap _ _ _)))⟩
   ·(refine ql rfl rfl rfl (EF.alloc rfl (by first | (simp only[Value.cells,List.map_cons,List.map_nil];rfl) | rfl) fun b4=>?_);refine qd (AV.putO_some (by rfl) (by simp only[AV.put];rfl)) rfl ?_)
    refine qb [6,13] (by kernel_rfl) ⟨?_,?_,trivial⟩
    ·(refine ql rfl rfl rfl (EF.make _ rfl rfl rfl rfl rfl (by omega) (by omega) (by first | omega | (unfold maxLen;omega)) fun b13=>?_);refine qd (AV.putO_some (by rfl) (by simp only[AV.put];rfl)) rfl ?_)
     refine qb [13,16] (by kernel_rfl) ⟨?_,?_,trivial⟩
     ·(refine ql rfl rfl rfl (EF.make _ rfl rfl rfl rfl rfl (by omega) (by omega) (by first | omega | (unfold maxLen;omega)) fun b20=>?_);refine qd (AV.putO_some (by rfl) (by simp only[AV.put];rfl)) rfl ?_)
      refine qb [16] (by kernel_rfl) ⟨?_,trivial⟩
      ·refine qm 3 rfl rfl rfl rfl rfl (by simp only[evO,AV.get];rfl) rfl (by rfl) rfl (by rfl) (by simp) (by simp only[List.set];rfl) ?_
       refine qb [17] (by kernel_rfl) ⟨?_,trivial⟩
       ·refine qm 2 rfl rfl rfl rfl rfl (by simp only[evO,AV.get];rfl) rfl (by rfl) rfl (by rfl) (by simp) (by simp only[List.set];rfl) ?_
        refine q9 (by kernel_rfl) ?_
        exact ⟨b3,b4,b13,b20,rfl,List.Perm.trans (List.Perm.swap _ _ _) (List.Perm.trans (List.Perm.cons _ (List.Perm.swap _ _ _)) (List.Perm.trans (List.Perm.cons _ (List.Perm.cons _ (List.Perm.swap _ _ _))) (List.Perm.trans (List.Perm.swap _ _ _) (List.Perm.trans (List.Perm.cons _ (List.Perm.swap _ _ _)) (List.Perm.swap _ _ _)))))⟩
     ·refine qm 2 rfl rfl rfl rfl rfl (by simp only[evO,AV.get];rfl) rfl (by rfl) rfl (by rfl) (by simp) (by simp only[List.set];rfl) ?_
      refine qb [13] (by kernel_rfl) ⟨?_,trivial⟩
      ·(refine ql rfl rfl rfl (EF.make _ rfl rfl rfl rfl rfl (by omega) (by omega) (by first | omega | (unfold maxLen;omega)) fun b20=>?_);refine qd (AV.putO_some (by rfl) (by simp only[AV.put];rfl)) rfl ?_)
       refine qb [17] (by kernel_rfl) ⟨?_,trivial⟩
       ·refine qm 2 rfl rfl rfl rfl rfl (by simp only[evO,AV.get];rfl) rfl (by rfl) rfl (by rfl) (by simp) (by simp only[List.set];rfl) ?_
        refine q9 (by kernel_rfl) ?_
        exact ⟨b3,b4,b13,b20,rfl,List.Perm.trans (List.Perm.swap _ _ _) (List.Perm.trans (List.Perm.cons _ (List.Perm.swap _ _ _)) (List.Perm.trans (List.Perm.cons _ (List.Perm.cons _ (List.Perm.swap _ _ _))) (List.Perm.trans (List.Perm.swap _ _ _) (List.Perm.trans (List.Perm.cons _ (List.Perm.swap _ _ _)) (List.Perm.swap _ _ _)))))⟩
    ·(refine ql rfl rfl rfl (EF.make _ rfl rfl rfl rfl rfl (by omega) (by omega) (by first | omega | (unfold maxLen;omega)) fun b20=>?_);refine qd (AV.putO_some (by rfl) (by simp only[AV.put];rfl)) rfl ?_)
     refine qb [6] (by kernel_rfl) ⟨?_,trivial⟩
     ·(refine ql rfl rfl rfl (EF.make _ rfl rfl rfl rfl rfl (by omega) (by omega) (by first | omega | (unfold maxLen;omega)) fun b13=>?_);refine qd (AV.putO_some (by rfl) (by simp only[AV.put];rfl)) rfl ?_)
      refine qb [16] (by kernel_rfl) ⟨?_,trivial⟩
      ·refine qm 3 rfl rfl rfl rfl rfl (by simp only[evO,AV.get];rfl) rfl (by rfl) rfl (by rfl) (by simp) (by simp only[List.set];rfl) ?_
       refine qb [17] (by kernel_rfl) ⟨?_,trivial⟩
       ·refine qm 2 rfl rfl rfl rfl rfl (by simp only[evO,AV.get];rfl) rfl (by rfl) rfl (by rfl) (by simp) (by simp only[List.set];rfl) ?_
        refine q9 (by kernel_rfl) ?_
        exact ⟨b3,b4,b13,b20,rfl,List.Perm.trans (List.Perm.cons _ (List.Perm.swap _ _ _)) (List.Perm.trans (List.Perm.cons _ (List.Perm.cons _ (List.Perm.swap _ _ _))) (List.Perm.trans (List.Perm.swap _ _ _) (List.Perm.trans (List.Perm.cons _ (List.Perm.swap _ _ _)) (List.Perm.swap _ _ _))))⟩
  ·(refine ql rfl rfl rfl (EF.alloc rfl (by first | (simp only[Value.cells,List.map_cons,List.map_nil];rfl) | rfl) fun b4=>?_);refine qd (AV.putO_some (by rfl) (by simp only[AV.put];rfl)) rfl ?_)
   refine qb [6,13,14] (by kernel_rfl) ⟨?_,?_,?_,trivial⟩
   ·(refine ql rfl rfl rfl (EF.make _ rfl rfl rfl rfl rfl (by omega) (by omega) (by first | omega | (unfold maxLen;omega)) fun b13=>?_);refine qd (AV.putO_some (by rfl) (by simp only[AV.put];rfl)) rfl ?_)
    refine qb [13,14] (by kernel_rfl) ⟨?_,?_,trivial⟩
    ·(refine ql rfl rfl rfl (EF.make _ rfl rfl rfl rfl rfl (by omega) (by omega) (by first | omega | (unfold maxLen;omega)) fun b20=>?_);refine qd (AV.putO_some (by rfl) (by simp only[AV.put];rfl)) rfl ?_)
     refine qb [14] (by kernel_rfl) ⟨?_,trivial⟩
     ·(refine ql rfl rfl rfl (EF.alloc rfl (by first | (simp only[Value.cells,List.map_cons,List.map_nil];rfl) | rfl) fun b3=>?_);refine qd (AV.putO_some (by rfl) (by simp only[AV.put];rfl)) rfl ?_)
      refine qb [16] (by kernel_rfl) ⟨?_,trivial⟩
      ·refine qm 0 rfl rfl rfl rfl rfl (by simp only[evO,AV.get];rfl) rfl (by rfl) rfl (by rfl) (by simp) (by simp only[List.set];rfl) ?_
       refine qb [17] (by kernel_rfl) ⟨?_,trivial⟩
       ·refine qm 3 rfl rfl rfl rfl rfl (by simp only[evO,AV.get];rfl) rfl (by rfl) rfl (by rfl) (by simp) (by simp only[List.set];rfl) ?_
        refine q9 (by kernel_rfl) ?_
        exact ⟨b3,b4,b13,b20,rfl,List.Perm.trans (List.Perm.cons _ (List.Perm.swap _ _ _)) (List.Perm.trans (List.Perm.cons _ (List.Perm.cons _ (List.Perm.swap _ _ _))) (List.Perm.cons _ (List.Perm.swap _ _ _)))⟩
    ·(refine ql rfl rfl rfl (EF.alloc rfl (by first | (simp only[Value.cells,List.map_cons,List.map_nil];rfl) | rfl) fun b3=>?_);refine qd (AV.putO_some (by rfl) (by simp only[AV.put];rfl)) rfl ?_)
     refine qb [13,16] (by kernel_rfl) ⟨?_,?_,trivial⟩
     ·(refine ql rfl rfl rfl (EF.make _ rfl rfl rfl rfl rfl (by omega) (by omega) (by first | omega | (unfold maxLen;omega)) fun b20=>?_);refine qd (AV.putO_some (by rfl) (by simp only[AV.put];rfl)) rfl ?_)
      refine qb [16] (by kernel_rfl) ⟨?_,trivial⟩
      ·refine qm 1 rfl rfl rfl rfl rfl (by simp only[evO,AV.get];rfl) rfl (by rfl) rfl (by rfl) (by simp) (by simp only[List.set];rfl) ?_
       refine qb [17] (by kernel_rfl) ⟨?_,trivial⟩
       ·refine qm 3 rfl rfl rfl rfl rfl (by simp only[evO,AV.get];rfl) rfl (by rfl) rfl (by rfl) (by simp) (by simp only[List.set];rfl) ?_
        refine q9 (by kernel_rfl) ?_
        exact ⟨b3,b4,b13,b20,rfl,List.Perm.trans (List.Perm.swap _ _ _) (List.Perm.trans (List.Perm.cons _ (List.Perm.swap _ _ _)) (List.Perm.trans (List.Perm.cons _ (List.Perm.cons _ (List.Perm.swap _ _ _))) (List.Perm.cons _ (List.Perm.swap _ _ _))))⟩
     ·refine qm 0 rfl rfl rfl rfl rfl (by simp only[evO,AV.get];rfl) rfl (by rfl) rfl (by rfl) (by simp) (by simp only[List.set];rfl) ?_
      refine qb [13] (by kernel_rfl) ⟨?_,trivial⟩
      ·(refine ql rfl rfl rfl (EF.make _ rfl rfl rfl rfl rfl (by omega) (by omega) (by first | omega | (unfold maxLen;omega)) fun b20=>?_);refine qd (AV.putO_some (by rfl) (by simp only[AV.put];rfl)) rfl ?_)
       refine qb [17] (by kernel_rfl) ⟨?_,trivial⟩
       ·refine qm 3 rfl rfl rfl rfl rfl (by simp only[evO,AV.get];rfl) rfl (by rfl) rfl (by rfl) (by simp) (by simp only[List.set];rfl) ?_
        refine q9 (by kernel_rfl) ?_
        exact ⟨b3,b4,b13,b20,rfl,List.Perm.trans (List.Perm.swap _ _ _) (List.Perm.trans (List.Perm.cons _ (List.Perm.swap _ _ _)) (List.Perm.trans (List.Perm.cons _ (List.Perm.cons _ (List.Perm.swap _ _ _))) (List.Perm.cons _ (List.Perm.swap _ _ _))))⟩
   ·(refine ql rfl rfl rfl (EF.make _ rfl rfl rfl rfl rfl (by omega) (by omega) (by first | omega | (unfold maxLen;omega)) fun b20=>?_);refine qd (AV.putO_some (by rfl) (by simp only[AV.put];rfl)) rfl ?_)
    refine qb [6,14] (by kernel_rfl) ⟨?_,?_,trivial⟩
    ·(refine ql rfl rfl rfl (EF.make _ rfl rfl rfl rfl rfl (by omega) (by omega) (by first | omega | (unfold maxLen;omega)) fun b13=>?_);refine qd (AV.putO_some (by rfl) (by simp only[AV.put];rfl)) rfl ?_)
     refine qb [14] (by kernel_rfl) ⟨?_,trivial⟩
     ·(refine ql rfl rfl rfl (EF.alloc rfl (by first | (simp only[Value.cells,List.map_cons,List.map_nil];rfl) | rfl) fun b3=>?_);refine qd (AV.putO_some (by rfl) (by simp only[AV.put];rfl)) rfl ?_)
      refine qb [16] (by kernel_rfl) ⟨?_,trivial⟩
      ·refine qm 0 rfl rfl rfl rfl rfl (by simp only[evO,AV.get];rfl) rfl (by rfl) rfl (by rfl) (by simp) (by simp only[List.set];rfl) ?_
       refine qb [17] (by kernel_rfl) ⟨?_,trivial⟩
       ·refine qm 3 rfl rfl rfl rfl rfl (by simp only[evO,AV.get];rfl) rfl (by rfl) rfl (by rfl) (by simp) (by simp only[List.set];rfl) ?_
        refine q9 (by kernel_rfl) ?_
        exact ⟨b3,b4,b13,b20,rfl,List.Perm.trans (List.Perm.cons _ (List.Perm.cons _ (List.Perm.swap _ _ _))) (List.Perm.cons _ (List.Perm.swap _ _ _))⟩
    ·(refine ql rfl rfl rfl (EF.alloc rfl (by first | (simp only[Value.cells,List.map_cons,List.map_nil];rfl) | rfl) fun b3=>?_);refine qd (AV.putO_some (by rfl) (by simp only[AV.put];rfl)) rfl ?_)
     refine qb [6] (by kernel_rfl) ⟨?_,trivial⟩
     ·(refine ql rfl rfl rfl (EF.make _ rfl rfl rfl rfl rfl (by omega) (by omega) (by first | omega | (unfold maxLen;omega)) fun b13=>?_);refine qd (AV.putO_some (by rfl) (by simp only[AV.put];rfl)) rfl ?_)
      refine qb [16] (by kernel_rfl) ⟨?_,trivial⟩
      ·refine qm 1 rfl rfl rfl rfl rfl (by simp only[evO,AV.get];rfl) rfl (by rfl) rfl (by rfl) (by simp) (by simp only[List.set];rfl) ?_
       refine qb [17] (by kernel_rfl) ⟨?_,trivial⟩
       ·refine qm 3 rfl rfl rfl rfl rfl (by simp only[evO,AV.get];rfl) rfl (by rfl) rfl (by rfl) (by simp) (by simp only[List.set];rfl) ?_
        refine q9 (by kernel_rfl) ?_
        exact ⟨b3,b4,b13,b20,rfl,List.Perm.trans (List.Perm.swap _ _ _) (List.Perm.trans (List.Perm.cons _ (List.Perm.cons _ (List.Perm.swap _ _ _))) (List.Perm.cons _ (List.Perm.swap _ _ _)))⟩
   ·(refine ql rfl rfl rfl (EF.alloc rfl (by first | (simp only[Value.cells,List.map_cons,List.map_nil];rfl) | rfl) fun b3=>?_);refine qd (AV.putO_some (by rfl) (by simp only[AV.put];rfl)) rfl ?_)
    refine qb [6,13] (by kernel_rfl) ⟨?_,?_,trivial⟩
    ·(refine ql rfl rfl rfl (EF.make _ rfl rfl rfl rfl rfl (by omega) (by omega) (by first | omega | (unfold maxLen;omega)) fun b13=>?_);refine qd (AV.putO_some (by rfl) (by simp only[AV.put];rfl)) rfl ?_)
     refine qb [13,16] (by kernel_rfl) ⟨?_,?_,trivial⟩
     ·(refine ql rfl rfl rfl (EF.make _ rfl rfl rfl rfl rfl (by omega) (by omega) (by first | omega | (unfold maxLen;omega)) fun b20=>?_);refine qd (AV.putO_some (by rfl) (by simp only[AV.put];rfl)) rfl ?_)
      refine qb [16] (by kernel_rfl) ⟨?_,trivial⟩
      ·refine qm 2 rfl rfl rfl rfl rfl (by simp only[evO,AV.get];rfl) rfl (by rfl) rfl (by rfl) (by simp) (by simp only[List.set];rfl) ?_
       refine qb [17] (by kernel_rfl) ⟨?_,trivial⟩
       ·refine qm 3 rfl rfl rfl rfl rfl (by simp only[evO,AV.get];rfl) rfl (by rfl) rfl (by rfl) (by simp) (by simp only[List.set];rfl) ?_
        refine q9 (by kernel_rfl) ?_
        exact ⟨b3,b4,b13,b20,rfl,List.Perm.trans (List.Perm.swap _ _ _) (List.Perm.trans (List.Perm.cons _ (List.Perm.swap _ _ _)) (List.Perm.trans (List.Perm.cons _ (List.Perm.cons _ (List.Perm.swap _ _ _))) (List.Perm.trans (List.Perm.swap _ _ _) (List.Perm.cons _ (List.Perm.swap _ _ _)))))⟩
     ·refine qm 1 rfl rfl rfl rfl rfl (by simp only[evO,AV.get];rfl) rfl (by rfl) rfl (by rfl) (by simp) (by simp only[List.set];rfl) ?_
      refine qb [13] (by kernel_rfl) ⟨?_,trivial⟩
      ·(refine ql rfl rfl rfl (EF.make _ rfl rfl rfl rfl rfl (by omega) (by omega) (by first | omega | (unfold maxLen;omega)) fun b20=>?_);refine qd (AV.putO_some (by rfl) (by simp only[AV.put];rfl)) rfl ?_)
       refine qb [17] (by kernel_rfl) ⟨?_,trivial⟩
       ·refine qm 3 rfl rfl rfl rfl rfl (by simp only[evO,AV.get];rfl) rfl (by rfl) rfl (by rfl) (by simp) (by simp only[List.set];rfl) ?_
        refine q9 (by kernel_rfl) ?_
        exact ⟨b3,b4,b13,b20,rfl,List.Perm.trans (List.Perm.swap _ _ _) (List.Perm.trans (List.Perm.cons _ (List.Perm.swap _ _ _)) (List.Perm.trans (List.Perm.cons _ (List.Perm.cons _ (List.Perm.swap _ _ _))) (List.Perm.trans (List.Perm.swap _ _ _) (List.Perm.cons _ (List.Perm.swap _ _ _)))))⟩
    ·(refine ql rfl rfl rfl (EF.make _ rfl rfl rfl rfl rfl (by omega) (by omega) (by first | omega | (unfold maxLen;omega)) fun b20=>?_);refine qd (AV.putO_some (by rfl) (by simp only[AV.put];rfl)) rfl ?_)
     refine qb [6] (by kernel_rfl) ⟨?_,trivial⟩
     ·(refine ql rfl rfl rfl (EF.make _ rfl rfl rfl rfl rfl (by omega) (by omega) (by first | omega | (unfold maxLen;omega)) fun b13=>?_);refine qd (AV.putO_some (by rfl) (by simp only[AV.put];rfl)) rfl ?_)
      refine qb [16] (by kernel_rfl) ⟨?_,trivial⟩
      ·refine qm 2 rfl rfl rfl rfl rfl (by simp only[evO,AV.get];rfl) rfl (by rfl) rfl (by rfl) (by simp) (by simp only[List.set];rfl) ?_
       refine qb [17] (by kernel_rfl) ⟨?_,trivial⟩
       ·refine qm 3 rfl rfl rfl rfl rfl (by simp only[evO,AV.get];rfl) rfl (by rfl) rfl (by rfl) (by simp) (by simp only[List.set];rfl) ?_
        refine q9 (by kernel_rfl) ?_
        exact ⟨b3,b4,b13,b20,rfl,List.Perm.trans (List.Perm.cons _ (List.Perm.swap _ _ _)) (List.Perm.trans (List.Perm.cons _ (List.Perm.cons _ (List.Perm.swap _ _ _))) (List.Perm.trans (List.Perm.swap _ _ _) (List.Perm.cons _ (List.Perm.swap _ _ _))))⟩
 rintro t H ⟨b3,b4,b13,b20,rfl,hp⟩
 refine qbo ?_
 refine Awp.perm hp ?_
 clear hp
 rw[qAv,show AV.val ((Value.int .i64 0).cells.getD 0 undef)=AV.int 0 from rfl,show List.replicate O.G (AV.int 0)=ints (List.replicate O.G 0) by unfold ints;rw[List.map_replicate]]
 (repeat' (first | ((first | with_reducible refine AL.id_ ?_ | with_reducible refine AE.id_ ?_);first | refine AL.build0 hF rfl rfl rfl (fun b=>⟨_,(by simp only[AV.put];rfl),?_⟩) | refine W.s rfl rfl (by first | exact AY.bx rfl (by simp only[evO,AV.get];rfl) rfl | exact AY.mkFn rfl (by simp only[List.map_cons,List.map_nil,evO,AV.get];rfl) | exact AY.mkFn1 rfl (by simp only[evO,AV.get];rfl) (by simp only[List.map_cons,List.map_nil,evO,AV.get];rfl) | exact hEQ rfl rfl rfl | exact Step2.sound (by first | (((first | (apply Step2.a;constructor) | (apply Step2.b;constructor))<;>first | infer_instance | skip)<;>(first | infer_instance | (refine w64c ?_;omega) | (refine qw ?_;omega) | (refine qn ?_;omega) | (refine qo ?_;omega) | (refine qv ?_;omega) | ((repeat (first | exact .head _ | refine .tail _ ?_));done) | assumption | (simp only[List.drop_succ_cons,List.drop_zero,List.length_map,Nat.zero_add,Nat.mul_one];rfl) | rfl | omega | (simp;done))) | fail) rfl | exact AY.call rfl rfl _ rfl (by fail) | exact AY.slice1 rfl rfl rfl (by rfl) (by first | (simp;done) | fail) | exact AY.callF rfl _ _ rfl _ rfl (by fail) | exact AY.old1k 0 rfl rfl rfl (by first | assumption | rfl) | exact AY.old1k 1 rfl rfl rfl (by first | assumption | rfl) | exact AY.old1k 2 rfl rfl rfl (by first | assumption | rfl) | exact AY.oldNk 0 rfl rfl rfl (by first | omega | (simp;omega)) (by first | assumption | rfl) | exact AY.oldNk 1 rfl rfl rfl (by first | omega | (simp;omega)) (by first | assumption | rfl)) (by simp only[AV.put];rfl) ?_ | (refine AL.nilK (hK _ _ ?_);clear hK K) | (refine AE.nil (hK _ ?_);clear hK K) | refine W.k rfl rfl (by simp only[AV.put];rfl) ?_ | refine AL.unguardS rfl rfl ?_ | refine AL.al hF rfl rfl rfl (by first | (simp only[Value.cells,List.map_cons,List.map_nil];rfl) | rfl) (fun b=>⟨_,(by simp only[AV.put];rfl),?_⟩) | refine AL.st1 hF rfl rfl rfl rfl (by simp only[evO,AV.get];rfl) (by first | exact qG | exact qH | exact qI | exact qJ | exact qK | exact qL | exact qM | exact qN) (by rfl) rfl (by rfl) (by first | (simp;done) | (simp;omega) | omega) (by simp only[List.set];rfl) ?_ | refine AL.stW hF rfl rfl rfl rfl (by simp only[evO,AV.get];rfl) (by first | exact qG | exact qH | exact qI | exact qJ | exact qK | exact qL | exact qM | exact qN) (by rfl) (by rfl) (by rfl) (by first | rfl | simp) (by simp only[List.set];rfl) ?_) | (with_reducible refine Awp.id_ ?_;first | refine Awp.seq ?_ | refine Awp.regionK (by first | (simp only[AV.putO,AV.put];rfl) | rfl) (fun K hK=>?_) | refine Awp.drawE (by first | (simp only[AV.putO,AV.put];rfl) | rfl) mixed rfl (by kernel_rfl) (fun K hK=>?_) | refine Awp.block ?_ | refine Awp.skip ?_ | refine Awp.exit ?_ | refine Awp.ret ?_ | refine Awp.condT rfl ?_ | refine Awp.condF rfl ?_) | refine qbo ?_ | refine qbL ?_ | refine qbM ?_ | refine qB ?_ | refine qC ?_ | refine qD ?_ | refine qE rfl ?_ | ((first | ((first | with_reducible refine AL.id_ ?_ | with_reducible refine AE.id_ ?_);(fail_if_success refine W.on rfl ?_);refine W.p rfl rfl (by simp only[AV.put];rfl) (by simp only[AV.put];rfl) (fun hb=>?_) (fun hb=>?_)) | (with_reducible refine Awp.id_ ?_;refine Awp.cond _ rfl (fun hb=>?_) (fun hb=>?_)))<;>(try simp only[z1,z2,z3,z4,z5,z6,z7,z8,y5,y6,y7,y8,z9,x1,x2,x3,x4,x5,x6,x7,x8] at hb;try (exfalso;omega)))))
 rename_i b5
 obtain ⟨dc,hdc⟩:∃dc:List AV,dc=[.val (ptr b5),.rp [.rp [a0,a1,a2,.sl 3 gg,.sl 1 cl,a5,a6,a7,a8,a9,a10]],.val (ptr b4),.val (ptr by_),.val (ptr b3),.val (ptr b)]:=⟨_,rfl⟩
 refine AL.norm (H':=[HE.blk b 42 [.fn 50 [] dc],HE.blk b5 23 [.val (.slice none 0 0)],HE.blk b3 23 [.val (.slice (some ⟨b13,0,none⟩) O.G O.G)],HE.blk b4 23 [.val (.slice (some ⟨b20,0,none⟩) O.G O.G)],HE.blk b13 3 (ints (List.replicate O.G 0)),HE.blk b20 3 (ints (List.replicate O.G 0)),HE.blk by_ 110 [.val (.func (.yield lp) #[] #[])],.nodef,.ghost X (J 0)]) (by first | (simp only[evO,AV.get];rfl) | rfl) (by first | (rw[hdc];done) | (rw[hdc];rfl)) ?_
 refine AL.ownNil 3 1 ?_
 refine AL.perm (H':=Hn b5 b4 by_ b3 b b20 b13 lp O.G dc none 0 [] (List.replicate O.G 0) (List.replicate O.G 0) X (J 0)) (List.Perm.trans (List.Perm.cons _ (List.Perm.swap _ _ _)) (List.Perm.trans (List.Perm.cons _ (List.Perm.cons _ (List.Perm.swap _ _ _))) (List.Perm.trans (List.Perm.cons _ (List.Perm.cons _ (List.Perm.cons _ (List.Perm.swap _ _ _)))) (List.Perm.trans (List.Perm.cons _ (List.Perm.cons _ (List.Perm.cons _ (List.Perm.cons _ (List.Perm.swap _ _ _))))) (List.Perm.trans (List.Perm.cons _ (List.Perm.cons _ (List.Perm.cons _ (List.Perm.cons _ (List.Perm.cons _ (List.Perm.swap _ _ _)))))) (List.Perm.trans (List.Perm.cons _ (List.Perm.cons _ (List.Perm.cons _ (List.Perm.cons _ (List.Perm.cons _ (List.Perm.cons _ (List.Perm.swap _ _ _))))))) (List.Perm.trans (List.Perm.swap _ _ _) (List.Perm.trans (List.Perm.cons _ (List.Perm.cons _ (List.Perm.swap _ _ _))) (List.Perm.trans (List.Perm.cons _ (List.Perm.cons _ (List.Perm.cons _ (List.Perm.cons _ (List.Perm.swap _ _ _))))) (List.Perm.trans (List.Perm.cons _ (List.Perm.cons _ (List.Perm.cons _ (List.Perm.cons _ (List.Perm.cons _ (List.Perm.swap _ _ _)))))) (List.Perm.trans (List.Perm.cons _ (List.Perm.cons _ (List.Perm.cons _ (List.Perm.swap _ _ _)))) (List.Perm.cons _ (List.Perm.cons _ (List.Perm.cons _ (List.Perm.cons _ (List.Perm.swap _ _ _)))))))))))))))) ?_
 have hrep:∀x,x∈List.replicate O.G (0:Int)→x=0:=fun x hx=>List.eq_of_mem_replicate hx
 have hnx:=HNX.out (a0) (a1) (a2) (a5) (a6) (a7) a8 a9 a10 gg cl b5 b4 by_ b3 b b20 b13 lp T J Jx [a0,a1,a2,.sl 3 gg,.sl 1 cl,a5,a6,a7,a8,a9,a10] dc _ rfl hdc rfl hG4 hC6 hcn hpt hggl hggr hcll hclr hleads.out hroped.out hcJ hcx hone
  (fun i e hi=>by
   have hlt:=(List.getElem?_eq_some_iff.1 hi).1
   have:=hy i (by simpa using hlt)
   rw[List.getElem_map] at this
   have h2:(qdI O)[i]=e:=by rw[List.getElem?_eq_getElem hlt] at hi;injection hi
   rwa [h2] at this)
  O.clients.length [] (List.replicate O.G 0) (List.replicate O.G 0) 0 X none 0 rfl (by simp) (by simp) (fun x hx=>by rw[hrep x hx];simp) (fun x hx=>by rw[hrep x hx];omega) (fun b hb=>by cases hb) (fun j e hj=>by rw[Nat.zero_add];exact hj)
 refine AL.callM (Hn b5 b4 by_ b3 b b20 b13 lp O.G dc none 0 [] (List.replicate O.G 0) (List.replicate O.G 0) X (J 0)) [] hF (List.append_nil _).symm rfl rfl rfl [] dc (.inl (by rw[hdc];rfl)) _ hdc hnx (fun b hA=>hT b fun h=>(hA.1 h).1) (fun b hb=>hT b fun hlt=>absurd hlt (Nat.not_lt.2 hb)) ?_ ?_ ?_
 ·exact .inr ⟨fun e he=>(by cases he),List.mem_append_left _ (List.mem_append_left _ (List.mem_of_getElem? (i:=8) rfl))⟩
 ·exact fun r H' _=>⟨fun h=>(h (HE.ghost X (J 0)) (List.mem_append_right _ (.head _)) trivial).elim,fun _=>List.mem_append_left _ (List.mem_append_left _ (List.mem_of_getElem? (i:=8) rfl))⟩
 rintro r H' (⟨rfl,A3,c3,X3,hT3,rfl⟩ | ⟨rfl,X3,hx⟩)
 ·refine AL.norm (by simp only[AV.put];rfl) (List.append_nil _) ?_
  (repeat' (first | ((first | with_reducible refine AL.id_ ?_ | with_reducible refine AE.id_ ?_);first | refine AL.build0 hF rfl rfl rfl (fun b=>⟨_,(by simp only[AV.put];rfl),?_⟩) | refine W.s rfl rfl (by first | exact AY.bx rfl (by simp only[evO,AV.get];rfl) rfl | exact AY.mkFn rfl (by simp only[List.map_cons,List.map_nil,evO,AV.get];rfl) | exact AY.mkFn1 rfl (by simp only[evO,AV.get];rfl) (by simp only[List.map_cons,List.map_nil,evO,AV.get];rfl) | exact hEQ rfl rfl rfl | exact Step2.sound (by first | (((first | (apply Step2.a;constructor) | (apply Step2.b;constructor))<;>first | infer_instance | skip)<;>(first | infer_instance | (refine w64c ?_;omega) | (refine qw ?_;omega) | (refine qn ?_;omega) | (refine qo ?_;omega) | (refine qv ?_;omega) | ((repeat (first | exact .head _ | refine .tail _ ?_));done) | assumption | (simp only[List.drop_succ_cons,List.drop_zero,List.length_map,Nat.zero_add,Nat.mul_one];rfl) | rfl | omega | (simp;done))) | fail) rfl | exact AY.call rfl rfl _ rfl (by fail) | exact AY.slice1 rfl rfl rfl (by rfl) (by first | (simp;done) | fail) | exact AY.callF rfl _ _ rfl _ rfl (by fail) | exact AY.old1k 0 rfl rfl rfl (by first | assumption | rfl) | exact AY.old1k 1 rfl rfl rfl (by first | assumption | rfl) | exact AY.old1k 2 rfl rfl rfl (by first | assumption | rfl) | exact AY.oldNk 0 rfl rfl rfl (by first | omega | (simp;omega)) (by first | assumption | rfl) | exact AY.oldNk 1 rfl rfl rfl (by first | omega | (simp;omega)) (by first | assumption | rfl)) (by simp only[AV.put];rfl) ?_ | (refine AL.nilK (hK _ _ ?_);clear hK K) | (refine AE.nil (hK _ ?_);clear hK K) | refine W.k rfl rfl (by simp only[AV.put];rfl) ?_ | refine AL.unguardS rfl rfl ?_ | refine AL.al hF rfl rfl rfl (by first | (simp only[Value.cells,List.map_cons,List.map_nil];rfl) | rfl) (fun b=>⟨_,(by simp only[AV.put];rfl),?_⟩) | refine AL.st1 hF rfl rfl rfl rfl (by simp only[evO,AV.get];rfl) (by first | exact qG | exact qH | exact qI | exact qJ | exact qK | exact qL | exact qM | exact qN) (by rfl) rfl (by rfl) (by first | (simp;done) | (simp;omega) | omega) (by simp only[List.set];rfl) ?_ | refine AL.stW hF rfl rfl rfl rfl (by simp only[evO,AV.get];rfl) (by first | exact qG | exact qH | exact qI | exact qJ | exact qK | exact qL | exact qM | exact qN) (by rfl) (by rfl) (by rfl) (by first | rfl | simp) (by simp only[List.set];rfl) ?_) | (with_reducible refine Awp.id_ ?_;first | refine Awp.seq ?_ | refine Awp.regionK (by first | (simp only[AV.putO,AV.put];rfl) | rfl) (fun K hK=>?_) | refine Awp.drawE (by first | (simp only[AV.putO,AV.put];rfl) | rfl) mixed rfl (by kernel_rfl) (fun K hK=>?_) | refine Awp.block ?_ | refine Awp.skip ?_ | refine Awp.exit ?_ | refine Awp.ret ?_ | refine Awp.condT rfl ?_ | refine Awp.condF rfl ?_) | refine qbo ?_ | refine qbL ?_ | refine qbM ?_ | refine qB ?_ | refine qC ?_ | refine qD ?_ | refine qE rfl ?_ | ((first | ((first | with_reducible refine AL.id_ ?_ | with_reducible refine AE.id_ ?_);(fail_if_success refine W.on rfl ?_);refine W.p rfl rfl (by simp only[AV.put];rfl) (by simp only[AV.put];rfl) (fun hb=>?_) (fun hb=>?_)) | (with_reducible refine Awp.id_ ?_;refine Awp.cond _ rfl (fun hb=>?_) (fun hb=>?_)))<;>(try simp only[z1,z2,z3,z4,z5,z6,z7,z8,y5,y6,y7,y8,z9,x1,x2,x3,x4,x5,x6,x7,x8] at hb;try (exfalso;omega)))))
  refine qrb rfl ⟨X3,.inl ?_⟩
  rw[List.length_map]
  exact List.mem_append_right _ (by rw[Nat.zero_add];exact .head _)
 ·refine AL.norm (by simp only[AV.put];rfl) (List.append_nil _) ?_
  (repeat' (first | ((first | with_reducible refine AL.id_ ?_ | with_reducible refine AE.id_ ?_);first | refine AL.build0 hF rfl rfl rfl (fun b=>⟨_,(by simp only[AV.put];rfl),?_⟩) | refine W.s rfl rfl (by first | exact AY.bx rfl (by simp only[evO,AV.get];rfl) rfl | exact AY.mkFn rfl (by simp only[List.map_cons,List.map_nil,evO,AV.get];rfl) | exact AY.mkFn1 rfl (by simp only[evO,AV.get];rfl) (by simp only[List.map_cons,List.map_nil,evO,AV.get];rfl) | exact hEQ rfl rfl rfl | exact Step2.sound (by first | (((first | (apply Step2.a;constructor) | (apply Step2.b;constructor))<;>first | infer_instance | skip)<;>(first | infer_instance | (refine w64c ?_;omega) | (refine qw ?_;omega) | (refine qn ?_;omega) | (refine qo ?_;omega) | (refine qv ?_;omega) | ((repeat (first | exact .head _ | refine .tail _ ?_));done) | assumption | (simp only[List.drop_succ_cons,List.drop_zero,List.length_map,Nat.zero_add,Nat.mul_one];rfl) | rfl | omega | (simp;done))) | fail) rfl | exact AY.call rfl rfl _ rfl (by fail) | exact AY.slice1 rfl rfl rfl (by rfl) (by first | (simp;done) | fail) | exact AY.callF rfl _ _ rfl _ rfl (by fail) | exact AY.old1k 0 rfl rfl rfl (by first | assumption | rfl) | exact AY.old1k 1 rfl rfl rfl (by first | assumption | rfl) | exact AY.old1k 2 rfl rfl rfl (by first | assumption | rfl) | exact AY.oldNk 0 rfl rfl rfl (by first | omega | (simp;omega)) (by first | assumption | rfl) | exact AY.oldNk 1 rfl rfl rfl (by first | omega | (simp;omega)) (by first | assumption | rfl)) (by simp only[AV.put];rfl) ?_ | (refine AL.nilK (hK _ _ ?_);clear hK K) | (refine AE.nil (hK _ ?_);clear hK K) | refine W.k rfl rfl (by simp only[AV.put];rfl) ?_ | refine AL.unguardS rfl rfl ?_ | refine AL.al hF rfl rfl rfl (by first | (simp only[Value.cells,List.map_cons,List.map_nil];rfl) | rfl) (fun b=>⟨_,(by simp only[AV.put];rfl),?_⟩) | refine AL.st1 hF rfl rfl rfl rfl (by simp only[evO,AV.get];rfl) (by first | exact qG | exact qH | exact qI | exact qJ | exact qK | exact qL | exact qM | exact qN) (by rfl) rfl (by rfl) (by first | (simp;done) | (simp;omega) | omega) (by simp only[List.set];rfl) ?_ | refine AL.stW hF rfl rfl rfl rfl (by simp only[evO,AV.get];rfl) (by first | exact qG | exact qH | exact qI | exact qJ | exact qK | exact qL | exact qM | exact qN) (by rfl) (by rfl) (by rfl) (by first | rfl | simp) (by simp only[List.set];rfl) ?_) | (with_reducible refine Awp.id_ ?_;first | refine Awp.seq ?_ | refine Awp.regionK (by first | (simp only[AV.putO,AV.put];rfl) | rfl) (fun K hK=>?_) | refine Awp.drawE (by first | (simp only[AV.putO,AV.put];rfl) | rfl) mixed rfl (by kernel_rfl) (fun K hK=>?_) | refine Awp.block ?_ | refine Awp.skip ?_ | refine Awp.exit ?_ | refine Awp.ret ?_ | refine Awp.condT rfl ?_ | refine Awp.condF rfl ?_) | refine qbo ?_ | refine qbL ?_ | refine qbM ?_ | refine qB ?_ | refine qC ?_ | refine qD ?_ | refine qE rfl ?_ | ((first | ((first | with_reducible refine AL.id_ ?_ | with_reducible refine AE.id_ ?_);(fail_if_success refine W.on rfl ?_);refine W.p rfl rfl (by simp only[AV.put];rfl) (by simp only[AV.put];rfl) (fun hb=>?_) (fun hb=>?_)) | (with_reducible refine Awp.id_ ?_;refine Awp.cond _ rfl (fun hb=>?_) (fun hb=>?_)))<;>(try simp only[z1,z2,z3,z4,z5,z6,z7,z8,y5,y6,y7,y8,z9,x1,x2,x3,x4,x5,x6,x7,x8] at hb;try (exfalso;omega)))))
  exact qrb rfl ⟨X3,.inr hx⟩
end Go.Proofs.YtfnflenkeljkiaaGreat
