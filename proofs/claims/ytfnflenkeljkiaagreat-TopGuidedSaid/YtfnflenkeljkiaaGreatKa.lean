/- Texts Gl, Base, Own, Apart, Blk, Range, Step, QTail, RangeS in one. -/
import Derived.ProofKit
import Derived.WalkKit
import Derived.WalkLawsBesides
import Derived.WalkSpells
import Derived.Deep.QuietTactic
import Derived.BigQuiet
import Derived.Lib.Hide
import Derived.Maps.AppendAt
import Derived.Deep.AppendLies
import Derived.Deep.Draws
import Derived.Deep.LoopGhost
import Derived.Laws.EntriesVeiled
import Derived.StillTailTactics
import Derived.Laws.OwnMore
import Derived.OwnWalk
import Derived.Deep.Cut
import Derived.RangeFuncNested
import Derived.RangeFuncBound
import Derived.RangeFuncCalls
import Derived.RangeFuncLeaves
import Derived.RangeFuncBox
import Derived.Shelf.RegionOpen
import Derived.Shelf.Abstract
import Derived.OwnWalkIn
import Derived.TacticsInMore
import Derived.LoopNIn
import Derived.LoopIn
import Derived.Deep.RegionLaw
import Derived.StillTail
/- The package variables that a law's hypotheses tell: here none. -/
set_option linter.constructorNameAsVariable false
set_option linter.unusedSimpArgs false
set_option linter.unusedVariables false
set_option linter.unusedSectionVars false
namespace Go.Proofs.YtfnflenkeljkiaaGreat
open Go Go.Proofs Go.RowKit
def gTab:List (Nat×(Nat×Value)):=[]
def Sl(w:World)(B:Nat)(sz:Nat)(A:Option Addr)(n:Nat)(xs:List Value):Prop :=
 xs.length=n*sz∧(0<n→∃b off,A=some ⟨b,off,none⟩∧b<B∧∀j u,xs[j]?=some u→w.cell? ⟨b,off+j,none⟩=some u)
theorem Sl.nil(w:World)(B sz:Nat)(A:Option Addr):Sl w B sz A 0 []:=⟨by simp,fun h=>absurd h (by omega)⟩
def SlOf{α:Type}(f:α→List Value)(sz:Nat)(w:World)(B:Nat)(A:Option Addr)(l:List α):Prop:=Sl w B sz A l.length (l.flatMap f)
theorem SlOf.nil{α:Type}(f:α→List Value)(sz:Nat)(w:World)(B:Nat)(A:Option Addr):SlOf f sz w B A []:=Sl.nil w B sz A
abbrev Ext(w w':World):Prop:=Below w.heap.size w w'
theorem Ext.refl(w:World):Ext w w:=Below.refl _ w
theorem Ext.trans{a b c:World}(h:Ext a b)(k:Ext b c):Ext a c:=Below.trans h (Below.mono k h.size)
theorem Ext.alloc{a w:World}(h:Ext a w)(o:Obj):Ext a (w.alloc o):=Below.alloc h h.size o
theorem Ext.drew{a w:World}(h:Ext a w):Ext a w.drew:=Below.drew h
structure XW (W:World) where
 w:World
 h:Ext W w
instance (W:World):Nonempty (XW W):=⟨⟨W,Ext.refl W⟩⟩
theorem qek(b off j:Nat):(⟨b,off,none⟩:Addr).add j=⟨b,off+j,none⟩:=by
 unfold Addr.add
 split
 ·subst_vars;rfl
 ·rfl
section
variable {P:Program} (w:World)
theorem qoZ(base:Nat)(t ty e:TypeId)(i:TypeInfo)(z:Value)(size bytes:Nat)(ht:P.underlying t=some (.slice e))(hi:P.info? e=some i)(hz:i.zero=some z)
  (hsize:i.size=size) (hby:i.bytes=bytes) (hzs:z.cells.size=size) (hsz:0<size)
  (v:Value) (n:Nat) (xs:List Value) (hown:w.ownsRow base e size v n xs)
  (B:Nat) (A:Option Addr) (m c:Nat) (news:List Value) (hr:Sl w B size A m news) (h1:∀u∈news,u.oneCell'=true)
  (h63:n+m≤maxLen) (hbytes:(n+m)*bytes≤140737488355328) (hbase:base≤w.heap.size) :
  ∃v' w',(Builtin.append_ #[t,t] ty #[v,.slice A m c]).run P w = .ok v' w'∧w'.ownsRow base e size v' (n+m) (xs++news)∧w.grownBy w' v.ownBlock ∧
   (v'.ownBlock=v.ownBlock∨v'.ownBlock=some w.heap.size):=by
 have hnil:m=0→news=[]:=fun h=>List.eq_nil_of_length_eq_zero (by rw[hr.1,h];simp)
 rcases A with _ | ad
 ·have hm:m=0:=by
   rcases Nat.eq_zero_or_pos m with h0 | h0
   ·exact h0
   ·obtain ⟨_,_,h,_⟩:=hr.2 h0
    cases h
  obtain rfl:=hnil hm
  subst hm
  have hrun:(Builtin.append_ #[t,t] ty #[v,.slice none 0 c]).run P w = .ok v w:=by
   rcases hown.2 with ⟨rfl,rfl⟩ | ⟨g,cap,cur,rfl,_,_,hnc,_⟩
   ·simp[Builtin.append_,run_underlying ht,sizeOf,typeInfo,hi,Builtin.lenOf,Builtin.firstCells]
   ·simp[Builtin.append_,run_underlying ht,sizeOf,typeInfo,hi,Builtin.lenOf,Builtin.firstCells,hnc,storeCells]
  exact ⟨v,w,hrun,by simpa using hown,World.grownBy.refl w _,.inl rfl⟩
 ·have hcells:∀j u,news[j]?=some u→w.cell? (ad.add j)=some u:=by
   intro j u hu
   rcases Nat.eq_zero_or_pos m with h0 | h0
   ·rw[hnil h0] at hu
    simp at hu
   ·obtain ⟨b,off,h,_,hc⟩:=hr.2 h0
    injection h with h
    subst h
    rw[qek]
    exact hc j u hu
  obtain ⟨v',w',hrun,h2,h3,_,h5⟩:=run_append_own_at (P:=P) w base t ty e i z size bytes ht hi hz hsize hby hzs hsz v n xs hown ad m c news hr.1 hcells h1 h63 hbytes hbase
  exact ⟨v',w',hrun,h2,h3,h5⟩
end
def Apart(v u:Value):Prop:=∀g,v.ownBlock=some g→u.ownBlock≠some g
theorem Apart.nil(u:Value):Apart (.slice none 0 0) u:=fun g h=>by cases h
def Blk(w:World)(g:Nat)(t:TypeId)(cs:List Value):Prop:=w.heap[g]?=some (.cells cs.toArray t (0,0))
section
variable {w w':World} {g:Nat} {t:TypeId} {cs:List Value}
theorem Blk.lt(h:Blk w g t cs):g<w.heap.size:=by
 rcases Nat.lt_or_ge g w.heap.size with hlt | hge
 ·exact hlt
 ·unfold Blk at h;rw[Array.getElem?_eq_none hge] at h;cases h
theorem Blk.cell(h:Blk w g t cs)(i:Nat):w.cell? ⟨g,i,none⟩=cs[i]?:=(cell_of_row w g i _ t (0,0) h).trans (by simp)
theorem Blk.frozen(h:Blk w g t cs)(i:Nat):w.frozen? ⟨g,i,none⟩=false:=by
 unfold Blk at h
 simp[World.frozen?,h]
theorem Blk.new(w:World)(t:TypeId)(cs:List Value){n:Nat}(hn:n=w.heap.size):Blk (w.alloc (.cells cs.toArray t)) n t cs:=by subst hn;exact heap_alloc_new w _
theorem Blk.set_(h:Blk w g t cs)(i:Nat)(u:Value):Blk (w.setCell ⟨g,i,none⟩ u) g t (cs.set i u):=by
 unfold Blk at h ⊢
 simp[World.setCell,Array.getElem?_modify,h]
end
theorem qtL(w:World)(p:Addr)(u:Value):w.grownBy (w.setCell p u) (some p.block) :=
 ⟨rfl,rfl,rfl,by simp,fun k _ hk=>Below.heap_setCell w p u k (fun e=>hk (by rw[e]))⟩
def Cells(w:World)(g:Nat)(cs:List Value):Prop:=g<w.heap.size∧∀(i:Nat) (u:Value),cs[i]?=some u→w.cell? ⟨g,i,none⟩=some u
end Go.Proofs.YtfnflenkeljkiaaGreat
/- A loop over a function value, bound receivers included: one contract for the iterator, one law for the caller. -/
namespace Go.Proofs.YtfnflenkeljkiaaGreat
open Go Go.Proofs Go.RowKit Go.Shelf
def Stab(B:Nat)(p:World→Prop):Prop :=
 ∀W W' row,p W→W.grownBy W' row→(∀r,row=some r→B≤r∧∃o:Obj,W.heap[r]?=some o∧o.isCells=false)→p W'
theorem Stab.put{B:Nat}{p:World→Prop}(h:Stab B p){W:World}{r:Nat}{o:Obj}(o':Obj)(hp:p W)(hB:B≤r)(hr:W.heap[r]?=some o)(ho:o.isCells=false):p (W.putObj r o') :=
 h W _ (some r) hp (grownBy_putObj' W r o') (fun k e=>by cases e;exact ⟨hB,o,hr,ho⟩)
theorem Stab.and{B:Nat}{p q:World→Prop}(h:Stab B p)(k:Stab B q):Stab B fun W=>p W∧q W:=fun W W' row hp hg hr=>⟨h W W' row hp.1 hg hr,k W W' row hp.2 hg hr⟩
theorem Stab.own{β:Type}{I:β→World→Prop}(h:Own I)(B:Nat)(s:β):Stab B (I s):=fun W W' row hp hg hr=>h s W W' row hp hg (fun r e=>(hr r e).2)
theorem qx4{W W':World}(h:Ext W W'){k:Nat}{o:Obj}(hk:W.heap[k]?=some o):W'.heap[k]?=some o :=
 (h.block k (Array.getElem?_eq_some_iff.1 hk).1).trans hk
theorem Sl.take{w:World}{B sz n:Nat}{A:Option Addr}{xs:List Value}(h:Sl w B sz A n xs){k:Nat}(hk:k≤n):Sl w B sz A k (xs.take (k*sz)) :=
 ⟨by rw[List.length_take,h.1];exact Nat.min_eq_left (Nat.mul_le_mul_right _ hk),fun hp=>by
  obtain ⟨b,off,e,hb,hc⟩:=h.2 (by omega)
  refine ⟨b,off,e,hb,fun j u hu=>hc j u ?_⟩
  rw[List.getElem?_take] at hu
  split at hu
  ·exact hu
  ·cases hu⟩
theorem Sl.drop{w:World}{B sz n:Nat}{b off:Nat}{xs:List Value}(h:Sl w B sz (some ⟨b,off,none⟩) n xs){k c:Nat}(hk:k≤n)(hc:n≤c){A2:Option Addr}(hA:(if c=k then some (⟨b,off,none⟩:Addr) else some ⟨b,off+k*sz,none⟩)=A2):Sl w B sz A2 (n-k) (xs.drop (k*sz)) :=
 ⟨by rw[List.length_drop,h.1,Nat.sub_mul],fun hp=>by
  obtain ⟨b',off',e,hb,hcells⟩:=h.2 (by omega)
  injection e with e;injection e with e1 e2;subst e1 e2
  rw[if_neg (by omega)] at hA
  subst hA
  refine ⟨b,off+k*sz,rfl,hb,fun j u hu=>?_⟩
  rw[List.getElem?_drop] at hu
  rw[Nat.add_assoc]
  exact hcells _ u hu⟩
section
variable {P:Program} {ops:Array Oper} {md:Region.Mode} {C:World→Prop}
end
end Go.Proofs.YtfnflenkeljkiaaGreat
/- A loop over an iterator that keeps state of its own in memory: one contract for the iterator, one law for the caller. Nothing here speaks of the program. -/
namespace Go.Proofs.YtfnflenkeljkiaaGreat
open Go Go.Proofs Go.RowKit Go.Shelf
def KeepsAll(B:Nat)(W W':World):Prop:=(∀b,B≤b→b<W.heap.size→W'.heap[b]?=W.heap[b]?)∧W.heap.size≤W'.heap.size
theorem KeepsAll.refl(B:Nat)(W:World):KeepsAll B W W:=⟨fun _ _ _=>rfl,Nat.le_refl _⟩
theorem KeepsAll.trans{B:Nat}{a b c:World}(h:KeepsAll B a b)(k:KeepsAll B b c):KeepsAll B a c :=
 ⟨fun x h1 h2=>(k.1 x h1 (Nat.lt_of_lt_of_le h2 h.2)).trans (h.1 x h1 h2),Nat.le_trans h.2 k.2⟩
theorem KeepsAll.mono{B B':Nat}{a b:World}(h:KeepsAll B a b)(hB:B≤B'):KeepsAll B' a b:=⟨fun x h1 h2=>h.1 x (Nat.le_trans hB h1) h2,h.2⟩
end Go.Proofs.YtfnflenkeljkiaaGreat
