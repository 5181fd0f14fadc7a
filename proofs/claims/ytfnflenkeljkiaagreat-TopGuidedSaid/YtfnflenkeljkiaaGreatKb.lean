/- Texts Al1, Al2, Al3, Al4, Al5, Al6, Al7, Al8, Al9 in one. -/
import Derived.Test.YtfnflenkeljkiaaGreatKa
import Derived.Shelf.Abstract
import Derived.Scope
import Derived.OrdersIn
import Derived.TacticsIn
import Derived.RangeFuncLeaves
import Derived.RangeFuncCalls
import Derived.Laws.Cells
import Derived.RangeFuncRecord
import Derived.Laws.Tables
import Derived.Laws.MakeOwn
/- Abstract values, and what a state of a call reads as. Nothing here speaks of the program. -/
set_option linter.constructorNameAsVariable false
set_option linter.unusedSimpArgs false
set_option linter.unusedVariables false
set_option linter.unusedSectionVars false
namespace Go.Proofs.YtfnflenkeljkiaaGreat
open Go Go.Proofs Go.RowKit
inductive AV where
 | any
 | val (v:Value)
 | agg (l:List AV)
 | tup (l:List AV)
 | sl (sz:Nat) (rows:List (List AV))
 | rp (cells:List AV)
 | fn (f:FuncId) (first caps:List AV)
instance:Inhabited AV:=⟨.any⟩
abbrev AV.int(n:Int):AV:=.val (.int .i64 n)
abbrev AV.bool(b:Bool):AV:=.val (.bool b)
abbrev AV.undef:AV:=.val Go.undef
inductive Enc (w:World) (S:Nat→Prop):Value→AV→Prop
 | any (v:Value):Enc w S v .any
 | val (v:Value):Enc w S v (.val v)
 | agg (vs:Array Value) (ds:List AV) (hn:vs.size=ds.length) (h:∀(i:Nat) (d:AV),ds[i]?=some d→Enc w S (vs.getD i undef) d):Enc w S (.agg vs) (.agg ds)
 | tup (vs:Array Value) (ds:List AV) (hn:vs.size=ds.length) (h:∀(i:Nat) (d:AV),ds[i]?=some d→Enc w S (vs.getD i undef) d):Enc w S (.tuple vs) (.tup ds)
 | slnil (A:Option Addr) (c sz:Nat) (hm:c≤maxLen):Enc w S (.slice A 0 c) (.sl sz [])
 | sl (b off n c sz:Nat) (rows:List (List AV)) (cv:Nat→Value) (hn:rows.length=n) (hc:n≤c) (hm:c≤maxLen) (hS:S b) (hb:b<w.heap.size)
   (hr:∀(i:Nat) (row:List AV),rows[i]?=some row→row.length=sz) (hcell:∀j,j<n*sz→w.cell? ⟨b,off+j,none⟩=some (cv j))
   (h:∀(i j:Nat) (row:List AV) (d:AV),rows[i]?=some row→row[j]?=some d→Enc w S (cv (i*sz+j)) d):Enc w S (.slice (some ⟨b,off,none⟩) n c) (.sl sz rows)
 | rp (b off:Nat) (cells:List AV) (cv:Nat→Value) (hS:S b) (hb:b<w.heap.size)
   (hcell:∀j,j<cells.length→w.cell? ⟨b,off+j,none⟩=some (cv j)) (h:∀(j:Nat) (d:AV),cells[j]?=some d→Enc w S (cv j) d):Enc w S (.pointer (some ⟨b,off,none⟩)) (.rp cells)
 | fn (f:FuncId) (first caps:Array Value) (df dc:List AV) (hn:first.size=df.length) (hm:caps.size=dc.length)
   (h:∀(i:Nat) (d:AV),df[i]?=some d→Enc w S (first.getD i undef) d) (h':∀i d,dc[i]?=some d→Enc w S (caps.getD i undef) d):Enc w S (.func (.func f) first caps) (.fn f df dc)
theorem Enc.keepC{w w':World}{S:Nat→Prop}{v:Value}{d:AV}(h:Enc w S v d)(hs:w.heap.size≤w'.heap.size)(hk:∀b o u,S b→b<w.heap.size→w.cell? ⟨b,o,none⟩=some u→w'.cell? ⟨b,o,none⟩=some u):Enc w' S v d:=by
 induction h with
 | any v=>exact .any v
 | val v=>exact .val v
 | agg vs ds hn _ ih=>exact .agg vs ds hn ih
 | tup vs ds hn _ ih=>exact .tup vs ds hn ih
 | slnil A c sz hm=>exact .slnil A c sz hm
 | sl b off n c sz rows cv hn hc hm hS hb hr hcell _ ih =>
  exact .sl b off n c sz rows cv hn hc hm hS (Nat.lt_of_lt_of_le hb hs) hr (fun j hj=>hk b _ _ hS hb (hcell j hj)) ih
 | rp b off cells cv hS hb hcell _ ih =>
  exact .rp b off cells cv hS (Nat.lt_of_lt_of_le hb hs) (fun j hj=>hk b _ _ hS hb (hcell j hj)) ih
 | fn f first caps df dc hn hm _ _ ih ih'=>exact .fn f first caps df dc hn hm ih ih'
theorem Enc.keep{w w':World}{S:Nat→Prop}{v:Value}{d:AV}(h:Enc w S v d)(hs:w.heap.size≤w'.heap.size)(hk:∀b,S b→b<w.heap.size→w'.heap[b]?=w.heap[b]?):Enc w' S v d :=
 h.keepC hs fun b _ _ hS hb hc=>(World.cell?_of_block (w:=w) (hk b hS hb)).trans hc
theorem Enc.ext{w w':World}{S:Nat→Prop}{v:Value}{d:AV}(h:Enc w S v d)(he:Ext w w'):Enc w' S v d:=h.keep he.size fun b _ hb=>he.block b hb
theorem Enc.mono{w:World}{S S':Nat→Prop}{v:Value}{d:AV}(h:Enc w S v d)(hS:∀b,b<w.heap.size→S b→S' b):Enc w S' v d:=by
 induction h with
 | any v=>exact .any v
 | val v=>exact .val v
 | agg vs ds hn _ ih=>exact .agg vs ds hn ih
 | tup vs ds hn _ ih=>exact .tup vs ds hn ih
 | slnil A c sz hm=>exact .slnil A c sz hm
 | sl b off n c sz rows cv hn hc hm hs hb hr hcell _ ih=>exact .sl b off n c sz rows cv hn hc hm (hS b hb hs) hb hr hcell ih
 | rp b off cells cv hs hb hcell _ ih=>exact .rp b off cells cv (hS b hb hs) hb hcell ih
 | fn f first caps df dc hn hm _ _ ih ih'=>exact .fn f first caps df dc hn hm ih ih'
theorem Enc.val_eq{w:World}{S:Nat→Prop}{v u:Value}(h:Enc w S v (.val u)):v=u:=by cases h;rfl
theorem Enc.move{w w':World}{S S':Nat→Prop}{v:Value}{d:AV}(h:Enc w S v d)(hs:w.heap.size≤w'.heap.size)(hk:∀b,S b→b<w.heap.size→w'.heap[b]?=w.heap[b]?∧S' b):Enc w' S' v d :=
 ((h.mono (S':=fun b=>S b∧b<w.heap.size) fun b hb hS=>⟨hS,hb⟩).keep hs fun b hS hb=>(hk b hS.1 hb).1).mono fun b _ hS=>(hk b hS.1 hS.2).2
def AV.get:List AV→Nat→AV
 | [],_=>.any
 | a::_,0=>a
 | _::l,n+1=>AV.get l n
def AV.put:List AV→Nat→AV→List AV
 | [],_,_=>[]
 | _::l,0,v=>v::l
 | a::l,n+1,v=>a::AV.put l n v
theorem AV.get_eq(l:List AV)(n:Nat):AV.get l n=(l[n]?).getD .any:=by
 induction l generalizing n with
 | nil=>simp[AV.get]
 | cons a l ih=>cases n<;>simp[AV.get,ih]
theorem AV.put_eq(l:List AV)(n:Nat)(v:AV):AV.put l n v=l.set n v:=by
 induction l generalizing n with
 | nil=>simp[AV.put]
 | cons a l ih=>cases n<;>simp[AV.put,ih]
theorem AV.put_length(l:List AV)(n:Nat)(v:AV):(AV.put l n v).length=l.length:=by rw[AV.put_eq];simp
theorem AV.get_put_ne(l:List AV){n m:Nat}(v:AV)(h:n≠m):AV.get (AV.put l n v) m=AV.get l m:=by
 rw[AV.get_eq,AV.get_eq,AV.put_eq,List.getElem?_set_ne h]
theorem AV.get_put_same(l:List AV)(n:Nat)(v:AV):AV.get (AV.put l n v) n=v∨l.length≤n:=by
 rw[AV.get_eq,AV.put_eq]
 rcases Nat.lt_or_ge n l.length with h | h
 ·left;rw[List.getElem?_set_self h];rfl
 ·exact .inr h
def AV.putO(l:List AV):Option Tmp→AV→List AV
 | none,_=>l
 | some d,v=>AV.put l d v
structure Kp (M:Nat→Prop) (w w':World):Prop where
 os:w'.os=w.os
 tape:w'.tape=w.tape
 output:w'.output=w.output
 size:w.heap.size≤w'.heap.size
 block:∀k,k<w.heap.size→¬M k→w'.heap[k]?=w.heap[k]?
theorem Kp.refl(M:Nat→Prop)(w:World):Kp M w w:=⟨rfl,rfl,rfl,Nat.le_refl _,fun _ _ _=>rfl⟩
theorem Kp.trans{M M':Nat→Prop}{a b c:World}(h:Kp M a b)(k:Kp M' b c)(hM:∀x,M' x→x<a.heap.size→M x):Kp M a c :=
 ⟨k.os.trans h.os,k.tape.trans h.tape,k.output.trans h.output,Nat.le_trans h.size k.size,fun i hi hn=>(k.block i (Nat.lt_of_lt_of_le hi h.size) fun hm=>hn (hM i hm hi)).trans (h.block i hi hn)⟩
theorem Kp.mono{M M':Nat→Prop}{a b:World}(h:Kp M a b)(hM:∀x,M x→x<a.heap.size→M' x):Kp M' a b :=
 ⟨h.os,h.tape,h.output,h.size,fun i hi hn=>h.block i hi fun hm=>hn (hM i hm hi)⟩
theorem Kp.ext{M:Nat→Prop}{a b:World}(h:Ext a b):Kp M a b:=⟨h.os,h.tape,h.output,h.size,fun k hk _=>h.block k hk⟩
theorem Kp.toExt{M:Nat→Prop}{a b:World}(h:Kp M a b)(hM:∀k,k<a.heap.size→¬M k):Ext a b:=⟨h.os,h.tape,h.output,h.size,fun k hk=>h.block k hk (hM k hk)⟩
theorem Kp.grown{a b:World}{row:Option Nat}(h:a.grownBy b row):Kp (fun k=>row=some k) a b:=⟨h.os,h.tape,h.output,h.size,fun k hk hn=>h.block k hk fun e=>hn e.symm⟩
structure Bs where
 w:World
 M:Nat→Prop
 N:Nat→Prop
def Gl(w:World):Prop:=∀p,p∈gTab→w.cell? ⟨p.1,p.2.1,none⟩=some p.2.2
def Gx(b:Bs)(w:World):Prop:=(∀p,p∈gTab→p.1<b.w.heap.size∧¬b.M p.1∧¬b.N p.1)∧Gl w
theorem Gl.lt{w:World}(h:Gl w){p:Nat×(Nat×Value)}(hp:p∈gTab):p.1<w.heap.size:=World.block_lt_of_cell? w _ (h p hp)
theorem Gl.keep{w w':World}{D:Nat→Prop}(h:Gl w)(hk:Kp D w w')(hD:∀p,p∈gTab→¬D p.1):Gl w':=fun p hp=>(World.cell?_of_block (w:=w) (hk.block _ (h.lt hp) (hD p hp))).trans (h p hp)
theorem Gl.ext{w w':World}(h:Gl w)(he:Ext w w'):Gl w':=h.keep (Kp.ext (M:=fun _=>False) he) fun _ _ h=>h
theorem Gl.gx{w:World}(h:Gl w){M N:Nat→Prop}(hM:∀p,p∈gTab→¬M p.1)(hN:∀p,p∈gTab→¬N p.1):Gx ⟨w,M,N⟩ w:=⟨fun p hp=>⟨h.lt hp,hM p hp,hN p hp⟩,h⟩
structure Ex (b:Bs) (w:World):Prop where
 kp:Kp b.M b.w w
 n:∀k,b.N k→k<w.heap.size
 g:Gx b w
theorem Ex.size{b:Bs}{w:World}(h:Ex b w):b.w.heap.size≤w.heap.size:=h.kp.size
theorem Ex.next{b:Bs}{w w':World}{D:Nat→Prop}(h:Ex b w)(hk:Kp D w w')(hD:∀k,D k→k<b.w.heap.size→b.M k):Ex b w':=⟨Kp.trans h.kp hk hD,fun k hn=>Nat.lt_of_lt_of_le (h.n k hn) hk.size,h.g.1,h.g.2.keep hk fun p hp hd=>(h.g.1 p hp).2.1 (hD _ hd (h.g.1 p hp).1)⟩
theorem Ex.gl{b:Bs}{w:World}(h:Ex b w):Gl w:=h.g.2
theorem Ex.gno{b:Bs}{w:World}(h:Ex b w){p:Nat×(Nat×Value)}(hp:p∈gTab)(ho:b.M p.1∨b.w.heap.size≤p.1):False:=ho.elim (h.g.1 p hp).2.1 fun q=>Nat.lt_irrefl _ (Nat.lt_of_lt_of_le (h.g.1 p hp).1 q)
theorem Ex.trans{b:Bs}{w w':World}(h:Ex b w)(he:Ext w w'):Ex b w':=h.next (Kp.ext (M:=fun _=>False) he) fun _ h=>h.elim
def own(b:Bs)(k:Nat):Prop:=(b.M k∨b.w.heap.size≤k)∧¬b.N k
def qfW(J:(Nat→Prop)→(Nat→Prop)→World→Prop):Prop :=
 ∀D D' X w1 w2,J D X w1→Kp D w1 w2→(∀b,D' b→b<w2.heap.size∧(D b∨w1.heap.size≤b))→J D' X w2
inductive HE where
 | blk (b:Nat) (t:TypeId) (cells:List AV)
 | own (v:Value) (e:TypeId) (sz n:Nat) (cells:List AV)
 | obj (b:Nat) (p:World→(Nat→Prop)→Obj→Prop)
 | ghost (X:Nat→Prop) (J:(Nat→Prop)→(Nat→Prop)→World→Prop)
 | nodef
def HE.owns:HE→Nat→Prop
 | .blk b _ _,k=>b=k
 | .own v _ _ _ _,k=>v.ownBlock=some k
 | .obj b _,k=>b=k
 | .ghost X _,k=>X k
 | .nodef,_=>False
def HE.proper:HE→Prop
 | .ghost _ _=>False
 | .nodef=>False
 | _=>True
def HE.ok(w:World)(w0:Bs)(S:Nat→Prop):HE→Prop
 | .blk b t cells=>Go.Proofs.YtfnflenkeljkiaaGreat.own w0 b∧∃vs:List Value,Blk w b t vs∧vs.length=cells.length∧∀i d,cells[i]?=some d→Enc w S (vs.getD i undef) d
 | .own v e sz n cells=>(∀b,v.ownBlock=some b→Go.Proofs.YtfnflenkeljkiaaGreat.own w0 b)∧∃xs:List Value,w.ownsRow 0 e sz v n xs∧xs.length=cells.length∧∀i d,cells[i]?=some d→Enc w S (xs.getD i undef) d
 | .obj b p=>Go.Proofs.YtfnflenkeljkiaaGreat.own w0 b∧(∃o,w.heap[b]?=some o∧p w S o)∧∀(w1 w2:World) (S1 S2:Nat→Prop) (o:Obj),p w1 S1 o→w1.heap.size≤w2.heap.size→(∀c,S1 c→c<w1.heap.size→(∀o' u,w1.cell? ⟨c,o',none⟩=some u→w2.cell? ⟨c,o',none⟩=some u)∧S2 c)→p w2 S2 o
 | .ghost X J=>(∀b,X b→Go.Proofs.YtfnflenkeljkiaaGreat.own w0 b∧b<w.heap.size)∧qfW J
 | .nodef=>True
theorem HE.ok_lt{w:World}{w0:Bs}{S:Nat→Prop}{e:HE}(h:e.ok w w0 S):∀b,e.owns b→Go.Proofs.YtfnflenkeljkiaaGreat.own w0 b∧b<w.heap.size:=by
 intro b hb
 cases e with
 | blk g t cells =>
  obtain ⟨h1,vs,h2,_⟩:=h
  subst hb
  exact ⟨h1,h2.lt⟩
 | own v e sz n cells =>
  obtain ⟨h0,xs,h1,_⟩:=h
  exact ⟨h0 b hb,(h1.lt b hb).2⟩
 | obj g p =>
  obtain ⟨h1,⟨o,h2,_⟩,_⟩:=h
  subst hb
  exact ⟨h1,(Array.getElem?_eq_some_iff.1 h2).1⟩
 | ghost X J=>exact h.1 b hb
 | nodef=>exact hb.elim
theorem Enc.moveC{w w':World}{S S':Nat→Prop}{v:Value}{d:AV}(h:Enc w S v d)(hs:w.heap.size≤w'.heap.size)(hk:∀b,S b→b<w.heap.size→(∀o u,w.cell? ⟨b,o,none⟩=some u→w'.cell? ⟨b,o,none⟩=some u)∧S' b):Enc w' S' v d :=
 ((h.mono (S':=fun b=>S b∧b<w.heap.size) fun b hb hS=>⟨hS,hb⟩).keepC hs fun b o u hS hb=>(hk b hS.1 hb).1 o u).mono fun b _ hS=>(hk b hS.1 hS.2).2
theorem HE.ok_moveC{w w':World}{w0 w0':Bs}{S S':Nat→Prop}{e:HE}(h:e.ok w w0 S)(hs:w.heap.size≤w'.heap.size)(hk:∀b,S b→b<w.heap.size→(∀o u,w.cell? ⟨b,o,none⟩=some u→w'.cell? ⟨b,o,none⟩=some u)∧S' b)
  (he:∀b,e.owns b→e.proper→w'.heap[b]?=w.heap[b]?) (ho:∀b,e.owns b→Go.Proofs.YtfnflenkeljkiaaGreat.own w0 b→Go.Proofs.YtfnflenkeljkiaaGreat.own w0' b):e.ok w' w0' S':=by
 cases e with
 | blk g t cells =>
  obtain ⟨h1,vs,h2,h3,h4⟩:=h
  exact ⟨ho g rfl h1,vs,(he g rfl trivial).trans h2,h3,fun i d hi=>(h4 i d hi).moveC hs hk⟩
 | own v e sz n cells =>
  obtain ⟨h0,xs,⟨h0',h1⟩,h3,h4⟩:=h
  refine ⟨fun b hb=>ho b hb (h0 b hb),xs,⟨h0',?_⟩,h3,fun i d hi=>(h4 i d hi).moveC hs hk⟩
  rcases h1 with h1 | ⟨g,cap,cur,e1,e2,e3,e4⟩
  ·exact .inl h1
  ·exact .inr ⟨g,cap,cur,e1,e2,(he g (by subst e1;rfl) trivial).trans e3,e4⟩
 | obj g p =>
  obtain ⟨h1,⟨o,h2,h3⟩,h4⟩:=h
  exact ⟨ho g rfl h1,⟨o,(he g rfl trivial).trans h2,h4 w w' S S' o h3 hs hk⟩,h4⟩
 | ghost X J=>exact ⟨fun b hb=>⟨ho b hb (h.1 b hb).1,Nat.lt_of_lt_of_le (h.1 b hb).2 hs⟩,h.2⟩
 | nodef=>trivial
theorem HE.ok_move{w w':World}{w0 w0':Bs}{S S':Nat→Prop}{e:HE}(h:e.ok w w0 S)(hs:w.heap.size≤w'.heap.size)(hk:∀b,S b→b<w.heap.size→w'.heap[b]?=w.heap[b]?∧S' b)
  (he:∀b,e.owns b→e.proper→w'.heap[b]?=w.heap[b]?) (ho:∀b,e.owns b→Go.Proofs.YtfnflenkeljkiaaGreat.own w0 b→Go.Proofs.YtfnflenkeljkiaaGreat.own w0' b):e.ok w' w0' S' :=
 HE.ok_moveC h hs (fun b hS hb=>⟨fun _ _ hu=>(World.cell?_of_block (w:=w) (hk b hS hb).1).trans hu,(hk b hS hb).2⟩) he ho
theorem HE.ok_mono{w:World}{w0:Bs}{S S':Nat→Prop}{e:HE}(h:e.ok w w0 S)(hS:∀b,b<w.heap.size→S b→S' b):e.ok w w0 S' :=
 HE.ok_move h (Nat.le_refl _) (fun b hb hlt=>⟨rfl,hS b hlt hb⟩) (fun _ _ _=>rfl) fun _ _ h=>h
def Al(w0:Bs)(S:Nat→Prop)(H:List HE)(b:Nat):Prop:=(b<w0.w.heap.size→S b∧¬w0.M b)∧¬w0.N b∧∀e,e∈H→¬e.owns b
abbrev mark(b:Nat):Deferred:={target:=.collected b,args:=#[]}
def Dn(H:List HE)(a:Act)(b:Nat):Prop:=(∃e,e∈H∧e.proper∧e.owns b)∨mark b∈a.defers
def Marks(w:World)(ds:List Deferred):Prop:=∃bs:List Nat,ds=bs.map mark∧bs.Nodup∧∀b,b∈bs→w.heap[b]?=some (Obj.deferred (some []))
theorem Marks.nil(w:World):Marks w []:=⟨[],rfl,.nil,fun b h=>by cases h⟩
theorem Marks.mem{w:World}{ds:List Deferred}(h:Marks w ds){d:Deferred}(hd:d∈ds):∃b,d=mark b∧w.heap[b]?=some (Obj.deferred (some [])):=by
 obtain ⟨bs,rfl,_,h3⟩:=h
 obtain ⟨b,hb,rfl⟩:=List.mem_map.1 hd
 exact ⟨b,rfl,h3 b hb⟩
theorem Marks.keep{w w':World}{ds:List Deferred}(h:Marks w ds)(hk:∀b:Nat,mark b∈ds→w'.heap[b]?=w.heap[b]?):Marks w' ds:=by
 obtain ⟨bs,rfl,h2,h3⟩:=h
 exact ⟨bs,rfl,h2,fun b hb=>(hk b (List.mem_map_of_mem hb)).trans (h3 b hb)⟩
structure SRel (w0:Bs) (S:Nat→Prop) (t:List AV) (H:List HE) (a:Act) (w:World):Prop where
 ext:Ex w0 w
 df:Marks w a.defers
 mks:∀b,mark b∈a.defers→Go.Proofs.YtfnflenkeljkiaaGreat.own w0 b∧∀e,e∈H→¬e.owns b
 sz:a.tmps.size=t.length
 tm:∀i,Enc w (Al w0 S H) (a.tmps.getD i undef) (AV.get t i)
 ap:H.Pairwise fun x y=>∀b,x.owns b→¬y.owns b
 hs:∀e,e∈H→e.ok w w0 (Al w0 S H)
 gh:∀X J,HE.ghost X J∈H→J (fun b=>w0.N b∨Dn H a b) X w
 nd:HE.nodef∈H→a.defers=[]
theorem SRel.mark_lt{w0:Bs}{S:Nat→Prop}{t:List AV}{H:List HE}{a:Act}{w:World}(h:SRel w0 S t H a w){b:Nat}(hb:mark b∈a.defers):b<w.heap.size:=by
 obtain ⟨c,h1,h2⟩:=h.df.mem hb
 injection h1 with h1
 injection h1 with h1
 subst h1
 exact (Array.getElem?_eq_some_iff.1 h2).1
theorem SRel.dn_lt{w0:Bs}{S:Nat→Prop}{t:List AV}{H:List HE}{a:Act}{w:World}(h:SRel w0 S t H a w){b:Nat}(hb:Dn H a b):b<w.heap.size:=by
 rcases hb with ⟨e,h1,_,h2⟩ | hb
 ·exact (HE.ok_lt (h.hs e h1) b h2).2
 ·exact h.mark_lt hb
theorem SRel.next{w0:Bs}{S:Nat→Prop}{t t':List AV}{H H':List HE}{a:Act}{w w':World}{D:Nat→Prop}(h:SRel w0 S t H a w)(tmps:Array Value)(hk:Kp D w w')(hD:∀b,D b→b<w.heap.size→∃e,e∈H∧e.proper∧e.owns b)
  (hsz:tmps.size=t'.length) (htm:∀i,Enc w' (Al w0 S H') (tmps.getD i undef) (AV.get t' i)) (hap:H'.Pairwise fun x y=>∀b,x.owns b→¬y.owns b)
  (hhs:∀e,e∈H'→e.ok w' w0 (Al w0 S H')) (hown:∀e,e∈H'→∀b,e.owns b→(∃e,e∈H∧e.owns b)∨w.heap.size≤b) (hpr:∀e,e∈H'→e.proper→∀b,e.owns b→(∃e,e∈H∧e.proper∧e.owns b)∨w.heap.size≤b)
  (hgh:∀e,e∈H'→¬e.proper→e∈H):SRel w0 S t' H' {a with tmps:=tmps} w':=by
 have hkm:∀b,mark b∈a.defers→¬D b:=fun b hb hd=>by
  obtain ⟨e,h1,_,h2⟩:=hD b hd (h.mark_lt hb)
  exact (h.mks b hb).2 e h1 h2
 refine ⟨h.ext.next hk fun k hd hlt=>?_,h.df.keep fun b hb=>hk.block b (h.mark_lt hb) (hkm b hb),fun b hb=>⟨(h.mks b hb).1,fun e he hb'=>?_⟩,hsz,htm,hap,hhs,fun X J hm=>?_,fun hm=>h.nd (hgh _ hm id)⟩
 ·obtain ⟨e,h1,_,h2⟩:=hD k hd (Nat.lt_of_lt_of_le hlt h.ext.size)
  rcases (HE.ok_lt (h.hs e h1) k h2).1.1 with h3 | h3
  ·exact h3
  ·omega
 ·rcases hown e he b hb' with ⟨e',h1,h2⟩ | h1
  ·exact (h.mks b hb).2 e' h1 h2
  ·have:=h.mark_lt hb;omega
 ·have hc:=(h.hs _ (hgh _ hm id))
  refine hc.2 _ _ X w w' (h.gh X J (hgh _ hm id)) (hk.mono fun x hx hlt=>.inr (.inl (hD x hx hlt))) fun b hb=>?_
  rcases hb with hb | ⟨e,h1,h2,h3⟩ | hb
  ·exact ⟨Nat.lt_of_lt_of_le (h.ext.n b hb) hk.size,.inl (.inl hb)⟩
  ·refine ⟨(HE.ok_lt (hhs e h1) b h3).2,?_⟩
   rcases hpr e h1 h2 b h3 with h4 | h4
   ·exact .inl (.inr (.inl h4))
   ·exact .inr h4
  ·exact ⟨Nat.lt_of_lt_of_le (h.mark_lt hb) hk.size,.inl (.inr (.inr hb))⟩
theorem SRel.mono{w0:Bs}{S:Nat→Prop}{t:List AV}{H:List HE}{a:Act}{w w':World}(h:SRel w0 S t H a w)(he:Ext w w'):SRel w0 S t H a w' :=
 h.next (D:=fun _=>False) a.tmps (Kp.ext he) (fun _ h=>h.elim) h.sz (fun i=>(h.tm i).ext he) h.ap (fun e hm=>HE.ok_move (h.hs e hm) he.size (fun b hS hb=>⟨he.block b hb,hS⟩) (fun b hb _=>he.block b (HE.ok_lt (h.hs e hm) b hb).2) fun _ _ h=>h)
  (fun e he b hb=>.inl ⟨e,he,hb⟩) (fun e he hp b hb=>.inl ⟨e,he,hp,hb⟩) fun _ h _=>h
theorem SRel.put{w0:Bs}{S:Nat→Prop}{t:List AV}{H:List HE}{a:Act}{w:World}(h:SRel w0 S t H a w)(dst:Option Tmp){u:Value}{v:AV}(hu:Enc w (Al w0 S H) u v):SRel w0 S (AV.putO t dst v) H (a.put dst u) w:=by
 cases dst with
 | none=>exact h
 | some d =>
  refine ⟨h.ext,h.df,h.mks,by simp[Act.put,AV.putO,AV.put_length,h.sz],fun i=>?_,h.ap,h.hs,h.gh,h.nd⟩
  simp only[Act.put,AV.putO]
  by_cases hid:d=i
  ·subst hid
   rcases Nat.lt_or_ge d t.length with hl | hl
   ·have hlt:d<a.tmps.size:=by rw[h.sz];exact hl
    rw[AV.get_eq,AV.put_eq,List.getElem?_set_self hl,Array.getD_eq_getD_getElem?,Array.getElem?_setIfInBounds_self_of_lt hlt]
    exact hu
   ·rw[AV.get_eq,AV.put_eq,List.getElem?_eq_none (by rw[List.length_set];exact hl)]
    exact .any _
  ·rw[AV.get_put_ne t v hid,Array.getD_eq_getD_getElem?,Array.getElem?_setIfInBounds_ne hid,← Array.getD_eq_getD_getElem?]
   exact h.tm i
theorem SRel.turn{w0:Bs}{S:Nat→Prop}{t:List AV}{H:List HE}{a:Act}{w w':World}(hr:SRel w0 S t H a w)(k:Nat)(e0 e1:HE)(hH:H[k]?=some e0)(hp0:e0.proper)(hk:Kp e0.owns w w')(hp1:e1.proper)
  (ho:∀b,e1.owns b→e0.owns b∨w.heap.size≤b) (hok:(∀c,Al w0 S H c→c<w.heap.size→w'.heap[c]?=w.heap[c]?∧Al w0 S (H.set k e1) c)→e1.ok w' w0 (Al w0 S (H.set k e1))):SRel w0 S t (H.set k e1) a w':=by
 have hm:=List.mem_of_getElem? hH
 have hkl:k<H.length:=(List.getElem?_eq_some_iff.1 hH).1
 have hHk:H[k]=e0:=by rw[List.getElem?_eq_getElem hkl] at hH;injection hH
 have hmem:∀x,x∈H.set k e1→(x∈H∧∃i,∃hi:i<H.length,i≠k∧H[i]=x)∨x=e1:=fun x hx=>by
  obtain ⟨i,hi,rfl⟩:=List.mem_iff_getElem.1 hx
  rw[List.getElem_set]
  split
  ·exact .inr rfl
  ·rename_i hne
   exact .inl ⟨List.getElem_mem _,i,by simpa using hi,Ne.symm hne,rfl⟩
 have hapart:∀i (hi:i<H.length),i≠k→∀b,(H[i]).owns b→¬e0.owns b:=fun i hi hne b h1 h2=>by
  rcases Nat.lt_or_ge i k with h3 | h3
  ·have hp:=List.pairwise_iff_getElem.1 hr.ap i k hi hkl h3
   rw[hHk] at hp
   exact hp b h1 h2
  ·have hp:=List.pairwise_iff_getElem.1 hr.ap k i hkl hi (by omega)
   rw[hHk] at hp
   exact hp b h2 h1
 have hA:∀c,c<w.heap.size→Al w0 S H c→Al w0 S (H.set k e1) c:=fun c hlt h=>⟨h.1,h.2.1,fun x hx hb=>by
  rcases hmem x hx with ⟨h1,_⟩ | h1
  ·exact h.2.2 x h1 hb
  ·subst h1
   rcases ho c hb with h2 | h2
   ·exact h.2.2 e0 hm h2
   ·omega⟩
 have hmv:∀c,Al w0 S H c→c<w.heap.size→w'.heap[c]?=w.heap[c]?∧Al w0 S (H.set k e1) c:=fun c hc hlt=>⟨hk.block c hlt (hc.2.2 e0 hm),hA c hlt hc⟩
 have hap':∀i (hi:i<H.length),i≠k→∀b,(H[i]).owns b→¬e1.owns b:=fun i hi hne b h1 h2=>by
  rcases ho b h2 with h3 | h3
  ·exact hapart i hi hne b h1 h3
  ·have:=(HE.ok_lt (hr.hs _ (List.getElem_mem hi)) b h1).2;omega
 refine hr.next a.tmps hk (fun b hb _=>⟨e0,hm,hp0,hb⟩) hr.sz (fun i=>(hr.tm i).moveC hk.size fun b hS hb=>⟨fun _ _ hu=>(World.cell?_of_block (w:=w) (hmv b hS hb).1).trans hu,(hmv b hS hb).2⟩) ?_ (fun e he=>?_) (fun e he b hb=>?_) (fun e he hp b hb=>?_) fun e he hq=>?_
 ·rw[List.pairwise_iff_getElem]
  intro i j hi hj hij
  have hi':i<H.length:=by simpa using hi
  have hj':j<H.length:=by simpa using hj
  rw[List.getElem_set,List.getElem_set]
  by_cases h1:k=i
  ·rw[if_pos h1,if_neg (by omega)]
   exact fun b h2 h3=>hap' j hj' (by omega) b h3 h2
  ·rw[if_neg h1]
   by_cases h2:k=j
   ·rw[if_pos h2]
    exact hap' i hi' (by omega)
   ·rw[if_neg h2]
    exact List.pairwise_iff_getElem.1 hr.ap i j hi' hj' hij
 ·rcases hmem e he with ⟨h1,i,hi,hne,rfl⟩ | h1
  ·exact HE.ok_move (hr.hs _ h1) hk.size hmv (fun b hb _=>hk.block b (HE.ok_lt (hr.hs _ h1) b hb).2 (hapart i hi hne b hb)) fun _ _ h=>h
  ·rw[h1];exact hok hmv
 ·rcases hmem e he with ⟨h1,_⟩ | h1
  ·exact .inl ⟨e,h1,hb⟩
  ·rw[h1] at hb;exact (ho b hb).imp (fun h=>⟨e0,hm,h⟩) id
 ·rcases hmem e he with ⟨h1,_⟩ | h1
  ·exact .inl ⟨e,h1,hp,hb⟩
  ·rw[h1] at hb;exact (ho b hb).imp (fun h=>⟨e0,hm,hp0,h⟩) id
 ·rcases hmem e he with ⟨h1,_⟩ | h1
  ·exact h1
  ·rw[h1] at hq;exact (hq hp1).elim
theorem SRel.sub{w0:Bs}{S:Nat→Prop}{t:List AV}{H:List HE}{a:Act}{w:World}{H':List HE}(h:SRel w0 S t H a w)(hs:H'.Sublist H):SRel w0 S t H' a w:=by
 have hsub:∀b,b<w.heap.size→Al w0 S H b→Al w0 S H' b:=fun b _ hA=>⟨hA.1,hA.2.1,fun x hx=>hA.2.2 x (hs.subset hx)⟩
 exact h.next (D:=fun _=>False) a.tmps (Kp.refl _ w) (fun _ h=>h.elim) h.sz (fun i=>(h.tm i).mono hsub) (h.ap.sublist hs) (fun x hx=>HE.ok_mono (h.hs x (hs.subset hx)) hsub)
  (fun x hx b hb=>.inl ⟨x,hs.subset hx,hb⟩) (fun x hx hp b hb=>.inl ⟨x,hs.subset hx,hp,hb⟩) fun x hm _=>hs.subset hm
abbrev qcB:=Exit→List AV→List HE→Prop
def evO(t:List AV):Operand→AV
 | .tmp i=>AV.get t i
 | .const v=>.val v
 | .func f=>.val (.func (.func f) #[] #[])
 | .global g=>.val (.pointer (some ⟨g,0,none⟩))
section
def Wf(F:Fence):Prop:=F=Fence.wide∨∃l,F=Fence.wide.inRound l
theorem Wf.fn{F:Fence}(h:Wf F)(f:FuncId):F.fn f:=by
 rcases h with rfl | ⟨l,rfl⟩<;>trivial
theorem Wf.depth{F:Fence}(h:Wf F):F.depth=none:=by
 rcases h with rfl | ⟨l,rfl⟩<;>rfl
theorem Wf.calls{F:Fence}(h:Wf F){n:Nat}{P:Program}{f:FuncId}{args:Array Value}{w:World}{R:Ending→World→Prop}(hc:Calls P f args w R):CallsIn F n P f args w R:=by
 rcases h with rfl | ⟨l,rfl⟩
 ·exact callsIn_wide.2 hc
 ·exact CallsIn.inRound l (callsIn_wide.2 hc)
variable {P:Program} {w0:Bs} {S:Nat→Prop} {F:Fence}
def Awp(P:Program)(w0:Bs)(S:Nat→Prop)(F:Fence)(c:Code)(Q:qcB)(t:List AV)(H:List HE):Prop :=
 ∀a w,SRel w0 S t H a w→c.wpIn F 0 P (fun e a' w'=>∃t' H',SRel w0 S t' H' a' w'∧Q e t' H') a w
theorem Awp.mono{c:Code}{Q Q':qcB}{t:List AV}{H:List HE}(h:Awp P w0 S F c Q t H)(hq:∀e t H,Q e t H→Q' e t H):Awp P w0 S F c Q' t H :=
 fun a w hr=>wpIn_mono (h a w hr) fun e a' w' ⟨t',H',h1,h2⟩=>⟨t',H',h1,hq _ _ _ h2⟩
def Exit.thenA(K:List AV→List HE→Prop)(Q:qcB):qcB
 | .normal,t,H=>K t H
 | e,t,H=>Q e t H
def Exit.inBlockA(id:Nat)(Q:qcB):qcB
 | .exit id',t,H=>if id'=id then Q .normal t H else Q (.exit id') t H
 | e,t,H=>Q e t H
variable {Q:qcB} {t:List AV} {H:List HE}
theorem Awp.seq{x y:Code}(h:Awp P w0 S F x (Exit.thenA (fun t H=>Awp P w0 S F y Q t H) Q) t H):Awp P w0 S F (.seq x y) Q t H:=by
 intro a w hr
 refine wpIn_seq (wpIn_mono (h a w hr) ?_)
 rintro e a' w' ⟨t',H',h1,h2⟩
 cases e with
 | normal=>exact h2 a' w' h1
 | exit id=>exact ⟨t',H',h1,h2⟩
 | goto l=>exact ⟨t',H',h1,h2⟩
 | ret=>exact ⟨t',H',h1,h2⟩
 | panic c=>exact ⟨t',H',h1,h2⟩
 | outgrown=>exact ⟨t',H',h1,h2⟩
theorem SRel.ev{a:Act}{w:World}(hr:SRel w0 S t H a w)(x:Operand):Enc w (Al w0 S H) (a.eval x) (evO t x):=by
 cases x with
 | tmp i=>exact hr.tm i
 | const v=>exact .val v
 | func f=>exact .val _
 | global g=>exact .val _
theorem SRel.ev_val{a:Act}{w:World}(hr:SRel w0 S t H a w){x:Operand}{v:Value}(h:evO t x = .val v):a.eval x=v:=by
 have:=hr.ev x
 rw[h] at this
 exact this.val_eq
theorem Awp.cond{c:Operand}{x y:Code}(b:Bool)(hc:evO t c = .val (.bool b))(ht:b=true→Awp P w0 S F x Q t H)(hf:b=false→Awp P w0 S F y Q t H):Awp P w0 S F (.cond c x y) Q t H :=
 fun a w hr=>wpIn_cond_split (t:=b) (hr.ev_val hc) (fun e=>ht e a w hr) (fun e=>hf e a w hr)
theorem Awp.skip(h:Q .normal t H):Awp P w0 S F .skip Q t H:=fun a w hr=>wpIn_skip ⟨t,H,hr,h⟩
theorem Awp.exit{id:Nat}(h:Q (.exit id) t H):Awp P w0 S F (.exit id) Q t H:=fun a w hr=>wpIn_exit ⟨t,H,hr,h⟩
theorem Awp.ret(h:Q .ret t H):Awp P w0 S F .ret Q t H:=fun a w hr=>wpIn_ret ⟨t,H,hr,h⟩
theorem Awp.block{id:Nat}{c:Code}(h:Awp P w0 S F c (Exit.inBlockA id Q) t H):Awp P w0 S F (.block id c) Q t H:=by
 intro a w hr
 refine wpIn_block (wpIn_mono (h a w hr) ?_)
 rintro e a' w' ⟨t',H',h1,h2⟩
 cases e with
 | exit id' =>
  by_cases hid:id'=id
  ·simp only[Exit.inBlockA,hid,if_true] at h2
   simp only[Exit.inBlock,hid,if_true]
   exact ⟨t',H',h1,h2⟩
  ·simp only[Exit.inBlockA,hid,if_false] at h2
   simp only[Exit.inBlock,hid,if_false]
   exact ⟨t',H',h1,h2⟩
 | normal=>exact ⟨t',H',h1,h2⟩
 | goto l=>exact ⟨t',H',h1,h2⟩
 | ret=>exact ⟨t',H',h1,h2⟩
 | panic c=>exact ⟨t',H',h1,h2⟩
 | outgrown=>exact ⟨t',H',h1,h2⟩
theorem qmP{F:Fence}{m:Nat}{P:Program}{Q:Exit→Act→World→Prop}{a:Act}{w:World}{c:Code}(I:Nat→Act→World→Prop)(n₀:Nat)(h₀:I n₀ a w)
  (round:∀n a w,I n a w→c.wpIn F m P (Exit.then (fun a' w'=>∃n',n'<n∧I n' a' w') Q) a w):(Code.loop c).wpIn F m P Q a w:=by
 refine wpIn_loop (fun a w=>∃n,I n a w) (fun a w=>leastOf (fun n=>I n a w)) ⟨n₀,h₀⟩ ?_
 intro a w hI
 refine wpIn_mono (round _ a w (leastOf_spec hI).1) ?_
 intro e a' w' hq
 cases e with
 | normal =>
  obtain ⟨n',hlt,hI'⟩:=hq
  exact show (∃n,I n a' w')∧leastOf (fun n=>I n a' w')<leastOf (fun n=>I n a w) from ⟨⟨n',hI'⟩,Nat.lt_of_le_of_lt ((leastOf_spec ⟨n',hI'⟩).2 n' hI') hlt⟩
 | exit id=>exact hq
 | goto l=>exact hq
 | ret=>exact hq
 | panic c=>exact hq
 | outgrown=>exact hq
theorem Awp.loop{c:Code}(I:Nat→List AV→List HE→Prop)(n:Nat)(h0:I n t H)
  (round:∀n t H,I n t H→Awp P w0 S F c (Exit.thenA (fun t' H'=>∃m H'',m<n∧H''.Sublist H'∧I m t' H'') Q) t H):Awp P w0 S F (.loop c) Q t H:=by
 intro a w hr
 refine qmP (fun n a w=>∃t H,SRel w0 S t H a w∧I n t H) n ⟨t,H,hr,h0⟩ ?_
 rintro n a w ⟨t,H,hr,hi⟩
 refine wpIn_mono (round n t H hi a w hr) ?_
 rintro e a' w' ⟨t',H',h1,h2⟩
 cases e with
 | normal =>
  obtain ⟨m,H'',hm,hs,hi'⟩:=h2
  exact ⟨m,hm,t',H'',h1.sub hs,hi'⟩
 | exit id=>exact ⟨t',H',h1,h2⟩
 | goto l=>exact ⟨t',H',h1,h2⟩
 | ret=>exact ⟨t',H',h1,h2⟩
 | panic c=>exact ⟨t',H',h1,h2⟩
 | outgrown=>exact ⟨t',H',h1,h2⟩
def AY(P:Program)(w0:Bs)(S:Nat→Prop)(H:List HE)(o:Oper)(t:List AV)(v:AV):Prop :=
 ∀(a:Act) (w:World),Ex w0 w→(∀e,e∈H→e.ok w w0 (Al w0 S H))→(∀x,x∈o.op.operands→Enc w (Al w0 S H) (a.eval x) (evO t x)) →
  ∀(F:Fence),Wf F→∀(K:Act→World→Prop) (Q:Exit→Act→World→Prop),(∀u w',Ext w w'→Enc w' (Al w0 S H) u v→K (a.put o.dst u) w')→o.wpIn F 0 P a w K Q
def qZ(ops:Array Oper)(o:Oper)(t:List AV):Option Bool :=
 match o.guard with
 | none=>some true
 | some (g,want)=>match (ops[g]?).bind (·.dst) with
  | none=>some false
  | some d=>match AV.get t d with
   | .val (.bool b)=>some (b==want)
   | .val (.tuple _)=>some false
   | _=>none
theorem qel{ops:Array Oper}{o:Oper}{t:List AV}{a:Act}{b:Bool}(h:qZ ops o t=some b)(ht:∀d,d∈o.looksAt ops→∀v,AV.get t d = .val v→a.tmps.getD d undef=v) :
  Region.wanted o (yielded ops a.tmps)=b:=by
 unfold qZ at h
 unfold Region.wanted
 cases hg:o.guard with
 | none=>rw[hg] at h;injection h
 | some gw =>
  obtain ⟨g,want⟩:=gw
  rw[hg] at h
  simp only at h ⊢
  unfold yielded
  cases hd:(ops[g]?).bind (·.dst) with
  | none=>rw[hd] at h;injection h
  | some d =>
   rw[hd] at h
   simp only at h ⊢
   have hl:d∈o.looksAt ops:=by simp[Oper.looksAt,hg,hd]
   split at h
   ·rename_i b' hv
    injection h with h;subst h
    have:=ht d hl _ hv
    rw[Array.getD_eq_getD_getElem?] at this
    cases hx:a.tmps[d]? with
    | none=>rw[hx] at this;simp[undef] at this
    | some x=>rw[hx] at this;simp at this;subst this;rw[Option.bind_some,hx];cases b'<;>cases want<;>rfl
   ·rename_i vs hv
    injection h with h;subst h
    have:=ht d hl _ hv
    rw[Array.getD_eq_getD_getElem?] at this
    cases hx:a.tmps[d]? with
    | none=>rw[Option.bind_some,hx];cases want<;>rfl
    | some x=>rw[hx] at this;simp at this;subst this;rw[Option.bind_some,hx];cases want<;>rfl
   ·cases h
def AL(P:Program)(w0:Bs)(S:Nat→Prop)(F:Fence)(ops:Array Oper)(Q:qcB)(l:List Oper)(t:List AV)(H:List HE):Prop :=
 ∀a w,SRel w0 S t H a w→wpListIn F 0 P ops (fun e a' w'=>∃t' H',SRel w0 S t' H' a' w'∧Q e t' H') l a w
theorem AL.nil{ops:Array Oper}(h:Q .normal t H):AL P w0 S F ops Q [] t H:=fun _ _ hr=>⟨t,H,hr,h⟩
theorem Awp.region{id:Nat}{l:List Oper}(h:AL P w0 S F l.toArray Q l t H):Awp P w0 S F (.region id l.toArray false) Q t H:=fun a w hr=>wpIn_region_lit (h a w hr)
theorem AL.run(hF:Wf F){ops:Array Oper}{o:Oper}{l:List Oper}(hg:o.guard=none)(v:AV)(hy:AY P w0 S H o t v)(h:AL P w0 S F ops Q l (AV.putO t o.dst v) H):AL P w0 S F ops Q (o::l) t H:=by
 intro a w hr
 refine wpListIn_plain hg fun K hK=>?_
 exact hy a w hr.ext hr.hs (fun x _=>hr.ev x) F hF K _ fun u w' he hu=>hK _ _ (h _ _ ((hr.mono he).put o.dst hu))
theorem SRel.looks{a:Act}{w:World}(hr:SRel w0 S t H a w):∀d v,AV.get t d = .val v→a.tmps.getD d undef=v:=fun d v h=>by
 have:=hr.tm d
 rw[h] at this
 exact this.val_eq
theorem AL.guard(hF:Wf F){ops:Array Oper}{o:Oper}{l:List Oper}(b:Bool)(hb:qZ ops o t=some b)
  (hy:b=true→∃v,AY P w0 S H o t v∧AL P w0 S F ops Q l (AV.putO t o.dst v) H) (hn:b=false→AL P w0 S F ops Q l (AV.putO t o.dst .undef) H):AL P w0 S F ops Q (o::l) t H:=by
 intro a w hr
 have hw:=qel (a:=a) hb (fun d _ v hv=>hr.looks d v hv)
 refine wpListIn_step fun K hK=>?_
 rw[hw]
 cases b with
 | true =>
  obtain ⟨v,hv,h⟩:=hy rfl
  rw[if_pos rfl]
  exact hv a w hr.ext hr.hs (fun x _=>hr.ev x) F hF K _ fun u w' he hu=>hK _ _ (h _ _ ((hr.mono he).put o.dst hu))
 | false =>
  rw[if_neg (by simp)]
  exact ⟨fun f _=>hF.fn f,hK _ _ (hn rfl _ _ (hr.put o.dst (.val _)))⟩
def AD(P:Program)(w0:Bs)(S:Nat→Prop)(H:List HE)(ops:Array Oper)(K:List AV→Prop):List Oper→List AV→Prop
 | [],t=>K t
 | o::l,t=>∃b,qZ ops o t=some b∧(b=true→∃v,AY P w0 S H o t v∧AD P w0 S H ops K l (AV.putO t o.dst v))∧(b=false→AD P w0 S H ops K l (AV.putO t o.dst .undef))
theorem AD.nil{ops:Array Oper}{K:List AV→Prop}(h:K t):AD P w0 S H ops K [] t:=h
theorem AD.run{ops:Array Oper}{o:Oper}{l:List Oper}{K:List AV→Prop}(hg:o.guard=none)(v:AV)(hy:AY P w0 S H o t v)(h:AD P w0 S H ops K l (AV.putO t o.dst v)):AD P w0 S H ops K (o::l) t :=
 ⟨true,by simp[qZ,hg],fun _=>⟨v,hy,h⟩,fun h=>by cases h⟩
theorem AD.runG{ops:Array Oper}{o:Oper}{l:List Oper}{K:List AV→Prop}(hb:qZ ops o t=some true)(v:AV)(hy:AY P w0 S H o t v)(h:AD P w0 S H ops K l (AV.putO t o.dst v)):AD P w0 S H ops K (o::l) t :=
 ⟨true,hb,fun _=>⟨v,hy,h⟩,fun h=>by cases h⟩
theorem AD.skipG{ops:Array Oper}{o:Oper}{l:List Oper}{K:List AV→Prop}(hb:qZ ops o t=some false)(h:AD P w0 S H ops K l (AV.putO t o.dst .undef)):AD P w0 S H ops K (o::l) t :=
 ⟨false,hb,(fun h=>by cases h),fun _=>h⟩
theorem AD.rnG{ops:Array Oper}{o:Oper}{l:List Oper}{K:List AV→Prop}(d:Nat)(v:AV)(hb:qZ ops o t=some true)(hd:o.dst=some d)(hy:AY P w0 S H o t v)(h:AD P w0 S H ops K l (AV.put t d v)):AD P w0 S H ops K (o::l) t :=
 AD.runG hb v hy (by rw[hd];exact h)
theorem AD.skG{ops:Array Oper}{o:Oper}{l:List Oper}{K:List AV→Prop}(d:Nat)(hb:qZ ops o t=some false)(hd:o.dst=some d)(h:AD P w0 S H ops K l (AV.put t d .undef)):AD P w0 S H ops K (o::l) t :=
 AD.skipG hb (by rw[hd];exact h)
theorem AD.split{ops:Array Oper}{l:List Oper}{K:List AV→Prop}(d:Nat)(b:Bool)(hd:AV.get t d = .val (.bool b))(ht:b=true→AD P w0 S H ops K l (AV.put t d (.val (.bool true))))(hf:b=false→AD P w0 S H ops K l (AV.put t d (.val (.bool false)))):AD P w0 S H ops K l t:=by
 have hs:AV.put t d (AV.get t d)=t:=by
  rw[AV.put_eq,AV.get_eq]
  rcases Nat.lt_or_ge d t.length with h | h
  ·rw[List.getElem?_eq_getElem h];simp
  ·exact List.set_eq_of_length_le h
 rw[hd] at hs
 cases b with
 | true=>have:=ht rfl;rwa [hs] at this
 | false=>have:=hf rfl;rwa [hs] at this
theorem AD.mono{ops:Array Oper}{K K':List AV→Prop}(hk:∀t,K t→K' t):∀(l:List Oper) (t:List AV),AD P w0 S H ops K l t→AD P w0 S H ops K' l t
 | [],t,h=>hk t h
 | o::l,t,⟨b,hb,hy,hn⟩=>⟨b,hb,(fun e=>let ⟨v,h1,h2⟩:=hy e;⟨v,h1,AD.mono hk l _ h2⟩),fun e=>AD.mono hk l _ (hn e)⟩
def AYd(P:Program)(w0:Bs)(S:Nat→Prop)(H:List HE)(ops:Array Oper)(o:Oper)(t:List AV)(v:AV):Prop :=
 (qZ ops o t=some true∧AY P w0 S H o t v)∨(qZ ops o t=some false∧v = .undef)
def opA(P:Program)(w0:Bs)(S:Nat→Prop)(H:List HE)(ops:Array Oper)(i:Nat)(K:List AV→Prop)(t:List AV):Prop :=
 match ops[i]? with
 | none=>K t
 | some o=>∃v,AYd P w0 S H ops o t v∧K (AV.putO t o.dst v)
theorem qx5{ops:Array Oper}{i:Nat}{K K':List AV→Prop}{t:List AV}(h:∀t,K t→K' t)(hh:opA P w0 S H ops i K t):opA P w0 S H ops i K' t:=by
 unfold opA at *
 split
 ·rename_i ho;simp only[ho] at hh;exact h _ hh
 ·rename_i o ho
  simp only[ho] at hh
  obtain ⟨v,h1,h2⟩:=hh
  exact ⟨v,h1,h _ h2⟩
def anyA(P:Program)(w0:Bs)(S:Nat→Prop)(H:List HE)(md:Region.Mode)(ops:Array Oper)(K:List AV→Prop):Nat→Array Bool→List AV→Prop
 | 0,listed,t=>Region.ready md ops listed=[]∧K t
 | fuel+1,listed,t=>(Region.ready md ops listed=[]→K t)∧∀i,i∈Region.ready md ops listed→opA P w0 S H ops i (anyA P w0 S H md ops K fuel (listed.setIfInBounds i true)) t
theorem qmQ(t:List AV){x y:Option Tmp}(v u:AV)(h:∀d,x=some d→y≠some d):AV.putO (AV.putO t x v) y u=AV.putO (AV.putO t y u) x v:=by
 cases x with
 | none=>rfl
 | some d =>
  cases y with
  | none=>rfl
  | some e =>
   have hne:d≠e:=fun he=>h d rfl (by rw[he])
   simp only[AV.putO,AV.put_eq]
   exact List.set_comm _ _ hne
theorem qqS(t:List AV){x:Option Tmp}(v:AV){d:Nat}(h:x≠some d):AV.get (AV.putO t x v) d=AV.get t d:=by
 cases x with
 | none=>rfl
 | some e=>exact AV.get_put_ne t v fun he=>h (by rw[he])
theorem qj6{ops:Array Oper}{o:Oper}{x:Option Tmp}{v:AV}(h:∀d,x=some d→d∉o.looksAt ops):qZ ops o (AV.putO t x v)=qZ ops o t:=by
 unfold qZ
 cases hg:o.guard with
 | none=>rfl
 | some gw =>
  obtain ⟨g,want⟩:=gw
  simp only
  cases hd:(ops[g]?).bind (·.dst) with
  | none=>rfl
  | some d =>
   simp only
   rw[qqS t v fun e=>h d e (by simp[Oper.looksAt,hg,hd])]
theorem qtY{x:Option Tmp}{v:AV}{y:Operand}(h:∀d,x=some d→y≠.tmp d):evO (AV.putO t x v) y=evO t y:=by
 cases y with
 | tmp i=>exact qqS t v fun e=>h i e rfl
 | const v=>rfl
 | func f=>rfl
 | global g=>rfl
theorem AY.putO{ops:Array Oper}{o:Oper}{x:Option Tmp}{u v:AV}(h:∀d,x=some d→d∉o.looksAt ops):AY P w0 S H o (AV.putO t x u) v↔AY P w0 S H o t v:=by
 have key:∀y,y∈o.op.operands→evO (AV.putO t x u) y=evO t y:=fun y hy=>qtY fun d hd e=>h d hd (by
  subst e
  exact List.mem_append_left _ (List.mem_filterMap.2 ⟨.tmp d,by simpa using hy,rfl⟩))
 unfold AY
 constructor
 ·intro hh a w h1 h2 h3
  exact hh a w h1 h2 fun y hy=>by rw[key y hy];exact h3 y hy
 ·intro hh a w h1 h2 h3
  exact hh a w h1 h2 fun y hy=>by rw[← key y hy];exact h3 y hy
theorem AYd.putO{ops:Array Oper}{o:Oper}{x:Option Tmp}{u v:AV}(h:∀d,x=some d→d∉o.looksAt ops):AYd P w0 S H ops o (AV.putO t x u) v↔AYd P w0 S H ops o t v:=by
 unfold AYd
 rw[qj6 h,AY.putO h]
theorem qzK{ops:Array Oper}{j:Nat}{oi oj:Oper}{v:AV}(hj:ops[j]?=some oj)(hap:oi.apart ops oj=true){K:List AV→Prop}{t:List AV}
  (hy:AYd P w0 S H ops oi t v) (h:opA P w0 S H ops j K (AV.putO t oi.dst v)):opA P w0 S H ops j (fun t'=>AYd P w0 S H ops oi t' v∧K (AV.putO t' oi.dst v)) t:=by
 obtain ⟨h1,h2,h3⟩:=Oper.apart_spec hap
 unfold opA at *
 simp only[hj] at *
 obtain ⟨u,hu,hk⟩:=h
 exact ⟨u,(AYd.putO h1).1 hu,(AYd.putO h3).2 hy,by rw[qmQ t u v fun d hd e=>h2 d e hd];exact hk⟩
theorem qv7{md:Region.Mode}{ops:Array Oper}{K:List AV→Prop}{i:Nat}{oi:Oper}{v:AV}(hi:ops[i]?=some oi) :
  ∀(fuel:Nat) (listed:Array Bool) (t:List AV),
   (∀j oj,ops[j]?=some oj→j≠i→listed.getD j true=false→(∀e∈oj.after,Region.binds md e=true→e.on≠i)→oi.apart ops oj=true) →
   i∈Region.ready md ops listed→AYd P w0 S H ops oi t v →
   anyA P w0 S H md ops K fuel (listed.setIfInBounds i true) (AV.putO t oi.dst v)→anyA P w0 S H md ops K (fuel+1) listed t:=by
 intro fuel
 induction fuel with
 | zero =>
  intro listed t _ hr hy h
  refine ⟨fun h=>(by rw[h] at hr;cases hr),fun j hj=>?_⟩
  by_cases hji:j=i
  ·subst hji;unfold opA;simp only[hi];exact ⟨v,hy,h⟩
  ·have:=ready_mono hj hji
   rw[h.1] at this
   cases this
 | succ fuel ih =>
  intro listed t hfree hr hy h
  refine ⟨fun h=>(by rw[h] at hr;cases hr),fun j hj=>?_⟩
  by_cases hji:j=i
  ·subst hji;unfold opA;simp only[hi];exact ⟨v,hy,h⟩
  ·have h1:=h.2 j (ready_mono hj hji)
   obtain ⟨hjun,oj,hoj,hall⟩:=mem_ready.1 hj
   have hnot:∀e∈oj.after,Region.binds md e=true→e.on≠i:=fun e he hb heq=>by
    have h1:=hall e he hb
    have h0:=(mem_ready.1 hr).1
    rw[heq] at h1
    rcases Nat.lt_or_ge i listed.size with h' | h'
    ·simp[h'] at h0 h1;rw[h0] at h1;cases h1
    ·simp[Array.getElem?_eq_none h'] at h1
   have h2:=qzK hoj (hfree j oj hoj hji hjun hnot) hy h1
   have hfree':∀k ok,ops[k]?=some ok→k≠i→(listed.setIfInBounds j true).getD k true=false →
     (∀e∈ok.after,Region.binds md e=true→e.on≠i)→oi.apart ops ok=true:=fun k ok hk hki hun hno=>by
    refine hfree k ok hk hki ?_ hno
    by_cases hjk:j=k
    ·subst hjk;exact hjun
    ·rw[getD_set_ne true hjk] at hun;exact hun
   refine qx5 (fun t' h3=>ih (listed.setIfInBounds j true) t' hfree' (ready_mono hr (Ne.symm hji)) h3.1 ?_) h2
   rw[Array.setIfInBounds_comm _ _ hji]
   exact h3.2
theorem qtZ{md:Region.Mode}{ops:Array Oper}{K:List AV→Prop}:∀(l:List Oper) (k:Nat) (listed:Array Bool) (t:List AV),(∀j,l[j]?=ops[k+j]?) →
  Region.lexFrom md ops l.length k listed=true→AD P w0 S H ops K l t→anyA P w0 S H md ops K l.length listed t
 | [],_,_,_,_,hB,h=>⟨by simpa[Region.lexFrom] using hB,h⟩
 | o::l,k,listed,t,hl,hB,h=>by
  have h0:ops[k]?=some o:=by simpa using (hl 0).symm
  simp only[List.length_cons,Region.lexFrom,Bool.and_eq_true] at hB
  obtain ⟨⟨hr,hf⟩,hB'⟩:=hB
  obtain ⟨b,hb,hy,hn⟩:=h
  have hst:∃v,AYd P w0 S H ops o t v∧AD P w0 S H ops K l (AV.putO t o.dst v):=by
   cases b with
   | true =>
    obtain ⟨v,h1,h2⟩:=hy rfl
    exact ⟨v,.inl ⟨hb,h1⟩,h2⟩
   | false=>exact ⟨.undef,.inr ⟨hb,rfl⟩,hn rfl⟩
  obtain ⟨v,h1,h2⟩:=hst
  exact qv7 h0 l.length listed t (Region.free_spec h0 hf) (by simpa using hr) h1
   (qtZ l (k+1) _ _ (fun j=>by have:=hl (j+1);simpa[Nat.add_assoc,Nat.add_comm 1 j] using this) hB' h2)
theorem qlJ(hF:Wf F){md:Region.Mode}{ops:Array Oper}{K:List AV→Prop}{Q':Exit→Act→World→Prop}(hQ:∀t a w,SRel w0 S t H a w→K t→Q' .normal a w):∀(fuel:Nat) (listed:Array Bool) (t:List AV) (a:Act) (w:World),SRel w0 S t H a w →
  anyA P w0 S H md ops K fuel listed t→wpAnyIn F 0 P md ops Q' fuel listed a w
 | 0,_,_,_,_,hr,h=>⟨h.1,hQ _ _ _ hr h.2⟩
 | fuel+1,_,t,a,w,hr,h=>⟨fun h0=>hQ _ _ _ hr (h.1 h0),fun i hi=>by
   have h1:=h.2 i hi
   unfold opA at h1
   unfold wpOpIn
   cases ho:ops[i]? with
   | none=>simp only[ho] at h1;exact qlJ hF hQ fuel _ t a w hr h1
   | some o =>
    simp only[ho] at h1
    obtain ⟨v,hv,hk⟩:=h1
    simp only
    rcases hv with ⟨hw,hv⟩ | ⟨hw,rfl⟩
    ·rw[if_pos (qel (a:=a) hw (fun d _ v hv=>hr.looks d v hv))]
     exact hv a w hr.ext hr.hs (fun x _=>hr.ev x) F hF _ _ fun u w' he hu=>qlJ hF hQ fuel _ _ _ _ ((hr.mono he).put o.dst hu) hk
    ·rw[if_neg (by rw[qel (a:=a) hw (fun d _ v hv=>hr.looks d v hv)];simp)]
     exact ⟨fun f _=>hF.fn f,qlJ hF hQ fuel _ _ _ _ (hr.put o.dst (.val _)) hk⟩⟩
theorem Awp.draw(hF:Wf F){id:Nat}{l:List Oper}(hm:P.follows .mixedOrders=true)(hB:Region.lexB .any l.toArray=true)(h:AD P w0 S H l.toArray (fun t=>Q .normal t H) l t):Awp P w0 S F (.region id l.toArray true) Q t H:=by
 intro a w hr
 simp only[Region.lexB,Bool.and_eq_true] at hB
 refine wpIn_region_any hm (qlJ hF (K:=fun t=>Q .normal t H) (fun t a w hr h=>⟨t,H,hr,h⟩) _ _ t a _ (hr.mono (Ext.refl w).drew) ?_)
 have:=qtZ (P:=P) (w0:=w0) (S:=S) (H:=H) (md:=.any) l 0 (Array.replicate l.toArray.size false) t (by simp) (by simpa using hB.2) h
 simpa using this
end
set_option maxHeartbeats 400000
def qrF:TypeDesc→Bool
 | .struct _ | .array _ _=>true
 | _=>false
class TyAt (P:Program) (t:TypeId) (sz:outParam Nat) (ag:outParam Bool) (z:outParam Value):Prop where
 h:((P.info? t).map fun i=>(i.size,i.zero))=some (sz,some z)
 g:(P.underlying t).map qrF=some ag
class FieldAt (P:Program) (t:TypeId) (f:Nat) (off sz:outParam Nat) (ag:outParam Bool):Prop where
 h:∃fs fd z,P.underlying t=some (.struct fs)∧fs[f]?=some fd∧fd.offset=off∧0<sz∧TyAt P fd.type sz ag z
def qwJ(P:Program)(t:TypeId)(f off sz:Nat)(ag:Bool):Bool :=
 match P.underlying t with
 | some (.struct fs)=>match fs[f]? with
  | some fd=>fd.offset==off&&decide (0<sz)&&(match P.info? fd.type with | some i=>i.size==sz&&i.zero.isSome | none=>false)&&(match P.underlying fd.type with | some d=>qrF d==ag | none=>false)
  | none=>false
 | _=>false
theorem FieldAt.mk'{P:Program}{t:TypeId}{f off sz:Nat}{ag:Bool}(h:qwJ P t f off sz ag=true):FieldAt P t f off sz ag:=by
 unfold qwJ at h
 split at h
 ·next fs hfs =>
  split at h
  ·next fd hfd =>
   simp only[Bool.and_eq_true,beq_iff_eq,decide_eq_true_eq] at h
   obtain ⟨⟨⟨h1,h2⟩,h3⟩,h4⟩:=h
   split at h3
   ·next i hi =>
    split at h4
    ·next d hd =>
     simp only[Bool.and_eq_true,beq_iff_eq] at h3
     obtain ⟨z,hz⟩:=Option.isSome_iff_exists.1 h3.2
     exact ⟨fs,fd,z,hfs,hfd,h1,h2,⟨by rw[hi];simp[h3.1,hz],by rw[hd];simpa using h4⟩⟩
    ·cases h4
   ·cases h3
  ·cases h
 ·cases h
class SliceTy (P:Program) (t:TypeId) (e:outParam TypeId) (sz:outParam Nat) (ag:outParam Bool) (bytes:outParam Nat) (z:outParam Value):Prop where
 h:P.underlying t=some (.slice e)
 he:((P.info? e).map fun i=>(i.size,i.zero,i.bytes))=some (sz,some z,bytes)
 g:(P.underlying e).map qrF=some ag
 s:z.cells.size=sz
 p:0<sz
section
variable {P:Program}
theorem TyAt.isAgg{t sz:Nat}{ag:Bool}{z:Value}(h:TyAt P t sz ag z)(w:World):(Go.isAgg t).run P w = .ok ag w:=by
 have:=h.g
 cases hu:P.underlying t with
 | none=>rw[hu] at this;cases this
 | some d =>
  rw[hu] at this
  injection this with this
  subst this
  cases d<;>simp_all[Go.isAgg,qrF,run_underlying hu]
theorem TyAt.size{t sz:Nat}{ag:Bool}{z:Value}(h:TyAt P t sz ag z)(w:World):(sizeOf t).run P w = .ok sz w:=by
 have:=h.h
 cases hi:P.info? t with
 | none=>rw[hi] at this;cases this
 | some i =>
  rw[hi] at this
  simp only[Option.map_some,Option.some.injEq,Prod.mk.injEq] at this
  simp[sizeOf,typeInfo,hi,this.1]
theorem TyAt.zero{t sz:Nat}{ag:Bool}{z:Value}(h:TyAt P t sz ag z)(w:World):(zeroValue t).run P w = .ok z w:=by
 have:=h.h
 cases hi:P.info? t with
 | none=>rw[hi] at this;cases this
 | some i =>
  rw[hi] at this
  simp only[Option.map_some,Option.some.injEq,Prod.mk.injEq] at this
  simp[zeroValue,typeInfo,hi,this.2]
theorem SliceTy.ty{t e sz bytes:Nat}{ag:Bool}{z:Value}(h:SliceTy P t e sz ag bytes z):TyAt P e sz ag z:=by
 refine ⟨?_,h.g⟩
 have:=h.he
 cases hi:P.info? e with
 | none=>rw[hi] at this;cases this
 | some i =>
  rw[hi] at this
  simp only[Option.map_some,Option.some.injEq,Prod.mk.injEq] at this
  simp[this.1,this.2.1]
end
def qb3:AV→Option (List AV)
 | .agg l=>some l
 | .val (.agg vs)=>some (vs.toList.map .val)
 | .val (.tuple _)=>none
 | .any=>none
 | .tup _=>none
 | d=>some [d]
theorem qjD{w:World}{S:Nat→Prop}{v:Value}{d:AV}{cs:List AV}(h:Enc w S v d)(hc:qb3 d=some cs):v.cells.size=cs.length∧∀j c,cs[j]?=some c→Enc w S (v.cells.getD j undef) c:=by
 have one:∀(v:Value) (d:AV),Enc w S v d→v.cells = #[v]→v.cells.size=[d].length∧∀j c,[d][j]?=some c→Enc w S (v.cells.getD j undef) c:=by
  intro v d h e
  refine ⟨by rw[e];rfl,fun j c hj=>?_⟩
  match j,hj with
  | 0,hj=>injection hj with hj;subst hj;rw[e];exact h
  | n+1,hj=>simp at hj
 cases h with
 | any v=>cases hc
 | agg vs ds hn h=>injection hc with hc;subst hc;exact ⟨hn,h⟩
 | tup vs ds hn h=>cases hc
 | slnil A c sz hm=>injection hc with hc;subst hc;exact one _ _ (.slnil A c sz hm) rfl
 | sl b off n c sz rows cv hn h1 h2 h3 h4 h5 h6 h7=>injection hc with hc;subst hc;exact one _ _ (.sl b off n c sz rows cv hn h1 h2 h3 h4 h5 h6 h7) rfl
 | rp b off cells cv h1 h2 h3 h4=>injection hc with hc;subst hc;exact one _ _ (.rp b off cells cv h1 h2 h3 h4) rfl
 | fn f a b c d e f' g h=>injection hc with hc;subst hc;exact one _ _ (.fn f a b c d e f' g h) rfl
 | val v =>
  cases v with
  | agg vs =>
   injection hc with hc;subst hc
   refine ⟨by simp[Value.cells],fun j c hj=>?_⟩
   rw[List.getElem?_map] at hj
   cases hv:vs.toList[j]? with
   | none=>rw[hv] at hj;cases hj
   | some u =>
    rw[hv] at hj
    injection hj with hj;subst hj
    have:vs.getD j undef=u:=by rw[Array.getD_eq_getD_getElem?,← Array.getElem?_toList,hv];rfl
    simp only[Value.cells]
    rw[this];exact .val u
  | tuple vs=>cases hc
  | _=>injection hc with hc;subst hc;exact one _ _ (.val _) rfl
def opl:Op→List Operand
 | .move x | .assign x | .box _ x | .load _ x | .nilCheck x | .unOp _ _ x | .convert _ _ x | .fieldAddr _ x _ | .field _ x _ | .extract x _=>[x]
 | .pick c a b=>[c,a,b]
 | .store _ a v | .binOp _ _ a v _ | .indexAddr _ a v | .makeSlice _ a v=>[a,v]
 | .build _ ps | .buildSlice _ _ ps=>ps.toList.map (·.2)
 | .makeFunc _ f c=>f.toList++c.toList
 | .slice _ x l h m=>x::(l.toList++(h.toList++m.toList))
 | .call ⟨.value f,args,_⟩=>f::args.toList
 | .call ⟨.builtin _,args,_⟩=>args.toList
 | .lookup _ a v _=>[a,v]
 | .index _ a v=>[a,v]
 | .mapEntry _ a v=>[a,v]
 | .entryStore _ a b c=>[a,b,c]
 | .mapUpdate _ a b c=>[a,b,c]
 | .insert _ a b c=>[a,b,c]
 | .makeMap _ r=>r.toList
 | _=>[]
theorem qqg{op:Op}{x:Operand}(h:x∈opl op):x∈op.operands:=by
 unfold opl at h
 split at h<;>simp_all[Op.operands,Call.operands]
section
variable {P:Program} {w0:Bs} {S:Nat→Prop} {H:List HE} {t:List AV}
theorem qof{P:Program}{o:Oper}{ρ:Operand→Value}{w w':World}{n:Next}(hr:(execOp ρ o).run P w = .ok n w')(hn:(match n with | .defer _=>False | _=>True):=by trivial):∀c,o.op≠.defer c:=by
 intro c ho
 unfold execOp at hr
 rw[ho] at hr
 simp only[Sem.run_bind] at hr
 cases hq:(resolve ρ c o.type).run P w with
 | ok d w1=>rw[hq] at hr;simp at hr;obtain ⟨rfl,_⟩:=hr;exact hn
 | halt x w1=>rw[hq] at hr;simp at hr
theorem AY.of{o:Oper}{v:AV}(h:∀(a:Act) (w:World),Ex w0 w→(∀e,e∈H→e.ok w w0 (Al w0 S H))→(∀x,x∈opl o.op→Enc w (Al w0 S H) (a.eval x) (evO t x)) →
  ∃u w',(execOp a.eval o).run P w = .ok (.value u) w'∧Ext w w'∧Enc w' (Al w0 S H) u v):AY P w0 S H o t v:=by
 intro a w h1 h2 h3 F hF K Q hK
 obtain ⟨u,w',hr,he,hu⟩:=h a w h1 h2 fun x hx=>h3 x (qqg hx)
 refine ⟨fun f _=>hF.fn f,?_⟩
 rw[Oper.semAt_eq F.round a.eval o (qof hr),hr]
 exact hK u w' he hu
theorem qt0{w:World}(hE:Ex w0 w)(hH:∀e,e∈H→e.ok w w0 (Al w0 S H)):Al w0 S H w.heap.size :=
 ⟨fun h=>absurd h (Nat.not_lt.2 hE.size),fun h=>Nat.lt_irrefl _ (hE.n _ h),fun e he hb=>Nat.lt_irrefl _ (HE.ok_lt (hH e he) _ hb).2⟩
theorem qzL{w:World}{v:Value}{d:AV}{cs:List AV}(ty:TypeId)(hE:Ex w0 w)(hH:∀e,e∈H→e.ok w w0 (Al w0 S H))(h:Enc w (Al w0 S H) v d)(hc:qb3 d=some cs) :
  Enc (w.alloc (.cells v.cells ty)) (Al w0 S H) (.pointer (some ⟨w.heap.size,0,none⟩)) (.rp cs):=by
 obtain ⟨h1,h2⟩:=qjD h hc
 refine .rp _ 0 cs (fun j=>v.cells.getD j undef) (qt0 hE hH) (by simp) (fun j hj=>?_) fun j c hj=>(h2 j c hj).ext ((Ext.refl w).alloc _)
 have:=cell_of_row (w.alloc (.cells v.cells ty)) w.heap.size j v.cells ty (0,0) (heap_alloc_new w _)
 rw[Nat.zero_add,this,Array.getD_eq_getD_getElem?,Array.getElem?_eq_getElem (by omega)]
 rfl
end
set_option maxHeartbeats 1000000
class IntTy (P:Program) (t:TypeId) (k:outParam IntKind):Prop where
 h:P.underlying t=some (.int k)
class BoolTy (P:Program) (t:TypeId):Prop where
 h:P.underlying t=some .bool
def qvv(P:Program)(t:TypeId):Bool:=match P.underlying t with
 | some (.struct fs)=>(fs.toList.mapM fun f=>(P.info? f.type).map fun i=>(f.offset,i.size)).isSome
 | _=>false
class StructTy (P:Program) (t:TypeId):Prop where
 h:qvv P t=true
inductive Step0 (P:Program) (H:List HE):Op→List AV→AV→Prop
 | moveV (x:Operand) (v:Value):Step0 P H (.move x) [.val v] (.val v)
 | moveA (x:Operand) (l:List AV):Step0 P H (.move x) [.agg l] (.agg l)
 | moveT (x:Operand) (l:List AV):Step0 P H (.move x) [.tup l] (.tup l)
 | moveS (x:Operand) (sz:Nat) (rows:List (List AV)):Step0 P H (.move x) [.sl sz rows] (.sl sz rows)
 | moveP (x:Operand) (cs:List AV):Step0 P H (.move x) [.rp cs] (.rp cs)
 | moveF (x:Operand) (f:FuncId) (df dc:List AV):Step0 P H (.move x) [.fn f df dc] (.fn f df dc)
 | moveN (x:Operand):Step0 P H (.move x) [.any] (.any)
 | assignV (x:Operand) (v:Value):Step0 P H (.assign x) [.val v] (.val v)
 | assignA (x:Operand) (l:List AV):Step0 P H (.assign x) [.agg l] (.agg l)
 | assignT (x:Operand) (l:List AV):Step0 P H (.assign x) [.tup l] (.tup l)
 | assignS (x:Operand) (sz:Nat) (rows:List (List AV)):Step0 P H (.assign x) [.sl sz rows] (.sl sz rows)
 | assignP (x:Operand) (cs:List AV):Step0 P H (.assign x) [.rp cs] (.rp cs)
 | assignF (x:Operand) (f:FuncId) (df dc:List AV):Step0 P H (.assign x) [.fn f df dc] (.fn f df dc)
 | assignN (x:Operand):Step0 P H (.assign x) [.any] (.any)
 | pickTV (c x y:Operand) (v:Value) (d2:AV):Step0 P H (.pick c x y) [.val (.bool true),.val v,d2] (.val v)
 | pickFV (c x y:Operand) (d1:AV) (v:Value):Step0 P H (.pick c x y) [.val (.bool false),d1,.val v] (.val v)
 | pickT (c x y:Operand) (d1 d2:AV):Step0 P H (.pick c x y) [.val (.bool true),d1,d2] d1
 | pickF (c x y:Operand) (d1 d2:AV):Step0 P H (.pick c x y) [.val (.bool false),d1,d2] d2
 | pickB (c x y:Operand) (b u v:Bool):Step0 P H (.pick c x y) [.val (.bool b),.val (.bool u),.val (.bool v)] (.val (.bool (if b then u else v)))
 | box (e:TypeId) (x:Operand) (d:AV) (cs:List AV) (h:qb3 d=some cs):Step0 P H (.box e x) [d] (.rp cs)
 | load1 (ty:TypeId) (x:Operand) (d v:AV) (rest:List AV) (z:Value) [i:TyAt P ty 1 false z] (hv:d=v):Step0 P H (.load ty x) [.rp (d::rest)] v
 | loadN (ty:TypeId) (x:Operand) (cells cs:List AV) (n:Nat) (z:Value) [i:TyAt P ty n true z] (h:n≤cells.length) (hc:cells.take n=cs):Step0 P H (.load ty x) [.rp cells] (.agg cs)
 | mload1 (ty:TypeId) (x:Operand) (b off:Nat) (tt:TypeId) (cs:List AV) (d v:AV) (z:Value) [i:TyAt P ty 1 false z] (hH:HE.blk b tt cs∈H) (hd:cs[off]?=some d) (hv:d=v):Step0 P H (.load ty x) [.val (.pointer (some ⟨b,off,none⟩))] v
 | mloadN (ty:TypeId) (x:Operand) (b off n:Nat) (tt:TypeId) (cs ds:List AV) (z:Value) [i:TyAt P ty n true z] (hH:HE.blk b tt cs∈H) (hl:off+n≤cs.length) (hd:(cs.drop off).take n=ds):Step0 P H (.load ty x) [.val (.pointer (some ⟨b,off,none⟩))] (.agg ds)
 | oload1 (ty:TypeId) (x:Operand) (b off n c:Nat) (e sz:Nat) (cs:List AV) (d v:AV) (z:Value) [i:TyAt P ty 1 false z] (hH:HE.own (.slice (some ⟨b,0,none⟩) n c) e sz n cs∈H) (hd:cs[off]?=some d) (hv:d=v):Step0 P H (.load ty x) [.val (.pointer (some ⟨b,off,none⟩))] v
 | oloadN (ty:TypeId) (x:Operand) (b off m n c:Nat) (e sz:Nat) (cs ds:List AV) (z:Value) [i:TyAt P ty m true z] (hH:HE.own (.slice (some ⟨b,0,none⟩) n c) e sz n cs∈H) (hl:off+m≤cs.length) (hd:(cs.drop off).take m=ds):Step0 P H (.load ty x) [.val (.pointer (some ⟨b,off,none⟩))] (.agg ds)
 | fieldAddr (ty:TypeId) (x:Operand) (f off sz:Nat) (ag:Bool) (cells cs:List AV) [i:FieldAt P ty f off sz ag] (hc:cells.drop off=cs):Step0 P H (.fieldAddr ty x f) [.rp cells] (.rp cs)
 | mfieldAddr (ty:TypeId) (x:Operand) (f off sz:Nat) (ag:Bool) (b o o':Nat) [i:FieldAt P ty f off sz ag] (ho:o+off=o'):Step0 P H (.fieldAddr ty x f) [.val (.pointer (some ⟨b,o,none⟩))] (.val (.pointer (some ⟨b,o',none⟩)))
 | field1 (ty:TypeId) (x:Operand) (f off:Nat) (cells:List AV) (d v:AV) [i:FieldAt P ty f off 1 false] (hc:cells[off]?=some d) (hv:d=v):Step0 P H (.field ty x f) [.agg cells] v
 | fieldN (ty:TypeId) (x:Operand) (f off sz:Nat) (cells cs:List AV) [i:FieldAt P ty f off sz true] (hl:off+sz≤cells.length) (hc:(cells.drop off).take sz=cs):Step0 P H (.field ty x f) [.agg cells] (.agg cs)
 | indexAddr (ty e:TypeId) (x y:Operand) (sz bytes:Nat) (ag:Bool) (z:Value) (rows:List (List AV)) (row:List AV) (k:IntKind) (n:Int) [i:SliceTy P ty e sz ag bytes z] (h0:0≤n) (hr:rows[n.toNat]?=some row):Step0 P H (.indexAddr ty x y) [.sl sz rows,.val (.int k n)] (.rp row)
 | nilCheckP (x:Operand) (cells:List AV):Step0 P H (.nilCheck x) [.rp cells] (.rp cells)
 | nilCheckB (x:Operand) (b o:Nat):Step0 P H (.nilCheck x) [.val (.pointer (some ⟨b,o,none⟩))] (.val (.pointer (some ⟨b,o,none⟩)))
 | nilCheckF (x:Operand) (f:FuncId) (df dc:List AV):Step0 P H (.nilCheck x) [.fn f df dc] (.fn f df dc)
 | add (ty ty2:TypeId) (x y:Operand) (k:IntKind) (a b c:Int) (h:k.wrap (a+b)=c):Step0 P H (.binOp .add ty x y ty2) [.val (.int k a),.val (.int k b)] (.val (.int k c))
 | sub (ty ty2:TypeId) (x y:Operand) (k:IntKind) (a b c:Int) (h:k.wrap (a-b)=c):Step0 P H (.binOp .sub ty x y ty2) [.val (.int k a),.val (.int k b)] (.val (.int k c))
 | mul (ty ty2:TypeId) (x y:Operand) (k:IntKind) (a b c:Int) (h:k.wrap (a*b)=c):Step0 P H (.binOp .mul ty x y ty2) [.val (.int k a),.val (.int k b)] (.val (.int k c))
 | quo (ty ty2:TypeId) (x y:Operand) (k:IntKind) (a b c:Int) (h0:b≠0) (h:k.wrap (a.tdiv b)=c):Step0 P H (.binOp .quo ty x y ty2) [.val (.int k a),.val (.int k b)] (.val (.int k c))
 | rem (ty ty2:TypeId) (x y:Operand) (k:IntKind) (a b c:Int) (h0:b≠0) (h:a.tmod b=c):Step0 P H (.binOp .rem ty x y ty2) [.val (.int k a),.val (.int k b)] (.val (.int k c))
 | bitand (ty ty2:TypeId) (x y:Operand) (k:IntKind) (a b:Int):Step0 P H (.binOp .and ty x y ty2) [.val (.int k a),.val (.int k b)] (.val (.int k (bits .and k a b)))
 | bitor (ty ty2:TypeId) (x y:Operand) (k:IntKind) (a b:Int):Step0 P H (.binOp .or ty x y ty2) [.val (.int k a),.val (.int k b)] (.val (.int k (bits .or k a b)))
 | bitxor (ty ty2:TypeId) (x y:Operand) (k:IntKind) (a b:Int):Step0 P H (.binOp .xor ty x y ty2) [.val (.int k a),.val (.int k b)] (.val (.int k (bits .xor k a b)))
 | bitandNot (ty ty2:TypeId) (x y:Operand) (k:IntKind) (a b:Int):Step0 P H (.binOp .andNot ty x y ty2) [.val (.int k a),.val (.int k b)] (.val (.int k (bits .andNot k a b)))
 | shr (ty ty2:TypeId) (x y:Operand) (k k2:IntKind) (a b:Int) (h0:0≤b) (h1:b≤k.bits):Step0 P H (.binOp .shr ty x y ty2) [.val (.int k a),.val (.int k2 b)] (.val (.int k (a/2 ^ b.toNat)))
 | shl (ty ty2:TypeId) (x y:Operand) (k k2:IntKind) (a b c:Int) (h0:0≤b) (h1:b≤k.bits) (h:k.wrap (a*2 ^ b.toNat)=c):Step0 P H (.binOp .shl ty x y ty2) [.val (.int k a),.val (.int k2 b)] (.val (.int k c))
 | lss (ty ty2:TypeId) (x y:Operand) (k:IntKind) (a b:Int):Step0 P H (.binOp .lss ty x y ty2) [.val (.int k a),.val (.int k b)] (.val (.bool (decide (a<b))))
 | leq (ty ty2:TypeId) (x y:Operand) (k:IntKind) (a b:Int):Step0 P H (.binOp .leq ty x y ty2) [.val (.int k a),.val (.int k b)] (.val (.bool (decide (a≤b))))
 | gtr (ty ty2:TypeId) (x y:Operand) (k:IntKind) (a b:Int):Step0 P H (.binOp .gtr ty x y ty2) [.val (.int k a),.val (.int k b)] (.val (.bool (decide (a>b))))
 | geq (ty ty2:TypeId) (x y:Operand) (k:IntKind) (a b:Int):Step0 P H (.binOp .geq ty x y ty2) [.val (.int k a),.val (.int k b)] (.val (.bool (decide (a≥b))))
 | eql (ty ty2:TypeId) (x y:Operand) (k:IntKind) (a b:Int):Step0 P H (.binOp .eql ty x y ty2) [.val (.int k a),.val (.int k b)] (.val (.bool (a==b)))
 | neq (ty ty2:TypeId) (x y:Operand) (k:IntKind) (a b:Int):Step0 P H (.binOp .neq ty x y ty2) [.val (.int k a),.val (.int k b)] (.val (.bool (a != b)))
 | eqlB (ty ty2:TypeId) (x y:Operand) (a b:Bool) [h:BoolTy P ty]:Step0 P H (.binOp .eql ty x y ty2) [.val (.bool a),.val (.bool b)] (.val (.bool (a==b)))
 | neqB (ty ty2:TypeId) (x y:Operand) (a b:Bool) [h:BoolTy P ty]:Step0 P H (.binOp .neq ty x y ty2) [.val (.bool a),.val (.bool b)] (.val (.bool (a != b)))
 | not (ty:TypeId) (x:Operand) (a:Bool):Step0 P H (.unOp .not ty x) [.val (.bool a)] (.val (.bool (!a)))
 | neg (ty:TypeId) (x:Operand) (k:IntKind) (a c:Int) (h:k.wrap (0-a)=c):Step0 P H (.unOp .neg ty x) [.val (.int k a)] (.val (.int k c))
 | compl (ty:TypeId) (x:Operand) (k:IntKind) (a c:Int) (h:bits .xor k (if k.signed then -1 else k.max) a=c):Step0 P H (.unOp .xor ty x) [.val (.int k a)] (.val (.int k c))
 | convert (src dst:TypeId) (x:Operand) (k k':IntKind) (a c:Int) [hs:IntTy P src k] [hd:IntTy P dst k'] (h:k'.wrap a=c):Step0 P H (.convert src dst x) [.val (.int k a)] (.val (.int k' c))
 | extract (x:Operand) (i:Nat) (ds:List AV) (d:AV) (h:ds[i]?=some d):Step0 P H (.extract x i) [.tup ds] d
 | makeFunc0 (f:FuncId) (caps:List Operand) (ds:List AV):Step0 P H (.makeFunc (.func f) #[] caps.toArray) ds (.fn f [] ds)
 | makeFunc1 (f:FuncId) (y:Operand) (caps:List Operand) (d:AV) (ds:List AV):Step0 P H (.makeFunc (.func f) #[y] caps.toArray) (d::ds) (.fn f [d] ds)
 | lenS (ty:TypeId) (x:Operand) (sz n:Nat) (rows:List (List AV)) (e sz' bytes:Nat) (ag:Bool) (z:Value) [i:SliceTy P ty e sz' ag bytes z] (hn:rows.length=n):Step0 P H (.call ⟨.builtin .len,#[x],#[ty]⟩) [.sl sz rows] (.val (.int .i64 n))
 | lenV (ty:TypeId) (x:Operand) (A:Option Addr) (n c:Nat) (e sz' bytes:Nat) (ag:Bool) (z:Value) [i:SliceTy P ty e sz' ag bytes z]:Step0 P H (.call ⟨.builtin .len,#[x],#[ty]⟩) [.val (.slice A n c)] (.val (.int .i64 n))
 | min2 (tys:Array TypeId) (x y:Operand) (k:IntKind) (a b:Int):Step0 P H (.call ⟨.builtin .min,#[x,y],tys⟩) [.val (.int k a),.val (.int k b)] (.val (.int k (if b<a then b else a)))
 | max2 (tys:Array TypeId) (x y:Operand) (k:IntKind) (a b:Int):Step0 P H (.call ⟨.builtin .max,#[x,y],tys⟩) [.val (.int k a),.val (.int k b)] (.val (.int k (if b>a then b else a)))
section
variable {P:Program} {w0:Bs} {S:Nat→Prop} {H:List HE} {t:List AV}
theorem qbK{cells:List AV}{i:Nat}{d:AV}(h:cells[i]?=some d):i<cells.length:=(List.getElem?_eq_some_iff.1 h).1
theorem qx6(w:World)(ts:Array TypeId)(ty:TypeId)(k:IntKind)(a b:Int):(Builtin.min_ ts ty #[.int k a,.int k b]).run P w = .ok (.int k (if b<a then b else a)) w:=by
 simp[Builtin.min_,Builtin.min2]
theorem qx7(w:World)(ts:Array TypeId)(ty:TypeId)(k:IntKind)(a b:Int):(Builtin.max_ ts ty #[.int k a,.int k b]).run P w = .ok (.int k (if b>a then b else a)) w:=by
 simp[Builtin.max_,Builtin.max2]
theorem qpp{ty f off sz:Nat}{ag:Bool}(i:FieldAt P ty f off sz ag)(w:World)(b o:Nat):(Instr.fieldAt ty (.pointer (some ⟨b,o,none⟩)) f).run P w = .ok (.pointer (some ⟨b,o+off,none⟩)) w:=by
 obtain ⟨fs,fd,z,h1,h2,h3,h4,h5⟩:=i.h
 have hs:=h5.size w
 have h0:¬sz=0:=by omega
 simp[Instr.fieldAt,run_underlying h1,h2,Instr.sureAddr,fieldPlace,hs,h0,h3,qek]
theorem qmR{ty:TypeId}{z:Value}(i:TyAt P ty 1 false z)(w:World)(b o:Nat)(v:Value)(h:w.cell? ⟨b,o,none⟩=some v):(Instr.loadAt ty (.pointer (some ⟨b,o,none⟩))).run P w = .ok v w:=by
 have:=i.isAgg w
 simp[Instr.loadAt,Instr.sureAddr,loadVar,this,h]
theorem qmS{ty n:Nat}{z:Value}(i:TyAt P ty n true z)(w:World)(b o:Nat)(f:Nat→Value)(h:∀j,j<n→w.cell? ⟨b,o+j,none⟩=some (f j)):(Instr.loadAt ty (.pointer (some ⟨b,o,none⟩))).run P w = .ok (.agg ((List.range n).map f).toArray) w:=by
 have h1:=i.isAgg w
 have h2:=i.size w
 have h3:=run_loadCells (P:=P) w ⟨b,o,none⟩ n f (fun j hj=>by rw[qek];exact h j hj)
 simp only[Instr.loadAt,Instr.sureAddr,loadVar,Sem.run_bind,Sem.run_pure,Result.andThen_ok,h1,h2,h3,if_true]
theorem qmT{w:World}{S:Nat→Prop}{n:Nat}{f:Nat→Value}{ds:List AV}(hn:n=ds.length)(h:∀j d,ds[j]?=some d→Enc w S (f j) d):Enc w S (.agg ((List.range n).map f).toArray) (.agg ds):=by
 refine .agg _ _ (by simp[hn]) fun i d hi=>?_
 have hl:=qbK hi
 rw[Array.getD_eq_getD_getElem?]
 simp only[List.getElem?_toArray,List.getElem?_map,List.getElem?_range (show i<n by omega),Option.map_some,Option.getD_some]
 exact h i d hi
theorem qwK{w:World}{S:Nat→Prop}{vs:Array Value}{cells:List AV}{off:Nat}{d:AV}(h:Enc w S (.agg vs) (.agg cells))(hc:cells[off]?=some d):∃u,vs[off]?=some u∧Enc w S u d:=by
 cases h with
 | agg _ _ hn h =>
  have hl:=qbK hc
  refine ⟨vs[off]'(by omega),Array.getElem?_eq_getElem (by omega),?_⟩
  have:=h off d hc
  rwa [Array.getD_eq_getD_getElem?,Array.getElem?_eq_getElem (by omega)] at this
theorem qpq{w:World}{base:Bs}{b tt:Nat}{cs:List AV}(h:HE.ok w base S (.blk b tt cs)){j:Nat}{d:AV}(hd:cs[j]?=some d):∃u,w.cell? ⟨b,j,none⟩=some u∧Enc w S u d:=by
 obtain ⟨_,vs,h1,h2,h3⟩:=h
 have hl:=qbK hd
 refine ⟨vs[j]'(by omega),by rw[h1.cell,List.getElem?_eq_getElem (by omega)],?_⟩
 have:=h3 j d hd
 rwa [List.getD_eq_getElem?_getD,List.getElem?_eq_getElem (by omega)] at this
theorem qwL{w:World}{w0:Bs}{b n c e sz:Nat}{cs:List AV}(h:HE.ok w w0 S (.own (.slice (some ⟨b,0,none⟩) n c) e sz n cs)){j:Nat}{d:AV}(hd:cs[j]?=some d):∃u,w.cell? ⟨b,j,none⟩=some u∧Enc w S u d:=by
 obtain ⟨_,xs,h1,h2,h3⟩:=h
 have hl:=qbK hd
 have hc:=h1.cells (g:=b) rfl j (xs[j]'(by omega)) (List.getElem?_eq_getElem (by omega))
 rw[qek,Nat.zero_add] at hc
 refine ⟨_,hc,?_⟩
 have:=h3 j d hd
 rwa [List.getD_eq_getElem?_getD,List.getElem?_eq_getElem (by omega)] at this
theorem qnz{ty:TypeId}(h:P.underlying ty=some .bool)(a b:Bool)(w:World):(Op.equal ty (.bool a) (.bool b)).run P w = .ok (a==b) w:=by
 unfold Op.equal
 rw[show Op.maxDepth=9999+1 from rfl,Op.equalIn]
 simp[run_underlying h]
theorem Step0.sound{o:Oper}{avs:List AV}{v:AV}(h:Step0 P H o.op avs v)(ha:avs=(opl o.op).map (evO t)):AY P w0 S H o t v:=by
 refine AY.of fun a w hE hH hX=>?_
 generalize hop:o.op=op at *
 unfold execOp
 rw[hop]
 cases h with
 | moveV x v=>simp[opl] at ha hX;rw[← ha] at hX;exact ⟨_,w,rfl,Ext.refl w,hX⟩
 | moveA x l=>simp[opl] at ha hX;rw[← ha] at hX;exact ⟨_,w,rfl,Ext.refl w,hX⟩
 | moveT x l=>simp[opl] at ha hX;rw[← ha] at hX;exact ⟨_,w,rfl,Ext.refl w,hX⟩
 | moveS x sz rows=>simp[opl] at ha hX;rw[← ha] at hX;exact ⟨_,w,rfl,Ext.refl w,hX⟩
 | moveP x cs=>simp[opl] at ha hX;rw[← ha] at hX;exact ⟨_,w,rfl,Ext.refl w,hX⟩
 | moveF x f df dc=>simp[opl] at ha hX;rw[← ha] at hX;exact ⟨_,w,rfl,Ext.refl w,hX⟩
 | moveN x=>simp[opl] at ha hX;rw[← ha] at hX;exact ⟨_,w,rfl,Ext.refl w,hX⟩
 | assignV x v=>simp[opl] at ha hX;rw[← ha] at hX;exact ⟨_,w,rfl,Ext.refl w,hX⟩
 | assignA x l=>simp[opl] at ha hX;rw[← ha] at hX;exact ⟨_,w,rfl,Ext.refl w,hX⟩
 | assignT x l=>simp[opl] at ha hX;rw[← ha] at hX;exact ⟨_,w,rfl,Ext.refl w,hX⟩
 | assignS x sz rows=>simp[opl] at ha hX;rw[← ha] at hX;exact ⟨_,w,rfl,Ext.refl w,hX⟩
 | assignP x cs=>simp[opl] at ha hX;rw[← ha] at hX;exact ⟨_,w,rfl,Ext.refl w,hX⟩
 | assignF x f df dc=>simp[opl] at ha hX;rw[← ha] at hX;exact ⟨_,w,rfl,Ext.refl w,hX⟩
 | assignN x=>simp[opl] at ha hX;rw[← ha] at hX;exact ⟨_,w,rfl,Ext.refl w,hX⟩
 | pickTV c x y v d2 =>
  simp[opl] at ha hX;obtain ⟨h1,h2,rfl⟩:=ha;rw[← h1,← h2] at hX
  refine ⟨_,w,?_,Ext.refl w,hX.2.1⟩;simp[hX.1.val_eq,asBool]
 | pickFV c x y d1 v =>
  simp[opl] at ha hX;obtain ⟨h1,rfl,h2⟩:=ha;rw[← h1,← h2] at hX
  refine ⟨_,w,?_,Ext.refl w,hX.2.2⟩;simp[hX.1.val_eq,asBool]
 | pickT c x y d1 d2 =>
  simp[opl] at ha hX;obtain ⟨h1,rfl,rfl⟩:=ha;rw[← h1] at hX
  refine ⟨_,w,?_,Ext.refl w,hX.2.1⟩;simp[hX.1.val_eq,asBool]
 | pickF c x y d1 d2 =>
  simp[opl] at ha hX;obtain ⟨h1,rfl,rfl⟩:=ha;rw[← h1] at hX
  refine ⟨_,w,?_,Ext.refl w,hX.2.2⟩;simp[hX.1.val_eq,asBool]
 | pickB c x y b u v =>
  simp[opl] at ha hX;obtain ⟨h1,h2,h3⟩:=ha;rw[← h1,← h2,← h3] at hX
  refine ⟨_,w,?_,Ext.refl w,.val _⟩;simp[hX.1.val_eq,hX.2.1.val_eq,hX.2.2.val_eq,asBool]
 | box e x d cs hc =>
  simp[opl] at ha hX;subst ha
  refine ⟨_,_,?_,(Ext.refl w).alloc _,qzL e hE hH hX hc⟩
  dsimp only;simp only[Instr.box,newVar,newRow,Sem.run_bind,Sem.run_pure,Result.andThen_ok];rfl
 | @load1 ty x d v rest z i hv =>
  subst hv
  simp[opl] at ha hX;rw[← ha] at hX
  dsimp only
  generalize a.eval x=X at *
  cases hX with
  | rp b off cells cv h1 h2 h3 h4 =>
   refine ⟨cv 0,w,?_,Ext.refl w,h4 0 _ rfl⟩
   have:=qmR i w b off (cv 0) (h3 0 (by simp))
   simp[this]
 | @loadN ty x cells cs n z i hl hc =>
  simp[opl] at ha hX;rw[← ha] at hX
  dsimp only
  generalize a.eval x=X at *
  cases hX with
  | rp b off cells cv h1 h2 h3 h4 =>
   have:=qmS i w b off cv (fun j hj=>h3 j (by omega))
   refine ⟨_,w,by simp[this];rfl,Ext.refl w,?_⟩
   subst hc
   refine qmT (by simp;omega) fun j d hj=>h4 j d ?_
   rw[List.getElem?_take] at hj
   split at hj
   ·exact hj
   ·cases hj
 | @mload1 ty x b off tt cs d v z i hk hd hv =>
  subst hv
  simp[opl] at ha hX;rw[← ha] at hX
  obtain ⟨u,h1,h2⟩:=qpq (hH _ hk) hd
  refine ⟨u,w,?_,Ext.refl w,h2⟩
  have:=qmR i w b off u h1
  simp[hX.val_eq,this]
 | @mloadN ty x b off n tt cs ds z i hk hl hd =>
  simp[opl] at ha hX;rw[← ha] at hX
  have key:∀j d,ds[j]?=some d→∃u,w.cell? ⟨b,off+j,none⟩=some u∧Enc w (Al w0 S H) u d:=fun j d hj=>by
   refine qpq (hH _ hk) ?_
   subst hd
   rw[List.getElem?_take] at hj
   split at hj
   ·rwa [List.getElem?_drop] at hj
   ·cases hj
  have hlen:ds.length=n:=by subst hd;simp;omega
  have f0:∀j,∃u,j<n→w.cell? ⟨b,off+j,none⟩=some u∧∀d,ds[j]?=some d→Enc w (Al w0 S H) u d:=fun j=>by
   by_cases hj:j<n
   ·obtain ⟨u,h1,h2⟩:=key j _ (List.getElem?_eq_getElem (by omega))
    exact ⟨u,fun _=>⟨h1,fun d hd=>by rw[List.getElem?_eq_getElem (by omega)] at hd;injection hd with hd;rw[← hd];exact h2⟩⟩
   ·exact ⟨undef,fun h=>absurd h hj⟩
  obtain ⟨f,hf⟩:=Classical.axiomOfChoice f0
  have:=qmS i w b off f (fun j hj=>(hf j hj).1)
  refine ⟨_,w,by simp[hX.val_eq,this],Ext.refl w,qmT hlen.symm fun j d hj=>(hf j (by have:=qbK hj;omega)).2 d hj⟩
 | @oload1 ty x b off n c e sz cs d v z i hk hd hv =>
  subst hv
  simp[opl] at ha hX;rw[← ha] at hX
  obtain ⟨u,h1,h2⟩:=qwL (hH _ hk) hd
  refine ⟨u,w,?_,Ext.refl w,h2⟩
  have:=qmR i w b off u h1
  simp[hX.val_eq,this]
 | @oloadN ty x b off m n c e sz cs ds z i hk hl hd =>
  simp[opl] at ha hX;rw[← ha] at hX
  have key:∀j d,ds[j]?=some d→∃u,w.cell? ⟨b,off+j,none⟩=some u∧Enc w (Al w0 S H) u d:=fun j d hj=>by
   refine qwL (hH _ hk) ?_
   subst hd
   rw[List.getElem?_take] at hj
   split at hj
   ·rwa [List.getElem?_drop] at hj
   ·cases hj
  have hlen:ds.length=m:=by subst hd;simp;omega
  have f0:∀j,∃u,j<m→w.cell? ⟨b,off+j,none⟩=some u∧∀d,ds[j]?=some d→Enc w (Al w0 S H) u d:=fun j=>by
   by_cases hj:j<m
   ·obtain ⟨u,h1,h2⟩:=key j _ (List.getElem?_eq_getElem (by omega))
    exact ⟨u,fun _=>⟨h1,fun d hd=>by rw[List.getElem?_eq_getElem (by omega)] at hd;injection hd with hd;rw[← hd];exact h2⟩⟩
   ·exact ⟨undef,fun h=>absurd h hj⟩
  obtain ⟨f,hf⟩:=Classical.axiomOfChoice f0
  have:=qmS i w b off f (fun j hj=>(hf j hj).1)
  refine ⟨_,w,by simp[hX.val_eq,this],Ext.refl w,qmT hlen.symm fun j d hj=>(hf j (by have:=qbK hj;omega)).2 d hj⟩
 | @fieldAddr ty x f off sz ag cells cs i hc =>
  simp[opl] at ha hX;rw[← ha] at hX
  dsimp only
  generalize a.eval x=X at *
  cases hX with
  | rp b o cells cv h1 h2 h3 h4 =>
   have:=qpp i w b o
   refine ⟨_,w,by simp[this];rfl,Ext.refl w,?_⟩
   subst hc
   refine .rp b (o+off) _ (fun j=>cv (off+j)) h1 h2 (fun j hj=>?_) fun j d hj=>?_
   ·rw[Nat.add_assoc];exact h3 _ (by simp at hj;omega)
   ·rw[List.getElem?_drop] at hj;exact h4 _ d hj
 | @mfieldAddr ty x f off sz ag b o' o'' i ho =>
  simp[opl] at ha hX;rw[← ha] at hX
  have:=qpp i w b o'
  refine ⟨_,w,by simp[hX.val_eq,this];rfl,Ext.refl w,?_⟩
  rw[ho];exact .val _
 | @field1 ty x f off cells d v i hc hv =>
  subst hv
  simp[opl] at ha hX;rw[← ha] at hX
  dsimp only
  generalize a.eval x=X at *
  obtain ⟨fs,fd,z,h1,h2,h3,h4,h5⟩:=i.h
  have hag:=h5.isAgg w
  cases X with
  | agg vs =>
   obtain ⟨u,h6,h7⟩:=qwK hX hc
   refine ⟨u,w,?_,Ext.refl w,h7⟩
   simp[Instr.field,run_underlying h1,h2,asAgg,part,hag,h3,h6]
  | _=>cases hX
 | @fieldN ty x f off sz cells cs i hl hc =>
  simp[opl] at ha hX;rw[← ha] at hX
  dsimp only
  generalize a.eval x=X at *
  obtain ⟨fs,fd,z,h1,h2,h3,h4,h5⟩:=i.h
  have hag:=h5.isAgg w
  have hs:=h5.size w
  cases X with
  | agg vs =>
   cases hX with
   | agg _ _ hn h =>
    refine ⟨.agg (vs.extract off (off+sz)),w,?_,Ext.refl w,?_⟩
    ·simp[Instr.field,run_underlying h1,h2,asAgg,part,hag,hs,h3]
    ·subst hc
     refine .agg _ _ (by simp;omega) fun j d hj=>?_
     rw[List.getElem?_take] at hj
     split at hj
     ·rename_i hlt
      rw[List.getElem?_drop] at hj
      have:=h _ d hj
      rw[Array.getD_eq_getD_getElem?] at this ⊢
      rw[Array.getElem?_extract,if_pos (by omega)]
      exact this
     ·cases hj
  | _=>cases hX
 | @indexAddr ty e x y sz bytes ag z rows row k n i h0 hr =>
  simp[opl] at ha hX;rw[← ha.1,← ha.2] at hX
  obtain ⟨hX,hY⟩:=hX
  dsimp only
  rw[hY.val_eq]
  generalize a.eval x=X at *
  have hs:=i.ty.size w
  have hu:=i.h
  have hl:n.toNat<rows.length:=(List.getElem?_eq_some_iff.1 hr).1
  cases hX with
  | slnil A c _ hm=>simp at hl
  | sl b off m c _ _ cv hn hc hm h1 h2 h3 h4 h5 =>
   have hi:0≤n∧n<(m:Int):=⟨h0,by omega⟩
   refine ⟨.pointer (some ⟨b,off+n.toNat*sz,none⟩),w,?_,Ext.refl w,?_⟩
   ·simp[Instr.indexAt,run_underlying hu,asIntOf,hi,hs,qek]
   ·have hrl:=h3 _ _ hr
    refine .rp b _ row (fun j=>cv (n.toNat*sz+j)) h1 h2 (fun j hj=>?_) fun j d hj=>h5 _ j row d hr hj
    rw[Nat.add_assoc]
    refine h4 _ ?_
    have:(n.toNat+1)*sz≤m*sz:=Nat.mul_le_mul_right _ (by omega)
    rw[Nat.succ_mul] at this
    omega
 | nilCheckP x cells =>
  simp[opl] at ha hX;rw[← ha] at hX
  dsimp only
  generalize a.eval x=X at *
  cases hX with
  | rp b o cells cv h1 h2 h3 h4=>exact ⟨_,w,by simp,Ext.refl w,.rp b o cells cv h1 h2 h3 h4⟩
 | nilCheckB x b o' =>
  simp[opl] at ha hX;rw[← ha] at hX
  exact ⟨_,w,by simp[hX.val_eq],Ext.refl w,.val _⟩
 | nilCheckF x f df dc =>
  simp[opl] at ha hX;rw[← ha] at hX
  dsimp only
  generalize a.eval x=X at *
  cases hX with
  | fn f' a b df dc e f g h=>exact ⟨_,w,by simp,Ext.refl w,.fn _ a b df dc e f g h⟩
 | add ty ty2 x y k p q c h=>simp[opl] at ha hX;rw[← ha.1,← ha.2] at hX;refine ⟨_,w,?_,Ext.refl w,.val _⟩;simp[hX.1.val_eq,hX.2.val_eq,eqGuard,binOp,Op.intArith,h]
 | sub ty ty2 x y k p q c h=>simp[opl] at ha hX;rw[← ha.1,← ha.2] at hX;refine ⟨_,w,?_,Ext.refl w,.val _⟩;simp[hX.1.val_eq,hX.2.val_eq,eqGuard,binOp,Op.intArith,h]
 | mul ty ty2 x y k p q c h=>simp[opl] at ha hX;rw[← ha.1,← ha.2] at hX;refine ⟨_,w,?_,Ext.refl w,.val _⟩;simp[hX.1.val_eq,hX.2.val_eq,eqGuard,binOp,Op.intArith,h]
 | quo ty ty2 x y k p q c h0 h=>simp[opl] at ha hX;rw[← ha.1,← ha.2] at hX;refine ⟨_,w,?_,Ext.refl w,.val _⟩;simp[hX.1.val_eq,hX.2.val_eq,eqGuard,binOp,Op.intDiv,h0,h]
 | rem ty ty2 x y k p q c h0 h=>simp[opl] at ha hX;rw[← ha.1,← ha.2] at hX;refine ⟨_,w,?_,Ext.refl w,.val _⟩;simp[hX.1.val_eq,hX.2.val_eq,eqGuard,binOp,Op.intDiv,h0,h]
 | bitand ty ty2 x y k p q=>simp[opl] at ha hX;rw[← ha.1,← ha.2] at hX;refine ⟨_,w,?_,Ext.refl w,.val _⟩;simp[hX.1.val_eq,hX.2.val_eq,eqGuard,binOp,intBits_and]
 | bitor ty ty2 x y k p q=>simp[opl] at ha hX;rw[← ha.1,← ha.2] at hX;refine ⟨_,w,?_,Ext.refl w,.val _⟩;simp[hX.1.val_eq,hX.2.val_eq,eqGuard,binOp,intBits_or]
 | bitxor ty ty2 x y k p q=>simp[opl] at ha hX;rw[← ha.1,← ha.2] at hX;refine ⟨_,w,?_,Ext.refl w,.val _⟩;simp[hX.1.val_eq,hX.2.val_eq,eqGuard,binOp,intBits_xor]
 | bitandNot ty ty2 x y k p q=>simp[opl] at ha hX;rw[← ha.1,← ha.2] at hX;refine ⟨_,w,?_,Ext.refl w,.val _⟩;simp[hX.1.val_eq,hX.2.val_eq,eqGuard,binOp,intBits_andNot]
 | shr ty ty2 x y k k2 p q h0 h1=>simp[opl] at ha hX;rw[← ha.1,← ha.2] at hX;refine ⟨_,w,?_,Ext.refl w,.val _⟩;simp[hX.1.val_eq,hX.2.val_eq,eqGuard,binOp,shift_shr _ _ _ _ h0 h1]
 | shl ty ty2 x y k k2 p q c h0 h1 h=>simp[opl] at ha hX;rw[← ha.1,← ha.2] at hX;refine ⟨_,w,?_,Ext.refl w,.val _⟩;simp[hX.1.val_eq,hX.2.val_eq,eqGuard,binOp,shift_shl _ _ _ _ h0 h1,h]
 | lss ty ty2 x y k p q=>simp[opl] at ha hX;rw[← ha.1,← ha.2] at hX;refine ⟨_,w,?_,Ext.refl w,.val _⟩;simp[hX.1.val_eq,hX.2.val_eq,eqGuard,binOp,Op.intCmp]
 | leq ty ty2 x y k p q=>simp[opl] at ha hX;rw[← ha.1,← ha.2] at hX;refine ⟨_,w,?_,Ext.refl w,.val _⟩;simp[hX.1.val_eq,hX.2.val_eq,eqGuard,binOp,Op.intCmp]
 | gtr ty ty2 x y k p q=>simp[opl] at ha hX;rw[← ha.1,← ha.2] at hX;refine ⟨_,w,?_,Ext.refl w,.val _⟩;simp[hX.1.val_eq,hX.2.val_eq,eqGuard,binOp,Op.intCmp]
 | geq ty ty2 x y k p q=>simp[opl] at ha hX;rw[← ha.1,← ha.2] at hX;refine ⟨_,w,?_,Ext.refl w,.val _⟩;simp[hX.1.val_eq,hX.2.val_eq,eqGuard,binOp,Op.intCmp]
 | eql ty ty2 x y k p q=>simp[opl] at ha hX;rw[← ha.1,← ha.2] at hX;refine ⟨_,w,?_,Ext.refl w,.val _⟩;simp[hX.1.val_eq,hX.2.val_eq,eqGuard,binOp,Op.intCmp]
 | neq ty ty2 x y k p q=>simp[opl] at ha hX;rw[← ha.1,← ha.2] at hX;refine ⟨_,w,?_,Ext.refl w,.val _⟩;simp[hX.1.val_eq,hX.2.val_eq,eqGuard,binOp,Op.intCmp]
 | @eqlB ty ty2 x y p q h=>simp[opl] at ha hX;rw[← ha.1,← ha.2] at hX;refine ⟨_,w,?_,Ext.refl w,.val _⟩;simp[hX.1.val_eq,hX.2.val_eq,eqGuard,binOp,qnz h.h]
 | @neqB ty ty2 x y p q h=>simp[opl] at ha hX;rw[← ha.1,← ha.2] at hX;refine ⟨_,w,?_,Ext.refl w,.val _⟩;simp[hX.1.val_eq,hX.2.val_eq,eqGuard,binOp,qnz h.h];cases p<;>cases q<;>rfl
 | not ty x p=>simp[opl] at ha hX;rw[← ha] at hX;refine ⟨_,w,?_,Ext.refl w,.val _⟩;simp[hX.val_eq,Op.unary]
 | neg ty x k p c h=>simp[opl] at ha hX;rw[← ha] at hX;simp at h;refine ⟨_,w,?_,Ext.refl w,.val _⟩;simp[hX.val_eq,Op.unary,Op.intArith,h]
 | compl ty x k p c h=>simp[opl] at ha hX;rw[← ha] at hX;refine ⟨_,w,?_,Ext.refl w,.val _⟩;simp[hX.val_eq,Op.unary,intBits_xor,← h]
 | @convert src dst x k k' p c hs hd h =>
  simp[opl] at ha hX;rw[← ha] at hX
  have hs:=hs.h;have hd:=hd.h
  refine ⟨_,w,?_,Ext.refl w,.val _⟩;simp[hX.val_eq,Go.convert,run_underlying hs,run_underlying hd,Conv.intToInt,h]
 | extract x i ds d h =>
  simp[opl] at ha hX;rw[← ha] at hX
  dsimp only
  generalize a.eval x=X at *
  cases hX with
  | tup vs _ hn h' =>
   have hl:=qbK h
   have:=h' i _ h
   rw[Array.getD_eq_getD_getElem?,Array.getElem?_eq_getElem (by omega)] at this
   refine ⟨vs[i]'(by omega),w,?_,Ext.refl w,this⟩
   simp[Instr.extract,Array.getElem?_eq_getElem (show i<vs.size by omega)]
 | makeFunc0 f caps =>
  refine ⟨_,w,by simp[Instr.makeFunc];rfl,Ext.refl w,?_⟩
  simp[opl] at ha hX;subst ha
  refine .fn f #[] _ [] _ rfl (by simp) (fun i d h=>by simp at h) fun i d hd=>?_
  rw[List.getElem?_map] at hd
  cases hc:caps[i]? with
  | none=>rw[hc] at hd;cases hd
  | some y =>
   rw[hc] at hd;injection hd with hd;subst hd
   rw[Array.getD_eq_getD_getElem?]
   simp[hc]
   exact hX y (List.mem_of_getElem? hc)
 | makeFunc1 f y caps d ds =>
  refine ⟨_,w,by simp[Instr.makeFunc];rfl,Ext.refl w,?_⟩
  simp[opl] at ha hX;obtain ⟨rfl,rfl⟩:=ha
  refine .fn f #[a.eval y] _ [evO t y] _ rfl (by simp) (fun i d h=>?_) fun i d hd=>?_
  ·match i,h with
   | 0,h=>injection h with h;subst h;exact hX.1
   | n+1,h=>simp at h
  ·rw[List.getElem?_map] at hd
   cases hc:caps[i]? with
   | none=>rw[hc] at hd;cases hd
   | some y =>
    rw[hc] at hd;injection hd with hd;subst hd
    rw[Array.getD_eq_getD_getElem?]
    simp[hc]
    exact hX.2 y (List.mem_of_getElem? hc)
 | @lenS ty x sz n rows e sz' bytes ag z i hn =>
  have hu:=i.h
  simp[opl] at ha hX;rw[← ha] at hX
  dsimp only
  generalize hx:a.eval x=X at *
  subst hn
  cases hX with
  | slnil A c _ hm=>refine ⟨_,w,by simp[resolve,invoke,builtin,hx,Builtin.len_,run_underlying hu,goInt],Ext.refl w,.val _⟩
  | sl b off m c _ _ cv hn hc hm h1 h2 h3 h4 h5=>refine ⟨_,w,by simp[resolve,invoke,builtin,hx,Builtin.len_,run_underlying hu,goInt];rfl,Ext.refl w,by rw[hn];exact .val _⟩
 | @lenV ty x A n c e sz' bytes ag z i =>
  have hu:=i.h
  simp[opl] at ha hX;rw[← ha] at hX
  refine ⟨_,w,by simp[resolve,invoke,builtin,hX.val_eq,Builtin.len_,run_underlying hu,goInt],Ext.refl w,.val _⟩
 | min2 tys x y k p q =>
  simp[opl] at ha hX;rw[← ha.1,← ha.2] at hX
  refine ⟨_,w,by simp[resolve,invoke,builtin,hX.1.val_eq,hX.2.val_eq,qx6],Ext.refl w,.val _⟩
 | max2 tys x y k p q =>
  simp[opl] at ha hX;rw[← ha.1,← ha.2] at hX
  refine ⟨_,w,by simp[resolve,invoke,builtin,hX.1.val_eq,hX.2.val_eq,qx7],Ext.refl w,.val _⟩
end
def PC(P:Program)(f:FuncId)(args:List AV)(r:AV):Prop :=
 Enters P f∧∀(w:World) (S:Nat→Prop) (vs:Array Value),Gl w→vs.size=args.length→(∀i d,args[i]?=some d→Enc w S (vs.getD i undef) d) →
  Calls P f vs w fun e w'=>Ext w w'∧∃u,e = .returned u∧Enc w' (fun b=>b<w.heap.size→S b) u r
section
variable {P:Program} {w0:Bs} {S:Nat→Prop} {F:Fence} {H:List HE} {t:List AV}
theorem qkF{w:World}{S:Nat→Prop}{a:Act}{xs:List Operand}(h:∀x,x∈xs→Enc w S (a.eval x) (evO t x)):∀i d,(xs.map (evO t))[i]?=some d→Enc w S ((xs.toArray.map a.eval).getD i undef) d:=by
 intro i d hd
 rw[List.getElem?_map] at hd
 cases hc:xs[i]? with
 | none=>rw[hc] at hd;cases hd
 | some y =>
  rw[hc] at hd;injection hd with hd;subst hd
  rw[Array.getD_eq_getD_getElem?]
  simp[hc]
  exact h y (List.mem_of_getElem? hc)
theorem qeW{w:World}{S:Nat→Prop}{us vs:Array Value}{ds es:List AV}(hn:us.size=ds.length)(h:∀i d,ds[i]?=some d→Enc w S (us.getD i undef) d)(h':∀i d,es[i]?=some d→Enc w S (vs.getD i undef) d) :
  ∀i d,(ds++es)[i]?=some d→Enc w S ((us++vs).getD i undef) d:=by
 intro i d hd
 rw[Array.getD_eq_getD_getElem?]
 rcases Nat.lt_or_ge i ds.length with hi | hi
 ·rw[List.getElem?_append_left hi] at hd
  rw[Array.getElem?_append_left (by omega),← Array.getD_eq_getD_getElem?]
  exact h i d hd
 ·rw[List.getElem?_append_right hi] at hd
  rw[Array.getElem?_append_right (by omega),hn,← Array.getD_eq_getD_getElem?]
  exact h' _ d hd
theorem AY.callG{o:Oper}{f:FuncId}{x:Operand}{args:List Operand}{tys:Array TypeId}{r:AV}(ho:o.op = .call ⟨.value x,args.toArray,tys⟩)
  (df dc:List AV) (hx:∀(w:World) (X:Value),Enc w (Al w0 S H) X (evO t x)→∃first caps:Array Value,X = .func (.func f) first caps∧first.size=df.length∧caps.size=dc.length∧(∀i d,df[i]?=some d→Enc w (Al w0 S H) (first.getD i undef) d)∧(∀i d,dc[i]?=some d→Enc w (Al w0 S H) (caps.getD i undef) d))
  (h:PC P f (df++args.map (evO t)++dc) r):AY P w0 S H o t r:=by
 intro a w hE hH hX F hF K Q hK
 rw[ho] at hX
 have hx':=hX x (by simp[Op.operands,Call.operands])
 have hargs:∀y,y∈args→Enc w (Al w0 S H) (a.eval y) (evO t y):=fun y hy=>hX y (by simp[Op.operands,Call.operands,hy])
 obtain ⟨first,caps,e1,e2,e3,e4,e5⟩:=hx w _ hx'
 have hen:=h.1
 have hc:=h.2 w (Al w0 S H) (first++args.toArray.map a.eval++caps) hE.gl (by simp[e2,e3]) (qeW (by simp[e2]) (qeW e2 e4 (qkF hargs)) e5)
 refine ⟨fun f _=>hF.fn f,?_⟩
 rw[Oper.semAt_eq F.round a.eval o (fun c h=>by rw[ho] at h;cases h)]
 unfold execOp
 rw[ho]
 have hr:(do let d ← resolve a.eval ⟨.value x,args.toArray,tys⟩ o.type;invoke d.target d.args:Sem Next).run P w = .ok (.enter f (first++args.toArray.map a.eval++caps)) w:=by
  simp only[resolve,e1,Deferred.ofValue,Sem.run_bind,Sem.run_pure,Result.andThen_ok,invoke]
  exact hen _ w
 simp only[hr,Oper.uponIn_enter]
 refine ⟨fun h=>(by rw[hF.depth] at h;cases h),(hF.calls hc).mono ?_⟩
 rintro e w' ⟨hw,u,rfl,hu⟩
 refine hK u w' hw (hu.mono fun b _ hb=>?_)
 rcases Nat.lt_or_ge b w.heap.size with hlt | hge
 ·exact hb hlt
 ·exact ⟨fun h=>absurd h (Nat.not_lt.2 (Nat.le_trans hE.size hge)),fun h=>by have:=hE.n _ h;omega,fun e he hb'=>by have:=(HE.ok_lt (hH e he) _ hb').2;omega⟩
theorem AY.call{o:Oper}{f:FuncId}{x:Operand}{args:List Operand}{tys:Array TypeId}{r:AV}(ho:o.op = .call ⟨.value x,args.toArray,tys⟩)(hx:evO t x = .val (.func (.func f) #[] #[]))
  (ds:List AV) (hd:args.map (evO t)=ds) (h:PC P f ds r):AY P w0 S H o t r:=by
 subst hd
 refine AY.callG ho [] [] (fun w X hX=>⟨#[],#[],by rw[hx] at hX;exact hX.val_eq,rfl,rfl,fun i d h=>by simp at h,fun i d h=>by simp at h⟩) (by simpa using h)
theorem AY.callF{o:Oper}{f:FuncId}{x:Operand}{args:List Operand}{tys:Array TypeId}{r:AV}(ho:o.op = .call ⟨.value x,args.toArray,tys⟩)(df dc:List AV)(hx:evO t x = .fn f df dc)
  (ds:List AV) (hd:df++args.map (evO t)++dc=ds) (h:PC P f ds r):AY P w0 S H o t r:=by
 subst hd
 refine AY.callG ho df dc (fun w X hX=>?_) h
 rw[hx] at hX
 cases hX with
 | fn _ a b _ _ e f g h=>exact ⟨a,b,rfl,e,f,g,h⟩
def Out(P:Program)(w0:Bs)(S:Nat→Prop)(H:List HE)(d r:AV):Prop:=(∀b,¬w0.M b)→∀(w:World) (u:Value),Ex w0 w→(∀e,e∈H→e.ok w w0 (Al w0 S H))→Enc w (Al w0 S H) u d→Enc w (fun b=>b<w0.w.heap.size→S b) u r
theorem Out.same(d:AV):Out P w0 S H d d:=fun _ _ _ _ _ hu=>hu.mono fun _ _ hb h=>(hb.1 h).1
theorem Out.any(d:AV):Out P w0 S H d .any:=fun _ _ u _ _ _=>.any u
theorem Out.nil(c sz:Nat)(A:Option Addr)(hc:c≤maxLen):Out P w0 S H (.val (.slice A 0 c)) (.sl sz []):=fun _ _ _ _ _ hu=>by rw[hu.val_eq];exact .slnil A c sz hc
theorem qwM{w:World}(h0:∀b,¬w0.M b)(hH:∀e,e∈H→e.ok w w0 (Al w0 S H)){e:HE}(he:e∈H):∀b,e.owns b→b<w0.w.heap.size→S b :=
 fun b hb hlt=>absurd hlt (Nat.not_lt.2 ((HE.ok_lt (hH e he) b hb).1.1.resolve_left (h0 b)))
theorem Out.blk(k b tt:Nat)(cs:List AV)(hH:H[k]?=some (.blk b tt cs)):Out P w0 S H (.val (.pointer (some ⟨b,0,none⟩))) (.rp cs):=by
 intro h0 w u hE hh hu
 rw[hu.val_eq]
 have hm:=List.mem_of_getElem? hH
 have hlo:=qwM h0 hh hm
 obtain ⟨h1,vs,h2,h3,h4⟩:=hh _ hm
 refine .rp b 0 cs (fun j=>vs.getD j undef) (hlo b rfl) h2.lt (fun j hj=>?_) fun j d hj=>(h4 j d hj).mono fun _ _ hb h=>(hb.1 h).1
 rw[Nat.zero_add,h2.cell,List.getD_eq_getElem?_getD,List.getElem?_eq_getElem (by omega)]
 rfl
def qhK(sz:Nat):Nat→List AV→List (List AV)
 | 0,_=>[]
 | n+1,cs=>cs.take sz::qhK sz n (cs.drop sz)
theorem qfD{sz:Nat}{rows:List (List AV)}(h:∀(i:Nat) (row:List AV),rows[i]?=some row→row.length=sz):∀(i j:Nat) (row:List AV) (d:AV),rows[i]?=some row→row[j]?=some d→rows.flatten[i*sz+j]?=some d:=by
 induction rows with
 | nil=>intro i j row d hi;simp at hi
 | cons r rows ih =>
  have hr:r.length=sz:=h 0 r rfl
  intro i j row d hi hj
  rw[List.flatten_cons]
  cases i with
  | zero =>
   injection hi with hi;subst hi
   have:=qbK hj
   rw[Nat.zero_mul,Nat.zero_add,List.getElem?_append_left (by omega)]
   exact hj
  | succ i =>
   rw[List.getElem?_append_right (by rw[hr,Nat.succ_mul];omega),hr,show (i+1)*sz+j-sz=i*sz+j by rw[Nat.succ_mul];omega]
   exact ih (fun i row hh=>h (i+1) row hh) i j row d hi hj
theorem qhR{sz:Nat}{rows:List (List AV)}(h:∀(i:Nat) (row:List AV),rows[i]?=some row→row.length=sz):rows.flatten.length=rows.length*sz:=by
 induction rows with
 | nil=>simp
 | cons r rows ih =>
  rw[List.flatten_cons,List.length_append,h 0 r rfl,ih (fun i row hh=>h (i+1) row hh),List.length_cons,Nat.succ_mul]
  omega
theorem qsw{w:World}{base:Bs}{e sz n:Nat}{v:Value}{cells:List AV}{S':Nat→Prop}{rows:List (List AV)}(h:HE.ok w base S (.own v e sz n cells))(hS:∀b,v.ownBlock=some b→S' b)(hS':∀b,b<w.heap.size→S b→S' b)
  (hr:rows.flatten=cells) (hsz:∀(i:Nat) (row:List AV),rows[i]?=some row→row.length=sz) (hn:rows.length=n):Enc w S' v (.sl sz rows):=by
 obtain ⟨_,xs,h1,h2,h3⟩:=h
 rcases h1.2 with ⟨rfl,rfl⟩ | ⟨g,cap,cur,rfl,hg,hh,hnc,hm,hs,ht⟩
 ·have:rows=[]:=List.eq_nil_of_length_eq_zero hn
  subst this
  exact .slnil none 0 sz (by unfold maxLen;omega)
 ·have hlt:g<w.heap.size:=(Array.getElem?_eq_some_iff.1 hh).1
  refine .sl g 0 n cap sz rows (fun j=>xs.getD j undef) hn hnc hm (hS g rfl) hlt hsz (fun j hj=>?_) fun i j row d hi hj=>?_
  ·have hx:j<xs.length:=by rw[h1.1];exact hj
   have hc:=h1.cells (g:=g) rfl j (xs[j]) (List.getElem?_eq_getElem hx)
   rw[qek] at hc
   rw[hc,List.getD_eq_getElem?_getD,List.getElem?_eq_getElem hx]
   rfl
  ·exact (h3 _ d (by rw[← hr];exact qfD hsz i j row d hi hj)).mono hS'
theorem Out.own(k:Nat)(v:Value)(e sz n:Nat)(cells:List AV)(rows:List (List AV))(hH:H[k]?=some (.own v e sz n cells))(hr:rows.flatten=cells)(hsz:∀(i:Nat) (row:List AV),rows[i]?=some row→row.length=sz)(hn:rows.length=n) :
  Out P w0 S H (.val v) (.sl sz rows):=by
 intro h0 w u hE hh hu
 rw[hu.val_eq]
 have hm:=List.mem_of_getElem? hH
 exact qsw (hh _ hm) (fun b hb=>qwM h0 hh hm b hb) (fun _ _ hb h=>(hb.1 h).1) hr hsz hn
theorem Out.agg{ds rs:List AV}(hn:ds.length=rs.length)(h:∀(i:Nat) (d r:AV),ds[i]?=some d→rs[i]?=some r→Out P w0 S H d r):Out P w0 S H (.agg ds) (.agg rs):=by
 intro h0 w u hE hh hu
 cases hu with
 | agg vs _ hs h' =>
  refine .agg vs rs (by omega) fun i r hi=>?_
  have:=qbK hi
  exact h i _ r (List.getElem?_eq_getElem (by omega)) hi h0 w _ hE hh (h' i _ (List.getElem?_eq_getElem (by omega)))
def RetA(P:Program)(w0:Bs)(S:Nat→Prop)(fn:Func)(r:AV)(t:List AV)(H:List HE):Prop :=
 (∀b,¬w0.M b)→∀a w,SRel w0 S t H a w→∃u,(results fn a.tmps).run P w = .ok u w∧Enc w (fun b=>b<w0.w.heap.size→S b) u r
def qsx(P:Program)(w0:Bs)(S:Nat→Prop)(fn:Func)(r:AV):qcB
 | .normal,t,H=>RetA P w0 S fn r t H
 | .ret,t,H=>RetA P w0 S fn r t H
 | _,_,_=>False
theorem RetA.one{fn:Func}{r d:AV}{i:Nat}(h:fn.results = #[.tmp i])(hd:AV.get t i=d)(ho:Out P w0 S H d r):RetA P w0 S fn r t H:=fun h0 a w hr =>
 ⟨_,results_tmp h a.tmps P w,ho h0 w _ hr.ext hr.hs (by rw[← hd];exact hr.tm i)⟩
theorem qAu{fn:Func}{r d:AV}{i:Nat}(h:fn.results = #[.tmp i])(hd:AV.get t i=d)(ho:Out P w0 S H d r):qsx P w0 S fn r .ret t H:=RetA.one h hd ho
theorem Out.bool{a b:Bool}(h:a=b):Out P w0 S H (.val (.bool a)) (.val (.bool b)):=h ▸ Out.same _
theorem Out.int{k:IntKind}{a b:Int}(h:a=b):Out P w0 S H (.val (.int k a)) (.val (.int k b)):=h ▸ Out.same _
theorem qx8{b:Nat}{w:World}(h:w.heap[b]?=some (Obj.deferred (some []))):∃o',(Instr.takeDeferred b).run P w = .ok [] (w.putObj b o')∧o'.isCells=false:=by
 exact ⟨.deferred none,run_takeDeferred h,rfl⟩
theorem qhS{w:World}{b:Nat}{o o':Obj}(ho:w.heap[b]?=some o)(hc:o.isCells=false){p:Addr}{u:Value}(hp:w.cell? p=some u):(w.putObj b o').cell? p=some u:=by
 have hne:p.block≠b:=fun e=>by
  unfold World.cell? at hp
  rw[e,ho] at hp
  cases o<;>simp_all[Obj.isCells]
 exact (World.cell?_of_block (w:=w) (World.putObj_heap_other hne)).trans hp
theorem SRel.take{a:Act}{w:World}{b:Nat}{ds:List Deferred}(hr:SRel w0 S t H a w)(hd:a.defers=mark b::ds)(o':Obj) :
  w.heap[b]?=some (Obj.deferred (some []))∧SRel w0 S t H {a with defers:=ds} (w.putObj b o'):=by
 have hb:mark b∈a.defers:=by rw[hd];exact List.mem_cons_self ..
 obtain ⟨hb1,hb3⟩:=hr.mks b hb
 obtain ⟨bs,h1,h2,h3⟩:=hr.df
 rw[hd] at h1
 cases bs with
 | nil=>cases h1
 | cons b' bs =>
  simp only[List.map_cons,List.cons.injEq,Deferred.mk.injEq,Target.collected.injEq,and_true] at h1
  obtain ⟨rfl,h1⟩:=h1
  have hm:=h3 b (List.mem_cons_self ..)
  have hlt:=(Array.getElem?_eq_some_iff.1 hm).1
  have hk:Kp (fun k=>some b=some k) w (w.putObj b o'):=Kp.grown (grownBy_putObj' w b o')
  have hsub:∀c,mark c∈ds→mark c∈a.defers:=fun c hc=>by rw[hd];exact List.mem_cons_of_mem _ hc
  refine ⟨hm,hr.ext.next hk (fun k e hlt'=>by injection e with e;subst e;exact hb1.1.resolve_right (Nat.not_le.2 hlt')),⟨bs,h1,(List.nodup_cons.1 h2).2,fun c hc=>(World.putObj_heap_other (fun e=>(List.nodup_cons.1 h2).1 (by rw[← e];exact hc))).trans (h3 c (List.mem_cons_of_mem _ hc))⟩,(fun c hc=>hr.mks c (hsub c hc)),hr.sz,
   fun i=>(hr.tm i).keepC (by simp) fun _ _ _ _ _ hu=>qhS hm rfl hu,hr.ap,fun e he=>?_,(fun X J hJ=>?_),fun hm=>(by rw[hr.nd hm] at hd;cases hd)⟩
  ·exact HE.ok_moveC (hr.hs e he) (by simp) (fun c hS _=>⟨fun _ _ hu=>qhS hm rfl hu,hS⟩) (fun c hc _=>World.putObj_heap_other fun e'=>hb3 e he (e' ▸ hc)) fun _ _ h=>h
  ·refine (hr.hs _ hJ).2 _ _ X _ _ (hr.gh X J hJ) (hk.mono fun x hx _=>.inr (.inr (by injection hx with hx;subst hx;exact hb))) fun c hc=>?_
   rcases hc with hc | hc | hc
   ·exact ⟨by simpa using hr.ext.n c hc,.inl (.inl hc)⟩
   ·exact ⟨by simpa using hr.dn_lt (.inl hc),.inl (.inr (.inl hc))⟩
   ·exact ⟨by simpa using hr.mark_lt (hsub c hc),.inl (.inr (.inr (hsub c hc)))⟩
theorem qj7{fn:Func}{R:Ending→World→Prop}(hret:∀a' w',a'.defers=[]→SRel w0 S t H a' w'→∃u,(results fn a'.tmps).run P w' = .ok u w'∧R (.returned u) w') :
  ∀(ds:List Deferred) (a:Act) (w:World),a.defers=ds→SRel w0 S t H a w→LeavesInM Fence.wide 0 P fn a.tmps R ds .returning w
 | [],a,w,hd,hr=>by
  obtain ⟨u,h1,h2⟩:=hret a w hd hr
  exact ⟨u,h1,h2⟩
 | d::ds,a,w,hd,hr=>by
  obtain ⟨b,rfl,_⟩:=hr.df.mem (d:=d) (by rw[hd];exact List.mem_cons_self ..)
  have hm:=(hr.take hd (.deferred none)).1
  obtain ⟨o',h1,_⟩:=qx8 (P:=P) hm
  have h2:=(hr.take hd o').2
  exact ⟨by simp,.inl ⟨b,_,rfl,h1,qj7 hret ds {a with defers:=ds} _ rfl h2⟩⟩
theorem qt1{w:World}{S:Nat→Prop}{vs:Array Value}{args:List AV}(m:Nat)(hn:vs.size=args.length)(h:∀i d,args[i]?=some d→Enc w S (vs.getD i undef) d):∀i,Enc w S ((vs++Array.replicate m undef).getD i undef) (AV.get (args++List.replicate m .undef) i):=by
 intro i
 rw[AV.get_eq]
 rcases Nat.lt_or_ge i args.length with hi | hi
 ·rw[List.getElem?_append_left hi,List.getElem?_eq_getElem hi,Option.getD_some,Array.getD_eq_getD_getElem?,Array.getElem?_append_left (by omega),← Array.getD_eq_getD_getElem?]
  exact h i _ (List.getElem?_eq_getElem hi)
 ·rw[List.getElem?_append_right hi,Array.getD_eq_getD_getElem?,Array.getElem?_append_right (by omega),hn]
  rcases Nat.lt_or_ge (i-args.length) m with hj | hj
  ·simp[hj];exact .val _
  ·rw[List.getElem?_eq_none (by simp;omega)];exact .any _
def qtP(w:World):Bs:=⟨w,fun _=>False,fun _=>False⟩
theorem Ex.pure{w w':World}(h:Ex (qtP w) w'):Ext w w':=h.kp.toExt fun _ _ h=>h
theorem PC.of{f:FuncId}{fn:Func}{c:Code}{args:List AV}{r:AV}(hf:P.funcs[f]?=some fn)(hname:(fn.name == "runtime.NumGoroutine")=false)(hb:fn.body=some c)
  (h:∀w0 S,(∀b,¬w0.M b)→Awp P w0 S Fence.wide c (qsx P w0 S fn r) (args++List.replicate (fn.ntmps-args.length) .undef) []):PC P f args r:=by
 refine ⟨enters_of hf hname hb,fun w S vs hG hn henc=>(callsIn_wide (n:=0)).1 (callsIn_of_wp_marks hf hb trivial ?_)⟩
 have hE:Ex (qtP w) w:=⟨Kp.refl _ w,fun _ h=>h.elim,hG.gx (fun _ _ h=>h) fun _ _ h=>h⟩
 refine wpIn_mono (h (qtP w) S (fun _ h=>h) _ w ⟨hE,Marks.nil w,(fun b hb=>by cases hb),by simp[hn],(by rw[hn];exact qt1 _ hn fun i d hi=>(henc i d hi).mono fun b _ hb=>⟨fun _=>⟨hb,id⟩,id,fun e he=>by cases he⟩),.nil,(fun e he=>by cases he),(fun X J h=>by cases h),fun h=>by cases h⟩) ?_
 rintro e a' w' ⟨t',H',hr,hq⟩
 have key:RetA P (qtP w) S fn r t' H'→LeavesInM Fence.wide 0 P fn a'.tmps (fun e w'=>Ext w w'∧∃u,e = .returned u∧Enc w' (fun b=>b<w.heap.size→S b) u r) a'.defers .returning w':=fun hq =>
  qj7 (fun a' w' _ hr=>by obtain ⟨u,h1,h2⟩:=hq (fun _ h=>h) a' w' hr;exact ⟨u,h1,hr.ext.pure,u,rfl,h2⟩) a'.defers a' w' rfl hr
 cases e with
 | normal=>exact key hq
 | ret=>exact key hq
 | exit id=>exact hq.elim
 | goto l=>exact hq.elim
 | panic c=>exact hq.elim
 | outgrown=>exact hq.elim
theorem PC.of'{f:FuncId}{fn:Func}{c:Code}{args t:List AV}{r:AV}(hf:P.funcs[f]?=some fn)(hname:(fn.name == "runtime.NumGoroutine")=false)(hb:fn.body=some c)(ht:args++List.replicate (fn.ntmps-args.length) .undef=t)
  (h:∀w0 S,(∀b,¬w0.M b)→Awp P w0 S Fence.wide c (qsx P w0 S fn r) t []):PC P f args r:=PC.of hf hname hb (by rw[ht];exact h)
variable {Q:qcB} {K:List AV→List HE→Prop}
theorem qbo(h:K t H):Exit.thenA K Q .normal t H:=h
theorem qbL{id:Nat}(h:Q (.exit id) t H):Exit.thenA K Q (.exit id) t H:=h
theorem qbM(h:Q .ret t H):Exit.thenA K Q .ret t H:=h
theorem qB{id:Nat}(h:Q .normal t H):Exit.inBlockA id Q .normal t H:=h
theorem qC{id:Nat}(h:Q .ret t H):Exit.inBlockA id Q .ret t H:=h
theorem qD{id:Nat}(h:Q .normal t H):Exit.inBlockA id Q (.exit id) t H:=by simpa[Exit.inBlockA] using h
theorem qE{id id':Nat}(hd:(id'==id)=false)(h:Q (.exit id') t H):Exit.inBlockA id Q (.exit id') t H:=by
 have:id'≠id:=by simpa using hd
 simpa[Exit.inBlockA,this] using h
theorem Awp.slots{c:Code}{t t':List AV}(ht:t=t')(h:Awp P w0 S F c Q t' H):Awp P w0 S F c Q t H:=by rw[ht];exact h
theorem Awp.condT{c:Operand}{x y:Code}(hc:evO t c = .val (.bool true))(h:Awp P w0 S F x Q t H):Awp P w0 S F (.cond c x y) Q t H:=Awp.cond true hc (fun _=>h) (fun e=>by cases e)
theorem Awp.condF{c:Operand}{x y:Code}(hc:evO t c = .val (.bool false))(h:Awp P w0 S F y Q t H):Awp P w0 S F (.cond c x y) Q t H:=Awp.cond false hc (fun e=>by cases e) (fun _=>h)
def qnA(ops:Array Oper)(o:Oper):Option Tmp:=match o.guard with
 | some (g,_)=>(ops[g]?).bind (·.dst)
 | none=>none
theorem AD.splitG{ops:Array Oper}{o:Oper}{l:List Oper}{K:List AV→Prop}{d:Nat}{b:Bool}(_hg:qnA ops o=some d)(hd:AV.get t d = .val (.bool b))(ht:b=true→AD P w0 S H ops K (o::l) (AV.put t d (.val (.bool true))))(hf:b=false→AD P w0 S H ops K (o::l) (AV.put t d (.val (.bool false)))):AD P w0 S H ops K (o::l) t:=AD.split d b hd ht hf
theorem qAY{a b:Int}(h:0≤a)(h':1≤b)(h'':a≤9223372036854775807):IntKind.i64.wrap (a.tdiv b)=a/b:=by
 rw[Int.tdiv_eq_ediv_of_nonneg h]
 refine IntWalk.i64_in _ ⟨?_,?_⟩
 ·have:=Int.ediv_nonneg h (by omega:(0:Int)≤b);omega
 ·have:=Int.ediv_le_self b h;omega
theorem qv{a b:Int}(h:0≤a):a.tmod b=a % b:=Int.tmod_eq_emod_of_nonneg h
theorem qzv{n:Int}(h:-9223372036854775808≤n)(h':n≤9223372036854775807):IntKind.i64.wrap n=n:=IntWalk.i64_in n ⟨h,h'⟩
end
def AV.one:AV→Bool
 | .val v=>v.oneCell'
 | .sl _ _=>true
 | .rp _=>true
 | .fn _ _ _=>true
 | _=>false
theorem Enc.one{w:World}{S:Nat→Prop}{v:Value}{d:AV}(h:Enc w S v d)(hd:d.one=true):v.oneCell'=true:=by
 cases h with
 | val v=>exact hd
 | any v=>cases hd
 | agg vs ds hn h=>cases hd
 | tup vs ds hn h=>cases hd
 | slnil A c sz hm=>rfl
 | sl b off n c sz rows cv hn h1 h2 h3 h4 h5 h6 h7=>rfl
 | rp b off cells cv h1 h2 h3 h4=>rfl
 | fn f a b c d e f' g h=>rfl
def qk{α:Type}(l:List α)(o:Nat)(us:List α):List α:=l.take o++(us++l.drop (o+us.length))
theorem qA{α:Type}{l us:List α}{o:Nat}(h:o+us.length≤l.length):(qk l o us).length=l.length:=by simp[qk];omega
theorem qe1{α:Type}{l us:List α}{o:Nat}(h:o+us.length≤l.length)(i:Nat):(qk l o us)[i]?=if o≤i∧i<o+us.length then us[i-o]? else l[i]?:=by
 unfold qk
 have hl:(l.take o).length=o:=by simp;omega
 rcases Nat.lt_or_ge i o with h1 | h1
 ·rw[List.getElem?_append_left (by omega),if_neg (by omega),List.getElem?_take,if_pos h1]
 ·rw[List.getElem?_append_right (by omega),hl]
  rcases Nat.lt_or_ge i (o+us.length) with h2 | h2
  ·rw[List.getElem?_append_left (by omega),if_pos ⟨h1,h2⟩]
  ·rw[List.getElem?_append_right (by omega),if_neg (by omega),List.getElem?_drop]
   congr 1
   omega
theorem qrG{α:Type}(l:List α)(o:Nat):qk l o []=l:=by simp[qk]
theorem qqT{α:Type}{l us:List α}{o:Nat}{u:α}(h:o+(us.length+1)≤l.length):qk (l.set o u) (o+1) us=qk l o (u::us):=by
 apply List.ext_getElem?
 intro i
 rw[qe1 (by simp;omega),qe1 (by simpa using h)]
 rcases Nat.lt_trichotomy i o with h1 | h1 | h1
 ·rw[if_neg (by omega),if_neg (by omega),List.getElem?_set_ne (by omega)]
 ·subst h1
  rw[if_neg (by omega),if_pos ⟨Nat.le_refl _,by simp⟩,List.getElem?_set_self (by omega),Nat.sub_self]
  rfl
 ·by_cases h2:i<o+1+us.length
  ·rw[if_pos ⟨by omega,h2⟩,if_pos ⟨by omega,by simp;omega⟩,show i-o=(i-(o+1))+1 by omega]
   rfl
  ·rw[if_neg (by omega),if_neg (by simp;omega),List.getElem?_set_ne (by omega)]
section
variable {P:Program} {w0:Bs} {S:Nat→Prop} {F:Fence} {H:List HE} {t:List AV} {Q:qcB}
theorem qd4(b tt off:Nat):∀(us:List Value) (i:Nat) (w:World) (vs:List Value),Blk w b tt vs→off+i+us.length≤vs.length→(∀u,u∈us→u.oneCell'=true) →
  ∃w',(storeCells ⟨b,off,none⟩ us i).run P w = .ok () w'∧Blk w' b tt (qk vs (off+i) us)∧w.grownBy w' (some b)
 | [],i,w,vs,hb,hl,h1=>⟨w,rfl,by rw[qrG];exact hb,World.grownBy.refl w _⟩
 | u::us,i,w,vs,hb,hl,h1=>by
  have hb':=hb.set_ (off+i) u
  obtain ⟨w',h2,h3,h4⟩:=qd4 b tt off us (i+1) (w.setCell ⟨b,off+i,none⟩ u) (vs.set (off+i) u) hb' (by simp at hl ⊢;omega) (fun x hx=>h1 x (List.mem_cons_of_mem _ hx))
  simp only[List.length_cons] at hl
  refine ⟨w',?_,?_,(qtL w ⟨b,off+i,none⟩ u).trans h4⟩
  ·have hc:w.cell? ⟨b,off+i,none⟩=some (vs[off+i]'(by omega)):=by rw[hb.cell,List.getElem?_eq_getElem]
   have hf:=hb.frozen (off+i)
   have hs:(store ⟨b,off+i,none⟩ u).run P w = .ok () (w.setCell ⟨b,off+i,none⟩ u):=by
    rw[run_store P w _ u _ (h1 u (List.mem_cons_self ..)),hc]
    simp[hf]
   rw[storeCells]
   simp only[Sem.run_bind,qek,hs,Result.andThen_ok]
   exact h2
  ·rw[← qqT (by omega),Nat.add_assoc off i 1]
   exact h3
theorem AL.mstep(hF:Wf F){ops:Array Oper}{o:Oper}{l:List Oper}(hg:o.guard=none)
  (h:∀a w,SRel w0 S t H a w→∃n w',(execOp a.eval o).run P w = .ok n w'∧(match n with | .value u=>∃v H',SRel w0 S (AV.putO t o.dst v) H' (a.put o.dst u) w'∧AL P w0 S F ops Q l (AV.putO t o.dst v) H' | .skip=>∃H',SRel w0 S (AV.putO t o.dst .undef) H' (a.put o.dst undef) w'∧AL P w0 S F ops Q l (AV.putO t o.dst .undef) H' | _=>False)):AL P w0 S F ops Q (o::l) t H:=by
 intro a w hr
 obtain ⟨n,w',h1,h2⟩:=h a w hr
 refine wpListIn_plain hg fun K hK=>⟨fun f _=>hF.fn f,?_⟩
 rw[Oper.semAt_eq F.round a.eval o (qof h1 (by cases n<;>first | trivial | exact h2)),h1]
 cases n<;>simp only at h2
 case value u =>
  obtain ⟨v,H',h3,h4⟩:=h2
  exact hK _ _ (h4 _ _ h3)
 case skip =>
  obtain ⟨H',h3,h4⟩:=h2
  exact hK _ _ (h4 _ _ h3)
theorem SRel.newE{a:Act}{w w':World}(h:SRel w0 S t H a w)(e:HE)(he:Ext w w')(hp:e.proper)(hw:∀b,e.owns b→w.heap.size≤b)
  (hok:(∀b,b<w.heap.size→Al w0 S H b→Al w0 S (e::H) b)→e.ok w' w0 (Al w0 S (e::H))):SRel w0 S t (e::H) a w':=by
 have hsub:∀b,b<w.heap.size→Al w0 S H b→Al w0 S (e::H) b:=fun b hb hA=>⟨hA.1,hA.2.1,fun x hm hb'=>by
  cases hm with
  | head=>have:=hw b hb';omega
  | tail _ hm=>exact hA.2.2 x hm hb'⟩
 refine h.next (D:=fun _=>False) a.tmps (Kp.ext he) (fun _ h=>h.elim) h.sz (fun i=>((h.tm i).mono hsub).ext he) (.cons (fun x hm b hb hb'=>?_) h.ap) (fun x hm=>?_) (fun x hm b hb=>?_) (fun x hm hq b hb=>?_) fun x hm hq=>?_
 ·have:=hw b hb
  have:=(HE.ok_lt (h.hs x hm) b hb').2
  omega
 ·cases hm with
  | head=>exact hok hsub
  | tail _ hm=>exact HE.ok_move (h.hs x hm) he.size (fun b hS hb=>⟨he.block b hb,hsub b hb hS⟩) (fun b hb _=>he.block b (HE.ok_lt (h.hs x hm) b hb).2) fun _ _ h=>h
 ·cases hm with
  | head=>exact .inr (hw b hb)
  | tail _ hm=>exact .inl ⟨x,hm,hb⟩
 ·cases hm with
  | head=>exact .inr (hw b hb)
  | tail _ hm=>exact .inl ⟨x,hm,hq,hb⟩
 ·cases hm with
  | head=>exact (hq hp).elim
  | tail _ hm=>exact hm
theorem qk9{w:World}(hE:Ex w0 w):Go.Proofs.YtfnflenkeljkiaaGreat.own w0 w.heap.size:=⟨.inr hE.size,fun h=>Nat.lt_irrefl _ (hE.n _ h)⟩
theorem SRel.new{a:Act}{w:World}(h:SRel w0 S t H a w)(vs:List Value)(ds:List AV)(ty:TypeId)(hn:vs.length=ds.length)(hv:∀i d,ds[i]?=some d→Enc w (Al w0 S H) (vs.getD i undef) d) :
  SRel w0 S t (.blk w.heap.size ty ds::H) a (w.alloc (.cells vs.toArray ty)):=by
 have he:Ext w (w.alloc (.cells vs.toArray ty)):=(Ext.refl w).alloc _
 exact h.newE _ he trivial (fun b hb=>Nat.le_of_eq hb) fun hsub=>⟨qk9 h.ext,vs,Blk.new w ty vs rfl,hn,fun i d hi=>((hv i d hi).mono hsub).ext he⟩
theorem SRel.drop{a:Act}{w:World}{e:HE}(h:SRel w0 S t (e::H) a w):SRel w0 S t H a w:=by
 have hsub:∀b,b<w.heap.size→Al w0 S (e::H) b→Al w0 S H b:=fun b _ hA=>⟨hA.1,hA.2.1,fun x hx=>hA.2.2 x (List.mem_cons_of_mem _ hx)⟩
 exact h.next (D:=fun _=>False) a.tmps (Kp.refl _ w) (fun _ h=>h.elim) h.sz (fun i=>(h.tm i).mono hsub) (List.pairwise_cons.1 h.ap).2 (fun x hx=>HE.ok_mono (h.hs x (List.mem_cons_of_mem _ hx)) hsub)
  (fun x hx b hb=>.inl ⟨x,List.mem_cons_of_mem _ hx,hb⟩) (fun x hx hp b hb=>.inl ⟨x,List.mem_cons_of_mem _ hx,hp,hb⟩) fun x hm _=>List.mem_cons_of_mem _ hm
theorem SRel.put_id{a:Act}{w:World}(h:SRel w0 S t H a w)(d:Nat){v:AV}(hv:Enc w (Al w0 S H) (a.tmps.getD d undef) v):SRel w0 S (AV.put t d v) H a w:=by
 refine ⟨h.ext,h.df,h.mks,by rw[AV.put_length];exact h.sz,fun i=>?_,h.ap,h.hs,h.gh,h.nd⟩
 by_cases hid:d=i
 ·subst hid
  rcases AV.get_put_same t d v with e | e
  ·rw[e];exact hv
  ·rw[AV.get_eq,AV.put_eq,List.getElem?_eq_none (by rw[List.length_set];exact e)]
   exact .any _
 ·rw[AV.get_put_ne t v hid];exact h.tm i
theorem qkG{w:World}{S:Nat→Prop}(vs:List Value):∀i d,(vs.map AV.val)[i]?=some d→Enc w S (vs.getD i undef) d:=fun i d h=>by
 rw[List.getElem?_map] at h
 cases hv:vs[i]? with
 | none=>rw[hv] at h;cases h
 | some u =>
  rw[hv] at h;injection h with h;subst h
  rw[List.getD_eq_getElem?_getD,hv]
  exact .val _
theorem AL.alloc(hF:Wf F){ops:Array Oper}{o:Oper}{l:List Oper}{ty sz d:Nat}{ag:Bool}{z:Value}{zs:List AV}[i:TyAt P ty sz ag z](hg:o.guard=none)(ho:o.op = .alloc ty)(hd:o.dst=some d)(hz:z.cells.toList.map AV.val=zs)
  (h:∀b,AL P w0 S F ops Q l (AV.put t d (.val (.pointer (some ⟨b,0,none⟩)))) (.blk b ty zs::H)):AL P w0 S F ops Q (o::l) t H:=by
 refine AL.mstep hF hg fun a w hr=>?_
 subst hz
 refine ⟨.value (.pointer (some ⟨w.heap.size,0,none⟩)),w.alloc (.cells z.cells.toList.toArray ty),?_,.val (.pointer (some ⟨w.heap.size,0,none⟩)),.blk w.heap.size ty (z.cells.toList.map AV.val)::H,?_,?_⟩
 ·unfold execOp
  rw[ho]
  have:=i.zero w
  simp only[Instr.alloc,Sem.run_bind,this,Result.andThen_ok]
  rfl
 ·exact (hr.new z.cells.toList _ ty (by simp) (qkG _)).put o.dst (.val _)
 ·rw[hd];exact h w.heap.size
theorem SRel.stored{a:Act}{w w':World}(hr:SRel w0 S t H a w)(k b tt:Nat)(cs cs':List AV)(vs':List Value)(hH:H[k]?=some (.blk b tt cs))(hb:Blk w' b tt vs')(hg:w.grownBy w' (some b))(hn:vs'.length=cs'.length)
  (hv:∀i d,cs'[i]?=some d→Enc w (Al w0 S H) (vs'.getD i undef) d):SRel w0 S t (H.set k (.blk b tt cs')) a w' :=
 hr.turn k _ (.blk b tt cs') hH trivial ((Kp.grown hg).mono fun x hx _=>by injection hx) trivial (fun c hc=>.inl hc) fun hmv =>
  ⟨(HE.ok_lt (hr.hs _ (List.mem_of_getElem? hH)) b rfl).1,vs',hb,hn,fun j d hj=>(hv j d hj).move hg.size fun c hc hlt=>hmv c hc hlt⟩
theorem qhT{w:World}{S:Nat→Prop}{vs us:List Value}{cs ds:List AV}{off:Nat}(hn:vs.length=cs.length)(hm:us.length=ds.length)(hl:off+ds.length≤cs.length)(h1:∀i d,cs[i]?=some d→Enc w S (vs.getD i undef) d)(h2:∀i d,ds[i]?=some d→Enc w S (us.getD i undef) d) :
  ∀i d,(qk cs off ds)[i]?=some d→Enc w S ((qk vs off us).getD i undef) d:=by
 intro i d hi
 rw[qe1 hl] at hi
 rw[List.getD_eq_getElem?_getD,qe1 (by omega),hm]
 split at hi
 ·rename_i h;rw[if_pos h,← List.getD_eq_getElem?_getD];exact h2 _ d hi
 ·rename_i h;rw[if_neg h,← List.getD_eq_getElem?_getD];exact h1 _ d hi
theorem AL.store(hF:Wf F){ops:Array Oper}{o:Oper}{l:List Oper}{ty sz:Nat}{ag:Bool}{z:Value}{x y:Operand}{k b tt off:Nat}{cs ds cs':List AV}{v:AV}[i:TyAt P ty sz ag z](hg:o.guard=none)(ho:o.op = .store ty x y)(hd:o.dst=none)(hx:evO t x = .val (.pointer (some ⟨b,off,none⟩)))(hy:evO t y=v)
  (hH:H[k]?=some (.blk b tt cs)) (hc:qb3 v=some ds) (hs:ds.length=sz) (h1:ds.all AV.one=true) (hl:off+ds.length≤cs.length) (hcs:qk cs off ds=cs')
  (h:AL P w0 S F ops Q l t (H.set k (.blk b tt cs'))):AL P w0 S F ops Q (o::l) t H:=by
 refine AL.mstep hF hg fun a w hr=>?_
 have he:=hr.ev y
 rw[hy] at he
 obtain ⟨h2,h3⟩:=qjD he hc
 obtain ⟨h4,vs,h5,h6,h7⟩:=hr.hs _ (List.mem_of_getElem? hH)
 have hone:∀u,u∈(a.eval y).cells.toList→u.oneCell'=true:=fun u hu=>by
  obtain ⟨j,hj,rfl⟩:=List.mem_iff_getElem.1 hu
  have hj':j<ds.length:=by simp at hj;omega
  have:=(h3 j _ (List.getElem?_eq_getElem hj')).one (List.all_eq_true.1 h1 _ (List.getElem_mem hj'))
  rwa [Array.getD_eq_getD_getElem?,Array.getElem?_eq_getElem (by simpa using hj)] at this
 obtain ⟨w',h8,h9,h10⟩:=qd4 (P:=P) b tt off (a.eval y).cells.toList 0 w vs h5 (by simp;omega) hone
 refine ⟨.skip,w',?_,H.set k (.blk b tt cs'),?_,?_⟩
 ·unfold execOp
  rw[ho]
  have hsz:=i.size w
  have hq:(a.eval y).cells.size=sz:=by omega
  simp only[Instr.storeAt,hr.ev_val hx,Instr.sureAddr,storeVar,Sem.run_bind,Sem.run_pure,Result.andThen_ok,hsz,hq,ne_eq,not_true_eq_false,if_false,h8]
 ·rw[hd]
  refine hr.stored k b tt cs cs' (qk vs off (a.eval y).cells.toList) hH (by simpa using h9) h10 ?_ ?_
  ·rw[← hcs,qA (by simp;omega),qA hl,h6]
  ·rw[← hcs]
   refine qhT h6 (by simpa using h2) hl h7 fun j d hj=>?_
   have:=h3 j d hj
   rw[Array.getD_eq_getD_getElem?] at this
   rw[List.getD_eq_getElem?_getD,Array.getElem?_toList]
   exact this
 ·rw[hd];exact h
end
theorem qpr(off:Nat):∀(us:List Value) (k:Nat) (cells:Array Value),off+k+us.length≤cells.size →
  ((us.zipIdx k).foldl (fun cs (p:Value×Nat)=>cs.setIfInBounds (off+p.2) p.1) cells).toList=qk cells.toList (off+k) us
 | [],k,cells,h=>by simp[qrG]
 | u::us,k,cells,h=>by
  simp only[List.length_cons] at h
  rw[List.zipIdx_cons,List.foldl_cons,qpr off us (k+1) _ (by simp;omega),← qqT (by simp;omega),Array.toList_setIfInBounds]
  congr 1
def qeB:List (Nat×Nat×AV)→List AV→Option (List AV)
 | [],cells=>some cells
 | (off,sz,d)::rest,cells=>match qb3 d with
  | some cs=>if cs.length=sz∧off+sz≤cells.length then qeB rest (qk cells off cs) else none
  | none=>none
theorem qog{w:World}{S:Nat→Prop}{place:Nat→Option (Nat×Nat)}:∀(ps:List (Nat×Value)) (ts:List (Nat×Nat×AV)) (cells:Array Value) (ds ds':List AV),ps.length=ts.length →
  (∀(i:Nat) (p:Nat×Value) (q:Nat×Nat×AV),ps[i]?=some p→ts[i]?=some q→place p.1=some (q.1,q.2.1)∧Enc w S p.2 q.2.2)→cells.size=ds.length→(∀i d,ds[i]?=some d→Enc w S (cells.getD i undef) d)→qeB ts ds=some ds' →
  ∃cells',Instr.fill place cells ps=some cells'∧cells'.size=ds'.length∧∀i d,ds'[i]?=some d→Enc w S (cells'.getD i undef) d
 | [],[],cells,ds,ds',_,_,hn,hd,hf=>⟨cells,rfl,by injection hf with hf;rw[← hf];exact hn,by injection hf with hf;rw[← hf];exact hd⟩
 | [],_::_,_,_,_,h,_,_,_,_=>by cases h
 | _::_,[],_,_,_,h,_,_,_,_=>by cases h
 | (i,v)::ps,(off,sz,d)::ts,cells,ds,ds',hl,hp,hn,hd,hf=>by
  obtain ⟨h1,h2⟩:=hp 0 (i,v) (off,sz,d) rfl rfl
  simp only at h1 h2
  unfold qeB at hf
  split at hf
  ·rename_i cs hcs
   split at hf
   ·rename_i hsz
    obtain ⟨h3,h4⟩:=qjD h2 hcs
    have hsp:(v.cells.zipIdx.foldl (fun cs (p:Value×Nat)=>cs.setIfInBounds (off+p.2) p.1) cells).toList=qk cells.toList off v.cells.toList:=by
     have:=qpr off v.cells.toList 0 cells (by simp;omega)
     rw[Nat.add_zero] at this
     rw[← this,← Array.foldl_toList,Array.toList_zipIdx]
    have hsz2:(v.cells.zipIdx.foldl (fun cs (p:Value×Nat)=>cs.setIfInBounds (off+p.2) p.1) cells).size=(qk ds off cs).length:=by
     rw[← Array.length_toList,hsp,qA (by simp;omega),qA (by omega),Array.length_toList,hn]
    obtain ⟨cells',h5,h6,h7⟩:=qog ps ts (v.cells.zipIdx.foldl (fun cs (p:Value×Nat)=>cs.setIfInBounds (off+p.2) p.1) cells) (qk ds off cs) ds' (by simpa using hl) (fun j p q hj hq=>hp (j+1) p q (by simpa using hj) (by simpa using hq)) hsz2 (fun j x hj=>by
     rw[Array.getD_eq_getD_getElem?,← Array.getElem?_toList,hsp,← List.getD_eq_getElem?_getD]
     refine qhT (by rw[Array.length_toList];exact hn) (by simp;omega) (by omega) (fun k y hk=>?_) (fun k y hk=>?_) j x hj
     ·rw[List.getD_eq_getElem?_getD,Array.getElem?_toList,← Array.getD_eq_getD_getElem?];exact hd k y hk
     ·rw[List.getD_eq_getElem?_getD,Array.getElem?_toList,← Array.getD_eq_getD_getElem?];exact h4 k y hk) hf
    refine ⟨cells',?_,h6,h7⟩
    rw[Instr.fill,h1]
    simp only
    rw[if_neg (by simp;omega)]
    exact h5
   ·cases hf
  ·cases hf
theorem qps:∀(ts:List (Nat×Nat×AV)) (cells cells':List AV),qeB ts cells=some cells'→cells'.length=cells.length
 | [],cells,cells',h=>by injection h with h;rw[h]
 | (off,sz,d)::ts,cells,cells',h=>by
  unfold qeB at h
  split at h
  ·split at h
   ·rw[qps ts _ cells' h,qA (by omega)]
   ·cases h
  ·cases h
theorem qt2{α β:Type}{g:α→Option β}:∀(l:List α) (r:List β),l.mapM g=some r→∀(i:Nat) (x:α),l[i]?=some x→r[i]?=g x
 | [],r,h,i,x,hi=>by simp at hi
 | y::l,r,h,i,x,hi=>by
  simp only[List.mapM_cons,Option.bind_eq_bind,Option.pure_def] at h
  cases hy:g y with
  | none=>rw[hy] at h;cases h
  | some b =>
   cases hl:l.mapM g with
   | none=>rw[hy,hl] at h;cases h
   | some bs =>
    rw[hy,hl] at h
    injection h with h;subst h
    cases i with
    | zero=>injection hi with hi;subst hi;exact hy.symm
    | succ i=>exact qt2 l bs hl i x hi
inductive Places (P:Program) (ty:TypeId):List Nat→List (Nat×Nat)→Prop
 | nil:Places P ty [] []
 | cons (f off sz:Nat) (ag:Bool) (fs:List Nat) (ps:List (Nat×Nat)) [i:FieldAt P ty f off sz ag] (h:Places P ty fs ps):Places P ty (f::fs) ((off,sz)::ps)
def zip3:List (Nat×Nat)→List AV→List (Nat×Nat×AV)
 | (a,b)::l,d::ds=>(a,b,d)::zip3 l ds
 | _,_=>[]
def qdn(n:Nat):Nat→Nat→List (Nat×Nat)
 | 0,_=>[]
 | k+1,i=>(i*n,n)::qdn n k (i+1)
inductive Step1 (P:Program):Op→List AV→AV→Prop
 | build (ty n:Nat) (zs:Array Value) (ps:List (Nat×Nat)) (parts:List (Nat×Operand)) (ds cells:List AV) [i:TyAt P ty n true (.agg zs)] [s:StructTy P ty] (hp:Places P ty (parts.map (·.1)) ps) (hf:qeB (zip3 ps ds) (zs.toList.map AV.val)=some cells):Step1 P (.build ty parts.toArray) ds (.agg cells)
 | buildSlice (ty e sz bytes n:Nat) (ag:Bool) (z:Value) (parts:List (Nat×Operand)) (ds cells:List AV) (rows:List (List AV)) [i:SliceTy P ty e sz ag bytes z] (hpp:parts.map (·.1)=List.range n) (hn:n*sz≤1000)
   (hf:qeB (zip3 (qdn sz n 0) ds) (List.replicate (n*sz) .any)=some cells) (hr:qhK sz n cells=rows):Step1 P (.buildSlice ty n parts.toArray) ds (.sl sz rows)
 | sliceL (ty e:TypeId) (x y:Operand) (sz bytes k:Nat) (ag:Bool) (z:Value) (kk:IntKind) (n:Int) (rows rows':List (List AV)) [i:SliceTy P ty e sz ag bytes z] (hk:n=(k:Int)) (h:k≤rows.length) (hr:rows.drop k=rows'):Step1 P (.slice ty x (some y) none none) [.sl sz rows,.val (.int kk n)] (.sl sz rows')
 | sliceH (ty e:TypeId) (x y:Operand) (sz bytes k:Nat) (ag:Bool) (z:Value) (kk:IntKind) (n:Int) (rows rows':List (List AV)) [i:SliceTy P ty e sz ag bytes z] (hk:n=(k:Int)) (h:k≤rows.length) (hr:rows.take k=rows'):Step1 P (.slice ty x none (some y) none) [.sl sz rows,.val (.int kk n)] (.sl sz rows')
 | mindexAddr (ty e:TypeId) (x y:Operand) (sz bytes b o n c o' k:Nat) (ag:Bool) (z:Value) (kk:IntKind) (m:Int) [i:SliceTy P ty e sz ag bytes z] (hk:m=(k:Int)) (h1:k<n) (ho:o+k*sz=o'):Step1 P (.indexAddr ty x y) [.val (.slice (some ⟨b,o,none⟩) n c),.val (.int kk m)] (.val (.pointer (some ⟨b,o',none⟩)))
section
variable {P:Program} {w0:Bs} {S:Nat→Prop} {H:List HE} {t:List AV} {Q:qcB}
theorem qqh:∀(ps:List (Nat×Nat)) (ds:List AV),ps.length=ds.length→(zip3 ps ds).length=ds.length∧∀(i:Nat) (q:Nat×Nat×AV),(zip3 ps ds)[i]?=some q→ps[i]?=some (q.1,q.2.1)∧ds[i]?=some q.2.2
 | [],[],_=>⟨rfl,fun i q h=>by simp[zip3] at h⟩
 | [],_::_,h=>by cases h
 | _::_,[],h=>by cases h
 | (a,b)::ps,d::ds,h=>by
  obtain ⟨h1,h2⟩:=qqh ps ds (by simpa using h)
  refine ⟨by simp[zip3,h1],fun i q hq=>?_⟩
  cases i with
  | zero=>injection hq with hq;subst hq;exact ⟨rfl,rfl⟩
  | succ i=>exact h2 i q hq
theorem Places.len{ty:TypeId}{fs:List Nat}{ps:List (Nat×Nat)}(h:Places P ty fs ps):ps.length=fs.length:=by
 induction h with
 | nil=>rfl
 | cons f off sz ag fs ps h ih=>simp[ih]
theorem Places.at_{ty:TypeId}{fs:List Nat}{ps:List (Nat×Nat)}(h:Places P ty fs ps):∀(i f:Nat) (p:Nat×Nat),fs[i]?=some f→ps[i]?=some p→∃ag,FieldAt P ty f p.1 p.2 ag:=by
 induction h with
 | nil=>intro i f p h;simp at h
 | @cons f off sz ag fs ps hi h ih =>
  intro i f' p hf hp
  cases i with
  | zero=>injection hf with hf;injection hp with hp;subst hf hp;exact ⟨ag,hi⟩
  | succ i=>exact ih i f' p hf hp
theorem qoh(n:Nat):∀k i,(qdn n k i).length=k
 | 0,_=>rfl
 | k+1,i=>by simp[qdn,qoh n k]
theorem qpt(n:Nat):∀(k i j:Nat) (p:Nat×Nat),(qdn n k i)[j]?=some p→p=((i+j)*n,n)∧j<k
 | 0,_,_,_,h=>by simp[qdn] at h
 | k+1,i,j,p,h=>by
  cases j with
  | zero=>injection h with h;subst h;exact ⟨rfl,Nat.succ_pos _⟩
  | succ j =>
   obtain ⟨h1,h2⟩:=qpt n k (i+1) j p h
   exact ⟨by rw[h1,Nat.add_assoc,Nat.add_comm 1 j],by omega⟩
theorem qrH(sz:Nat):∀n cs,(qhK sz n cs).length=n
 | 0,_=>rfl
 | n+1,cs=>by simp[qhK,qrH sz n]
theorem qs2(sz:Nat):∀(n:Nat) (cs:List AV),cs.length=n*sz→∀(i:Nat) (row:List AV),(qhK sz n cs)[i]?=some row→row.length=sz∧∀(j:Nat) (d:AV),row[j]?=some d→cs[i*sz+j]?=some d
 | 0,_,_,i,row,h=>by simp[qhK] at h
 | n+1,cs,hl,i,row,h=>by
  rw[Nat.succ_mul] at hl
  cases i with
  | zero =>
   injection h with h;subst h
   refine ⟨by simp;omega,fun j d hj=>?_⟩
   rw[List.getElem?_take] at hj
   split at hj
   ·rw[Nat.zero_mul,Nat.zero_add];exact hj
   ·cases hj
  | succ i =>
   obtain ⟨h1,h2⟩:=qs2 sz n (cs.drop sz) (by simp;omega) i row h
   refine ⟨h1,fun j d hj=>?_⟩
   have:=h2 j d hj
   rw[List.getElem?_drop] at this
   rw[← this];congr 1;rw[Nat.succ_mul];omega
theorem qkY{α β:Type}:∀l:List (α×β),l=(l.map (·.1)).zip (l.map (·.2))
 | []=>rfl
 | (a,b)::l=>by simp only[List.map_cons,List.zip_cons_cons];rw[← qkY l]
theorem Step1.sound{o:Oper}{avs:List AV}{v:AV}(h:Step1 P o.op avs v)(ha:avs=(opl o.op).map (evO t)):AY P w0 S H o t v:=by
 refine AY.of fun a w hE hH hX=>?_
 generalize hop:o.op=op at *
 unfold execOp
 rw[hop]
 cases h with
 | @build ty n zs ps parts ds cells i s hp hf =>
  obtain ⟨fs,hfs⟩:∃fs,fs=parts.map (·.1):=⟨_,rfl⟩
  obtain ⟨xs,hxs⟩:∃xs,xs=parts.map (·.2):=⟨_,rfl⟩
  have hpp:parts=fs.zip xs:=by rw[hfs,hxs];exact qkY parts
  have hxl:xs.length=fs.length:=by rw[hfs,hxs];simp
  rw[← hfs] at hp
  clear hfs hxs
  subst hpp
  have hmap:(fs.zip xs).map (·.2)=xs:=List.map_snd_zip (by omega)
  simp only[opl,hmap] at ha hX
  subst ha
  dsimp only
  have hz:=i.zero w
  have hlen:=hp.len
  obtain ⟨fds,pls,hu,hm⟩:∃fds pls,P.underlying ty=some (.struct fds)∧fds.toList.mapM (fun f=>(P.info? f.type).map fun i=>(f.offset,i.size))=some pls:=by
   have:=s.h
   unfold qvv at this
   split at this
   ·obtain ⟨pls,h⟩:=Option.isSome_iff_exists.1 this
    exact ⟨_,pls,by assumption,h⟩
   ·cases this
  obtain ⟨hz1,hz2⟩:=qqh ps (xs.map (evO t)) (by simp;omega)
  have hpl:∀(i f:Nat) (p:Nat×Nat),fs[i]?=some f→ps[i]?=some p→pls[f]?=some p:=fun i f p h1 h2=>by
   obtain ⟨ag,h3⟩:=hp.at_ i f p h1 h2
   obtain ⟨fs',fd,z,h4,h5,h6,_,h7⟩:=h3.h
   rw[hu] at h4;injection h4 with h4;injection h4 with h4;subst h4
   have h8:=h7.h
   cases hi:P.info? fd.type with
   | none=>rw[hi] at h8;cases h8
   | some it =>
    rw[hi] at h8
    simp only[Option.map_some,Option.some.injEq,Prod.mk.injEq] at h8
    rw[qt2 _ _ hm f fd (by simpa using h5),hi]
    simp[h6,h8.1]
  have hparts:((fs.zip xs).toArray.map fun(p:Nat×Operand)=>(p.1,a.eval p.2)).toList=fs.zip (xs.map a.eval):=by
   simp only[List.map_toArray,List.zip_map_right];rfl
  obtain ⟨cells',h1,h2,h3⟩:=qog (w:=w) (S:=Al w0 S H) (place:=(pls.toArray[·]?)) (fs.zip (xs.map a.eval)) (zip3 ps (xs.map (evO t))) zs (zs.toList.map AV.val) cells (by rw[hz1];simp;omega) (fun i p q h4 h5=>by
    obtain ⟨h6,h7⟩:=hz2 i q h5
    rw[List.getElem?_zip_eq_some] at h4
    obtain ⟨h8,h9⟩:=h4
    refine ⟨by simpa using hpl i p.1 _ h8 h6,?_⟩
    rw[List.getElem?_map] at h9 h7
    cases hx:xs[i]? with
    | none=>rw[hx] at h9;cases h9
    | some x =>
     rw[hx] at h9 h7
     injection h9 with h9;injection h7 with h7
     rw[← h9,← h7]
     exact hX x (List.mem_of_getElem? hx)) (by simp) (fun i d hi=>by
    have:=qkG (w:=w) (S:=Al w0 S H) zs.toList i d hi
    rwa [List.getD_eq_getElem?_getD,Array.getElem?_toList,← Array.getD_eq_getD_getElem?] at this) hf
  have hb:P.built ty ((fs.zip xs).toArray.map fun(p:Nat×Operand)=>(p.1,a.eval p.2)).toList=some cells':=by
   have hi:=i.h
   cases hit:P.info? ty with
   | none=>rw[hit] at hi;cases hi
   | some it =>
    rw[hit] at hi
    simp only[Option.map_some,Option.some.injEq,Prod.mk.injEq] at hi
    unfold Program.built
    rw[hit,hu,hparts]
    simp only[hi.2,hm]
    exact h1
  refine ⟨.agg cells',w,?_,Ext.refl w,.agg _ _ h2 h3⟩
  have:=run_build w ty _ cells' hb
  simp only[Sem.run_bind,this,Result.andThen_ok]
  rfl
 | @buildSlice ty e sz bytes n ag z parts ds cells rows i hpp' hn hf hr =>
  obtain ⟨xs,hxs⟩:∃xs,xs=parts.map (·.2):=⟨_,rfl⟩
  have hpp:parts=(List.range n).zip xs:=by rw[← hpp',hxs];exact qkY parts
  have hxl:xs.length=n:=by have:=congrArg List.length hpp';rw[hxs];simpa using this
  clear hxs hpp'
  subst hpp
  have hmap:((List.range n).zip xs).map (·.2)=xs:=List.map_snd_zip (by simp;omega)
  simp only[opl,hmap] at ha hX
  subst ha
  dsimp only
  have hu:=i.h
  have hsz:=i.ty.size w
  have hzr:=i.ty.zero w
  obtain ⟨hz1,hz2⟩:=qqh (qdn sz n 0) (xs.map (evO t)) (by rw[qoh];simp;omega)
  have hparts:(((List.range n).zip xs).toArray.map fun(p:Nat×Operand)=>(p.1,a.eval p.2)).toList=(List.range n).zip (xs.map a.eval):=by
   simp only[List.map_toArray,List.zip_map_right];rfl
  have key:∀zero:Array Value,∃cells',Instr.fill (fun i=>some (i*sz,sz)) ((Array.range (n*sz)).map fun j=>zero[j % zero.size]!) ((List.range n).zip (xs.map a.eval))=some cells'∧cells'.size=cells.length∧∀i d,cells[i]?=some d→Enc w (Al w0 S H) (cells'.getD i undef) d:=fun zero =>
   qog (w:=w) (S:=Al w0 S H) ((List.range n).zip (xs.map a.eval)) (zip3 (qdn sz n 0) (xs.map (evO t))) _ (List.replicate (n*sz) .any) cells (by rw[hz1];simp;omega) (fun i p q h4 h5=>by
    obtain ⟨h6,h7⟩:=hz2 i q h5
    rw[List.getElem?_zip_eq_some] at h4
    obtain ⟨h8,h9⟩:=h4
    have hp1:p.1=i:=by
     rw[List.getElem?_range (by have:=(List.getElem?_eq_some_iff.1 h8).1;simpa using this)] at h8
     injection h8 with h8;exact h8.symm
    obtain ⟨h10,_⟩:=qpt sz n 0 i _ h6
    refine ⟨?_,?_⟩
    ·rw[hp1]
     have e1:q.1=i*sz:=by have:=congrArg Prod.fst h10;simpa using this
     have e2:q.2.1=sz:=by have:=congrArg Prod.snd h10;simpa using this
     rw[e1,e2]
    rw[List.getElem?_map] at h9 h7
    cases hx:xs[i]? with
    | none=>rw[hx] at h9;cases h9
    | some x =>
     rw[hx] at h9 h7
     injection h9 with h9;injection h7 with h7
     rw[← h9,← h7]
     exact hX x (List.mem_of_getElem? hx)) (by simp) (fun i d hi=>by
    have:=List.mem_replicate.1 (List.mem_of_getElem? hi)
    rw[this.2];exact .any _) hf
  obtain ⟨cells',h1,h2,h3⟩:=key (if n*sz=0 then #[] else z.cells)
  have hlen:cells.length=n*sz:=by
   have hl:=qps _ _ _ hf
   rw[hl];simp
  refine ⟨.slice (some ⟨w.heap.size,0,none⟩) n n,w.alloc (.cells cells' e),?_,(Ext.refl w).alloc _,?_⟩
  ·have h24:¬n*sz>2 ^ 24:=Nat.not_lt.2 (Nat.le_trans hn (by decide))
   by_cases h0:n*sz=0
   ·rw[if_pos h0] at h1
    simp only[Instr.buildSlice,Sem.run_bind,run_underlying hu,Result.andThen_ok,hsz,if_neg h24,if_pos h0,Sem.run_pure,hparts,h1,newRow,newObj]
    rfl
   ·rw[if_neg h0] at h1
    simp only[Instr.buildSlice,Sem.run_bind,run_underlying hu,Result.andThen_ok,hsz,hzr,if_neg h24,if_neg h0,Sem.run_pure,hparts,h1,newRow,newObj]
    rfl
  ·subst hr
   have hA:=qt0 hE hH
   have hrow:=qs2 sz n cells hlen
   refine .sl w.heap.size 0 n n sz _ (fun j=>cells'.getD j undef) (qrH sz n cells) (Nat.le_refl _) (by have:=i.p;have:n≤n*sz:=Nat.le_mul_of_pos_right _ this;unfold maxLen;omega) hA (by simp) (fun i row hi=>(hrow i row hi).1) (fun j hj=>?_) fun i j row d hi hj=>(h3 _ d ((hrow i row hi).2 j d hj)).ext ((Ext.refl w).alloc _)
   have:=cell_of_row (w.alloc (.cells cells' e)) w.heap.size j cells' e (0,0) (heap_alloc_new w _)
   rw[Nat.zero_add,this,Array.getD_eq_getD_getElem?,Array.getElem?_eq_getElem (by omega)]
   rfl
 | @sliceL ty e x y sz bytes k ag z kk n rows rows' i hk h hr =>
  simp[opl] at ha hX;rw[← ha.1,← ha.2] at hX
  obtain ⟨hX,hY⟩:=hX
  dsimp only
  simp only[Option.map_some,Option.map_none]
  rw[hY.val_eq]
  generalize a.eval x=X at *
  have hs:=i.ty.size w
  have hu:=i.h
  subst hk hr
  cases hX with
  | slnil A c _ hm =>
   have hk0:k=0:=by simpa using h
   subst hk0
   refine ⟨.slice A 0 c,w,?_,Ext.refl w,.slnil A c sz hm⟩
   simp[Instr.sliceAt,Instr.slice,run_underlying hu,Instr.sliceBounds,Instr.sliceBound,asIntOf,hs]
   cases A<;>simp[Addr.add]
  | sl b off m c _ _ cv hn hc hm h1 h2 h3 h4 h5 =>
   have hkm:k≤m:=by omega
   refine ⟨.slice (if c=k then some ⟨b,off,none⟩ else some ⟨b,off+k*sz,none⟩) (m-k) (c-k),w,?_,Ext.refl w,?_⟩
   ·have hb:(0:Int)≤(k:Int)∧(k:Int)≤(m:Int):=by omega
    simp[Instr.sliceAt,Instr.slice,run_underlying hu,Instr.sliceBounds,Instr.sliceBound,asIntOf,hs,hb,hkm,qek]
   ·by_cases hck:c=k
    ·have:m-k=0:=by omega
     have hr:rows.drop k=[]:=List.drop_eq_nil_of_le (by omega)
     rw[this,hr]
     exact .slnil _ _ sz (by omega)
    ·rw[if_neg hck]
     refine .sl b (off+k*sz) (m-k) (c-k) sz _ (fun j=>cv (k*sz+j)) (by simp;omega) (by omega) (by omega) h1 h2 (fun i row hi=>h3 (k+i) row (by rw[List.getElem?_drop] at hi;exact hi)) (fun j hj=>?_) fun i j row d hi hj=>?_
     ·rw[Nat.add_assoc]
      refine h4 _ ?_
      rw[Nat.sub_mul] at hj;omega
     ·rw[List.getElem?_drop] at hi
      have:=h5 (k+i) j row d hi hj
      rwa [Nat.add_mul,Nat.add_assoc] at this
 | @sliceH ty e x y sz bytes k ag z kk n rows rows' i hk h hr =>
  simp[opl] at ha hX;rw[← ha.1,← ha.2] at hX
  obtain ⟨hX,hY⟩:=hX
  dsimp only
  simp only[Option.map_some,Option.map_none]
  rw[hY.val_eq]
  generalize a.eval x=X at *
  have hs:=i.ty.size w
  have hu:=i.h
  subst hk hr
  cases hX with
  | slnil A c _ hm =>
   have hk0:k=0:=by simpa using h
   subst hk0
   refine ⟨.slice A 0 c,w,?_,Ext.refl w,.slnil A c sz hm⟩
   simp[Instr.sliceAt,Instr.slice,run_underlying hu,Instr.sliceBounds,Instr.sliceBound,asIntOf,hs]
   cases A<;>simp[Addr.add]
  | sl b off m c _ _ cv hn hc hm h1 h2 h3 h4 h5 =>
   have hkm:k≤m:=by omega
   refine ⟨.slice (some ⟨b,off,none⟩) k c,w,?_,Ext.refl w,?_⟩
   ·have hb:(0:Int)≤(k:Int)∧(k:Int)≤(c:Int):=by omega
    have hkc:k≤c:=by omega
    simp[Instr.sliceAt,Instr.slice,run_underlying hu,Instr.sliceBounds,Instr.sliceBound,asIntOf,hs,hb,hkc,qek]
   ·refine .sl b off k c sz _ cv (by simp;omega) (by omega) hm h1 h2 (fun i row hi=>h3 i row ?_) (fun j hj=>h4 j (Nat.lt_of_lt_of_le hj (Nat.mul_le_mul_right _ hkm))) fun i j row d hi hj=>h5 i j row d ?_ hj
    ·rw[List.getElem?_take] at hi
     split at hi
     ·exact hi
     ·cases hi
    ·rw[List.getElem?_take] at hi
     split at hi
     ·exact hi
     ·cases hi
 | @mindexAddr ty e x y sz bytes b o n c o' k ag z kk m i hk h1 ho =>
  simp[opl] at ha hX;rw[← ha.1,← ha.2] at hX
  obtain ⟨hX,hY⟩:=hX
  have hs:=i.ty.size w
  have hu:=i.h
  refine ⟨_,w,?_,Ext.refl w,.val _⟩
  have hi:0≤m∧m<(n:Int):=by omega
  dsimp only
  rw[hX.val_eq,hY.val_eq]
  have hkk:m.toNat=k:=by omega
  simp[Instr.indexAt,run_underlying hu,asIntOf,hi,hs,qek,hkk,ho]
end
section
variable {P:Program} {w0:Bs} {S:Nat→Prop} {F:Fence} {H:List HE} {t:List AV} {Q:qcB}
theorem AL.rn(hF:Wf F){ops:Array Oper}{o:Oper}{l:List Oper}(d:Nat)(v:AV)(hg:o.guard=none)(hd:o.dst=some d)(hy:AY P w0 S H o t v)(h:AL P w0 S F ops Q l (AV.put t d v) H):AL P w0 S F ops Q (o::l) t H :=
 AL.run hF hg v hy (by rw[hd];exact h)
theorem AL.rnG(hF:Wf F){ops:Array Oper}{o:Oper}{l:List Oper}(d:Nat)(v:AV)(hb:qZ ops o t=some true)(hd:o.dst=some d)(hy:AY P w0 S H o t v)(h:AL P w0 S F ops Q l (AV.put t d v) H):AL P w0 S F ops Q (o::l) t H :=
 AL.guard hF true hb (fun _=>⟨v,hy,by rw[hd];exact h⟩) (fun e=>by cases e)
theorem AL.skG(hF:Wf F){ops:Array Oper}{o:Oper}{l:List Oper}(d:Nat)(hb:qZ ops o t=some false)(hd:o.dst=some d)(h:AL P w0 S F ops Q l (AV.put t d .undef) H):AL P w0 S F ops Q (o::l) t H :=
 AL.guard hF false hb (fun e=>by cases e) (fun _=>by rw[hd];exact h)
theorem AL.splitG(hF:Wf F){ops:Array Oper}{o:Oper}{l:List Oper}{d:Nat}{b:Bool}(_hg:qnA ops o=some d)(hd:AV.get t d = .val (.bool b))(ht:b=true→AL P w0 S F ops Q (o::l) (AV.put t d (.val (.bool true))) H)(hf:b=false→AL P w0 S F ops Q (o::l) (AV.put t d (.val (.bool false))) H):AL P w0 S F ops Q (o::l) t H:=by
 intro a w hr
 have hs:∀v,b=v→SRel w0 S (AV.put t d (.val (.bool v))) H a w:=fun v hv=>hr.put_id d (by rw[hr.looks d _ hd,hv];exact .val _)
 cases b with
 | true=>exact ht rfl a w (hs true rfl)
 | false=>exact hf rfl a w (hs false rfl)
theorem AL.store'(hF:Wf F){ops:Array Oper}{o:Oper}{l:List Oper}{ty sz:Nat}{ag:Bool}{z:Value}{x y:Operand}{b off:Nat}{v:AV}(k tt:Nat)(cs ds cs':List AV)(H':List HE)[i:TyAt P ty sz ag z](hg:o.guard=none)(ho:o.op = .store ty x y)(hd:o.dst=none)(hx:evO t x = .val (.pointer (some ⟨b,off,none⟩)))(hy:evO t y=v)
  (hH:H[k]?=some (.blk b tt cs)) (hc:qb3 v=some ds) (hs:ds.length=sz) (h1:ds.all AV.one=true) (hl:off+ds.length≤cs.length) (hcs:qk cs off ds=cs') (hH':H.set k (.blk b tt cs')=H')
  (h:AL P w0 S F ops Q l t H'):AL P w0 S F ops Q (o::l) t H:=AL.store hF hg ho hd hx hy hH hc hs h1 hl hcs (by rw[hH'];exact h)
def mask(ju:Nat→AV):List Nat→List AV→List AV
 | [],t=>t
 | j::js,t=>mask ju js (AV.put t j (ju j))
def putl:List Nat→List AV→List AV→List AV
 | p::ps,v::vs,t=>putl ps vs (AV.put t p v)
 | _,_,t=>t
theorem qnB(t:List AV)(d:Nat):AV.put t d (AV.get t d)=t:=by
 rw[AV.put_eq,AV.get_eq]
 rcases Nat.lt_or_ge d t.length with h | h
 ·rw[List.getElem?_eq_getElem h];simp
 ·exact List.set_eq_of_length_le h
theorem qvw(t:List AV):∀js,mask (AV.get t) js t=t
 | []=>rfl
 | j::js=>by rw[mask,qnB];exact qvw t js
theorem qvx(t:List AV):∀ps,putl ps (ps.map (AV.get t)) t=t
 | []=>rfl
 | p::ps=>by rw[List.map_cons,putl,qnB];exact qvx t ps
def qsy(js ps:List Nat)(I:Nat→List AV→List HE→Prop)(n:Nat)(t t':List AV)(H':List HE):Prop:=∃m H'',m<n∧H''.Sublist H'∧I m (ps.map (AV.get t')) H''∧t'=putl ps (ps.map (AV.get t')) (mask (AV.get t') js t)
theorem Awp.loopM{c:Code}(js ps:List Nat)(I:Nat→List AV→List HE→Prop)(n:Nat)(h0:I n (ps.map (AV.get t)) H)
  (round:∀n ju vs H',I n vs H'→Awp P w0 S F c (Exit.thenA (qsy js ps I n t) Q) (putl ps vs (mask ju js t)) H'):Awp P w0 S F (.loop c) Q t H:=by
 refine Awp.loop (fun n t' H'=>∃ju vs,I n vs H'∧t'=putl ps vs (mask ju js t)) n ⟨AV.get t,ps.map (AV.get t),h0,by rw[qvw,qvx]⟩ ?_
 rintro n t' H' ⟨ju,vs,hi,rfl⟩
 refine (round n ju vs H' hi).mono ?_
 intro e t' H' h
 cases e with
 | normal =>
  obtain ⟨m,H'',hm,hs,h1,h2⟩:=h
  exact ⟨m,H'',hm,hs,AV.get t',_,h1,h2⟩
 | exit id=>exact h
 | goto l=>exact h
 | ret=>exact h
 | panic c=>exact h
 | outgrown=>exact h
theorem qsz{js ps:List Nat}{I:Nat→List AV→List HE→Prop}{n:Nat}{t' t'':List AV}{H':List HE}(m:Nat)(ht:t'=t'')(hm:m<n)(hI:I m (ps.map (AV.get t'')) H')(hf:t''=putl ps (ps.map (AV.get t'')) (mask (AV.get t'') js t)):qsy js ps I n t t' H':=⟨m,H',hm,List.Sublist.refl _,by rw[ht];exact hI,by rw[ht];exact hf⟩
theorem qra{js ps:List Nat}{I:Nat→List AV→List HE→Prop}{n:Nat}{t' t'':List AV}{H' H'':List HE}(m:Nat)(hs:H''.Sublist H')(ht:t'=t'')(hm:m<n)(hI:I m (ps.map (AV.get t'')) H'')(hf:t''=putl ps (ps.map (AV.get t'')) (mask (AV.get t'') js t)):qsy js ps I n t t' H':=⟨m,H'',hm,hs,by rw[ht];exact hI,by rw[ht];exact hf⟩
def qzw(K:List AV→List HE→Prop):qcB
 | .normal,t,H=>K t H
 | _,_,_=>False
theorem AL.mono{ops:Array Oper}{Q':qcB}{l:List Oper}(h:AL P w0 S F ops Q l t H)(hq:∀e t H,Q e t H→Q' e t H):AL P w0 S F ops Q' l t H:=by
 have key:∀(l:List Oper) (a:Act) (w:World) (Q1 Q2:Exit→Act→World→Prop),(∀e a w,Q1 e a w→Q2 e a w)→wpListIn F 0 P ops Q1 l a w→wpListIn F 0 P ops Q2 l a w:=by
  intro l
  induction l with
  | nil=>intro a w Q1 Q2 hq h;exact hq _ _ _ h
  | cons o l ih =>
   intro a w Q1 Q2 hq h
   unfold wpListIn at h ⊢
   split
   ·rename_i hw
    rw[if_pos hw] at h
    obtain ⟨h0,h⟩:=h
    refine ⟨h0,?_⟩
    generalize (o.semAt F.round a.eval).run P w=r at *
    have lets:LetsOut Q1→LetsOut Q2:=fun⟨a0,w0,h0⟩=>⟨a0,w0,hq _ _ _ h0⟩
    cases r with
    | ok n w' =>
     cases n<;>simp only[Oper.uponIn] at h ⊢ <;>
      first
       | exact ih _ _ _ _ hq h
       | exact ⟨h.1,CallsIn.mono h.2 (fun e w'' he=>by
         cases e with
         | returned v=>exact ih _ _ _ _ hq he
         | panicked c=>exact hq _ _ _ he
         | outgrown=>exact lets he)⟩
       | exact ⟨h.1,RowsIn.mono h.2 (fun _ _ he=>ih _ _ _ _ hq he)⟩
       | exact ⟨h.1,RoundIn.mono h.2 (fun e w'' he=>by
         cases e with
         | returned v=>exact ih _ _ _ _ hq he
         | panicked c=>exact hq _ _ _ he
         | outgrown=>exact lets he)⟩
    | halt x w'=>cases x<;>simp only[Oper.uponIn] at h ⊢<;>first | exact hq _ _ _ h | exact h
   ·rename_i hw
    rw[if_neg hw] at h
    exact ⟨h.1,ih _ _ _ _ hq h.2⟩
 intro a w hr
 exact key l a w _ _ (fun e a' w' ⟨t',H',h1,h2⟩=>⟨t',H',h1,hq _ _ _ h2⟩) (h a w hr)
theorem Awp.regionK{id:Nat}{l:List Oper}{t':List AV}(ht:t=t')(h:∀K:List AV→List HE→Prop,(∀t H,Q .normal t H→K t H)→AL P w0 S F l.toArray (qzw K) l t' H):Awp P w0 S F (.region id l.toArray false) Q t H:=by
 subst ht
 refine Awp.region ((h (fun t H=>Q .normal t H) fun _ _ h=>h).mono fun e t H he=>?_)
 cases e with
 | normal=>exact he
 | _=>exact he.elim
theorem AL.nilK{ops:Array Oper}{K:List AV→List HE→Prop}(h:K t H):AL P w0 S F ops (qzw K) [] t H:=AL.nil h
def qvy:Op→Bool
 | .alloc _ | .makeSlice _ _ _ | .store _ _ _=>true
 | .call ⟨.builtin .append,_,_⟩ | .call ⟨.builtin .copy,_,_⟩=>true
 | _=>false
theorem Awp.drawK(hF:Wf F){id:Nat}{l:List Oper}{t':List AV}(ht:t=t')(hm:P.follows .mixedOrders=true)(hW:(l.all fun o=>!qvy o.op)=true)(hB:Region.lexB .any l.toArray=true)(h:∀K:List AV→Prop,(∀t,Q .normal t H→K t)→AD P w0 S H l.toArray K l t'):Awp P w0 S F (.region id l.toArray true) Q t H:=by
 subst ht
 clear hW
 exact Awp.draw hF hm hB (h (fun t=>Q .normal t H) fun _ h=>h)
section
variable {ops:Array Oper} {o:Oper} {l:List Oper} {t' t'':List AV} {K:List AV→Prop}
theorem AL.sn(hF:Wf F)(d:Nat)(v:AV)(hg:o.guard=none)(hd:o.dst=some d)(hy:AY P w0 S H o t v)(ht:AV.put t d v=t')(h:AL P w0 S F ops Q l t' H):AL P w0 S F ops Q (o::l) t H:=AL.rn hF d v hg hd hy (by rw[ht];exact h)
theorem AD.snG(d:Nat)(v:AV)(hb:qZ ops o t=some true)(hd:o.dst=some d)(hy:AY P w0 S H o t v)(ht:AV.put t d v=t')(h:AD P w0 S H ops K l t'):AD P w0 S H ops K (o::l) t:=AD.rnG d v hb hd hy (by rw[ht];exact h)
theorem AL.snG(hF:Wf F)(d:Nat)(v:AV)(hb:qZ ops o t=some true)(hd:o.dst=some d)(hy:AY P w0 S H o t v)(ht:AV.put t d v=t')(h:AL P w0 S F ops Q l t' H):AL P w0 S F ops Q (o::l) t H:=AL.rnG hF d v hb hd hy (by rw[ht];exact h)
theorem AD.kG(d:Nat)(hb:qZ ops o t=some false)(hd:o.dst=some d)(ht:AV.put t d .undef=t')(h:AD P w0 S H ops K l t'):AD P w0 S H ops K (o::l) t:=AD.skG d hb hd (by rw[ht];exact h)
theorem AL.kG(hF:Wf F)(d:Nat)(hb:qZ ops o t=some false)(hd:o.dst=some d)(ht:AV.put t d .undef=t')(h:AL P w0 S F ops Q l t' H):AL P w0 S F ops Q (o::l) t H:=AL.skG hF d hb hd (by rw[ht];exact h)
theorem AD.pG{d:Nat}{b:Bool}(_hg:qnA ops o=some d)(hd:AV.get t d = .val (.bool b))(ht:AV.put t d (.val (.bool true))=t')(hf:AV.put t d (.val (.bool false))=t'')(h:b=true→AD P w0 S H ops K (o::l) t')(h':b=false→AD P w0 S H ops K (o::l) t''):AD P w0 S H ops K (o::l) t :=
 AD.splitG _hg hd (fun e=>by rw[ht];exact h e) (fun e=>by rw[hf];exact h' e)
theorem AL.pG(hF:Wf F){d:Nat}{b:Bool}(_hg:qnA ops o=some d)(hd:AV.get t d = .val (.bool b))(ht:AV.put t d (.val (.bool true))=t')(hf:AV.put t d (.val (.bool false))=t'')(h:b=true→AL P w0 S F ops Q (o::l) t' H)(h':b=false→AL P w0 S F ops Q (o::l) t'' H):AL P w0 S F ops Q (o::l) t H :=
 AL.splitG hF _hg hd (fun e=>by rw[ht];exact h e) (fun e=>by rw[hf];exact h' e)
theorem AL.al(hF:Wf F){ty sz d:Nat}{ag:Bool}{z:Value}{zs:List AV}[i:TyAt P ty sz ag z](hg:o.guard=none)(ho:o.op = .alloc ty)(hd:o.dst=some d)(hz:z.cells.toList.map AV.val=zs)
  (h:∀b,∃t',AV.put t d (.val (.pointer (some ⟨b,0,none⟩)))=t'∧AL P w0 S F ops Q l t' (.blk b ty zs::H)):AL P w0 S F ops Q (o::l) t H:=AL.alloc hF hg ho hd hz fun b=>by obtain ⟨t',h1,h2⟩:=h b;rw[h1];exact h2
end
theorem qt3{w:World}{S:Nat→Prop}{X:Value}{sz:Nat}{rows:List (List AV)}(h:Enc w S X (.sl sz rows)):∃(A:Option Addr) (c:Nat) (news:List Value),X = .slice A rows.length c∧Sl w w.heap.size sz A rows.length news∧news.length=rows.flatten.length∧(∀i d,rows.flatten[i]?=some d→Enc w S (news.getD i undef) d):=by
 cases h with
 | slnil A c _ hm=>exact ⟨A,c,[],rfl,Sl.nil w _ sz A,rfl,fun i d h=>by simp at h⟩
 | sl b off n c _ _ cv hn hc hm hS hb hr hcell h =>
  subst hn
  have hfl:=qhR hr
  refine ⟨some ⟨b,off,none⟩,c,(List.range (rows.length*sz)).map cv,rfl,⟨by simp,fun _=>⟨b,off,rfl,hb,fun j u hu=>?_⟩⟩,by simp[hfl],fun i d hd=>?_⟩
  ·rw[List.getElem?_map] at hu
   cases hj:(List.range (rows.length*sz))[j]? with
   | none=>rw[hj] at hu;cases hu
   | some x =>
    have hlt:=(List.getElem?_eq_some_iff.1 hj).1
    simp at hlt
    rw[List.getElem?_range hlt] at hj
    injection hj with hj;subst hj
    rw[List.getElem?_range hlt] at hu
    injection hu with hu;rw[← hu]
    exact hcell j hlt
  ·have hi:=qbK hd
   rw[hfl] at hi
   rw[List.getD_eq_getElem?_getD,List.getElem?_map,List.getElem?_range hi]
   simp only[Option.map_some,Option.getD_some]
   have hsz:0<sz:=Nat.pos_of_ne_zero fun h0=>by rw[h0] at hi;simp at hi
   have hq:i/sz<rows.length:=Nat.div_lt_of_lt_mul (by rw[Nat.mul_comm];exact hi)
   have hm:i % sz<sz:=Nat.mod_lt _ hsz
   have hrl:=hr _ _ (List.getElem?_eq_getElem hq)
   have e1:i/sz*sz+i % sz=i:=by rw[Nat.mul_comm];exact Nat.div_add_mod i sz
   have hfa:=qfD hr (i/sz) (i % sz) _ _ (List.getElem?_eq_getElem hq) (List.getElem?_eq_getElem (by omega))
   rw[e1,hd] at hfa
   injection hfa with hfa
   have:=h (i/sz) (i % sz) _ _ (List.getElem?_eq_getElem hq) (List.getElem?_eq_getElem (by omega))
   rw[e1] at this
   rw[hfa];exact this
theorem SRel.owned{a:Act}{w w':World}(hr:SRel w0 S t H a w)(k:Nat)(e0:HE)(v':Value)(e sz n:Nat)(cells:List AV)(xs:List Value)(hH:H[k]?=some e0)(hp:e0.proper)(hown:w'.ownsRow 0 e sz v' n xs)(hg:Kp e0.owns w w')(hv':∀b,v'.ownBlock=some b→e0.owns b∨b=w.heap.size)(hn:xs.length=cells.length)
  (hv:∀i d,cells[i]?=some d→Enc w (Al w0 S H) (xs.getD i undef) d):SRel w0 S t (H.set k (.own v' e sz n cells)) a w' :=
 hr.turn k e0 (.own v' e sz n cells) hH hp hg trivial (fun b hb=>(hv' b hb).imp id fun h=>Nat.le_of_eq h.symm) fun hmv =>
  ⟨fun b hb=>by
   rcases hv' b hb with h | h
   ·exact (HE.ok_lt (hr.hs _ (List.mem_of_getElem? hH)) b h).1
   ·rw[h];exact qk9 hr.ext,xs,hown,hn,fun i d hi=>(hv i d hi).move hg.size fun c hc hlt=>hmv c hc hlt⟩
theorem qs3{w:World}{base e sz n:Nat}{v:Value}{xs:List Value}(h:w.ownsRow base e sz v n xs):∃A c,v = .slice A n c:=by
 rcases h.2 with ⟨rfl,rfl⟩ | ⟨g,cap,cur,rfl,_⟩
 ·exact ⟨none,0,rfl⟩
 ·exact ⟨_,cap,rfl⟩
theorem AL.appendB(hF:Wf F)(lo:Nat)(hlo:∀a w,SRel w0 S t H a w→lo≤w.heap.size){ops:Array Oper}{o:Oper}{l:List Oper}{ty e sz bytes n d:Nat}{ag:Bool}{z v:Value}{x y:Operand}{cells:List AV}{rows:List (List AV)}(k:Nat)[i:SliceTy P ty e sz ag bytes z](hg:o.guard=none)(ho:o.op = .call ⟨.builtin .append,#[x,y],#[ty,ty]⟩)(hd:o.dst=some d)
  (hx:evO t x = .val v) (hy:evO t y = .sl sz rows) (hH:H[k]?=some (.own v e sz n cells)) (h1:∀row,row∈rows→row.all AV.one=true) (h63:n+rows.length≤maxLen) (hbytes:(n+rows.length)*bytes≤140737488355328)
  (h:∀A c,(∀b,(Value.slice A (n+rows.length) c).ownBlock=some b→v.ownBlock=some b∨lo≤b)→AL P w0 S F ops Q l (AV.put t d (.val (.slice A (n+rows.length) c))) (H.set k (.own (.slice A (n+rows.length) c) e sz (n+rows.length) (cells++rows.flatten)))):AL P w0 S F ops Q (o::l) t H:=by
 refine AL.mstep hF hg fun a w hr=>?_
 have hm:=List.mem_of_getElem? hH
 obtain ⟨h02,xs,h2,h3,h4⟩:=hr.hs _ hm
 have hey:=hr.ev y
 rw[hy] at hey
 obtain ⟨A,c,news,h5,h6,h7,h8⟩:=qt3 hey
 obtain ⟨it,hi,hz0,hz1,hz2⟩:∃it,P.info? e=some it∧it.zero=some z∧it.size=sz∧it.bytes=bytes:=by
  have h0:=i.he
  cases hi:P.info? e with
  | none=>rw[hi] at h0;cases h0
  | some it =>
   rw[hi] at h0
   simp only[Option.map_some,Option.some.injEq,Prod.mk.injEq] at h0
   exact ⟨it,rfl,h0.2.1,h0.1,h0.2.2⟩
 have hone:∀u,u∈news→u.oneCell'=true:=fun u hu=>by
  obtain ⟨j,hj,rfl⟩:=List.mem_iff_getElem.1 hu
  have hj':j<rows.flatten.length:=by omega
  have hmem:=List.getElem_mem hj'
  obtain ⟨row,hrow,hin⟩:=List.mem_flatten.1 hmem
  have:=(h8 j _ (List.getElem?_eq_getElem hj')).one (List.all_eq_true.1 (h1 row hrow) _ hin)
  rwa [List.getD_eq_getElem?_getD,List.getElem?_eq_getElem hj] at this
 obtain ⟨v',w',h9,h10,h11,h12⟩:=qoZ (P:=P) w 0 ty o.type e it z sz bytes i.h hi hz0 hz1 hz2 i.s i.p v n xs h2 w.heap.size A rows.length c news h6 hone h63 hbytes (Nat.zero_le _)
 obtain ⟨A',c',rfl⟩:=qs3 h10
 refine ⟨.value (.slice A' (n+rows.length) c'),w',?_,.val (.slice A' (n+rows.length) c'),H.set k (.own (.slice A' (n+rows.length) c') e sz (n+rows.length) (cells++rows.flatten)),?_,?_⟩
 ·unfold execOp
  rw[ho]
  simp only[resolve,invoke,builtin,Sem.run_bind,Sem.run_pure,Result.andThen_ok,List.map_toArray,List.map_cons,List.map_nil,hr.ev_val hx,h5,h9]
 ·refine (hr.owned k _ (.slice A' (n+rows.length) c') e sz (n+rows.length) (cells++rows.flatten) (xs++news) hH trivial h10 ((Kp.grown h11).mono fun x hx _=>hx) (fun b hb=>h12.imp (fun e=>e.symm.trans hb) fun e=>by have e':=e.symm.trans hb;injection e' with e';exact e'.symm) (by simp[h3,h7]) fun j d hj=>?_).put o.dst (.val _)
  rw[List.getD_eq_getElem?_getD]
  rcases Nat.lt_or_ge j cells.length with hlt | hge
  ·rw[List.getElem?_append_left hlt] at hj
   rw[List.getElem?_append_left (by omega),← List.getD_eq_getElem?_getD]
   exact h4 j d hj
  ·rw[List.getElem?_append_right hge] at hj
   rw[List.getElem?_append_right (by omega),h3,← List.getD_eq_getElem?_getD]
   exact h8 _ d hj
 ·rw[hd]
  exact h A' c' fun b hb=>h12.imp (fun e=>e.symm.trans hb) fun e=>by
   have e':some w.heap.size=some b:=e.symm.trans hb
   injection e' with e'
   have:=hlo a w hr
   omega
theorem SRel.ownNil{a:Act}{w:World}(hr:SRel w0 S t H a w)(e sz:Nat):SRel w0 S t (.own (.slice none 0 0) e sz 0 []::H) a w :=
 hr.newE _ (Ext.refl w) trivial (fun b hb=>by cases hb) fun _=>⟨fun b hb=>(by cases hb),[],World.ownsRow_nil _ _ _ _,rfl,fun i d h=>by simp at h⟩
theorem AL.ownNil{ops:Array Oper}{l:List Oper}(e sz:Nat)(h:AL P w0 S F ops Q l t (.own (.slice none 0 0) e sz 0 []::H)):AL P w0 S F ops Q l t H:=fun a w hr=>h a w (hr.ownNil e sz)
end
section
variable {P:Program} {w0:Bs} {S:Nat→Prop} {F:Fence} {H:List HE} {t:List AV} {Q:qcB}
theorem AY.msliceH{o:Oper}{ty e sz bytes n c k:Nat}{ag:Bool}{z:Value}{x y:Operand}{A:Option Addr}{kk:IntKind}{m:Int}[i:SliceTy P ty e sz ag bytes z](ho:o.op = .slice ty x none (some y) none)(hx:evO t x = .val (.slice A n c))(hy:evO t y = .val (.int kk m))(hk:m=(k:Int))(hc:k≤c) :
  AY P w0 S H o t (.val (.slice A k c)):=by
 refine AY.of fun a w hE hH hX=>?_
 rw[ho] at hX
 have h1:=hX x (by simp[opl])
 have h2:=hX y (by simp[opl])
 rw[hx] at h1
 rw[hy] at h2
 have hs:=i.ty.size w
 have hu:=i.h
 refine ⟨.slice A k c,w,?_,Ext.refl w,.val _⟩
 unfold execOp
 rw[ho]
 dsimp only
 simp only[Option.map_some,Option.map_none]
 rw[h1.val_eq,h2.val_eq]
 subst hk
 have hb:(0:Int)≤(k:Int)∧(k:Int)≤(c:Int):=by omega
 simp[Instr.sliceAt,Instr.slice,run_underlying hu,Instr.sliceBounds,Instr.sliceBound,asIntOf,hs,hb,hc]
 cases A<;>simp[Addr.add]
theorem AL.conv{ops:Array Oper}{l:List Oper}{t':List AV}{H':List HE}(hc:∀a w,SRel w0 S t H a w→SRel w0 S t' H' a w)(h:AL P w0 S F ops Q l t' H'):AL P w0 S F ops Q l t H:=fun a w hr=>h a w (hc a w hr)
theorem SRel.shrink{a:Act}{w:World}(hr:SRel w0 S t H a w)(k:Nat){A:Option Addr}{n m c e sz:Nat}{cells:List AV}(hH:H[k]?=some (.own (.slice A n c) e sz n cells))(hm:m≤n)(hA:m=0→A≠none):SRel w0 S t (H.set k (.own (.slice A m c) e sz m (cells.take (m*sz)))) a w:=by
 have hmem:=List.mem_of_getElem? hH
 have hbk:∀m' n':Nat,(Value.slice A m' c).ownBlock=(Value.slice A n' c).ownBlock:=fun _ _=>by cases A<;>rfl
 refine hr.turn k _ (.own (.slice A m c) e sz m (cells.take (m*sz))) hH trivial (Kp.refl _ w) trivial (fun b hb=>.inl ((hbk n m).trans hb)) fun hmv=>?_
 obtain ⟨h0,xs,⟨h1,h2⟩,h3,h4⟩:=hr.hs _ hmem
 have hle:m*sz≤n*sz:=Nat.mul_le_mul_right _ hm
 refine ⟨fun b hb=>h0 b ((hbk n m).trans hb),xs.take (m*sz),⟨by simp;omega,?_⟩,by simp[h3],fun i d hi=>?_⟩
 ·rcases h2 with ⟨h5,h6⟩ | ⟨g,cap,cur,h5,h6,h7,h8,h9,h10,h11⟩
  ·injection h5 with h5 h51 h52
   by_cases hm0:m=0
   ·exact absurd h5 (hA hm0)
   ·omega
  ·injection h5 with h5 h51 h52
   subst h5 h52
   exact .inr ⟨g,c,cur,rfl,h6,h7,by omega,h9,h10,by rw[← h11,List.take_take,Nat.min_eq_left hle]⟩
 ·rw[List.getElem?_take] at hi
  split at hi
  ·rename_i hlt
   have:=h4 i d hi
   rw[List.getD_eq_getElem?_getD] at this ⊢
   rw[List.getElem?_take,if_pos hlt]
   exact this.move (Nat.le_refl _) fun c hc hlt=>hmv c hc hlt
  ·cases hi
theorem qG{e:HE}{H:List HE}:(e::H)[0]?=some e:=rfl
theorem qH{e a0:HE}{H:List HE}:(a0::e::H)[1]?=some e:=rfl
theorem qI{e a0 a1:HE}{H:List HE}:(a0::a1::e::H)[2]?=some e:=rfl
theorem qJ{e a0 a1 a2:HE}{H:List HE}:(a0::a1::a2::e::H)[3]?=some e:=rfl
theorem qK{e a0 a1 a2 a3:HE}{H:List HE}:(a0::a1::a2::a3::e::H)[4]?=some e:=rfl
theorem qL{e a0 a1 a2 a3 a4:HE}{H:List HE}:(a0::a1::a2::a3::a4::e::H)[5]?=some e:=rfl
theorem qM{e a0 a1 a2 a3 a4 a5:HE}{H:List HE}:(a0::a1::a2::a3::a4::a5::e::H)[6]?=some e:=rfl
theorem qN{e a0 a1 a2 a3 a4 a5 a6:HE}{H:List HE}:(a0::a1::a2::a3::a4::a5::a6::e::H)[7]?=some e:=rfl
theorem qrI(l:List AV)(g:Nat)(x:AV)(h:g<l.length):qk l g [x]=l.set g x:=by
 apply List.ext_getElem?
 intro i
 rw[qe1 (by simp;omega)]
 simp only[List.length_singleton]
 by_cases hi:i=g
 ·subst hi
  rw[if_pos ⟨Nat.le_refl _,by omega⟩,Nat.sub_self,List.getElem?_set_self h]
  rfl
 ·rw[if_neg (by omega),List.getElem?_set_ne (Ne.symm hi)]
end
end Go.Proofs.YtfnflenkeljkiaaGreat
