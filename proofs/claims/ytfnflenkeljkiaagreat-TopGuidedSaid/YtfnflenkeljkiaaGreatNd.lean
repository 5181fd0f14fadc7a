/- Texts Dn17, Dn18, Dn19, Dn21, Dn22, Dn23, Dn26, Dn27, Dn28, Dn30, Dn31, Dr0 in one. -/
import Derived.Test.YtfnflenkeljkiaaGreatNc
import Derived.Deep.DeepHandedRow
import Derived.ProofKit
import Derived.OpenShut
import Derived.ChangeSame
import Derived.Lib.SmallJoins
/- Reading code by computing: regions. Nothing here speaks of the program. -/
set_option linter.constructorNameAsVariable false
set_option linter.unusedSimpArgs false
set_option linter.unusedVariables false
set_option linter.unusedSectionVars false
namespace Go.Proofs.YtfnflenkeljkiaaGreat
open Go Go.Proofs Go.RowKit
set_option maxHeartbeats 2000000
def qtT(k:Nat):Op→Nat
 | .alloc _=>1
 | .box _ _=>1
 | .makeSlice _ _ _=>1
 | .buildSlice _ _ _=>1
 | .makeMap _ _=>1
 | .call ⟨.builtin .append,_,_⟩=>1
 | .call ⟨.value _,_,_⟩=>k
 | _=>0
def nAl(k:Nat):List Oper→Nat
 | []=>0
 | o::l=>qtT k o.op+nAl k l
def qgq(k:Nat):Nat→List Oper→List (Nat×Oper)
 | _,[]=>[]
 | b,o::l=>(b,o)::qgq k (b+qtT k o.op) l
def regL{P:Program}(B:Tab P)(cs:CL P)(ops:List Oper):List (Nat×Oper)→St→PT (St×List (List Nat))
 | [],st=>.ret (st,[])
 | (id,o)::l,st=>(gstp B cs ops id o st).seq fun r=>(regL B cs ops l r.1).seq fun q=>.ret (q.1,r.2::q.2)
def qr0(acc:List Nat)(o:Oper):Nat:=o.after.toList.foldl (fun s e=>cond (Region.binds .any e) (s ||| (2 ^ e.on ||| acc.getD e.on 0)) s) 0
def qis:List Oper→List Nat→List Nat
 | [],acc=>acc
 | o::l,acc=>qis l (acc++[qr0 acc o])
def qqu:List Nat→List Nat→Bool
 | [],_=>true
 | k::l,m=>!m.contains k&&qqu l m
def qkd:Op→Bool
 | .alloc _=>false
 | .box _ _=>false
 | .makeSlice _ _ _=>false
 | .buildSlice _ _ _=>false
 | .store _ _ _=>false
 | .call ⟨.builtin .len,_,_⟩=>true
 | .call _=>false
 | .makeMap _ _=>false
 | .mapEntry _ _ _=>false
 | .entryStore _ _ _ _=>false
 | .mapUpdate _ _ _ _=>false
 | .insert _ _ _ _=>false
 | _=>true
def qmh:Op→Op→Bool
 | .lookup ty _ _ false,.mapEntry ty' _ _=>Nat.beq ty ty'
 | _,_=>false
def qr1(Fi Fj:List Nat)(oi oj:Op):Bool:=match oj with
 | .call ⟨.builtin .append,_,_⟩=>match Fj with
  | [a,b,_]=>qkd oi&&qqu Fi [a,b]
  | _=>false
 | _=>false
def qzE(ops:List Oper)(masks:List Nat)(Fs:List (List Nat))(i j:Nat):Bool :=
 Nat.testBit (masks.getD j 0) i||match ops[i]?,ops[j]? with
  | some oi,some oj=>oi.apart ops.toArray oj&&(qqu (Fs.getD i []) (Fs.getD j [])||(qkd oi.op&&qkd oj.op)||qmh oi.op oj.op||qr1 (Fs.getD i []) (Fs.getD j []) oi.op oj.op)
  | _,_=>false
def qtU:Nat→List Oper→Bool
 | _,[]=>true
 | j,o::l=>(o.after.toList.all fun e=>!Region.binds .any e||Nat.blt e.on j)&&qtU (j+1) l
def qoD(p:Nat→Nat→Bool):Nat→Bool
 | 0=>true
 | n+1=>(List.range n).all (fun i=>p i n)&&qoD p n
def okB(ops:List Oper)(Fs:List (List Nat)):Bool :=
 qtU 0 ops&&(Nat.beq Fs.length ops.length&&qoD (qzE ops (qis ops []) Fs) ops.length)
def qsQ{P:Program}(B:Tab P)(cs:CL P)(ops:List Oper)(draw:Bool)(st:St):PT St :=
 (regL B cs ops (qgq cs.k st.H.length ops) ⟨st.T,st.H++List.replicate (nAl cs.k ops) .new⟩).seq fun r=>match draw with
  | false=>.ret r.1
  | true=>match okB ops r.2 with
   | true=>.ret r.1
   | false=>.fail
theorem qk5(k:Nat):∀(b:Nat) (l:List Oper),(qgq k b l).map (·.2)=l
 | _,[]=>rfl
 | b,o::l=>by simp only[qgq,List.map_cons,qk5 k]
section
variable {P:Program} {w0:Bs} {S:Nat→Prop} {B:Tab P} {a:Act} {w:World} {m:Nat→Value} {st:St} {cs:CL P}
theorem mle.trans{m m' m'':Nat→Value}{H H':List DO}(h:mle m m' H)(k:mle m' m'' H')(hH:∀j,hget H j≠.new→hget H' j≠.new):mle m m'' H:=fun j hj=>(k j (hH j hj)).trans (h j hj)
theorem qyP{H:List DO}{p:PT DV}{r:SR}(h:(optH H p).Is r):Old H r.H:=by
 unfold optH at h
 obtain ⟨v,h1,h2⟩:=PT.seq_is _ h
 cases h2
 exact Old.refl _
theorem qyQ{t:Ty}{e:TypeId}{H:List DO}{d:DV}{r:List t.den×List DO×List Nat}(h:(qmU t e H d).Is r):Old H r.2.1:=by
 unfold qmU at h
 split at h
 ·cases h;exact Old.refl _
 ·split at h
  ·split at h
   ·obtain ⟨l,h1,h2⟩:=PT.seq_is _ h
    cases h2;exact (Old.refl _).put _ nofun
   ·exact h.elim
  ·exact h.elim
 ·split at h
  ·split at h
   ·obtain ⟨u,g1,h⟩:=h
    obtain ⟨l,h1,h2⟩:=PT.seq_is _ h
    cases h2;exact (Old.refl _).put _ nofun
   ·exact h.elim
  ·exact h.elim
 ·exact h.elim
theorem qqZ{id:Nat}{H:List DO}{ty:TypeId}{r:SR}(h:(qio B id H ty).Is r):Old H r.H:=by
 unfold qio at h
 split at h
 ·cases h;exact (Old.refl _).put _ nofun
 ·exact h.elim
theorem qz3{id:Nat}{H:List DO}{op:Op}{ds:List DV}{r:SR}(h:(sop B id H op ds).Is r):Old H r.H:=by
 unfold sop at h
 split at h
 ·unfold qom at h
  split at h
  ·exact h.elim
  ·split at h
   ·obtain ⟨v,h1,h2⟩:=PT.seq_is _ h;cases h2;exact Old.refl _
   ·split at h
    ·obtain ⟨v,h1,h2⟩:=PT.seq_is _ h;cases h2;exact Old.refl _
    ·exact h.elim
   ·split at h
    ·obtain ⟨y,hy,h⟩:=h
     obtain ⟨v,h1,h2⟩:=PT.seq_is _ h;cases h2;exact Old.refl _
    ·exact h.elim
   ·exact h.elim
 ·unfold qmb at h
  split at h
  ·exact h.elim
  ·split at h
   ·split at h
    ·obtain ⟨v,h1,h2⟩:=h;cases h2;exact Old.refl _
    ·exact h.elim
   ·split at h
    ·split at h
     ·obtain ⟨v,h1,h2⟩:=h;cases h2;exact Old.refl _
     ·exact h.elim
    ·split at h
     ·obtain ⟨v,h1,h2⟩:=h;cases h2;exact Old.refl _
     ·exact h.elim
    ·exact h.elim
   ·split at h
    ·split at h
     ·obtain ⟨v,h1,h2⟩:=h;cases h2;exact Old.refl _
     ·exact h.elim
    ·exact h.elim
   ·exact h.elim
 ·unfold qnF at h
  split at h
  ·split at h
   ·split at h
    ·split at h
     ·split at h
      ·cases h;exact (Old.refl _).put _ nofun
      ·exact h.elim
     ·exact h.elim
    ·split at h
     ·obtain ⟨y,hy,h⟩:=h
      dsimp only at h
      split at h
      ·split at h
       ·rename_i hd
        split at h
        ·cases h
         exact (qgo _ _ _ _ _ _ hd).1.old.put _ nofun
        ·exact h.elim
       ·exact h.elim
      ·exact h.elim
     ·exact h.elim
    ·exact h.elim
   ·exact h.elim
  ·exact h.elim
 ·unfold qnG at h
  split at h
  ·cases h;exact (Old.refl _).put _ nofun
  ·exact h.elim
 ·unfold boxD at h
  split at h
  ·cases h;exact (Old.refl _).put _ nofun
  ·exact h.elim
 ·unfold qqm at h
  split at h
  ·obtain ⟨u,g1,u2,g2,h⟩:=h
   cases h;exact (Old.refl _).put _ nofun
  ·exact h.elim
 ·unfold ql5 at h
  split at h
  ·split at h
   ·rename_i hd
    split at h
    ·split at h
     ·cases h
      exact (qsH _ _ _ _ _ hd).1.old.put _ nofun
     ·exact h.elim
    ·exact h.elim
   ·exact h.elim
  ·exact h.elim
 ·unfold qon at h
  split at h
  ·exact h.elim
  ·split at h
   ·split at h
    ·obtain ⟨v,h1,h2⟩:=h;cases h2;exact Old.refl _
    ·exact h.elim
   ·split at h
    ·split at h
     ·obtain ⟨v,h1,h2⟩:=h;cases h2;exact Old.refl _
     ·exact h.elim
    ·split at h
     ·obtain ⟨v,h1,h2⟩:=h;cases h2;exact Old.refl _
     ·exact h.elim
    ·exact h.elim
   ·obtain ⟨v,h1,h2⟩:=h;cases h2;exact Old.refl _
   ·exact h.elim
 ·unfold qoo at h
  split at h
  ·exact h.elim
  ·split at h
   ·split at h
    ·obtain ⟨v,h1,h2⟩:=h;cases h2;exact Old.refl _
    ·exact h.elim
   ·split at h
    ·split at h
     ·obtain ⟨v,h1,h2⟩:=h;cases h2;exact Old.refl _
     ·exact h.elim
    ·split at h
     ·obtain ⟨v,h1,h2⟩:=h;cases h2;exact Old.refl _
     ·exact h.elim
    ·exact h.elim
   ·exact h.elim
 ·unfold cutD at h
  split at h
  ·exact h.elim
  ·split at h
   ·split at h
    ·obtain ⟨v,h1,v2,h1b,h2⟩:=h;cases h2;exact Old.refl _
    ·exact h.elim
   ·split at h
    ·split at h
     ·obtain ⟨v,h1,v2,h1b,h2⟩:=h;cases h2;exact Old.refl _
     ·exact h.elim
    ·split at h
     ·obtain ⟨v,h1,v2,h1b,h2⟩:=h;cases h2;exact Old.refl _
     ·exact h.elim
    ·exact h.elim
   ·exact h.elim
 ·split at h
  ·unfold lenD at h
   split at h
   ·exact h.elim
   ·split at h
    ·cases h;exact Old.refl _
    ·cases h;exact Old.refl _
    ·split at h
     ·cases h;exact Old.refl _
     ·cases h;exact Old.refl _
     ·exact h.elim
    ·split at h
     ·cases h;exact Old.refl _
     ·exact h.elim
    ·exact h.elim
  ·exact h.elim
 ·split at h
  ·split at h
   ·unfold qkJ at h
    split at h
    ·obtain ⟨l2,hv,h2⟩:=PT.seq_is _ h
     clear h
     obtain ⟨l1,hb,h3⟩:=PT.seq_is _ h2
     clear h2
     obtain ⟨_,g1,h4⟩:=h3
     cases h4
     exact (qyQ hb).put _ nofun
    ·exact h.elim
   ·unfold qop at h
    split at h
    ·split at h
     ·obtain ⟨k,h1,u,h2,h⟩:=h
      cases h;exact (Old.refl _).put _ nofun
     ·exact h.elim
    ·exact h.elim
  ·exact h.elim
 ·exact qqZ h
 ·exact qqZ h
 ·unfold qgn at h
  split at h
  ·split at h
   ·cases h;exact Old.refl _
   ·exact h.elim
  ·exact h.elim
 ·unfold qj9 at h
  split at h
  ·split at h
   ·cases h;exact (Old.refl _).put _ nofun
   ·exact h.elim
  ·exact h.elim
 ·unfold qnH at h
  split at h
  ·split at h
   ·rename_i h0
    split at h
    ·obtain ⟨_,_,_,_,h⟩:=h
     cases h
     exact (qnK h0).1.old.put _ nofun
    ·exact h.elim
   ·exact h.elim
  ·exact h.elim
 ·unfold qla at h
  split at h
  ·split at h
   ·rename_i h0
    split at h
    ·cases h
     exact (qnK h0).1.old.put _ nofun
    ·exact h.elim
   ·exact h.elim
  ·exact h.elim
 ·unfold qla at h
  split at h
  ·split at h
   ·rename_i h0
    split at h
    ·cases h
     exact (qnK h0).1.old.put _ nofun
    ·exact h.elim
   ·exact h.elim
  ·exact h.elim
 ·split at h
  ·unfold qnI at h
   split at h
   ·split at h
    ·split at h
     ·split at h
      ·obtain ⟨u,hu,h⟩:=h
       cases h;exact (Old.refl _).put _ nofun
      ·exact h.elim
     ·exact h.elim
    ·exact h.elim
   ·exact h.elim
  ·exact h.elim
 ·split at h
  ·unfold capD at h
   split at h
   ·split at h
    ·cases h;exact Old.refl _
    ·exact h.elim
   ·exact h.elim
  ·exact h.elim
 ·split at h
  ·unfold qqn at h
   split at h
   ·split at h
    ·obtain ⟨v,hv,h⟩:=PT.seq_is _ h
     split at h
     ·split at h
      ·obtain ⟨vs,h1,h2⟩:=PT.seq_is _ h
       cases h2;exact (Old.refl _).put _ nofun
      ·exact h.elim
     ·split at h
      ·obtain ⟨vs,h1,u,hu,h2⟩:=PT.seq_is _ h
       cases h2;exact (Old.refl _).put _ nofun
      ·exact h.elim
     ·exact h.elim
    ·exact h.elim
   ·exact h.elim
  ·exact h.elim
 ·exact qyP h
theorem qtq(id:Nat)(H:List DO)(d:DV):Old H (qdz id H d).2:=by
 unfold qdz
 split
 ·split
  ·split
   ·rename_i t e l hk _ _
    exact (Old.put (o:=.dead t.sz) (Old.refl H) _ nofun).put (o:=.row false t e _) _ nofun
   ·exact Old.refl _
  ·exact Old.refl _
 ·exact Old.refl _
theorem qtr{cs:List (Ct P)}{f:FuncId}{ds:List DV}{H:List DO}{r:SR}(h:(qlL cs f ds H).Is r):Old H r.H:=by
 obtain ⟨c,_,z,hz,_⟩:=qrk cs h
 cases hfl:c.rs.flat with
 | true=>rw[hfl] at hz;rw[(qoy _ _ _ _ _ _ hz).1];exact Old.refl _
 | false=>rw[hfl] at hz;exact (qpE _ _ _ _ _ _ hz).1.old
theorem qts{cs:List (Ct P)}{fv:DV}{ds:List DV}{H:List DO}{r:SR}(h:(qmZ cs H fv ds).Is r):Old H r.H:=by
 unfold qmZ at h
 split at h
 ·exact qtr h
 ·split at h
  ·exact qtr h
  ·exact h.elim
 ·exact h.elim
theorem qyR{id:Nat}{op:Op}{T:List DV}{H:List DO}{r:SR}(h:(opSR B cs id op T H).Is r):Old H r.H:=by
 unfold opSR at h
 split at h
 ·unfold qqs at h
  split at h
  ·split at h
   ·obtain ⟨q,h1,h2⟩:=PT.seq_is _ h
    obtain rfl:=qmg h2
    exact (qm3 h1).trans (qtq _ _ _)
   ·exact qts h
  ·split at h
   ·obtain ⟨q,h1,h2⟩:=PT.seq_is _ h
    obtain rfl:=qmg h2
    exact (qm3 h1).trans (qtq _ _ _)
   ·exact qts h
  ·exact h.elim
 ·exact qz3 h
theorem StepR.old{ops:List Oper}{id:Nat}{o:Oper}{st':St}{F:List Nat}(h:StepR B cs ops id o st st' F):Old st.H st'.H:=by
 rcases h with ⟨_,r,h1,rfl,_⟩ | ⟨_,rfl,_⟩
 ·exact qyR h1
 ·exact Old.refl _
inductive Chain {P:Program} (B:Tab P) (cs:CL P) (ops:List Oper):List (Nat×Nat×Oper×List Nat)→St→St→Prop
 | nil (st:St):Chain B cs ops [] st st
 | cons {i id:Nat} {o:Oper} {F:List Nat} {l:List (Nat×Nat×Oper×List Nat)} {st st1 st2:St} (h:StepR B cs ops id o st st1 F) (h':Chain B cs ops l st1 st2):Chain B cs ops ((i,id,o,F)::l) st st2
theorem Chain.kl{ops:List Oper}{l:List (Nat×Nat×Oper×List Nat)}{st st':St}(h:Chain B cs ops l st st'):Kl st.H st'.H:=by
 induction h with
 | nil=>exact Kl.refl _
 | cons h _ ih=>exact h.kl.trans ih
def num:Nat→List (Nat×Oper)→List (List Nat)→List (Nat×Nat×Oper×List Nat)
 | i,(id,o)::l,F::Fs=>(i,id,o,F)::num (i+1) l Fs
 | _,_,_=>[]
theorem qr2{ops:List Oper}:∀(l:List (Nat×Oper)) (i:Nat) {st:St} {r:St×List (List Nat)},(regL B cs ops l st).Is r→r.2.length=l.length∧Chain B cs ops (num i l r.2) st r.1
 | [],i,st,r,h=>by cases h;exact ⟨rfl,.nil _⟩
 | (id,o)::l,i,st,r,h=>by
  unfold regL at h
  obtain ⟨q,h1,h2⟩:=PT.seq_is _ h
  obtain ⟨p,h3,h4⟩:=PT.seq_is _ h2
  cases h4
  obtain ⟨k1,k2⟩:=qr2 l (i+1) h3
  exact ⟨by simp[k1],.cons (qz2 h1) k2⟩
theorem Chain.plain{ops:List Oper}{l:List (Nat×Nat×Oper×List Nat)}{st st':St}(h:Chain B cs ops l st st'):∀{w0:Bs} {S:Nat→Prop} {F:Fence},Wf F→∀{m:Nat→Value} {a:Act} {w:World},DR w0 S m st a w→∀{Q:Exit→Act→World→Prop},
  (∀m' a' w',mle m m' st.H→DR w0 S m' st' a' w'→a'.defers=a.defers→Q .normal a' w')→wpListIn F 0 P ops.toArray Q (l.map fun e=>e.2.2.1) a w:=by
 induction h with
 | nil st=>intro w0 S F hF m a w hr Q hQ;exact hQ m a w (mle.refl _ _) hr rfl
 | cons h1 h2 ih =>
  intro w0 S F hF m a w hr Q hQ
  refine wpListIn_step fun K hK=>h1.go hF hr fun m' a' w' hm hd hdf=>hK _ _ ?_
  exact ih hF hd fun m2 a2 w2 hm2 hd2 hdf2=>hQ m2 a2 w2 (hm.trans hm2 h1.old) hd2 (hdf2.trans hdf)
theorem qvO:∀(l:List (Nat×Oper)) (i:Nat) (Fs:List (List Nat)),Fs.length=l.length→(num i l Fs).map (fun e=>e.2.2.1)=l.map (·.2)
 | [],i,Fs,h=>by cases Fs<;>rfl
 | (id,o)::l,i,F::Fs,h=>by simp only[num,List.map_cons,qvO l (i+1) Fs (by simpa using h)]
 | _::_,_,[],h=>by cases h
end
theorem qyS{H H2:List DO}(hl:H.length=H2.length)(h:∀k,hget H k=hget H2 k):H=H2:=by
 induction H generalizing H2 with
 | nil=>cases H2 with
  | nil=>rfl
  | cons=>simp at hl
 | cons o H ih=>cases H2 with
  | nil=>simp at hl
  | cons o2 H2 =>
   have h0:o=o2:=h 0
   rw[h0,ih (by simpa using hl) fun k=>h (k+1)]
theorem qxs(T:List DV){i j:Nat}(u v:DV)(h:i≠j):lput (lput T i u) j v=lput (lput T j v) i u:=by
 induction T generalizing i j with
 | nil=>rfl
 | cons x T ih=>cases i with
  | zero=>cases j with
   | zero=>exact absurd rfl h
   | succ j=>rfl
  | succ i=>cases j with
   | zero=>rfl
   | succ j=>simp only[lput];rw[ih (by omega)]
theorem qq0(T:List DV){i j:Nat}(v:DV)(h:i≠j):lget (lput T i v) j=lget T j:=by
 induction T generalizing i j with
 | nil=>rfl
 | cons x T ih=>cases i with
  | zero=>cases j with
   | zero=>exact absurd rfl h
   | succ j=>rfl
  | succ i=>cases j with
   | zero=>rfl
   | succ j=>simp only[lput,lget];exact ih (by omega)
theorem qhq(T:List DV)(u v:DV){d e:Option Tmp}(h:∀x,d=some x→e≠some x):qt (qt T d u) e v=qt (qt T e v) d u:=by
 cases d with
 | none=>rfl
 | some i=>cases e with
  | none=>rfl
  | some j=>exact qxs T u v fun hij=>h i rfl (by rw[hij])
theorem qvP{T:List DV}{d:Option Tmp}{v:DV}{x:Operand}(h:∀i,d=some i→x≠.tmp i):evD (qt T d v) x=evD T x:=by
 cases d with
 | none=>rfl
 | some i=>cases x with
  | tmp j=>exact qq0 T v fun hij=>h i rfl (by rw[hij])
  | _=>rfl
theorem qrm:∀{l m:List Nat},qqu l m=true→∀k,k∈l→k∉m
 | [],m,_,k,hk=>by cases hk
 | x::l,m,h,k,hk=>by
  simp only[qqu,Bool.and_eq_true,Bool.not_eq_true',List.contains_eq_mem,decide_eq_false_iff_not] at h
  rcases List.mem_cons.1 hk with rfl | hk
  ·exact h.1
  ·exact qrm h.2 k hk
section
variable {P:Program} {w0:Bs} {S:Nat→Prop} {B:Tab P} {a:Act} {w:World} {m:Nat→Value} {st:St} {cs:CL P}
theorem qlR{id:Nat}{op:Op}{T:List DV}{H:List DO}{r:SR}(hr:qkd op=true)(h:(opSR B cs id op T H).Is r):r.H=H:=by
 unfold opSR at h
 split at h
 ·cases hr
 ·unfold sop at h
  split at h
  ·unfold qom at h
   split at h
   ·exact h.elim
   ·split at h
    ·obtain ⟨v,h1,h2⟩:=PT.seq_is _ h;cases h2;rfl
    ·split at h
     ·obtain ⟨v,h1,h2⟩:=PT.seq_is _ h;cases h2;rfl
     ·exact h.elim
    ·split at h
     ·obtain ⟨y,hy,h⟩:=h
      obtain ⟨v,h1,h2⟩:=PT.seq_is _ h;cases h2;rfl
     ·exact h.elim
    ·exact h.elim
  ·unfold qmb at h
   split at h
   ·exact h.elim
   ·split at h
    ·split at h
     ·obtain ⟨v,h1,h2⟩:=h;cases h2;rfl
     ·exact h.elim
    ·split at h
     ·split at h
      ·obtain ⟨v,h1,h2⟩:=h;cases h2;rfl
      ·exact h.elim
     ·split at h
      ·obtain ⟨v,h1,h2⟩:=h;cases h2;rfl
      ·exact h.elim
     ·exact h.elim
    ·split at h
     ·split at h
      ·obtain ⟨v,h1,h2⟩:=h;cases h2;rfl
      ·exact h.elim
     ·exact h.elim
    ·exact h.elim
  ·cases hr
  ·cases hr
  ·cases hr
  ·cases hr
  ·cases hr
  ·unfold qon at h
   split at h
   ·exact h.elim
   ·split at h
    ·split at h
     ·obtain ⟨v,h1,h2⟩:=h;cases h2;rfl
     ·exact h.elim
    ·split at h
     ·split at h
      ·obtain ⟨v,h1,h2⟩:=h;cases h2;rfl
      ·exact h.elim
     ·split at h
      ·obtain ⟨v,h1,h2⟩:=h;cases h2;rfl
      ·exact h.elim
     ·exact h.elim
    ·obtain ⟨v,h1,h2⟩:=h;cases h2;rfl
    ·exact h.elim
  ·unfold qoo at h
   split at h
   ·exact h.elim
   ·split at h
    ·split at h
     ·obtain ⟨v,h1,h2⟩:=h;cases h2;rfl
     ·exact h.elim
    ·split at h
     ·split at h
      ·obtain ⟨v,h1,h2⟩:=h;cases h2;rfl
      ·exact h.elim
     ·split at h
      ·obtain ⟨v,h1,h2⟩:=h;cases h2;rfl
      ·exact h.elim
     ·exact h.elim
    ·exact h.elim
  ·unfold cutD at h
   split at h
   ·exact h.elim
   ·split at h
    ·split at h
     ·obtain ⟨v,h1,v2,h1b,h2⟩:=h;cases h2;rfl
     ·exact h.elim
    ·split at h
     ·split at h
      ·obtain ⟨v,h1,v2,h1b,h2⟩:=h;cases h2;rfl
      ·exact h.elim
     ·split at h
      ·obtain ⟨v,h1,v2,h1b,h2⟩:=h;cases h2;rfl
      ·exact h.elim
     ·exact h.elim
    ·exact h.elim
  ·split at h
   ·unfold lenD at h
    split at h
    ·exact h.elim
    ·split at h
     ·cases h;rfl
     ·cases h;rfl
     ·split at h
      ·cases h;rfl
      ·cases h;rfl
      ·exact h.elim
     ·split at h
      ·cases h;rfl
      ·exact h.elim
     ·exact h.elim
   ·exact h.elim
  ·cases hr
  ·cases hr
  ·cases hr
  ·unfold qgn at h
   split at h
   ·split at h
    ·cases h;rfl
    ·exact h.elim
   ·exact h.elim
  ·cases hr
  ·cases hr
  ·cases hr
  ·cases hr
  ·cases hr
  ·cases hr
  ·cases hr
  ·unfold optH at h
   obtain ⟨v,h1,h2⟩:=PT.seq_is _ h
   cases h2;rfl
theorem qdG{ops:List Oper}{o:Oper}{T:List DV}{d:Option Tmp}{v:DV}(h:∀x,d=some x→x∉o.looksAt ops.toArray):qjJ ops o (qt T d v)=qjJ ops o T:=by
 unfold qjJ
 split
 ·rfl
 ·rename_i j want hg
  split
  ·rfl
  ·rename_i e hs
   have hl:e∈o.looksAt ops.toArray:=by
    simp only[Oper.looksAt,hg]
    refine List.mem_append_right _ ?_
    have:(ops.toArray[j]?).bind (·.dst)=some e:=by simpa[qqt] using hs
    rw[this];simp
   have:lget (qt T d v) e=lget T e:=by
    cases d with
    | none=>rfl
    | some i=>exact qq0 T v fun hie=>h i rfl (by rw[hie];exact hl)
   rw[this]
theorem qo3{ops:List Oper}{o:Oper}{i:Tmp}(h:Operand.tmp i∈o.op.operands):i∈o.looksAt ops.toArray:=by
 refine List.mem_append_left _ (List.mem_filterMap.2 ⟨.tmp i,?_,rfl⟩)
 simpa using h
theorem qyT(kt et:Ty)(l:List (kt.den×et.den)):asM kt et kt et l=some l:=qyb (.pr kt et) l
theorem quC{H:List DO}{ty:TypeId}{d x d' y:DV}{r q:SR}(h:(qgn B H ty false d x).Is r)(k:(qj9 B H ty d' y).Is q):r.H=H∧(qgn B q.H ty false d x).Is ⟨r.v,q.H,r.F⟩:=by
 unfold qgn at h ⊢
 unfold qj9 at k
 split at h
 ·rename_i e he
  simp only[he] at k
  split at h
  ·rename_i i z l x' h1 h2
   cases h
   split at k
   ·rename_i j z2 l2 y' k1 k2 _
    cases k
    obtain ⟨rfl,hi⟩:=qkM h1
    obtain ⟨rfl,hj⟩:=qkM k1
    refine ⟨rfl,?_⟩
    have hlt:=qbN (H:=H) (k:=j) (by rw[hj];exact nofun)
    by_cases hij:j=i
    ·subst hij
     rw[hi] at hj
     have hll:l2=l∧z2=z:=by
      injection hj with e1 _ _ e4
      exact ⟨e4.symm,e1.symm⟩
     obtain ⟨rfl,rfl⟩:=hll
     have hg:getM e (hput H j (.map z2 e.kt e.et (qj8 e.kt e.zero y' l2))) (.mp j)=some (j,z2,qj8 e.kt e.zero y' l2):=by
      unfold getM
      dsimp only
      rw[qq,if_pos ⟨rfl,hlt⟩]
      simp only[qyT,Option.map_some]
     simp only[hg,h2,cond,qwR]
     rfl
    ·have hg:getM e (hput H j (.map z2 e.kt e.et (qj8 e.kt e.zero y' l2))) (.mp i)=some (i,z,l):=qnL h1 (by rw[qq,if_neg (fun h=>hij h.1)])
     simp only[hg,h2]
     rfl
   ·exact k.elim
  ·exact h.elim
 ·exact h.elim
theorem qvi{o1 o2:Op}(h:qmh o1 o2=true):∃ty a b c d,o1 = .lookup ty a b false∧o2 = .mapEntry ty c d:=by
 unfold qmh at h
 split at h
 ·rename_i ty a b ty' c d
  have:ty=ty':=by simpa using h
  subst this
  exact ⟨ty,a,b,c,d,rfl,rfl⟩
 ·cases h
theorem qyU{t:Ty}{H:List DO}{d:DV}{r:List t.den×List Nat}(h:(qk1 t H d).Is r):r.2.length≤1:=by
 unfold qk1 at h
 split at h
 ·obtain ⟨v,h1,h2⟩:=PT.seq_is _ h;cases h2;simp
 ·cases h;simp
 ·split at h
  ·obtain ⟨v,h1,h2⟩:=PT.seq_is _ h;cases h2;simp
  ·obtain ⟨v,h1,h2⟩:=PT.seq_is _ h;cases h2;simp
  ·exact h.elim
 ·split at h
  ·obtain ⟨_,_,h⟩:=h
   obtain ⟨v,h1,h2⟩:=PT.seq_is _ h;cases h2;simp
  ·exact h.elim
 ·exact h.elim
theorem qxt{id x y z:Nat}{ar:Array Operand}{tys:Array TypeId}{T:List DV}{H:List DO}{q:SR}(h:(opSR B cs id (.call ⟨.builtin .append,ar,tys⟩) T H).Is q)(hF:q.F=[x,y,z]):q.H.length=H.length∧∀k,k≠x→k≠y→hget q.H k=hget H k:=by
 unfold opSR at h
 simp only at h
 generalize (opl (.call ⟨.builtin .append,ar,tys⟩)).map (evD T)=ds at h
 unfold sop at h
 split at h
 all_goals (try contradiction)
 all_goals (try (rename_i e;simp only[Op.call.injEq,Call.mk.injEq,Callee.builtin.injEq] at e))
 all_goals (try (obtain ⟨e1,_,_⟩:=e;cases e1;done))
 ·obtain ⟨_,rfl,rfl⟩:=e
  split at h
  ·split at h
   ·unfold qkJ at h
    split at h
    ·obtain ⟨l2,h1,h⟩:=PT.seq_is _ h
     obtain ⟨l1,h2,h⟩:=PT.seq_is _ h
     obtain ⟨_,h3,h⟩:=h
     cases h
     have hl:=qyU h1
     unfold qmU at h2
     split at h2
     ·cases h2
      simp only[List.nil_append] at hF
      injection hF with _ hF
      rw[hF] at hl
      simp at hl
     ·split at h2
      ·split at h2
       ·obtain ⟨v,_,h4⟩:=PT.seq_is _ h2
        cases h4
        simp only[List.cons_append,List.nil_append,List.cons.injEq] at hF
        obtain ⟨rfl,rfl,_⟩:=hF
        exact ⟨by simp only[qcD],fun k h5 h6=>by rw[qq,if_neg (fun e=>h5 e.1.symm),qq,if_neg (fun e=>h6 e.1.symm)]⟩
       ·exact h2.elim
      ·exact h2.elim
     ·split at h2
      ·split at h2
       ·obtain ⟨_,_,h2⟩:=h2
        obtain ⟨v,_,h4⟩:=PT.seq_is _ h2
        cases h4
        simp only[List.cons_append,List.nil_append,List.cons.injEq] at hF
        obtain ⟨rfl,rfl,_⟩:=hF
        exact ⟨by simp only[qcD],fun k h5 h6=>by rw[qq,if_neg (fun e=>h5 e.1.symm),qq,if_neg (fun e=>h6 e.1.symm)]⟩
       ·exact h2.elim
      ·exact h2.elim
     ·exact h2.elim
    ·exact h.elim
   ·unfold qop at h
    split at h
    ·split at h
     ·obtain ⟨_,_,_,_,h⟩:=h
      cases h
      simp at hF
     ·exact h.elim
    ·exact h.elim
  ·exact h.elim
theorem qyV{Fi Fj:List Nat}{oi oj:Op}(h:qr1 Fi Fj oi oj=true):∃ar tys x y z,oj = .call ⟨.builtin .append,ar,tys⟩∧Fj=[x,y,z]∧qkd oi=true∧qqu Fi [x,y]=true:=by
 unfold qr1 at h
 split at h
 ·split at h
  ·rw[Bool.and_eq_true] at h
   exact ⟨_,_,_,_,_,rfl,rfl,h⟩
  ·cases h
 ·cases h
theorem StepR.swap{ops:List Oper}{i j:Nat}{oi oj:Oper}{Fi Fj:List Nat}{s t u:St}(h:StepR B cs ops i oi s t Fi)(k:StepR B cs ops j oj t u Fj)(hap:oi.apart ops.toArray oj=true)
  (hF:(∀x,x∈Fi→x∉Fj)∨(qkd oi.op=true∧qkd oj.op=true)∨qmh oi.op oj.op=true∨qr1 Fi Fj oi.op oj.op=true):∃t',StepR B cs ops j oj s t' Fj∧StepR B cs ops i oi t' u Fi:=by
 obtain ⟨a1,a2,a3⟩:=Oper.apart_spec hap
 have a2':∀x,oj.dst=some x→oi.dst≠some x:=fun x hx hy=>a2 x hy hx
 have evj:∀(T:List DV) (v:DV) x,x∈oj.op.operands→evD (qt T oi.dst v) x=evD T x:=fun T v x hx=>qvP fun e he hx'=>a1 e he (by subst hx';exact qo3 hx)
 have evi:∀(T:List DV) (v:DV) x,x∈oi.op.operands→evD (qt T oj.dst v) x=evD T x:=fun T v x hx=>qvP fun e he hx'=>a3 e he (by subst hx';exact qo3 hx)
 rcases h with ⟨h1,r,h2,rfl,rfl⟩ | ⟨h1,rfl,rfl⟩
 ·rcases k with ⟨k1,q,k2,rfl,rfl⟩ | ⟨k1,rfl,rfl⟩
  ·simp only at k1 k2
   rw[qdG a1] at k1
   rw[qkQ (evj s.T r.v)] at k2
   rcases hF with hF | ⟨hi,hj⟩ | hle | hvw
   ·obtain ⟨_,_,c0⟩:=qoC (B:=B) (cs:=cs) i oi.op s.T s.H s.H r h2 ⟨rfl,fun _ _=>rfl⟩
    have ag1:Ag q.F r.H s.H:=⟨c0.1.symm,fun x hx=>((c0.2.2 x).2 (fun hxi=>hF x hxi hx)).2.symm⟩
    obtain ⟨Hj,e1,c1⟩:=qoC (B:=B) (cs:=cs) j oj.op s.T r.H s.H q k2 ag1
    have ag2:Ag r.F s.H Hj:=⟨c1.2.1,fun x hx=>((c1.2.2 x).2 (hF x hx)).1⟩
    obtain ⟨Hi,e2,c2⟩:=qoC (B:=B) (cs:=cs) i oi.op s.T s.H Hj r h2 ag2
    refine ⟨⟨qt s.T oj.dst q.v,Hj⟩,.inl ⟨k1,⟨q.v,Hj,q.F⟩,e1,rfl,rfl⟩,.inl ⟨by simp only;rw[qdG a3];exact h1,⟨r.v,Hi,r.F⟩,?_,?_,rfl⟩⟩
    ·simp only
     rw[qkQ (evi s.T q.v)]
     exact e2
    ·simp only
     rw[qhq _ _ _ a2]
     congr 1
     refine qyS (by rw[c1.1,c0.1,c2.2.1,c1.2.1]) fun x=>?_
     by_cases hxi:x∈r.F
     ·rw[(c2.2.2 x).1 hxi]
      exact ((c1.2.2 x).2 (hF x hxi)).2
     ·rw[((c2.2.2 x).2 hxi).1]
      by_cases hxj:x∈q.F
      ·exact ((c1.2.2 x).1 hxj).symm
      ·rw[((c1.2.2 x).2 hxj).1,((c1.2.2 x).2 hxj).2]
       exact ((c0.2.2 x).2 hxi).2
   ·have e1:=qlR hi h2
    rw[e1] at k2
    have e2:=qlR hj k2
    refine ⟨⟨qt s.T oj.dst q.v,q.H⟩,.inl ⟨k1,q,k2,rfl,rfl⟩,.inl ⟨by simp only;rw[qdG a3];exact h1,r,?_,?_,rfl⟩⟩
    ·simp only
     rw[qkQ (evi s.T q.v),e2]
     exact h2
    ·simp only
     rw[qhq _ _ _ a2,e1,e2]
   ·obtain ⟨ty,xa,xb,xc,xd,e1,e2⟩:=qvi hle
    have h2':(qgn B s.H ty false (evD s.T xa) (evD s.T xb)).Is r:=by rw[e1] at h2;exact h2
    have hrH:r.H=s.H:=by
     unfold qgn at h2'
     split at h2'
     ·split at h2'
      ·cases h2';rfl
      ·exact h2'.elim
     ·exact h2'.elim
    rw[hrH] at k2
    have k2':(qj9 B s.H ty (evD s.T xc) (evD s.T xd)).Is q:=by rw[e2] at k2;exact k2
    obtain ⟨_,h3⟩:=quC h2' k2'
    refine ⟨⟨qt s.T oj.dst q.v,q.H⟩,.inl ⟨k1,q,k2,rfl,rfl⟩,.inl ⟨by simp only;rw[qdG a3];exact h1,⟨r.v,q.H,r.F⟩,?_,?_,rfl⟩⟩
    ·simp only
     rw[qkQ (evi s.T q.v),e1]
     exact h3
    ·simp only
     rw[qhq _ _ _ a2]
   ·obtain ⟨ar,tys,x,y,z,e1,e2,hi,hd⟩:=qyV hvw
    have e3:=qlR hi h2
    rw[e3] at k2
    have k2':=k2
    rw[e1] at k2'
    obtain ⟨hl,hk⟩:=qxt k2' e2
    have hda:=qrm hd
    have ag:Ag r.F s.H q.H:=⟨hl,fun k hkF=>hk k (fun e=>hda k hkF (by rw[e];simp)) (fun e=>hda k hkF (by rw[e];simp))⟩
    obtain ⟨Hi,h3,_⟩:=qoC (B:=B) (cs:=cs) i oi.op s.T s.H q.H r h2 ag
    have e4:Hi=q.H:=qlR hi h3
    subst e4
    refine ⟨⟨qt s.T oj.dst q.v,q.H⟩,.inl ⟨k1,q,k2,rfl,rfl⟩,.inl ⟨by simp only;rw[qdG a3];exact h1,⟨r.v,q.H,r.F⟩,?_,?_,rfl⟩⟩
    ·simp only
     rw[qkQ (evi s.T q.v)]
     exact h3
    ·simp only
     rw[qhq _ _ _ a2]
  ·simp only at k1
   rw[qdG a1] at k1
   refine ⟨_,.inr ⟨k1,rfl,rfl⟩,.inl ⟨by simp only;rw[qdG a3];exact h1,r,?_,?_,rfl⟩⟩
   ·simp only
    rw[qkQ (evi s.T _)]
    exact h2
   ·simp only
    rw[qhq _ _ _ a2]
 ·rcases k with ⟨k1,q,k2,rfl,rfl⟩ | ⟨k1,rfl,rfl⟩
  ·simp only at k1 k2
   rw[qdG a1] at k1
   rw[qkQ (evj s.T _)] at k2
   refine ⟨_,.inl ⟨k1,q,k2,rfl,rfl⟩,.inr ⟨by simp only;rw[qdG a3];exact h1,?_,rfl⟩⟩
   simp only
   rw[qhq _ _ _ a2]
  ·simp only at k1
   rw[qdG a1] at k1
   refine ⟨_,.inr ⟨k1,rfl,rfl⟩,.inr ⟨by simp only;rw[qdG a3];exact h1,?_,rfl⟩⟩
   simp only
   rw[qhq _ _ _ a2]
def May(ops:List Oper)(x y:Nat×Nat×Oper×List Nat):Prop :=
 x.2.2.1.apart ops.toArray y.2.2.1=true∧((∀k,k∈x.2.2.2→k∉y.2.2.2)∨(qkd x.2.2.1.op=true∧qkd y.2.2.1.op=true)∨qmh x.2.2.1.op y.2.2.1.op=true∨qr1 x.2.2.2 y.2.2.2 x.2.2.1.op y.2.2.1.op=true)
theorem Chain.front{ops:List Oper}{y:Nat×Nat×Oper×List Nat}{post:List (Nat×Nat×Oper×List Nat)}:∀(pre:List (Nat×Nat×Oper×List Nat)) {s u:St},Chain B cs ops (pre++y::post) s u→(∀x,x∈pre→May ops x y) →
  ∃t,StepR B cs ops y.2.1 y.2.2.1 s t y.2.2.2∧Chain B cs ops (pre++post) t u
 | [],s,u,h,_=>by
  cases h with
  | cons h h'=>exact ⟨_,h,h'⟩
 | x::pre,s,u,h,hm=>by
  cases h with
  | cons h h' =>
   obtain ⟨t,h1,h2⟩:=Chain.front pre h' fun z hz=>hm z (List.mem_cons_of_mem _ hz)
   obtain ⟨p,q⟩:=hm _ List.mem_cons_self
   obtain ⟨t',h3,h4⟩:=h.swap h1 p q
   exact ⟨t',h3,.cons h4 h2⟩
def Down(ops:List Oper)(listed:Array Bool):Prop:=∀(k:Nat) (o:Oper),ops[k]?=some o→listed.getD k true=true→∀e,e∈o.after→Region.binds .any e=true→listed.getD e.on false=true
def quD(ops:List Oper)(l:List (Nat×Nat×Oper×List Nat)):Prop :=
 l.Pairwise fun x y=>x.1<y.1∧∀listed:Array Bool,Down ops listed→listed.getD x.1 true=false→y.1∈Region.ready .any ops.toArray listed→May ops x y
theorem quE(l:Array Bool)(i j:Nat)(d:Bool)(h:i<l.size):(l.setIfInBounds i true).getD j d=if i=j then true else l.getD j d:=by
 rw[Array.getD_eq_getD_getElem?,Array.getD_eq_getD_getElem?,Array.getElem?_setIfInBounds]
 split
 ·rename_i hij;subst hij;first | rfl | (rw[if_pos h];rfl)
 ·rfl
theorem Chain.any{ops:List Oper}(hback:∀(j:Nat) (o:Oper),ops[j]?=some o→∀e,e∈o.after→Region.binds .any e=true→e.on<j):∀(n:Nat) (l:List (Nat×Nat×Oper×List Nat)) {s u:St},l.length=n→Chain B cs ops l s u→quD ops l→(∀x,x∈l→ops[x.1]?=some x.2.2.1) →
  ∀(listed:Array Bool),listed.size=ops.length→Down ops listed→(∀k,k<ops.length→(listed.getD k true=false↔∃x,x∈l∧x.1=k)) →
  ∀{w0:Bs} {S:Nat→Prop} {F:Fence},Wf F→∀{m:Nat→Value} {a:Act} {w:World},DR w0 S m s a w→∀{Q:Exit→Act→World→Prop},(∀m' a' w',mle m m' s.H→DR w0 S m' u a' w'→a'.defers=a.defers→Q .normal a' w') →
   wpAnyIn F 0 P .any ops.toArray Q n listed a w
 | 0,l,s,u,hl,hc,_,_,listed,hsz,_,hli,w0,S,F,hF,m,a,w,hr,Q,hQ=>by
  have:l=[]:=List.eq_nil_of_length_eq_zero hl
  subst this
  cases hc
  refine ⟨?_,hQ m a w (mle.refl _ _) hr rfl⟩
  rw[List.eq_nil_iff_forall_not_mem]
  intro j hj
  obtain ⟨h1,o,h2,_⟩:=mem_ready.1 hj
  have hlt:j<ops.length:=by simpa using (Array.getElem?_eq_some_iff.1 h2).1
  obtain ⟨x,hx,_⟩:=(hli j hlt).1 h1
  cases hx
 | n+1,l,s,u,hl,hc,hap,hop,listed,hsz,hdown,hli,w0,S,F,hF,m,a,w,hr,Q,hQ=>by
  refine ⟨fun h0=>?_,fun j hj=>?_⟩
  ·exfalso
   match l,hl,hap,hop,hli with
   | x::l,hl,hap,hop,hli =>
    have hx:=hop x List.mem_cons_self
    have hlt:x.1<ops.length:=(List.getElem?_eq_some_iff.1 hx).1
    have:x.1∈Region.ready .any ops.toArray listed:=mem_ready.2 ⟨(hli _ hlt).2 ⟨x,List.mem_cons_self,rfl⟩,x.2.2.1,by simpa using hx,fun e he hb=>by
     have hlt2:=hback x.1 _ hx e he hb
     cases hg:listed.getD e.on false with
     | true=>rfl
     | false =>
      exfalso
      have hg':listed.getD e.on true=false:=by
       rw[Array.getD_eq_getD_getElem?] at hg ⊢
       rw[Array.getElem?_eq_getElem (by omega)] at hg ⊢
       exact hg
      obtain ⟨y,hy,hye⟩:=(hli e.on (by omega)).1 hg'
      rcases List.mem_cons.1 hy with rfl | hy
      ·omega
      ·have:=(List.rel_of_pairwise_cons hap hy).1
       omega⟩
    rw[h0] at this
    cases this
  ·obtain ⟨h1,o,h2,h3⟩:=mem_ready.1 hj
   have hlt:j<ops.length:=by simpa using (Array.getElem?_eq_some_iff.1 h2).1
   obtain ⟨y,hy,hyj⟩:=(hli j hlt).1 h1
   subst hyj
   obtain ⟨pre,post,rfl⟩:=List.append_of_mem hy
   have hap':=List.pairwise_append.1 hap
   have hyo:=hop y hy
   obtain ⟨t,ht,hct⟩:=hc.front pre fun x hx=>(hap'.2.2 x hx y List.mem_cons_self).2 listed hdown
    ((hli x.1 (by have:=(List.getElem?_eq_some_iff.1 (hop x (List.mem_append_left _ hx))).1;exact this)).2 ⟨x,List.mem_append_left _ hx,rfl⟩) hj
   have hsub:(pre++post).Sublist (pre++y::post):=List.Sublist.append_left (List.sublist_cons_self _ _) _
   unfold wpOpIn
   have hyo':ops.toArray[y.1]?=some y.2.2.1:=by simpa using hyo
   rw[hyo']
   simp only
   refine ht.go hF hr fun m' a' w' hm hd hdf=>?_
   refine Chain.any hback n (pre++post) (by simp at hl ⊢;omega) hct (hap.sublist hsub) (fun x hx=>hop x (hsub.subset hx)) _ (by simp[hsz]) (fun k ok hk hkl e he hb=>?_) (fun k hk=>?_) hF hd fun m2 a2 w2 hm2 hd2 hdf2=>hQ m2 a2 w2 (hm.trans hm2 ht.old) hd2 (hdf2.trans hdf)
   ·rw[quE _ _ _ _ (by omega)] at hkl ⊢
    split
    ·rfl
    ·split at hkl
     ·rename_i hyk
      have h2':some ok=some o:=by rw[← hk,← hyk];simpa using h2
      injection h2' with h2'
      subst h2'
      exact h3 e he hb
     ·exact hdown k ok hk hkl e he hb
   ·rw[quE _ _ _ _ (by omega)]
    by_cases hyk:y.1=k
    ·rw[if_pos hyk]
     refine ⟨fun h=>(by cases h),?_⟩
     rintro ⟨x,hx,hxk⟩
     exfalso
     rcases List.mem_append.1 hx with hx | hx
     ·have:=(hap'.2.2 x hx y List.mem_cons_self).1;omega
     ·have:=(List.rel_of_pairwise_cons hap'.2.1 hx).1;omega
    ·rw[if_neg hyk,hli k hk]
     constructor
     case mpr=>rintro ⟨x,hx,hxk⟩;exact ⟨x,hsub.subset hx,hxk⟩
     rintro ⟨x,hx,hxk⟩
     refine ⟨x,?_,hxk⟩
     rcases List.mem_append.1 hx with hx | hx
     ·exact List.mem_append_left _ hx
     ·rcases List.mem_cons.1 hx with rfl | hx
      ·exact absurd hxk hyk
      ·exact List.mem_append_right _ hx
end
theorem qtt(acc:List Nat)(i:Nat):∀(l:List Edge) (s:Nat),(l.foldl (fun s e=>cond (Region.binds .any e) (s ||| (2 ^ e.on ||| acc.getD e.on 0)) s) s).testBit i=true→s.testBit i=true∨∃e,e∈l∧Region.binds .any e=true∧(e.on=i∨(acc.getD e.on 0).testBit i=true)
 | [],s,h=>.inl h
 | e::l,s,h=>by
  rw[List.foldl_cons] at h
  rcases qtt acc i l _ h with h1 | ⟨e',h1,h2,h3⟩
  ·cases hb:Region.binds .any e with
   | false=>rw[hb] at h1;exact .inl h1
   | true =>
    rw[hb] at h1
    simp only[cond_true,Nat.testBit_or,Bool.or_eq_true] at h1
    rcases h1 with h1 | h1 | h1
    ·exact .inl h1
    ·refine .inr ⟨e,List.mem_cons_self,hb,.inl ?_⟩
     rw[Nat.testBit_two_pow] at h1
     simpa using h1
    ·exact .inr ⟨e,List.mem_cons_self,hb,.inr h1⟩
  ·exact .inr ⟨e',List.mem_cons_of_mem _ h1,h2,h3⟩
theorem qoE:∀(l:List Oper) (acc:List Nat) (k:Nat),k<acc.length→(qis l acc).getD k 0=acc.getD k 0
 | [],acc,k,h=>rfl
 | o::l,acc,k,h=>by
  unfold qis
  rw[qoE l _ k (by simp;omega),List.getD_eq_getElem?_getD,List.getElem?_append_left h,← List.getD_eq_getElem?_getD]
theorem qtu:∀(l:List Oper) (acc:List Nat) (j:Nat) (o:Oper),l[j]?=some o→∃acc',(qis l acc).getD (acc.length+j) 0=qr0 acc' o∧∀k,acc'.getD k 0=(qis l acc).getD k 0∨acc'.getD k 0=0
 | [],acc,j,o,h=>by simp at h
 | p::l,acc,0,o,h=>by
  injection h with h;subst h
  refine ⟨acc,?_,fun k=>?_⟩
  ·unfold qis
   rw[qoE l _ _ (by simp),Nat.add_zero,List.getD_eq_getElem?_getD,List.getElem?_append_right (Nat.le_refl _),Nat.sub_self];rfl
  ·rcases Nat.lt_or_ge k acc.length with hk | hk
   ·left;exact (qoE (p::l) acc k hk).symm
   ·right;rw[List.getD_eq_getElem?_getD,List.getElem?_eq_none hk];rfl
 | p::l,acc,j+1,o,h=>by
  obtain ⟨acc',h1,h2⟩:=qtu l (acc++[qr0 acc p]) j o (by simpa using h)
  refine ⟨acc',?_,h2⟩
  unfold qis
  rw[show acc.length+(j+1)=(acc++[qr0 acc p]).length+j by simp;omega]
  exact h1
theorem qxu{ops:List Oper}{j i:Nat}{o:Oper}(hj:ops[j]?=some o)(h:((qis ops []).getD j 0).testBit i=true):∃e,e∈o.after∧Region.binds .any e=true∧(e.on=i∨((qis ops []).getD e.on 0).testBit i=true):=by
 obtain ⟨acc',h1,h2⟩:=qtu ops [] j o hj
 rw[List.length_nil,Nat.zero_add] at h1
 rw[h1] at h
 rcases qtt acc' i _ 0 h with h3 | ⟨e,h3,h4,h5⟩
 ·simp at h3
 ·refine ⟨e,by simpa using h3,h4,h5.imp id fun h6=>?_⟩
  rcases h2 e.on with h7 | h7
  ·rw[← h7];exact h6
  ·rw[h7] at h6;simp at h6
theorem qvj{ops:List Oper}(hback:∀(j:Nat) (o:Oper),ops[j]?=some o→∀e,e∈o.after→Region.binds .any e=true→e.on<j){listed:Array Bool}(hd:Down ops listed):∀(j:Nat) (o:Oper),ops[j]?=some o→(∀e,e∈o.after→Region.binds .any e=true→listed.getD e.on false=true) →
  ∀i,((qis ops []).getD j 0).testBit i=true→listed.getD i false=true:=by
 intro j
 induction j using Nat.strongRecOn with
 | ind j ih =>
  intro o hj hall i hi
  obtain ⟨e,h1,h2,h3⟩:=qxu hj hi
  rcases h3 with rfl | h3
  ·exact hall e h1 h2
  ·have hl:=hall e h1 h2
   have hlt:=hback j o hj e h1 h2
   have hjl:=(List.getElem?_eq_some_iff.1 hj).1
   have hl':listed.getD e.on true=true:=by
    rw[Array.getD_eq_getD_getElem?] at hl ⊢
    cases hg:listed[e.on]? with
    | none=>rfl
    | some b=>rw[hg] at hl;exact hl
   exact ih e.on hlt _ (List.getElem?_eq_getElem (by omega)) (hd e.on _ (List.getElem?_eq_getElem (by omega)) hl') i h3
theorem quF:∀(b:Nat) (l:List Oper),qtU b l=true→∀(j:Nat) (o:Oper),l[j]?=some o→∀e,e∈o.after→Region.binds .any e=true→e.on<b+j
 | b,[],_,j,o,h,_,_,_=>by simp at h
 | b,p::l,hb,j,o,h,e,he,hbe=>by
  simp only[qtU,Bool.and_eq_true] at hb
  cases j with
  | zero =>
   injection h with h;subst h
   have:=List.all_eq_true.1 hb.1 e (by simpa using he)
   rw[hbe] at this
   have:=Nat.le_of_ble_eq_true (show Nat.blt e.on b=true by simpa using this)
   omega
  | succ j =>
   have:=quF (b+1) l hb.2 j o (by simpa using h) e he hbe
   omega
theorem qq1{p:Nat→Nat→Bool}:∀{n:Nat},qoD p n=true→∀i j,i<j→j<n→p i j=true
 | 0,_,i,j,_,h=>by omega
 | n+1,h,i,j,hij,hj=>by
  simp only[qoD,Bool.and_eq_true] at h
  by_cases hjn:j=n
  ·subst hjn;exact List.all_eq_true.1 h.1 i (List.mem_range.2 hij)
  ·exact qq1 h.2 i j hij (by omega)
theorem qpK:∀(l:List (Nat×Oper)) (i:Nat) (Fs:List (List Nat)) (p:Nat) (x:Nat×Nat×Oper×List Nat),(num i l Fs)[p]?=some x→x.1=i+p∧l[p]?=some (x.2.1,x.2.2.1)∧Fs[p]?=some x.2.2.2
 | [],i,Fs,p,x,h=>by cases Fs<;>simp[num] at h
 | (id,o)::l,i,[],p,x,h=>by simp[num] at h
 | (id,o)::l,i,F::Fs,0,x,h=>by simp only[num,List.getElem?_cons_zero,Option.some.injEq] at h;subst h;exact ⟨rfl,rfl,rfl⟩
 | (id,o)::l,i,F::Fs,p+1,x,h=>by
  simp only[num,List.getElem?_cons_succ] at h
  obtain ⟨h1,h2,h3⟩:=qpK l (i+1) Fs p x h
  exact ⟨by omega,by simpa using h2,by simpa using h3⟩
theorem qvQ:∀(l:List (Nat×Oper)) (i:Nat) (Fs:List (List Nat)),Fs.length=l.length→(num i l Fs).length=l.length
 | [],i,Fs,h=>by cases Fs<;>rfl
 | (id,o)::l,i,F::Fs,h=>by simp only[num,List.length_cons,qvQ l (i+1) Fs (by simpa using h)]
 | _::_,_,[],h=>by cases h
theorem qvk(k b:Nat)(l:List Oper):(qgq k b l).length=l.length:=by
 have:=congrArg List.length (qk5 k b l)
 simpa using this
theorem quG{k b:Nat}{l:List Oper}{p:Nat}{y:Nat×Oper}(h:(qgq k b l)[p]?=some y):l[p]?=some y.2:=by
 have:((qgq k b l).map (·.2))[p]?=some y.2:=by rw[List.getElem?_map,h];rfl
 rwa [qk5] at this
theorem qAz{ops:List Oper}{Fs:List (List Nat)}(h:okB ops Fs=true)(kk b:Nat):(∀(j:Nat) (o:Oper),ops[j]?=some o→∀e,e∈o.after→Region.binds .any e=true→e.on<j)∧Fs.length=ops.length∧quD ops (num 0 (qgq kk b ops) Fs):=by
 simp only[okB,Bool.and_eq_true] at h
 obtain ⟨h1,h2,h3⟩:=h
 have hback:∀(j:Nat) (o:Oper),ops[j]?=some o→∀e,e∈o.after→Region.binds .any e=true→e.on<j:=fun j o hj e he hb=>by
  have:=quF 0 ops h1 j o hj e he hb
  omega
 have hlen:Fs.length=ops.length:=by simpa using h2
 refine ⟨hback,hlen,?_⟩
 unfold quD
 rw[List.pairwise_iff_getElem]
 intro i j hi hj hij
 have hx:=qpK _ _ _ i _ (List.getElem?_eq_getElem hi)
 have hy:=qpK _ _ _ j _ (List.getElem?_eq_getElem hj)
 generalize (num 0 (qgq kk b ops) Fs)[i]=x at hx
 generalize (num 0 (qgq kk b ops) Fs)[j]=y at hy
 obtain ⟨x1,x2,x3⟩:=hx
 obtain ⟨y1,y2,y3⟩:=hy
 rw[Nat.zero_add] at x1 y1
 have xo:=quG x2
 have yo:=quG y2
 simp only at xo yo
 refine ⟨by omega,fun listed hd hun hrd=>?_⟩
 have hjl:j<ops.length:=(List.getElem?_eq_some_iff.1 yo).1
 have hp:=qq1 h3 i j hij hjl
 simp only[qzE,Bool.or_eq_true] at hp
 rcases hp with hp | hp
 ·exfalso
  rw[y1] at hrd
  obtain ⟨r1,o,r2,r3⟩:=mem_ready.1 hrd
  have r2':some o=some y.2.2.1:=by rw[← yo];simpa using r2.symm
  injection r2' with r2'
  subst r2'
  have:=qvj hback hd j _ yo r3 i hp
  rw[x1] at hun
  rw[Array.getD_eq_getD_getElem?] at hun this
  cases hg:listed[i]? with
  | none=>rw[hg] at hun;cases hun
  | some c=>rw[hg] at hun this;cases c<;>simp at hun this
 ·rw[xo,yo] at hp
  simp only[Bool.and_eq_true,Bool.or_eq_true] at hp
  refine ⟨hp.1,?_⟩
  have ex:Fs.getD i []=x.2.2.2:=by rw[List.getD_eq_getElem?_getD,x3];rfl
  have ey:Fs.getD j []=y.2.2.2:=by rw[List.getD_eq_getElem?_getD,y3];rfl
  rw[ex,ey] at hp
  rcases hp.2 with ((hp | hp) | hp) | hp
  case inl.inl.inr=>exact .inr (.inl hp)
  case inl.inr=>exact .inr (.inr (.inl hp))
  case inr=>exact .inr (.inr (.inr hp))
  exact .inl (qrm hp)
inductive DEx where
 | normal
 | exit (id:Nat)
 | ret
def DEx.ex:DEx→Exit
 | .normal=>.normal
 | .exit id=>.exit id
 | .ret=>.ret
def qfX:Code→Nat
 | .seq x y=>qfX x+qfX y
 | .cond _ x y=>qfX x+qfX y
 | .block _ x=>qfX x
 | .loop x=>qfX x+1
 | .rangeFunc _ _ _ x=>qfX x+1
 | _=>0
def qzF(ct:Nat→Bool):Operand→Option Nat
 | .tmp i=>match ct i with
  | true=>some i
  | false=>none
 | _=>none
def qcm(ct:Nat→Bool):Code→Nat→List (Nat×Code)
 | .seq x y,n=>qcm ct x n++qcm ct y (n+qfX x)
 | .cond c x y,n=>match qzF ct c with
  | some i=>[(1000000+i,.cond c x y)]
  | none=>qcm ct x n++qcm ct y (n+qfX x)
 | .block _ x,n=>qcm ct x n
 | .loop x,n=>[(n,.loop x)]
 | .rangeFunc g ps x y,n=>[(n,.rangeFunc g ps x y)]
 | _,_=>[]
def qr3(st:St)(c:Operand)(b:Bool):St:=match c with
 | .tmp i=>⟨lput st.T i (.val (.bool b)),st.H⟩
 | _=>st
def qff{P:Program}(B:Tab P)(cs:CL P)(lo:Nat→St→PT (DEx×St)):Code→Nat→St→PT (DEx×St)
 | .skip,_,st=>.ret (.normal,st)
 | .label _,_,st=>.ret (.normal,st)
 | .region _ ops draw,_,st=>(qsQ B cs ops.toList draw st).seq fun s=>.ret (.normal,s)
 | .seq x y,n,st=>(qff B cs lo x n st).seq fun r=>match r.1 with
  | .normal=>qff B cs lo y (n+qfX x) r.2
  | _=>.ret r
 | .cond c x y,n,st=>match qzF cs.c c with
  | some i=>lo (1000000+i) st
  | none=>match evD st.T c with
   | .val (.bool b)=>.br b (qff B cs lo x n (qr3 st c true)) (qff B cs lo y (n+qfX x) (qr3 st c false))
   | _=>.fail
 | .block id x,n,st=>(qff B cs lo x n st).seq fun r=>match r.1 with
  | .exit k=>match Nat.beq k id with
   | true=>.ret (.normal,r.2)
   | false=>.ret r
  | _=>.ret r
 | .loop _,n,st=>lo n st
 | .rangeFunc _ _ _ _,n,st=>lo n st
 | .exit id,_,st=>.ret (.exit id,st)
 | .ret,_,st=>.ret (.ret,st)
 | _,_,_=>.fail
def DA(P:Program)(rd:Bool)(c:Code)(st:St)(r:DEx×St):Prop :=
 ∀(w0:Bs) (S:Nat→Prop) (F:Fence),Wf F→(rd=false→F=Fence.wide)→∀(m:Nat→Value) (a:Act) (w:World),DR w0 S m st a w→∀(Q:Exit→Act→World→Prop),
  (∀m' a' w',Kept m m' st.H r.2.H→DR w0 S m' r.2 a' w'→(rd=true→a'.defers=a.defers)→Q r.1.ex a' w')→c.wpIn F 0 P Q a w
section
variable {P:Program} {w0:Bs} {S:Nat→Prop} {B:Tab P} {a:Act} {w:World} {m:Nat→Value} {st:St} {cs:CL P} {lo:Nat→St→PT (DEx×St)} {rd:Bool}
theorem qws{id:Nat}{ops:Array Oper}{draw:Bool}{st':St}(h:(qsQ B cs ops.toList draw st).Is st'):DA P rd (.region id ops draw) st (.normal,st'):=by
 obtain ⟨l⟩:=ops
 simp only at h
 intro w0 S F hF _ m a w hr Q hQ
 unfold qsQ at h
 obtain ⟨r,h1,h2⟩:=PT.seq_is _ h
 obtain ⟨k1,k2⟩:=qr2 (qgq cs.k st.H.length l) 0 h1
 have hr0:=hr.news (nAl cs.k l)
 have hkp:∀{st':St} {m':Nat→Value},mle m m' (st.H++List.replicate (nAl cs.k l) .new)→Kl (st.H++List.replicate (nAl cs.k l) .new) st'.H→Kept m m' st.H st'.H:=fun h k j hj=>by
  have:=Kept.of h k j (by rw[qld];exact hj)
  exact this
 cases draw with
 | false =>
  cases h2
  have:=k2.plain hF hr0 (Q:=Q) fun m' a' w' hm hd hdf=>hQ m' a' w' (hkp hm k2.kl) hd fun _=>hdf
  rw[qvO _ _ _ k1,qk5] at this
  exact wpIn_region_lit this
 | true =>
  simp only at h2
  split at h2
  ·rename_i hok
   cases h2
   obtain ⟨o1,o2,o3⟩:=qAz hok cs.k st.H.length
   have hnl:(num 0 (qgq cs.k st.H.length l) r.2).length=l.length:=by rw[qvQ _ _ _ k1,qvk]
   refine wpIn_region_any B.mixed ?_
   have hr1:DR w0 S m ⟨st.T,st.H++List.replicate (nAl cs.k l) .new⟩ a {w with drawn:=w.drawn+1}:=⟨hr0.1,hr0.2.1,hr0.2.2.mono (Ext.refl w).drew⟩
   have:=Chain.any o1 l.length _ hnl k2 o3 (fun x hx=>?_) (Array.replicate l.length false) (by simp) (fun k o hk hkl=>?_) (fun k hk=>?_) hF hr1 (Q:=Q) fun m' a' w' hm hd hdf=>hQ m' a' w' (hkp hm k2.kl) hd fun _=>hdf
   ·simpa using this
   ·obtain ⟨p,hp,rfl⟩:=List.mem_iff_getElem.1 hx
    obtain ⟨x1,x2,_⟩:=qpK _ _ _ p _ (List.getElem?_eq_getElem hp)
    have:=quG x2
    rw[x1,Nat.zero_add]
    exact this
   ·exfalso
    have hlt:=(List.getElem?_eq_some_iff.1 hk).1
    rw[Array.getD_eq_getD_getElem?,Array.getElem?_replicate,if_pos hlt] at hkl
    cases hkl
   ·constructor
    ·intro _
     refine ⟨_,List.getElem_mem (n:=k) (by rw[hnl];exact hk),?_⟩
     have:=(qpK _ _ _ k _ (List.getElem?_eq_getElem (by rw[hnl];exact hk))).1
     omega
    ·intro _
     rw[Array.getD_eq_getD_getElem?,Array.getElem?_replicate,if_pos hk];rfl
  ·exact h2.elim
theorem qr4{c:Operand}{b:Bool}(h:evD st.T c = .val (.bool b)):qr3 st c b=st:=by
 unfold qr3
 split
 ·rename_i i
  have:lget st.T i = .val (.bool b):=h
  rw[← this,qrf]
 ·rfl
theorem DA.seq{x y:Code}{st st1:St}{r:DEx×St}(h:DA P rd x st (.normal,st1))(k:DA P rd y st1 r):DA P rd (.seq x y) st r:=by
 intro w0 S F hF hW m a w hr Q hQ
 exact wpIn_seq (h w0 S F hF hW m a w hr _ fun m' a' w' hk hd hdf=>k w0 S F hF hW m' a' w' hd Q fun m2 a2 w2 hk2 hd2 hdf2=>hQ m2 a2 w2 (hk.trans hk2) hd2 fun e=>(hdf2 e).trans (hdf e))
theorem DA.seq'{x y:Code}{st:St}{r:DEx×St}(h:DA P rd x st r)(hn:r.1≠.normal):DA P rd (.seq x y) st r:=by
 intro w0 S F hF hW m a w hr Q hQ
 refine wpIn_seq (h w0 S F hF hW m a w hr _ fun m' a' w' hk hd hdf=>?_)
 have:=hQ m' a' w' hk hd hdf
 cases he:r.1 with
 | normal=>exact absurd he hn
 | exit id=>rw[he] at this;exact this
 | ret=>rw[he] at this;exact this
theorem qfY:∀(c:Code) (n:Nat) {st:St} {r:DEx×St},(∀(k:Nat) (body:Code),(k,body)∈qcm cs.c c n→∀(st:St) (r:DEx×St),(lo k st).Is r→DA P rd body st r)→(qff B cs lo c n st).Is r→DA P rd c st r
 | .skip,n,st,r,_,h=>by
  cases h
  exact fun w0 S F hF _ m a w hr Q hQ=>wpIn_skip (hQ m a w (Kept.refl _ _) hr fun _=>rfl)
 | .label l,n,st,r,_,h=>by
  cases h
  exact fun w0 S F hF _ m a w hr Q hQ=>wpIn_label (hQ m a w (Kept.refl _ _) hr fun _=>rfl)
 | .region id ops draw,n,st,r,_,h=>by
  unfold qff at h
  obtain ⟨s,h1,h2⟩:=PT.seq_is _ h
  cases h2
  exact qws h1
 | .seq x y,n,st,r,hl,h=>by
  unfold qff at h
  obtain ⟨s,h1,h2⟩:=PT.seq_is _ h
  have hx:=qfY x n (fun k b hk=>hl k b (List.mem_append_left _ hk)) h1
  obtain ⟨e,s⟩:=s
  cases e with
  | normal=>exact hx.seq (qfY y _ (fun k b hk=>hl k b (List.mem_append_right _ hk)) h2)
  | exit id=>cases h2;exact hx.seq' nofun
  | ret=>cases h2;exact hx.seq' nofun
 | .cond c x y,n,st,r,hl,h=>by
  unfold qff at h
  unfold qcm at hl
  split at h
  ·rename_i i hi
   rw[hi] at hl
   exact hl (1000000+i) _ (List.mem_singleton.2 rfl) st r h
  rename_i hi
  rw[hi] at hl
  dsimp only at hl
  split at h
  ·rename_i b hb
   intro w0 S F hF hW m a w hr Q hQ
   have hv:a.eval c = .bool b:=hr.2.2.ev_val (by rw[qfU,hb];rfl)
   rcases h with ⟨hc,h⟩ | ⟨hc,h⟩
   ·subst hc
    rw[qr4 hb] at h
    exact wpIn_cond_split hv (fun _=>qfY x n (fun k b hk=>hl k b (List.mem_append_left _ hk)) h w0 S F hF hW m a w hr Q hQ) (fun e=>by cases e)
   ·subst hc
    rw[qr4 hb] at h
    exact wpIn_cond_split hv (fun e=>by cases e) (fun _=>qfY y _ (fun k b hk=>hl k b (List.mem_append_right _ hk)) h w0 S F hF hW m a w hr Q hQ)
  ·exact h.elim
 | .block id x,n,st,r,hl,h=>by
  unfold qff at h
  obtain ⟨s,h1,h2⟩:=PT.seq_is _ h
  have hx:=qfY x n hl h1
  obtain ⟨e,s⟩:=s
  intro w0 S F hF hW m a w hr Q hQ
  refine wpIn_block (hx w0 S F hF hW m a w hr _ fun m' a' w' hkk hd hdf=>?_)
  cases e with
  | normal=>cases h2;exact hQ m' a' w' hkk hd hdf
  | ret=>cases h2;exact hQ m' a' w' hkk hd hdf
  | exit k =>
   simp only at h2
   split at h2
   ·rename_i hk
    have hk:k=id:=by simpa using hk
    cases h2
    simp only[DEx.ex,Exit.inBlock,hk,if_true]
    exact hQ m' a' w' hkk hd hdf
   ·rename_i hk
    have hk:k≠id:=Nat.ne_of_beq_eq_false hk
    cases h2
    simp only[DEx.ex,Exit.inBlock,hk,if_false]
    exact hQ m' a' w' hkk hd hdf
 | .loop x,n,st,r,hl,h=>hl n _ (List.mem_singleton.2 rfl) st r h
 | .rangeFunc g ps x y,n,st,r,hl,h=>hl n _ (List.mem_singleton.2 rfl) st r h
 | .exit id,n,st,r,_,h=>by
  cases h
  exact fun w0 S F hF _ m a w hr Q hQ=>wpIn_exit (hQ m a w (Kept.refl _ _) hr fun _=>rfl)
 | .ret,n,st,r,_,h=>by
  cases h
  exact fun w0 S F hF _ m a w hr Q hQ=>wpIn_ret (hQ m a w (Kept.refl _ _) hr fun _=>rfl)
 | .scope _,_,_,_,_,h=>h.elim
 | .goto _,_,_,_,_,h=>h.elim
 | .refuse _,_,_,_,_,h=>h.elim
def qg{σ ξ:Type}:Nat→((σ→Option ξ)→σ→Option ξ)→σ→Option ξ
 | 0,_,_=>none
 | n+1,step,s=>step (qg n step) s
def qcb:List (DEx×List It)→Type
 | []=>Empty
 | [(_,l)]=>qi l
 | (_,l)::y::r=>qi l⊕qcb (y::r)
def DEx.eqB:DEx→DEx→Bool
 | .normal,.normal=>true
 | .exit i,.exit j=>Nat.beq i j
 | .ret,.ret=>true
 | _,_=>false
theorem DEx.eqB_is{x y:DEx}(h:x.eqB y=true):x=y:=by
 cases x<;>cases y<;>first | rfl | (cases h;done) | (simp[DEx.eqB] at h;rw[h])
def qlS(n:Nat):(o:List (DEx×List It))→qcb o→DEx×St
 | [],x=>nomatch x
 | [(e,l)],x=>(e,mkS l n x)
 | (e,l)::y::r,x=>match x with
  | .inl z=>(e,mkS l n z)
  | .inr z=>qlS n (y::r) z
def qjK(n:Nat):(o:List (DEx×List It))→DEx→St→Option (qcb o)
 | [],_,_=>none
 | [(e,l)],d,st=>match e.eqB d with
  | true=>qiR l n st
  | false=>none
 | (e,l)::y::r,d,st=>match e.eqB d with
  | true=>(qiR l n st).map Sum.inl
  | false=>(qjK n (y::r) d st).map Sum.inr
theorem qoF{n:Nat}:∀{o:List (DEx×List It)} {d:DEx} {st:St} {x:qcb o},qjK n o d st=some x→(qlS n o x).1=d∧∀{w0:Bs} {S:Nat→Prop} {m:Nat→Value} {a:Act} {w:World},DR w0 S m st a w→∃m',Kept m m' st.H (qlS n o x).2.H∧DR w0 S m' (qlS n o x).2 a w
 | [],d,st,x,h=>by cases h
 | [(e,l)],d,st,x,h=>by
  unfold qjK at h
  split at h
  ·rename_i he
   exact ⟨DEx.eqB_is he,fun hr=>qmf h hr⟩
  ·cases h
 | (e,l)::y::r,d,st,x,h=>by
  unfold qjK at h
  split at h
  ·rename_i he
   cases hq:qiR l n st with
   | none=>rw[hq] at h;cases h
   | some z =>
    rw[hq] at h
    injection h with h
    subst h
    exact ⟨DEx.eqB_is he,fun hr=>qmf hq hr⟩
  ·cases hq:qjK n (y::r) d st with
   | none=>rw[hq] at h;cases h
   | some z =>
    rw[hq] at h
    injection h with h
    subst h
    have h3:=qoF (o:=y::r) hq
    exact h3
def qr5(n:Nat):(o:List (DEx×List It))→qcb o→PT (DEx×St)
 | [],_=>.fail
 | [(e,l)],x=>.ret (e,mkS l n x)
 | (e,l)::y::r,x=>.case (qi l) (qcb (y::r)) x (fun z=>.ret (e,mkS l n z)) (fun z=>qr5 n (y::r) z)
theorem qrn{n:Nat}:∀{o:List (DEx×List It)} {x:qcb o} {r:DEx×St},(qr5 n o x).Is r→r=qlS n o x
 | [],x,r,h=>h.elim
 | [(e,l)],x,r,h=>Eq.symm h
 | (e,l)::y::s,x,r,h=>by
  unfold qr5 at h
  rcases h with ⟨z,h1,h2⟩ | ⟨z,h1,h2⟩
  ·rw[show x = .inl z from h1];exact Eq.symm h2
  ·rw[show x = .inr z from h1];exact qrn (o:=y::s) h2
structure Lp where
 n:Nat
 its:List It
 out:List (DEx×List It)
 fn:qi its→Option (qcb out)
def Lp.go(L:Lp)(st:St):PT (DEx×St):=match qiR L.its L.n st with
 | some s=>.bind (qcb L.out) (L.fn s) fun x=>qr5 L.n L.out x
 | none=>.fail
def Lp.leaf(n:Nat)(its:List It)(out:List (DEx×List It))(k:qi its→Option (qcb out))(r:DEx×St):Option (qcb out) :=
 match r.1 with
 | .normal=>(qiR its n r.2).bind k
 | d=>qjK n out d r.2
theorem Lp.ok{L:Lp}{body:Code}{id fuel:Nat}{step:(qi L.its→Option (qcb L.out))→qi L.its→Option (qcb L.out)}(hfn:L.fn=qg fuel step)
  (hl:∀(k:Nat) (b:Code),(k,b)∈qcm cs.c body (id+1)→∀(st:St) (r:DEx×St),(lo k st).Is r→DA P rd b st r)
  (hs:∀rec s,(qff B cs lo body (id+1) (mkS L.its L.n s)).run (Lp.leaf L.n L.its L.out rec)=step rec s) {st:St} {r:DEx×St} (h:(L.go st).Is r):DA P rd (.loop body) st r:=by
 intro w0 S F hF hW m a w hr Q hQ
 unfold Lp.go at h
 split at h
 ·rename_i s hrd
  obtain ⟨x,hx,h⟩:=h
  have h:=qrn h
  subst h
  rw[hfn] at hx
  obtain ⟨m0,hk0,hr0⟩:=qmf hrd hr
  obtain ⟨a0,ha0⟩:∃a0,a0=a:=⟨_,rfl⟩
  refine qmP (fun k a w=>∃s m1,qg k step s=some x∧Kept m m1 st.H (mkS L.its L.n s).H∧DR w0 S m1 (mkS L.its L.n s) a w∧(rd=true→a.defers=a0.defers)) fuel ⟨s,m0,hx,hk0,hr0,fun _=>by rw[ha0]⟩ ?_
  rintro k a w ⟨s,m1,hk,hkp,hr,hdf0⟩
  cases k with
  | zero=>cases hk
  | succ k =>
   have hrun:=hs (qg k step) s
   rw[show step (qg k step) s=some x from hk] at hrun
   obtain ⟨⟨e,st'⟩,h1,h2⟩:=PT.run_is _ hrun
   have hda:=qfY body (id+1) hl h1
   refine hda w0 S F hF hW m1 a w hr _ fun m' a' w' hk1 hd hdf=>?_
   have hdf1:rd=true→a'.defers=a0.defers:=fun e=>(hdf e).trans (hdf0 e)
   cases e with
   | normal =>
    simp only[Lp.leaf] at h2
    cases hq:qiR L.its L.n st' with
    | none=>rw[hq] at h2;cases h2
    | some s' =>
     rw[hq] at h2
     obtain ⟨m2,hk2,hd2⟩:=qmf hq hd
     exact ⟨k,Nat.lt_succ_self k,s',m2,h2,hkp.trans (hk1.trans hk2),hd2,hdf1⟩
   | exit i =>
    obtain ⟨e1,e2⟩:=qoF (show qjK L.n L.out (.exit i) st'=some x from h2)
    obtain ⟨m2,hk2,hd2⟩:=e2 hd
    have:=hQ m2 a' w' (hkp.trans (hk1.trans hk2)) hd2 (by rw[ha0] at hdf1;exact hdf1)
    rw[e1] at this
    exact this
   | ret =>
    obtain ⟨e1,e2⟩:=qoF (show qjK L.n L.out .ret st'=some x from h2)
    obtain ⟨m2,hk2,hd2⟩:=e2 hd
    have:=hQ m2 a' w' (hkp.trans (hk1.trans hk2)) hd2 (by rw[ha0] at hdf1;exact hdf1)
    rw[e1] at this
    exact this
 ·exact h.elim
end
set_option maxHeartbeats 4000000
theorem qoG{g:Nat→Option Cn}:∀(l:List Ar) (x:qeo l),qa g (arsD l x)=arsA l x
 | [],_=>rfl
 | .d t::l,x=>congr (congrArg List.cons (qkL t x.1)) (qoG l x.2)
 | .fn f a c::l,x=>congr (congrArg List.cons (show AV.fn f (qa g (tysD a x.1.1)) (qa g (tysD c x.1.2))=AV.fn f (tysA a x.1.1) (tysA c x.1.2) by rw[qjI,qjI])) (qoG l x.2)
theorem qro:∀(l:List Ar) (x:qeo l),(arsA l x).length=l.length
 | [],_=>rfl
 | a::l,x=>by simp only[arsA,List.length_cons,qro l]
def resV{P:Program}(B:Tab P)(st:St):ResultVar→Option DV
 | .tmp i=>some (lget st.T i)
 | .cell i ty=>match B.ty ty with
  | none=>none
  | some e=>match lget st.T i with
   | .ptr k 0=>match hget st.H k with
    | .blk _ _ cells=>match e.ag with
     | true=>match Nat.beq cells.length e.sz with
      | true=>some (.agg cells)
      | false=>none
     | false=>match cells,e.sz with
      | d::_,1=>some d
      | _,_=>none
    | _=>none
   | _=>none
def qr6{P:Program}(B:Tab P)(st:St):List ResultVar→Option (List DV)
 | []=>some []
 | r::l=>match resV B st r,qr6 B st l with
  | some d,some ds=>some (d::ds)
  | _,_=>none
def finD{P:Program}(B:Tab P)(rs:List ResultVar)(tys:List Ty)(st:St):Option (qx tys) :=
 match qr6 B st rs with
 | some ds=>match qiq false tys st.H ds with
  | some (y,_)=>some y
  | none=>none
 | none=>none
def qzG{P:Program}(B:Tab P)(rs:List ResultVar)(tys:List Ty)(r:DEx×St):Option (qx tys) :=
 match r.1 with
 | .exit _=>none
 | _=>finD B rs tys r.2
def qg5(ars:List Ar)(nt:Nat)(x:qeo ars):St:=⟨arsD ars x++List.replicate (nt-ars.length) (.val undef),[]⟩
section
variable {P:Program} {w0:Bs} {S:Nat→Prop} {B:Tab P} {a:Act} {w:World} {m:Nat→Value} {st:St} {cs:CL P} {lo:Nat→St→PT (DEx×St)}
theorem qz4{r:ResultVar}{d:DV}(h:resV B st r=some d)(hr:DR w0 S m st a w):∃u,(rsem a.tmps r).run P w = .ok u w∧Enc w (Al w0 S (hes m st.H)) u (conc (gOf m st.H) d):=by
 cases r with
 | tmp i =>
  injection h with h
  subst h
  exact (RS.tmp i _ (qcN _ _)).run hr.2.2
 | cell i ty =>
  simp only[resV] at h
  split at h
  ·cases h
  ·rename_i e _
   obtain ⟨sz,ag,z,ok⟩:=e
   dsimp only at h
   split at h
   ·rename_i k hi
    split at h
    ·rename_i zz tt cells hk
     obtain ⟨b,hb1,hb2,hb3⟩:=hr.blkAt hk
     have hg:AV.get (qa (gOf m st.H) st.T) i = .val (.pointer (some ⟨b,0,none⟩)):=by
      rw[qcN,hi];simp only[conc,hb3]
     split at h
     ·split at h
      ·rename_i hl
       have hl:cells.length=sz:=by simpa using hl
       injection h with h
       subst h
       simp only[conc]
       exact (RS.cellN (P:=P) i ty b hg hb2 (by rw[qe];exact hl)).run hr.2.2
      ·cases h
     ·split at h
      ·rename_i d' q _
       injection h with h
       subst h
       exact (RS.cell1 (P:=P) i ty b 0 k tt _ (conc (gOf m st.H) d') z hg hb2 (by rw[qdX];rfl)).run hr.2.2
      ·cases h
    ·cases h
   ·cases h
theorem quH{fn:Func}{s1 s2 s3 s4:ResultVar}{tmps:Array Value}{w:World}{u1 u2 u3 u4:Value}(h:fn.results = #[s1,s2,s3,s4])(h1:(rsem tmps s1).run P w = .ok u1 w)(h2:(rsem tmps s2).run P w = .ok u2 w)(h3:(rsem tmps s3).run P w = .ok u3 w)(h4:(rsem tmps s4).run P w = .ok u4 w):(results fn tmps).run P w = .ok (.tuple #[u1,u2,u3,u4]) w:=by
 cases s1<;>cases s2<;>cases s3<;>cases s4<;>simp[rsem] at h1 h2 h3 h4<;>simp[results,h,h1,h2,h3,h4]<;>(try rw[at2 h1])<;>(try rw[at2 h2])<;>(try rw[at2 h3])<;>(try rw[at2 h4])
theorem qrp:∀{rs:List ResultVar} {ds:List DV},qr6 B st rs=some ds→DR w0 S m st a w→∃us:List Value,us.length=rs.length∧ds.length=rs.length∧(∀(i:Nat) (r:ResultVar) (u:Value),rs[i]?=some r→us[i]?=some u→(rsem a.tmps r).run P w = .ok u w)∧∀(i:Nat) (d:DV) (u:Value),ds[i]?=some d→us[i]?=some u→Enc w (Al w0 S (hes m st.H)) u (conc (gOf m st.H) d)
 | [],ds,h,hr=>by
  injection h with h
  subst h
  exact ⟨[],rfl,rfl,fun i r u h=>by simp at h,fun i d u h=>by simp at h⟩
 | r::rs,ds,h,hr=>by
  unfold qr6 at h
  split at h
  ·rename_i d ds' h1 h2
   injection h with h
   subst h
   obtain ⟨u,hu1,hu2⟩:=qz4 h1 hr
   obtain ⟨us,k1,k2,k3,k4⟩:=qrp h2 hr
   refine ⟨u::us,by simp[k1],by simp[k2],fun i r' u' e1 e2=>?_,fun i d' u' e1 e2=>?_⟩
   ·cases i with
    | zero=>injection e1 with e1;injection e2 with e2;subst e1 e2;exact hu1
    | succ i=>exact k3 i r' u' e1 e2
   ·cases i with
    | zero=>injection e1 with e1;injection e2 with e2;subst e1 e2;exact hu2
    | succ i=>exact k4 i d' u' e1 e2
  ·cases h
theorem qjy:∀(l:List Ty) (x:qx l),(tysA l x).length=l.length
 | [],_=>rfl
 | t::l,x=>by simp only[tysA,List.length_cons,qjy l]
theorem qqv{A:Nat→Prop}{us:List Value}{ds:List AV}(hl:us.length=ds.length)(h:∀(i:Nat) (u:Value) (d:AV),us[i]?=some u→ds[i]?=some d→Enc w A u d):Enc w A (.tuple us.toArray) (.tup ds) :=
 .tup _ _ (by simpa using hl) fun i d hd=>by
  have hlt:=qbK hd
  have:us[i]?=some us[i]:=List.getElem?_eq_getElem (by omega)
  rw[Array.getD_eq_getD_getElem?,List.getElem?_toArray,this]
  exact h i _ d this hd
theorem len2{α:Type}{l:List α}(h:l.length=2):∃a b,l=[a,b]:=by
 match l,h with
 | [a,b],_=>exact ⟨a,b,rfl⟩
theorem len3{α:Type}{l:List α}(h:l.length=3):∃a b c,l=[a,b,c]:=by
 match l,h with
 | [a,b,c],_=>exact ⟨a,b,c,rfl⟩
theorem len4{α:Type}{l:List α}(h:l.length=4):∃a b c d,l=[a,b,c,d]:=by
 match l,h with
 | [a,b,c,d],_=>exact ⟨a,b,c,d,rfl⟩
theorem qz5{fn:Func}{rs:List ResultVar}{tys:List Ty}{y:qx tys}(hrs:fn.results=rs.toArray)(hle:rs.length≤4)(h:finD B rs tys st=some y)(hr:DR w0 S m st a w):∃u,(results fn a.tmps).run P w = .ok u w∧Enc w (fun b=>b<w0.w.heap.size→S b) u (resA tys y):=by
 unfold finD at h
 split at h
 ·rename_i ds hds
  split at h
  ·rename_i y' r hy
   injection h with h
   subst h
   obtain ⟨H',F⟩:=r
   obtain ⟨us,k1,k2,k3,k4⟩:=qrp hds hr
   obtain ⟨a1,a2⟩:=qm0 _ _ _ _ _ _ hy
   obtain ⟨_,hgl⟩:=hr.fz a1
   have hw:=a2 m H' (Fz.refl _)
   have hlen:ds.length=tys.length:=by rw[← qe (g:=gOf m H'),hw.1,qjy]
   have hA:∀b,b<w.heap.size→Al w0 S (hes m st.H) b→Al w0 S (hes m H') b:=fun b _ hb=>⟨hb.1,hb.2.1,fun e' he' hb'=>by
    obtain ⟨k,hk,rfl⟩:=List.mem_iff_getElem.1 he'
    rw[qj] at hk
    have h1:=q8 m H' k
    rw[if_pos hk,List.getElem?_eq_getElem (by rw[qj];exact hk)] at h1
    injection h1 with h1
    rw[h1] at hb'
    have h2:=q8 m st.H k
    rw[if_pos (by rw[← a1.1];exact hk)] at h2
    rcases a1.2 k with h3 | ⟨t,e,l,h3,h4⟩
    ·rw[h3] at hb'
     exact hb.2.2 _ (List.mem_of_getElem? h2) (qbx hb')
    ·rw[h4] at hb';exact qeL b hb'⟩
   have hE:∀i u d,us[i]?=some u→(tysA tys y')[i]?=some d→Enc w (fun b=>b<w0.w.heap.size→S b) u d:=fun i u d hu hd=>by
    have hlt:=qbK hd
    rw[qjy] at hlt
    have e1:ds[i]?=some ds[i]:=List.getElem?_eq_getElem (by omega)
    have:=qhh hA hgl _ _ (k4 i _ u e1 hu)
    have:=hw.2 i _ d (by rw[qdX,e1];rfl) hd w _ u this
    exact this.mono fun b _ hb h=>(hb.1 h).1
   have hn:us.length=tys.length:=by omega
   rcases rs with _ | ⟨s1,_ | ⟨s2,_ | ⟨s3,_ | ⟨s4,_ | ⟨s5,rs⟩⟩⟩⟩⟩
   ·obtain rfl:=List.eq_nil_of_length_eq_zero (show tys.length=0 by simp only[List.length_nil] at k1;omega)
    exact ⟨_,results_none hrs a.tmps P w,.val _⟩
   ·obtain ⟨u1,rfl⟩:=List.length_eq_one_iff.1 (show us.length=1 by simpa using k1)
    obtain ⟨t1,rfl⟩:=List.length_eq_one_iff.1 (show tys.length=1 by simpa using hn.symm)
    exact ⟨u1,qoj hrs (k3 0 s1 u1 rfl rfl),hE 0 u1 _ rfl rfl⟩
   ·obtain ⟨u1,u2,rfl⟩:=len2 (show us.length=2 by simpa using k1)
    obtain ⟨t1,t2,rfl⟩:=len2 (show tys.length=2 by simpa using hn.symm)
    exact ⟨_,qt6 hrs (k3 0 s1 u1 rfl rfl) (k3 1 s2 u2 rfl rfl),qqv (us:=[u1,u2]) (by rw[qjy];rfl) hE⟩
   ·obtain ⟨u1,u2,u3,rfl⟩:=len3 (show us.length=3 by simpa using k1)
    obtain ⟨t1,t2,t3,rfl⟩:=len3 (show tys.length=3 by simpa using hn.symm)
    exact ⟨_,qrc hrs (k3 0 s1 u1 rfl rfl) (k3 1 s2 u2 rfl rfl) (k3 2 s3 u3 rfl rfl),qqv (us:=[u1,u2,u3]) (by rw[qjy];rfl) hE⟩
   ·obtain ⟨u1,u2,u3,u4,rfl⟩:=len4 (show us.length=4 by simpa using k1)
    obtain ⟨t1,t2,t3,t4,rfl⟩:=len4 (show tys.length=4 by simpa using hn.symm)
    exact ⟨_,quH hrs (k3 0 s1 u1 rfl rfl) (k3 1 s2 u2 rfl rfl) (k3 2 s3 u3 rfl rfl) (k3 3 s4 u4 rfl rfl),qqv (us:=[u1,u2,u3,u4]) (by rw[qjy];rfl) hE⟩
   ·simp at hle
  ·cases h
 ·cases h
theorem qA2{f:FuncId}{fn:Func}{c:Code}{ars:List Ar}{rs:List ResultVar}{tys:List Ty}{x:qeo ars}{y:qx tys}(hf:P.funcs[f]?=some fn)(hname:(fn.name == "runtime.NumGoroutine")=false)(hb:fn.body=some c)(hrs:fn.results=rs.toArray)(hle:rs.length≤4)
  (hl:∀(k:Nat) (b:Code),(k,b)∈qcm cs.c c 0→∀(st:St) (r:DEx×St),(lo k st).Is r→DA P false b st r)
  (h:(qff B cs lo c 0 (qg5 ars fn.ntmps x)).run (qzG B rs tys)=some y):PC P f (arsA ars x) ((Rt.ts tys).A y):=by
 refine PC.of hf hname hb fun w0 S hM a w hr=>?_
 obtain ⟨⟨e,st'⟩,h1,h2⟩:=PT.run_is _ h
 have hda:=qfY c 0 hl h1
 have hT:qa (gOf (fun _=>undef) []) (qg5 ars fn.ntmps x).T=arsA ars x++List.replicate (fn.ntmps-(arsA ars x).length) .undef:=by
  unfold qg5
  rw[qcP,qoG,qro]
  congr 1
  rw[qb4,List.map_replicate];rfl
 have hd0:DR w0 S (fun _=>undef) (qg5 ars fn.ntmps x) a w:=⟨fun b hb=>absurd hb (hM b),fun k hk=>absurd (show hget [] k=DO.new from rfl) hk,by
  show SRel w0 S (qa (gOf (fun _=>undef) []) (qg5 ars fn.ntmps x).T) [] a w
  rw[hT];exact hr⟩
 refine hda w0 S Fence.wide (.inl rfl) (fun _=>rfl) _ a w hd0 _ fun m' a' w' _ hd _=>?_
 refine ⟨_,_,hd.2.2,?_⟩
 have key:finD B rs tys st'=some y→RetA P w0 S fn (resA tys y) (qa (gOf m' st'.H) st'.T) (hes m' st'.H):=fun hy _ a2 w2 hr2=>qz5 hrs hle hy ⟨hd.1,hd.2.1,hr2⟩
 cases e with
 | normal=>exact key h2
 | ret=>exact key h2
 | exit k=>cases h2
end
def qbH(f:Func):Code:=f.body.getD .skip
def subC:List Bool→Code→Code
 | [],c=>c
 | b::l,.seq x y=>subC l (cond b y x)
 | b::l,.cond _ x y=>subC l (cond b y x)
 | _::l,.block _ x=>subC l x
 | _::l,.loop x=>subC l x
 | b::l,.rangeFunc _ _ x y=>subC l (cond b y x)
 | _::_,c=>c
section
variable {P:Program} {B:Tab P} {cs:CL P} {lo:Nat→St→PT (DEx×St)} {rd:Bool}
theorem qr7{c:Code}{n:Nat}{ls:List (Nat×Code)}(h:qcm cs.c c n=ls)(ha:∀kb,kb∈ls→∀(st:St) (r:DEx×St),(lo kb.1 st).Is r→DA P rd kb.2 st r) :
  ∀(k:Nat) (b:Code),(k,b)∈qcm cs.c c n→∀(st:St) (r:DEx×St),(lo k st).Is r→DA P rd b st r:=fun k b hk=>ha (k,b) (h ▸ hk)
theorem qnP{p:Nat×Code→Prop}:∀kb,kb∈([]:List (Nat×Code))→p kb:=fun _ h=>by cases h
end
def Ty.zero:(t:Ty)→t.den
 | .i _=>(0:Int)
 | .b=>false
 | .s=>ByteArray.mk #[]
 | .u=>()
 | .sl _=>[]
 | .pr x y=>(x.zero,y.zero)
 | .pt t=>t.zero
def Ty.noP:Ty→Bool
 | .sl t=>t.noP
 | .pr x y=>x.noP&&y.noP
 | .pt _=>false
 | _=>true
def Ty.zeroV:Ty→List Value
 | .i k=>[.int k 0]
 | .b=>[.bool false]
 | .s=>[.string (ByteArray.mk #[])]
 | .u=>[]
 | .sl _=>[.slice none 0 0]
 | .pr x y=>x.zeroV++y.zeroV
 | .pt _=>[.pointer none]
theorem Ty.zeroV_len:∀t:Ty,t.zeroV.length=t.sz
 | .i _=>rfl
 | .b=>rfl
 | .s=>rfl
 | .u=>rfl
 | .sl _=>rfl
 | .pt _=>rfl
 | .pr x y=>by simp only[Ty.zeroV,List.length_append,Ty.zeroV_len x,Ty.zeroV_len y,Ty.sz]
theorem Ty.zero_ok(w:World)(S:Nat→Prop):∀(t:Ty),t.noP=true→∀(j:Nat) (d:AV),(t.enc t.zero)[j]?=some d→Enc w S (t.zeroV.getD j undef) d
 | .i k,hp,j,d,h=>by match j,h with
  | 0,h=>injection h with h;subst h;exact .val _
  | n+1,h=>simp[Ty.enc] at h
 | .b,hp,j,d,h=>by match j,h with
  | 0,h=>injection h with h;subst h;exact .val _
  | n+1,h=>simp[Ty.enc] at h
 | .s,hp,j,d,h=>by match j,h with
  | 0,h=>injection h with h;subst h;exact .val _
  | n+1,h=>simp[Ty.enc] at h
 | .u,hp,j,d,h=>by simp[Ty.enc] at h
 | .sl t,hp,j,d,h=>by match j,h with
  | 0,h=>injection h with h;subst h;exact .slnil _ _ _ (by unfold maxLen;omega)
  | n+1,h=>simp[Ty.enc] at h
 | .pt _,hp,j,d,h=>by cases hp
 | .pr x y,hp,j,d,h=>by
  simp only[Ty.noP,Bool.and_eq_true] at hp
  simp only[Ty.enc,Ty.zero] at h
  simp only[Ty.zeroV]
  rcases Nat.lt_or_ge j x.sz with hlt | hge
  ·rw[List.getElem?_append_left (by rw[Ty.enc_len];exact hlt)] at h
   rw[List.getD_eq_getElem?_getD,List.getElem?_append_left (by rw[Ty.zeroV_len];exact hlt),← List.getD_eq_getElem?_getD]
   exact Ty.zero_ok w S x hp.1 j d h
  ·rw[List.getElem?_append_right (by rw[Ty.enc_len];exact hge),Ty.enc_len] at h
   rw[List.getD_eq_getElem?_getD,List.getElem?_append_right (by rw[Ty.zeroV_len];exact hge),Ty.zeroV_len,← List.getD_eq_getElem?_getD]
   exact Ty.zero_ok w S y hp.2 _ d h
def SlE.mk'{P:Program}{t e sz bytes:Nat}{ag:Bool}{z:Value}(ty:Ty)(ok:SliceTy P t e sz ag bytes z)(hs:ty.sz=sz)(hb:bytes≤100000000)(hn:sz≤50)(hz:z.cells.toList=ty.zeroV)(cap:Nat)(hc:(Nat.ble (cap*bytes) 140737488355328&&Nat.ble cap 140737488355328)=true)(hp:ty.noP=true:=by rfl):SlE P t :=
 {e:=e,sz:=sz,ag:=ag,bytes:=bytes,z:=z,ty:=ty,zero:=ty.zero,ok:=ok,hs:=hs,hb:=hb,hn:=hn,cap:=cap,
  hc:=⟨Nat.le_of_ble_eq_true (Bool.and_eq_true _ _ ▸ hc:_∧_).1,Nat.le_of_ble_eq_true (Bool.and_eq_true _ _ ▸ hc:_∧_).2⟩,
  hz:=fun w S i d h=>by
   have:=Ty.zero_ok w S ty hp i d h
   rw[← hz] at this
   rwa [Array.getD_eq_getD_getElem?,← Array.getElem?_toList,← List.getD_eq_getElem?_getD]}
def qk6{E:TypeId→Type}(t:TypeId):List (Sigma E)→Option (E t)
 | []=>none
 | x::l=>if h:x.1=t then some (h ▸ x.2) else qk6 t l
def qwt{E:TypeId→Nat→Type}(t f:Nat):List (Sigma fun t=>Sigma fun f=>E t f)→Option (E t f)
 | []=>none
 | x::l=>if h:x.1=t then (if h':x.2.1=f then some (h ▸ h' ▸ x.2.2) else qwt t f l) else qwt t f l
def qlT(H:List DO)(k:Nat):DV:=match hget H k with
 | .row _ _ _ _=>.ref k
 | .blk _ _ _=>.ptr k 0
 | .map _ _ _ _=>.mp k
 | _=>.any
def finW{P:Program}(B:Tab P)(rs:List ResultVar)(outs:List (List It))(q:Nat)(st:St):Option (qdp outs) :=
 match qr6 B st rs with
 | some ds=>qnM outs (rs.length+q) ⟨ds++(List.range q).map (qlT st.H),st.H⟩
 | none=>none
def qA3{P:Program}(B:Tab P)(rs:List ResultVar)(outs:List (List It))(q:Nat)(r:DEx×St):Option (qdp outs) :=
 match r.1 with
 | .exit _=>none
 | _=>finW B rs outs q r.2
def qr8(ins:List It)(p nt:Nat)(x:qi ins):St:=⟨(mkS ins p x).T++List.replicate (nt-p) (.val undef),(mkS ins p x).H⟩
def runW{P:Program}(B:Tab P)(cs:CL P)(lo:Nat→St→PT (DEx×St))(c:Code)(ins:List It)(p nt:Nat)(rs:List ResultVar)(outs:List (List It))(x:qi ins):Option (qdp outs) :=
 match (mkS ins p x).H.all qef&&Nat.beq (mkS ins p x).T.length p with
 | true=>(qff B cs lo c 0 (qr8 ins p nt x)).run (qA3 B rs outs (mkS ins p x).H.length)
 | false=>none
section
variable {P:Program} {w0:Bs} {S:Nat→Prop} {B:Tab P} {a:Act} {w:World} {m:Nat→Value} {st:St} {cs:CL P} {lo:Nat→St→PT (DEx×St)}
theorem qvl{fn:Func}{rs:List ResultVar}{us:List Value}{tmps:Array Value}(hrs:fn.results=rs.toArray)(hle:rs.length≤4)(k1:us.length=rs.length)(k3:∀(i:Nat) (r:ResultVar) (u:Value),rs[i]?=some r→us[i]?=some u→(rsem tmps r).run P w = .ok u w){T:List DV}{g:Nat→Option Cn}{A:Nat→Prop}(hT:rs.length≤T.length)
  (hE:∀(i:Nat) (u:Value),us[i]?=some u→Enc w A u (conc g (lget T i))):∃u,(results fn tmps).run P w = .ok u w∧Enc w A u (conc g (resW rs.length T)):=by
 have hat:∀(l:List DV) (n i:Nat) (d:AV),n≤l.length→(qa g (l.take n))[i]?=some d→i<n∧d=conc g (lget l i):=fun l n i d hn hd=>by
  have hlt:=qbK hd
  rw[qe,List.length_take] at hlt
  refine ⟨by omega,?_⟩
  rw[qdX,List.getElem?_take,if_pos (by omega)] at hd
  have:∀(l:List DV) (j:Nat),j<l.length→l[j]?=some (lget l j):=fun l=>by
   induction l with
   | nil=>intro j h;simp at h
   | cons x l ih=>intro j h;cases j with
    | zero=>rfl
    | succ j=>exact ih j (by simpa using h)
  rw[this l i (by omega)] at hd
  injection hd with hd
  exact hd.symm
 have htup:∀us':List Value,us'=us→2≤rs.length→Enc w A (.tuple us'.toArray) (conc g (resW rs.length T)):=fun us' e h2=>by
  subst e
  have e1:resW rs.length T = .tup (T.take rs.length):=by
   match hq:rs.length with
   | 0=>omega
   | 1=>omega
   | n+2=>rfl
  rw[e1]
  simp only[conc]
  refine qqv (by rw[qe,List.length_take];omega) fun i u d hu hd=>?_
  obtain ⟨_,rfl⟩:=hat T rs.length i d hT hd
  exact hE i u hu
 rcases rs with _ | ⟨s1,_ | ⟨s2,_ | ⟨s3,_ | ⟨s4,_ | ⟨s5,rs⟩⟩⟩⟩⟩
 ·exact ⟨_,results_none hrs tmps P w,.val _⟩
 ·obtain ⟨u1,rfl⟩:=List.length_eq_one_iff.1 (show us.length=1 by simpa using k1)
  exact ⟨u1,qoj hrs (k3 0 s1 u1 rfl rfl),hE 0 u1 rfl⟩
 ·obtain ⟨u1,u2,rfl⟩:=len2 (show us.length=2 by simpa using k1)
  exact ⟨_,qt6 hrs (k3 0 s1 u1 rfl rfl) (k3 1 s2 u2 rfl rfl),htup [u1,u2] rfl (by simp)⟩
 ·obtain ⟨u1,u2,u3,rfl⟩:=len3 (show us.length=3 by simpa using k1)
  exact ⟨_,qrc hrs (k3 0 s1 u1 rfl rfl) (k3 1 s2 u2 rfl rfl) (k3 2 s3 u3 rfl rfl),htup [u1,u2,u3] rfl (by simp)⟩
 ·obtain ⟨u1,u2,u3,u4,rfl⟩:=len4 (show us.length=4 by simpa using k1)
  exact ⟨_,quH hrs (k3 0 s1 u1 rfl rfl) (k3 1 s2 u2 rfl rfl) (k3 2 s3 u3 rfl rfl) (k3 3 s4 u4 rfl rfl),htup [u1,u2,u3,u4] rfl (by simp)⟩
 ·simp at hle
theorem qtv(hr:DR w0 S m st a w)(k:Nat):∃u,Enc w (Al w0 S (hes m st.H)) u (conc (gOf m st.H) (qlT st.H k)):=by
 unfold qlT
 split
 ·rename_i hk
  exact ⟨m k,by simp only[conc,(hr.rowAt hk).2.1];exact .val _⟩
 ·rename_i hk
  obtain ⟨b,_,_,h3⟩:=hr.blkAt hk
  exact ⟨.pointer (some ⟨b,0,none⟩),by simp only[conc,h3];exact .val _⟩
 ·rename_i hk
  obtain ⟨b,_,_,h3⟩:=hr.mapAt hk
  exact ⟨.map (some b),by simp only[conc,h3];exact .val _⟩
 ·exact ⟨undef,.any _⟩
theorem qyW:∀(l:List It) (x:qi l) (st:St),(encI l x st).T.length=st.T.length:=by
 have hset:∀(p:Pl) (d:DV) (ds:List DV) (st:St),(setI p d ds st).T.length=st.T.length:=fun p d ds st=>by
  cases p with
  | t i=>exact qho _ _ _
  | f i j=>exact qho _ _ _
  | c k j=>rfl
 intro l
 induction l with
 | nil=>intro x st;rfl
 | cons it l ih =>
  intro x st
  cases it<;>exact (ih _ _).trans (hset _ _ _ _)
theorem quI{f:FuncId}{fn:Func}{c:Code}{ins:List It}{p:Nat}{rs:List ResultVar}{outs:List (List It)}{x:qi ins}{y:qdp outs}(hf:P.funcs[f]?=some fn)(hname:(fn.name == "runtime.NumGoroutine")=false)(hb:fn.body=some c)(hrs:fn.results=rs.toArray)(hle:rs.length≤4)
  (hl:∀(k:Nat) (b:Code),(k,b)∈qcm cs.c c 0→∀(st:St) (r:DEx×St),(lo k st).Is r→DA P false b st r)
  (h:runW B cs lo c ins p fn.ntmps rs outs x=some y):∀m0,Sane m0 (mkS ins p x).H→MC P f (qa (gOf m0 (mkS ins p x).H) (mkS ins p x).T) (hes m0 (mkS ins p x).H) fun v HH =>
  ∃m1,Sane m1 (mkS (qp outs y).1 (rs.length+(mkS ins p x).H.length) (qp outs y).2).H∧(∀k,k<(mkS ins p x).H.length→m1 k=m0 k)∧v=conc (gOf m1 (mkS (qp outs y).1 (rs.length+(mkS ins p x).H.length) (qp outs y).2).H) (resW rs.length (mkS (qp outs y).1 (rs.length+(mkS ins p x).H.length) (qp outs y).2).T)∧HH=hes m1 (mkS (qp outs y).1 (rs.length+(mkS ins p x).H.length) (qp outs y).2).H:=by
 intro m0 hs0
 unfold runW at h
 split at h
 case h_2=>cases h
 rename_i hlent
 rw[Bool.and_eq_true] at hlent
 have hTl:(mkS ins p x).T.length=p:=by simpa using hlent.2
 have hla:∀k,k<(mkS ins p x).H.length→qef (hget (mkS ins p x).H k)=true:=fun k hk=>by
  rw[ql6,List.getElem?_eq_getElem hk]
  exact List.all_eq_true.1 hlent.1 _ (List.getElem_mem hk)
 obtain ⟨⟨e,st'⟩,h1,h2⟩:=PT.run_is _ h
 have hda:=qfY c 0 hl h1
 refine ⟨enters_of hf hname hb,fun w S N vs _ hr=>callsIn_of_wp_marks hf hb trivial ?_⟩
 have hsz:=hr.sz
 simp only[qe] at hsz
 have hT:qa (gOf m0 (mkS ins p x).H) (qr8 ins p fn.ntmps x).T=qa (gOf m0 (mkS ins p x).H) (mkS ins p x).T++List.replicate (fn.ntmps-vs.size) .undef:=by
  unfold qr8
  rw[qcP,hsz,hTl]
  congr 1
  rw[qb4,List.map_replicate];rfl
 have hr0:=hr.slots (fn.ntmps-vs.size)
 rw[← hT] at hr0
 have hd0:DR ⟨w,qf (hes m0 (mkS ins p x).H),N⟩ S m0 (qr8 ins p fn.ntmps x) {tmps:=vs++Array.replicate (fn.ntmps-vs.size) undef,defers:=[]} w:=⟨fun b ⟨e,he,hb⟩=>by
  obtain ⟨k,hk,rfl⟩:=List.mem_iff_getElem.1 he
  rw[qj] at hk
  have h3:=q8 m0 (mkS ins p x).H k
  rw[if_pos hk,List.getElem?_eq_getElem (by rw[qj];exact hk)] at h3
  injection h3 with h3
  rw[h3] at hb
  exact ⟨k,hla k hk,hb⟩,hs0,hr0⟩
 refine hda _ S Fence.wide (.inl rfl) (fun _=>rfl) _ _ w hd0 _ fun m' a' w' hkp hd _=>?_
 have key:finW B rs outs (mkS ins p x).H.length st'=some y→LeavesInM Fence.wide 0 P fn a'.tmps (fun e w'=>∃u r H',e = .returned u∧(∃m1,Sane m1 (mkS (qp outs y).1 (rs.length+(mkS ins p x).H.length) (qp outs y).2).H∧(∀k,k<(mkS ins p x).H.length→m1 k=m0 k)∧r=conc (gOf m1 (mkS (qp outs y).1 (rs.length+(mkS ins p x).H.length) (qp outs y).2).H) (resW rs.length (mkS (qp outs y).1 (rs.length+(mkS ins p x).H.length) (qp outs y).2).T)∧H'=hes m1 (mkS (qp outs y).1 (rs.length+(mkS ins p x).H.length) (qp outs y).2).H)∧SRel ⟨w,qf (hes m0 (mkS ins p x).H),N⟩ S [r] H' {tmps:=#[u],defers:=[]} w') a'.defers .returning w':=fun hfin =>
  qj7 (fun a2 w2 hdf hr2=>by
   have hd2:DR ⟨w,qf (hes m0 (mkS ins p x).H),N⟩ S m' st' a2 w2:=⟨hd.1,hd.2.1,hr2⟩
   unfold finW at hfin
   split at hfin
   case h_2=>cases hfin
   rename_i ds hds
   obtain ⟨us,k1,k2,k3,k4⟩:=qrp hds hd2
   have hpt:∀n:Nat,∃ps:List Value,ps.length=n∧∀(i:Nat) (u:Value),ps[i]?=some u→Enc w2 (Al ⟨w,qf (hes m0 (mkS ins p x).H),N⟩ S (hes m' st'.H)) u (conc (gOf m' st'.H) (qlT st'.H i)):=fun n=>by
    refine ⟨(List.range n).map fun i=>Classical.choose (qtv hd2 i),by simp,fun i u hu=>?_⟩
    rw[List.getElem?_map] at hu
    cases hq:(List.range n)[i]? with
    | none=>rw[hq] at hu;cases hu
    | some j =>
     rw[hq] at hu
     injection hu with hu
     have hlt:=(List.getElem?_eq_some_iff.1 hq).1
     simp only[List.length_range] at hlt
     rw[List.getElem?_range hlt] at hq
     injection hq with hq
     subst hq
     rw[← hu]
     exact Classical.choose_spec (qtv hd2 i)
   obtain ⟨ps,p1,p2⟩:=hpt (mkS ins p x).H.length
   have hr3:=hr2.reslot (t':=qa (gOf m' st'.H) (ds++(List.range (mkS ins p x).H.length).map (qlT st'.H))) (tmps:=(us++ps).toArray) (by simp[qe,k1,k2,p1]) fun i=>by
    have hcc:∀j,(ds++(List.range (mkS ins p x).H.length).map (qlT st'.H))[j]?=none∨∃d u,(ds++(List.range (mkS ins p x).H.length).map (qlT st'.H))[j]?=some d∧(us++ps)[j]?=some u∧Enc w2 (Al ⟨w,qf (hes m0 (mkS ins p x).H),N⟩ S (hes m' st'.H)) u (conc (gOf m' st'.H) d):=fun j=>by
     rcases Nat.lt_or_ge j ds.length with hj | hj
     ·right
      have e1:us[j]?=some (us[j]'(by omega)):=List.getElem?_eq_getElem _
      have e2:ds[j]?=some ds[j]:=List.getElem?_eq_getElem _
      refine ⟨ds[j],us[j]'(by omega),by rw[List.getElem?_append_left hj,e2],by rw[List.getElem?_append_left (by omega),e1],k4 j _ _ e2 e1⟩
     ·rcases Nat.lt_or_ge (j-ds.length) (mkS ins p x).H.length with hj2 | hj2
      ·right
       have e1:ps[j-ds.length]?=some (ps[j-ds.length]'(by omega)):=List.getElem?_eq_getElem _
       refine ⟨qlT st'.H (j-ds.length),ps[j-ds.length]'(by omega),by rw[List.getElem?_append_right hj,List.getElem?_map,List.getElem?_range hj2];rfl,by rw[List.getElem?_append_right (by omega),show j-us.length=j-ds.length by omega,e1],p2 _ _ e1⟩
      ·left
       exact List.getElem?_eq_none (by simp;omega)
    rw[AV.get_eq,qdX]
    rcases hcc i with h5 | ⟨d,u,h5,h6,h7⟩
    ·rw[h5];exact .any _
    ·rw[h5,Array.getD_eq_getD_getElem?,List.getElem?_toArray,h6]
     exact h7
   have hd3:DR ⟨w,qf (hes m0 (mkS ins p x).H),N⟩ S m' ⟨ds++(List.range (mkS ins p x).H.length).map (qlT st'.H),st'.H⟩ {a2 with tmps:=(us++ps).toArray} w2:=⟨hd.1,hd.2.1,hr3⟩
   obtain ⟨m1,hk1,hd4⟩:=qmf (qrX hfin) hd3
   have hTlen:rs.length≤(mkS (qp outs y).1 (rs.length+(mkS ins p x).H.length) (qp outs y).2).T.length:=by
    unfold mkS
    rw[qyW,List.length_replicate]
    exact Nat.le_add_right _ _
   obtain ⟨u,r1,r2⟩:=qvl (P:=P) hrs hle k1 k3 (T:=(mkS (qp outs y).1 (rs.length+(mkS ins p x).H.length) (qp outs y).2).T) (g:=gOf m1 (mkS (qp outs y).1 (rs.length+(mkS ins p x).H.length) (qp outs y).2).H) (A:=Al ⟨w,qf (hes m0 (mkS ins p x).H),N⟩ S (hes m1 (mkS (qp outs y).1 (rs.length+(mkS ins p x).H.length) (qp outs y).2).H)) hTlen fun i u hu=>by
    have h8:=hd4.2.2.tm i
    rw[qcN,Array.getD_eq_getD_getElem?,List.getElem?_toArray,List.getElem?_append_left (List.getElem?_eq_some_iff.1 hu).1,hu] at h8
    exact h8
   exact ⟨u,r1,u,_,_,rfl,⟨m1,hd4.2.1,fun k hk=>((hkp.trans hk1) k (hla k hk)).1,rfl,rfl⟩,hd4.2.2.single r2 (by exact hdf)⟩) a'.defers a' w' rfl hd.2.2
 cases e with
 | normal=>exact key h2
 | ret=>exact key h2
 | exit k=>cases h2
end
set_option maxHeartbeats 2000000
def setZ(z:Bool):DO→DO
 | .blk _ t c=>.blk z t c
 | .row _ t e l=>.row z t e l
 | .map _ kt et l=>.map z kt et l
 | o=>o
def qfV:List DO→List DO
 | []=>[]
 | o::H=>setZ true o::qfV H
def qtV:List DO→List DO→List DO
 | o0::H0,o::H=>setZ (qef o0) o::qtV H0 H
 | [],o::H=>setZ false o::qtV [] H
 | _,[]=>[]
def qwu(H0 H:List DO):Bool:=(List.range H0.length).all fun k=>qm1 (hget H0 k) (hget H k)
theorem qz6(z:Bool)(o:DO)(v:Value):(setZ z o).cn v=o.cn v:=by cases o<;>rfl
theorem qvR(z:Bool)(o:DO)(g:Nat→Option Cn)(v:Value):heOf g v (setZ z o)=heOf g v o:=by cases o<;>rfl
theorem qm4{z:Bool}{o:DO}(h:qlN o=true):qef (setZ z o)=z:=by cases o<;>first | rfl | cases h
theorem qxv{o:DO}(h:qef o=true):qlN o=true:=by cases o<;>first | rfl | cases h
theorem qvm(H:List DO):(qfV H).length=H.length:=by
 induction H with
 | nil=>rfl
 | cons o H ih=>simp[qfV,ih]
theorem qgJ(H:List DO)(k:Nat):hget (qfV H) k=setZ true (hget H k):=by
 induction H generalizing k with
 | nil=>rfl
 | cons o H ih=>cases k with
  | zero=>rfl
  | succ k=>exact ih k
theorem qpL(m:Nat→Value)(H:List DO):gOf m (qfV H)=gOf m H:=by
 funext k;unfold gOf;rw[qgJ,qz6]
theorem qvn(m:Nat→Value)(H:List DO):hes m (qfV H)=hes m H:=by
 apply List.ext_getElem?
 intro i
 rw[q8,q8,qpL,qgJ,qvm,qvR]
theorem qtw:∀(H0 H:List DO) (k:Nat),k<H0.length→hget (qtV H0 H) k=setZ (qef (hget H0 k)) (hget H k)
 | [],H,k,h=>by simp at h
 | o0::H0,[],k,h=>rfl
 | o0::H0,o::H,0,h=>rfl
 | o0::H0,o::H,k+1,h=>qtw H0 H k (by simpa using h)
theorem qoH{H0 H:List DO}(h:qwu H0 H=true){k:Nat}(hk:k<H0.length):qm1 (hget H0 k) (hget H k)=true:=List.all_eq_true.1 h k (List.mem_range.2 hk)
section
variable {P:Program} {w0 w2:Bs} {S S2:Nat→Prop} {a:Act} {w:World} {m m1 m2 mb:Nat→Value} {B:Tab P} {cs:CL P} {lo:Nat→St→PT (DEx×St)}
theorem Wks.refl(l:List AV):Wks l l:=⟨rfl,fun i d0 d h1 h2=>by rw[h1] at h2;injection h2 with h2;subst h2;exact Wk.refl _⟩
theorem Wks.trans{l l1 l2:List AV}(h:Wks l l1)(k:Wks l1 l2):Wks l l2:=⟨h.1.trans k.1,fun i d0 d h1 h2 w A u hu=>by
 have hlt:=qbK h1
 rw[h.1] at hlt
 exact k.2 i _ d (List.getElem?_eq_getElem hlt) h2 w A u (h.2 i d0 _ h1 (List.getElem?_eq_getElem hlt) w A u hu)⟩
def qpM:(caps:List Ty)→List DO→List DV→Option (qx caps×List DO)
 | [],H,ds=>match ds with
  | []=>some ((),H)
  | _=>none
 | t::l,H,ds=>match ds with
  | .rp cells::ds=>match decF t H cells with
   | some (x,H1,_)=>match qpM l H1 ds with
    | some (y,H2)=>some ((x,y),H2)
    | none=>none
   | none=>none
  | _=>none
theorem qtx:∀(caps:List Ty) (H:List DO) (ds:List DV) (x:qx caps) (H':List DO),qpM caps H ds=some (x,H')→Fz H H'∧∀(m:Nat→Value) (H2:List DO),Fz H' H2→Wks (qa (gOf m H2) ds) (qd6 caps x)
 | [],H,ds,x,H',h=>by
  unfold qpM at h
  split at h
  ·injection h with h
   obtain ⟨rfl,rfl⟩:=Prod.mk.inj h
   exact ⟨Fz.refl _,fun m H2 _=>Wks.nil⟩
  ·cases h
 | t::l,H,ds,x,H',h=>by
  unfold qpM at h
  split at h
  ·rename_i cells ds
   split at h
   ·rename_i y H1 F hd
    split at h
    ·rename_i z H2 hq
     injection h with h
     obtain ⟨rfl,rfl⟩:=Prod.mk.inj h
     obtain ⟨a1,a2,a3⟩:=qgo t _ _ _ _ _ hd
     obtain ⟨b1,b2⟩:=qtx l H1 ds z _ hq
     exact ⟨a1.trans b1,fun m H3 h3=>Wks.cons (a3.wks a2 m (b1.trans h3)).rp (b2 m H3 h3)⟩
    ·cases h
   ·cases h
  ·cases h
def qpN:List Tmp→List DV→List DV→List DV
 | p::ps,v::vs,t=>qpN ps vs (lput t p v)
 | _,_,t=>t
theorem qq2{g:Nat→Option Cn}:∀(ps:List Tmp) (vs T:List DV),qa g (qpN ps vs T)=qiO ps (qa g vs) (qa g T)
 | [],vs,T=>by cases vs<;>rfl
 | p::ps,[],T=>rfl
 | p::ps,v::vs,T=>by simp only[qpN,qa,qiO,qq2 ps vs,qkK]
theorem qty:∀(ps:List Tmp) (vs t t':List AV),Wks t t'→Wks (qiO ps vs t) (qiO ps vs t')
 | [],vs,t,t',h=>by cases vs<;>exact h
 | p::ps,[],t,t',h=>h
 | p::ps,v::vs,t,t',h=>by
  simp only[qiO]
  refine qty ps vs _ _ ⟨by rw[AV.put_length,AV.put_length,h.1],fun i d0 d h1 h2=>?_⟩
  rw[AV.put_eq,List.getElem?_set] at h1 h2
  by_cases hp:p=i
  ·subst hp
   rw[if_pos rfl] at h1 h2
   split at h1
   ·split at h2
    ·injection h1 with h1;injection h2 with h2;rw[← h1,← h2];exact Wk.refl _
    ·cases h2
   ·cases h1
  ·rw[if_neg hp] at h1 h2
   exact h.2 i d0 d h1 h2
def qlU(H0:List DO)(l:List It)(n:Nat)(T:List DV)(H:List DO):Option (qi l) :=
 match Nat.beq T.length n with
 | true=>match qu l T H [] with
  | some (x,H',ρ)=>match qpF (qtV H0 H') (mkS l n x).H ρ with
   | true=>some x
   | false=>none
  | none=>none
 | false=>none
def qit(H0:List DO)(n:Nat):(o:List (DEx×List It))→DEx→List DV→List DO→Option (qcb o)
 | [],_,_,_=>none
 | [(e,l)],d,T,H=>match e.eqB d with
  | true=>qlU H0 l n T H
  | false=>none
 | (e,l)::y::r,d,T,H=>match e.eqB d with
  | true=>(qlU H0 l n T H).map Sum.inl
  | false=>(qit H0 n (y::r) d T H).map Sum.inr
theorem qq3{H0:List DO}{n:Nat}{T:List DV}{H:List DO}:∀{o:List (DEx×List It)} {d:DEx} {z:qcb o},qit H0 n o d T H=some z→∃l x,qlS n o z=(d,mkS l n x)∧qlU H0 l n T H=some x
 | [],d,z,h=>by cases h
 | [(e,l)],d,z,h=>by
  unfold qit at h
  split at h
  ·rename_i he
   have he:=DEx.eqB_is he
   subst he
   exact ⟨l,z,rfl,h⟩
  ·cases h
 | (e,l)::y::r,d,z,h=>by
  unfold qit at h
  split at h
  ·rename_i he
   have he:=DEx.eqB_is he
   subst he
   cases hq:qlU H0 l n T H with
   | none=>rw[hq] at h;cases h
   | some x =>
    rw[hq] at h
    injection h with h
    subst h
    exact ⟨l,x,rfl,hq⟩
  ·cases hq:qit H0 n (y::r) d T H with
   | none=>rw[hq] at h;cases h
   | some x =>
    rw[hq] at h
    injection h with h
    subst h
    exact qq3 (o:=y::r) hq
theorem qyX{l:List It}{n:Nat}{H1 H2 H3:List DO}{T1 T3:List DV}{T0:List AV}{x:qi l}(h:qlU H1 l n T1 H3=some x)(hk:qwu H1 H3=true)(hd:DR w2 S2 mb ⟨T3,H3⟩ a w)(hmk:∀k,k<H1.length→mb k=m1 k∧qef (hget H3 k)=true)(hlen:Lent w0 m1 H1)
  (hwk:Wks T0 (qa (gOf m1 H1) T1)) (hkp:Kept m2 m1 H2 H1) :
  ∃m4,(∃t',SRel w2 S2 t' (hes m4 (mkS l n x).H) a w)∧Sane m4 (mkS l n x).H∧Lent w0 m4 (mkS l n x).H∧Wks T0 (qa (gOf m4 (mkS l n x).H) (mkS l n x).T)∧Kept m2 m4 H2 (mkS l n x).H:=by
 unfold qlU at h
 split at h
 case h_2=>cases h
 rename_i hn
 have hn:T1.length=n:=by simpa using hn
 split at h
 case h_2=>cases h
 rename_i y HF ρ hq
 split at h
 case h_2=>cases h
 rename_i hlo
 injection h with h
 subst h
 obtain ⟨b1,b2⟩:=qb1 _ _ _ _ _ _ _ hq
 have hd':=(hd.fz b1).1
 obtain ⟨m4,hl⟩:=b2 mb mb (List.replicate n .any) [] ⟨.nil,rfl,by rw[List.length_replicate,hn],fun k j h=>by simp at h,fun k j h=>by simp at h,fun i=>by rw[qrh];exact fun w A u _=>.any u⟩
 change Like mb T1 HF ρ m4 (mkS l n y).T (mkS l n y).H at hl
 obtain ⟨s1,s2⟩:=hl.objs hd'.2.1 hd'.2.2
 have hHF:∀k,k<H1.length→hget HF k=hget H3 k:=fun k hk1=>by
  rcases b1.2 k with h3 | ⟨_,_,_,h3,_⟩
  ·exact h3
  ·have:=(hmk k hk1).2
   rw[show hget H3 k=_ from h3] at this
   cases this
 have hlent:∀k,qef (hget H1 k)=true→k<H1.length∧ρ[k]?=some k∧qef (hget (mkS l n y).H k)=true:=fun k hk1=>by
  have hlt:k<H1.length:=qbN fun e=>by rw[e] at hk1;cases hk1
  refine ⟨hlt,qpG hlo ?_⟩
  rw[qtw _ _ _ hlt,hHF k hlt,qm4 (qle (qoH hk hlt)).2]
  exact hk1
 have hm4:∀k,qef (hget H1 k)=true→m4 k=m1 k:=fun k hk1=>by
  obtain ⟨hlt,h1,_⟩:=hlent k hk1
  rw[hl.mv k k h1,(hmk k hlt).1]
 refine ⟨m4,⟨_,s2⟩,s1,fun b hb=>?_,?_,fun k hk1=>?_⟩
 ·obtain ⟨k,h1,h2⟩:=hlen b hb
  obtain ⟨hlt,h3,h4⟩:=hlent k h1
  refine ⟨k,h4,?_⟩
  have h5:=qtk (qoH hk hlt) (g':=gOf mb HF) h2
  rw[← hHF k hlt] at h5
  rw[hm4 k h1]
  exact (hl.obj k k h3).owns' h5
 ·refine hwk.trans ⟨by rw[qe,qe,hl.tl],fun i d0 d h1 h2 w A u hu=>?_⟩
  have hg:Gle w A (gOf m1 H1) (gOf mb HF):=fun k=>by
   rcases Nat.lt_or_ge k H1.length with hk1 | hk1
   ·right;left
    unfold gOf
    rw[hHF k hk1,(hmk k hk1).1,qvL (qoH hk hk1)]
   ·left
    unfold gOf
    rw[ql6,List.getElem?_eq_none hk1];rfl
  have e1:d0=conc (gOf m1 H1) (lget T1 i):=by
   rw[← qcN,AV.get_eq,h1];rfl
  have e2:d=conc (gOf m4 (mkS l n y).H) (lget (mkS l n y).T i):=by
   rw[← qcN,AV.get_eq,h2];rfl
  rw[e2]
  rw[e1] at hu
  exact hl.slot i w A u (qhh (fun _ _ h=>h) hg _ u hu)
 ·obtain ⟨h1,h2⟩:=hkp k hk1
  exact ⟨(hm4 k h2).trans h1,(hlent k h2).2.2⟩
structure Rg (P:Program) where
 g:Operand
 n:Nat
 its:List It
 it:Itr P
 out:List (DEx×List It)
 fn:List (qx it.ys)→qi its→Option (qi its⊕qcb out)
def quJ{σ ξ:Type}(one:Bool)(rec:σ→Option ξ):σ→Option ξ:=match one with
 | true=>fun _=>none
 | false=>rec
def rgF{σ υ ξ:Type}(step:(σ→Option (σ⊕ξ))→σ→υ→Option (σ⊕ξ)):List υ→σ→Option (σ⊕ξ)
 | [],s=>some (.inl s)
 | y::l,s=>step (rgF step l) s y
def quK{P:Program}(B:Tab P)(cs:CL P)(lo:Nat→St→PT (DEx×St))(ps:List Tmp)(assign body:Code)(id:Nat)(st:St)(y:List DV):PT (DEx×St) :=
 (qff B cs lo assign id ⟨qpN ps y st.T,qfV st.H⟩).seq fun r=>match r.1 with
  | .normal=>qff B cs lo body (id+qfX assign) ⟨r.2.T,qfV r.2.H⟩
  | _=>.fail
def qwv(n:Nat)(its:List It)(out:List (DEx×List It))(st:St)(k:qi its→Option (qi its⊕qcb out))(r:DEx×St):Option (qi its⊕qcb out) :=
 match qwu st.H r.2.H with
 | true=>match r.1 with
  | .normal=>(qlU st.H its n st.T r.2.H).bind k
  | d=>(qit st.H n out d st.T r.2.H).map Sum.inr
 | false=>none
def qzH:DV→Bool
 | .any=>true
 | _=>false
theorem qyY{d:DV}(h:qzH d=true):d = .any:=by cases d<;>first | rfl | cases h
def qAA:Operand→Option Tmp
 | .tmp i=>some i
 | _=>none
def Rg.go{P:Program}(L:Rg P)(st:St):PT (DEx×St):=match qAA L.g with
 | some i=>match lget st.T i with
  | .fn f [] ds=>match Nat.beq f L.it.f with
   | true=>match qpM L.it.caps st.H ds with
    | some (x,H1)=>match qiR L.its L.n ⟨st.T,H1⟩ with
     | some s=>match qzH (lget (mkS L.its L.n s).T i) with
      | true=>.bind (List (qx L.it.ys)) (L.it.L x) fun l=>.bind (qi L.its⊕qcb L.out) (L.fn l s) fun y=>.case (qi L.its) (qcb L.out) y (fun s'=>.ret (.normal,mkS L.its L.n s')) fun z=>qr5 L.n L.out z
      | false=>.fail
     | none=>.fail
    | none=>.fail
   | false=>.fail
  | _=>.fail
 | none=>.fail
theorem quL{w1:Bs}{S1:Nat→Prop}{T:List DV}{t:List AV}{H:List DO}(hs:Sane m H)(hM:∀b,w1.M b→qf (hes m H) b)(hr:SRel w1 S1 t (hes m H) a w)(hwk:Wks t (qa (gOf m H) T)):DR w1 S1 m ⟨T,qfV H⟩ a w:=by
 refine ⟨fun b hb=>?_,fun k hk=>?_,?_⟩
 ·obtain ⟨k,hk⟩:=qdA.1 (hM b hb)
  refine ⟨k,?_,?_⟩
  ·simp only[qgJ]
   refine qm4 ?_
   cases hq:hget H k<;>rw[hq] at hk<;>first | rfl | exact (qeL b hk).elim
  ·simp only[qpL,qgJ,qvR]
   exact hk
 ·simp only[qgJ] at hk
  exact hs k fun e=>hk (by rw[e];rfl)
 ·show SRel w1 S1 (qa (gOf m (qfV H)) T) (hes m (qfV H)) a w
  rw[qpL,qvn]
  exact hr.wk hwk
theorem qoI{m:Nat→Value}{H:List DO}:∀e,e∈hes m H→e.proper:=fun e he=>by
 obtain ⟨k,hk,rfl⟩:=List.mem_iff_getElem.1 he
 rw[qj] at hk
 have h3:=q8 m H k
 rw[if_pos hk,List.getElem?_eq_getElem (by rw[qj];exact hk)] at h3
 injection h3 with h3
 rw[h3]
 exact qbm _
def DEx.code:DEx→Code
 | .exit id=>.exit id
 | _=>.ret
theorem Rg.ok{L:Rg P}{ps:List Tmp}{assign body:Code}{id:Nat}{step:(qi L.its→Option (qi L.its⊕qcb L.out))→qi L.its→qx L.it.ys→Option (qi L.its⊕qcb L.out)}(hfn:L.fn=rgF step)(hps:L.it.an+L.it.ys.length=ps.length)
  (hl1:∀(k:Nat) (b:Code),(k,b)∈qcm cs.c assign (id+1)→∀(st:St) (r:DEx×St),(lo k st).Is r→DA P true b st r)
  (hl2:∀(k:Nat) (b:Code),(k,b)∈qcm cs.c body (id+1+qfX assign)→∀(st:St) (r:DEx×St),(lo k st).Is r→DA P true b st r)
  (hs:∀rec s y,(quK B cs lo ps assign body (id+1) (mkS L.its L.n s) (L.it.el y)).run (qwv L.n L.its L.out (mkS L.its L.n s) (quJ L.it.one rec))=step rec s y) {st:St} {r:DEx×St} (h:(L.go st).Is r):DA P false (.rangeFunc L.g ps.toArray assign body) st r:=by
 intro w0 S F hF hW m a w hr Q hQ
 obtain rfl:=hW rfl
 unfold Rg.go at h
 split at h
 case h_2=>exact h.elim
 rename_i i hgi
 have hg:L.g = .tmp i:=by
  cases hq:L.g<;>rw[hq] at hgi<;>first | (injection hgi with hgi;rw[hgi];done) | cases hgi
 split at h
 case h_2=>exact h.elim
 rename_i f ds hfd
 split at h
 case h_2=>exact h.elim
 rename_i hfe
 have hfe:f=L.it.f:=by simpa using hfe
 subst hfe
 split at h
 case h_2=>exact h.elim
 rename_i x H1 hx
 split at h
 case h_2=>exact h.elim
 rename_i s hrd
 split at h
 case h_2=>exact h.elim
 rename_i hany
 have hany:=qyY hany
 obtain ⟨l,hl,y,hy,h⟩:=h
 obtain ⟨hfz,hgo⟩:=qtx _ _ _ _ _ hx
 have hr1:=(hr.fz hfz).1
 obtain ⟨m2,hk2,hr2,hown⟩:=qtj hrd hr1
 obtain ⟨T0,hT0⟩:∃T0,T0=qa (gOf m2 (mkS L.its L.n s).H) (mkS L.its L.n s).T:=⟨_,rfl⟩
 obtain ⟨t,ht⟩:∃t,t=AV.put T0 i (.fn L.it.f [] (qd6 L.it.caps x)):=⟨_,rfl⟩
 have hrt:SRel w0 S t (hes m2 (mkS L.its L.n s).H) a w:=by
  rw[ht,hT0]
  refine hr2.2.2.put_id i ?_
  have h1:=hr1.2.2.tm i
  rw[qcN,hfd] at h1
  simp only[conc] at h1
  have h2:=Wks.fn (f:=L.it.f) Wks.nil (hgo m H1 (Fz.refl _)) w _ _ h1
  exact h2.mono fun b _ hb=>⟨hb.1,hb.2.1,fun e he hb'=>by
   obtain ⟨e',he',hb2⟩:=hown b ⟨e,he,hb'⟩
   exact hb.2.2 e' he' hb2⟩
 have htT:Wks t T0:=⟨by rw[ht,AV.put_length],fun j d0 d h1 h2=>by
  rw[ht,AV.put_eq,List.getElem?_set] at h1
  by_cases hj:i=j
  ·subst hj
   have:d = .any:=by
    have h3:=qcN (g:=gOf m2 (mkS L.its L.n s).H) (mkS L.its L.n s).T i
    rw[hany,← hT0,AV.get_eq,h2] at h3
    exact h3
   rw[this]
   exact qxh _
  ·rw[if_neg hj,h2] at h1
   injection h1 with h1
   rw[← h1]
   exact Wk.refl _⟩
 have hev:evO t (.tmp i) = .fn L.it.f [] (qd6 L.it.caps x):=by
  show AV.get t i=_
  have hlt:i<T0.length:=by
   have h1:i<st.T.length:=by
    rcases Nat.lt_or_ge i st.T.length with h | h
    ·exact h
    ·exfalso
     have:∀(l:List DV) (j:Nat),l.length≤j→lget l j = .any:=fun l=>by
      induction l with
      | nil=>intro j _;rfl
      | cons x l ih=>intro j hj;cases j with
       | zero=>simp at hj
       | succ j=>exact ih j (by simpa using hj)
     rw[this _ _ h] at hfd
     cases hfd
   have h2:a.tmps.size=st.T.length:=by have:=hr1.2.2.sz;rwa [qe] at this
   have h3:a.tmps.size=(mkS L.its L.n s).T.length:=by have:=hr2.2.2.sz;rwa [qe] at this
   rw[hT0,qe]
   exact Nat.lt_of_lt_of_le h1 (Nat.le_of_eq (h2.symm.trans h3))
  rw[ht,AV.get_eq,AV.put_eq,List.getElem?_set_self hlt];rfl
 obtain ⟨Inv,hInv⟩:∃Inv:St→List HE→Prop,Inv=fun st1 H'=>∃m1,H'=hes m1 st1.H∧Sane m1 st1.H∧Lent w0 m1 st1.H∧Wks T0 (qa (gOf m1 st1.H) st1.T)∧Kept m2 m1 (mkS L.its L.n s).H st1.H:=⟨_,rfl⟩
 have finish:∀(st1:St) (H':List HE) (a':Act) (w':World),Inv st1 H'→SRel w0 S t H' a' w'→∃m1,Kept m m1 st.H st1.H∧DR w0 S m1 st1 a' w':=fun st1 H' a' w' hi hs'=>by
  rw[hInv] at hi
  obtain ⟨m1,rfl,i1,i2,i3,i4⟩:=hi
  exact ⟨m1,(qvJ m hfz).trans (hk2.trans i4),i2,i1,hs'.wk (htT.trans i3)⟩
 have core:=Awp.rangeD (P:=P) (w0:=w0) (S:=S) (one:=L.it.one) (g:=.tmp i) (ps:=ps) (assign:=assign) (body:=body) (t:=t) (H:=hes m2 (mkS L.its L.n s).H) (Q:=fun e t' H'=>t'=t∧∃st1 d,e=DEx.ex d∧Inv st1 H'∧((d = .normal∧∃s',y = .inl s'∧st1=mkS L.its L.n s')∨∃z,y = .inr z∧qlS L.n L.out z=(d,st1))) hev (L.it.ok x l hl)
  (fun v hv=>by
   obtain ⟨q,_,rfl⟩:=List.mem_map.1 hv
   rw[List.length_append,List.length_replicate,qjy,hps])
  (fun j H'=>(L.it.one=true→j=0)∧∃s1,Inv (mkS L.its L.n s1) H'∧rgF step (l.drop j) s1=some y) (fun c H'=>∃z d st1,y = .inr z∧qlS L.n L.out z=(d,st1)∧d≠.normal∧c=d.code∧Inv st1 H') (fun h1 j H' h2=>by have:=h2.1 h1;omega)
  ⟨fun _=>rfl,s,by rw[hInv];exact ⟨m2,rfl,hr2.2.1,hr2.1,by rw[hT0];exact Wks.refl _,Kept.refl _ _⟩,by rw[List.drop_zero,← hfn];exact hy⟩ qoI ?_ ?_ ?_ a w hrt
 ·rw[hg]
  refine wpIn_mono core ?_
  rintro e a' w' ⟨t',H',hs',rfl,st1,d,rfl,hi,hc⟩
  obtain ⟨m1,k1,k2⟩:=finish st1 H' a' w' hi hs'
  have hrr:r=(d,st1):=by
   rcases hc with ⟨rfl,s',hy',rfl⟩ | ⟨z,hy',hz⟩
   ·rcases h with ⟨q,h1,h2⟩ | ⟨q,h1,h2⟩
    ·rw[hy'] at h1;injection h1 with h1;subst h1;exact h2.symm
    ·rw[hy'] at h1;cases h1
   ·rcases h with ⟨q,h1,h2⟩ | ⟨q,h1,h2⟩
    ·rw[hy'] at h1;cases h1
    ·rw[hy'] at h1;injection h1 with h1;subst h1;rw[qrn h2,hz]
  have:=hQ m1 a' w' (by rw[hrr];exact k1) (by rw[hrr];exact k2) fun e=>by cases e
  rw[hrr] at this
  exact this
 ·rintro j hj lp w1 S1 H' ⟨_,s1,hi,hrun⟩ hpr hM a1 w1' hd hs1
  rw[hInv] at hi
  obtain ⟨m1,rfl,i1,i2,i3,i4⟩:=hi
  rw[List.length_map] at hj
  have hdr:l.drop j=l[j]::l.drop (j+1):=(List.getElem_cons_drop hj).symm
  rw[hdr] at hrun
  have hrun:step (rgF step (l.drop (j+1))) s1 l[j]=some y:=hrun
  rw[← hs] at hrun
  obtain ⟨r2,hround,hleaf⟩:=PT.run_is _ hrun
  unfold quK at hround
  obtain ⟨ra,hA,hB⟩:=PT.seq_is _ hround
  obtain ⟨da,sta⟩:=ra
  cases da with
  | exit q=>exact hB.elim
  | ret=>exact hB.elim
  | normal =>
  simp only at hB
  have hd1:DR w1 S1 m1 ⟨qpN ps (L.it.el l[j]) (mkS L.its L.n s1).T,qfV (mkS L.its L.n s1).H⟩ a1 w1':=by
   refine quL i1 hM hs1 ?_
   rw[qq2,L.it.el_conc,List.getElem_map]
   exact qty _ _ _ _ (htT.trans i3)
  have hda:=qfY (rd:=true) assign (id+1) hl1 hA
  refine hda w1 S1 (Fence.wide.inRound lp) (.inr ⟨lp,rfl⟩) nofun m1 a1 w1' hd1 _ fun ma aa wa hka hdra hdfa=>?_
  refine ⟨rfl,(hdfa rfl).trans hd,_,_,hdra.2.2,qoI,fun w2 S2 hM2=>?_⟩
  intro a2 w2' hs2
  have hd2:DR w2 S2 ma ⟨sta.T,qfV sta.H⟩ a2 w2':=quL hdra.2.1 hM2 hs2 (Wks.refl _)
  have hdb:=qfY (rd:=true) body (id+1+qfX assign) hl2 hB
  refine hdb w2 S2 (Fence.wide.inRound lp) (.inr ⟨lp,rfl⟩) nofun ma a2 w2' hd2 _ fun mb ab wb hkb hdrb _=>?_
  unfold qwv at hleaf
  split at hleaf
  case h_2=>cases hleaf
  rename_i hK
  have hmk:∀k,k<(mkS L.its L.n s1).H.length→mb k=m1 k∧qef (hget r2.2.H k)=true:=fun k hk=>by
   have q1:=hka k (by simp only[qgJ];exact qm4 (qle (qoH hK hk)).1)
   have q2:=hkb k (by simp only[qgJ];exact qm4 (qxv q1.2))
   exact ⟨q2.1.trans q1.1,q2.2⟩
  obtain ⟨d2,st2⟩:=r2
  have close:∀(ll:List It) (xx:qi ll),qlU (mkS L.its L.n s1).H ll L.n (mkS L.its L.n s1).T st2.H=some xx→∃H',(∃t',SRel w2 S2 t' H' ab wb)∧(∀e,e∈H'→e.proper)∧Inv (mkS ll L.n xx) H':=fun ll xx hxx=>by
   obtain ⟨m4,q1,q2,q3,q4,q5⟩:=qyX hxx hK hdrb hmk i2 i3 i4
   refine ⟨_,q1,qoI,?_⟩
   rw[hInv]
   exact ⟨m4,rfl,q2,q3,q4,q5⟩
  have exits:d2≠.normal→(qit (mkS L.its L.n s1).H L.n L.out d2 (mkS L.its L.n s1).T st2.H).map (Sum.inr (α:=qi L.its))=some y→∃H',(∃t',SRel w2 S2 t' H' ab wb)∧(∀e,e∈H'→e.proper)∧∃z d st1,y = .inr z∧qlS L.n L.out z=(d,st1)∧d≠.normal∧d2.code=d.code∧Inv st1 H':=fun hne he=>by
   cases hq:qit (mkS L.its L.n s1).H L.n L.out d2 (mkS L.its L.n s1).T st2.H with
   | none=>rw[hq] at he;cases he
   | some z =>
    rw[hq] at he
    injection he with he
    obtain ⟨ll,xx,e1,e2⟩:=qq3 hq
    obtain ⟨H',h1,h2,h3⟩:=close ll xx e2
    exact ⟨H',h1,h2,z,d2,_,he.symm,e1,hne,rfl,h3⟩
  cases d2 with
  | normal =>
   simp only at hleaf
   cases hq:qlU (mkS L.its L.n s1).H L.its L.n (mkS L.its L.n s1).T st2.H with
   | none=>rw[hq] at hleaf;cases hleaf
   | some s2 =>
    rw[hq] at hleaf
    obtain ⟨H',⟨t',h1⟩,h2,h3⟩:=close L.its s2 hq
    have hleaf:quJ L.it.one (rgF step (l.drop (j+1))) s2=some y:=hleaf
    cases ho:L.it.one with
    | true=>rw[ho] at hleaf;cases hleaf
    | false=>rw[ho] at hleaf;exact ⟨t',H',h1,⟨(fun h=>(by cases h)),s2,h3,hleaf⟩,h2⟩
  | exit q =>
   obtain ⟨H',⟨t',h1⟩,h2,h3⟩:=exits nofun hleaf
   exact ⟨t',H',h1,h3,h2⟩
  | ret =>
   obtain ⟨H',⟨t',h1⟩,h2,h3⟩:=exits nofun hleaf
   exact ⟨t',H',h1,h3,h2⟩
 ·rintro H' ⟨_,s1,hi,hrun⟩ _
  rw[List.length_map,List.drop_length] at hrun
  injection hrun with hrun
  exact ⟨rfl,_,.normal,rfl,hi,.inl ⟨rfl,s1,hrun.symm,rfl⟩⟩
 ·rintro c H' ⟨z,d,st1,hz,hmk,hne,rfl,hi⟩ _
  intro a' w' hs'
  cases d with
  | normal=>exact absurd rfl hne
  | exit q=>exact wpIn_exit ⟨t,H',hs',rfl,st1,_,rfl,hi,.inr ⟨z,hz,hmk⟩⟩
  | ret=>exact wpIn_ret ⟨t,H',hs',rfl,st1,_,rfl,hi,.inr ⟨z,hz,hmk⟩⟩
end
def qnQ:(caps:List Ty)→List DO→List DV→Option (qx caps×List DO)
 | [],H,ds=>match ds with
  | []=>some ((),H)
  | _=>none
 | t::l,H,ds=>match ds with
  | .ptr k 0::ds=>match hget H k with
   | .blk false _ cells=>match decF t H cells with
    | some (x,H1,_)=>match qnQ l H1 ds with
     | some (y,H2)=>some ((x,y),H2)
     | none=>none
    | none=>none
   | _=>none
  | _=>none
def finB(i:Nat)(g:FuncId)(caps:List Ty)(st:St):Option (qx caps) :=
 match lget st.T i with
 | .fn g' [] ds=>match Nat.beq g' g with
  | true=>(qnQ caps st.H ds).map (·.1)
  | false=>none
 | _=>none
def qww(i:Nat)(g:FuncId)(caps:List Ty)(r:DEx×St):Option (qx caps) :=
 match r.1 with
 | .exit _=>none
 | _=>finB i g caps r.2
section
variable {P:Program} {w0:Bs} {S:Nat→Prop} {a:Act} {w:World} {m:Nat→Value} {B:Tab P} {cs:CL P} {lo:Nat→St→PT (DEx×St)}
theorem qA4{H H':List DO}(h:Fz H H'){b:Nat}(hb:Al w0 S (hes m H) b):Al w0 S (hes m H') b:=⟨hb.1,hb.2.1,fun e he h1=>by
 obtain ⟨e',he',h2⟩:=qun h b ⟨e,he,h1⟩
 exact hb.2.2 e' he' h2⟩
theorem qr9(hM:∀b,¬w0.M b):∀(caps:List Ty) {T:List DV} {H:List DO} {ds:List DV} {x:qx caps} {H':List DO},qnQ caps H ds=some (x,H')→DR w0 S m ⟨T,H⟩ a w→ds.length=caps.length ∧
  ∀(j:Nat) (u:Value) (d0 d:AV),(qa (gOf m H) ds)[j]?=some d0→(qd6 caps x)[j]?=some d→Enc w (Al w0 S (hes m H)) u d0→Enc w (fun b=>b<w0.w.heap.size→S b) u d
 | [],T,H,ds,x,H',h,hr=>by
  unfold qnQ at h
  split at h
  ·exact ⟨rfl,fun j u d0 d h1 h2=>by simp[qd6] at h2⟩
  ·cases h
 | t::l,T,H,ds,x,H',h,hr=>by
  unfold qnQ at h
  split at h
  ·rename_i k ds
   split at h
   ·rename_i tt cells hk
    split at h
    ·rename_i y H1 F hd
     split at h
     ·rename_i z H2 hq
      injection h with h
      obtain ⟨rfl,rfl⟩:=Prod.mk.inj h
      obtain ⟨a1,a2,a3⟩:=qgo t _ _ _ _ _ hd
      have hr1:=(hr.fz a1).1
      have hgl:=(hr.fz a1).2
      obtain ⟨i1,i2⟩:=qr9 hM l hq hr1
      refine ⟨by simp[i1],fun j u d0 d h1 h2 hu=>?_⟩
      cases j with
      | zero =>
       simp only[qa,List.getElem?_cons_zero,Option.some.injEq] at h1
       simp only[qd6,List.getElem?_cons_zero,Option.some.injEq] at h2
       subst h1 h2
       obtain ⟨b,e1,e2,e3⟩:=hr.blkAt hk
       simp only[conc,e3] at hu
       have hu:=hu.val_eq
       subst hu
       have hk1:hget H1 k = .blk false tt cells:=by
        rcases a1.2 k with h3 | ⟨_,_,_,h3,_⟩
        ·rw[h3];exact hk
        ·rw[show hget H k=_ from hk] at h3;cases h3
       obtain ⟨b',f1,f2,_⟩:=hr1.blkAt hk1
       have hbb:b'=b:=by rw[e1] at f1;injection f1 with f1;injection f1 with f1;injection f1 with f1;exact f1.symm
       subst hbb
       obtain ⟨g1,vs,g2,g3,g4⟩:=hr1.2.2.hs _ (List.mem_of_getElem? f2)
       rw[qe] at g3
       refine .rp b' 0 _ (fun j=>vs.getD j undef) (fun hlt=>absurd hlt (Nat.not_lt.2 (g1.1.resolve_left (hM b')))) g2.lt (fun j hj=>?_) fun j d hj=>?_
       ·rw[Ty.enc_len,← a2,← g3] at hj
        have:=cell_of_row w b' j vs.toArray tt (0,0) (by exact g2)
        rw[Nat.zero_add,this]
        simp[List.getD_eq_getElem?_getD,List.getElem?_eq_getElem hj]
       ·have hw:=a3.wks a2 m (Fz.refl H1)
        have hlt:=qbK hj
        rw[← hw.1] at hlt
        have h5:=g4 j _ (List.getElem?_eq_getElem hlt)
        exact (hw.2 j _ d (List.getElem?_eq_getElem hlt) hj w _ _ h5).mono fun c _ hc h=>(hc.1 h).1
      | succ j =>
       simp only[qa,List.getElem?_cons_succ] at h1
       simp only[qd6,List.getElem?_cons_succ] at h2
       rw[qdX] at h1
       cases hdj:ds[j]? with
       | none=>rw[hdj] at h1;cases h1
       | some dj =>
        rw[hdj] at h1
        injection h1 with h1
        subst h1
        exact i2 j u _ d (by rw[qdX,hdj];rfl) h2 (qhh (fun c _ hc=>qA4 a1 hc) hgl _ u hu)
     ·cases h
    ·cases h
   ·cases h
  ·cases h
theorem qoJ:∀(l:List Ty) (x:qx l),(qd6 l x).length=l.length
 | [],_=>rfl
 | t::l,x=>by simp only[qd6,List.length_cons,qoJ l]
theorem qxw{f:FuncId}{fn:Func}{c:Code}{ars:List Ar}{i:Nat}{g:FuncId}{caps:List Ty}{x:qeo ars}{y:qx caps}(hf:P.funcs[f]?=some fn)(hname:(fn.name == "runtime.NumGoroutine")=false)(hb:fn.body=some c)(hrs:fn.results = #[.tmp i])
  (hl:∀(k:Nat) (b:Code),(k,b)∈qcm cs.c c 0→∀(st:St) (r:DEx×St),(lo k st).Is r→DA P false b st r)
  (h:(qff B cs lo c 0 (qg5 ars fn.ntmps x)).run (qww i g caps)=some y):PC P f (arsA ars x) ((Rt.fb g caps).A y):=by
 refine PC.of hf hname hb fun w0 S hM a w hr=>?_
 obtain ⟨⟨e,st'⟩,h1,h2⟩:=PT.run_is _ h
 have hda:=qfY (rd:=false) c 0 hl h1
 have hT:qa (gOf (fun _=>undef) []) (qg5 ars fn.ntmps x).T=arsA ars x++List.replicate (fn.ntmps-(arsA ars x).length) .undef:=by
  unfold qg5
  rw[qcP,qoG,qro]
  congr 1
  rw[qb4,List.map_replicate];rfl
 have hd0:DR w0 S (fun _=>undef) (qg5 ars fn.ntmps x) a w:=⟨fun b hb=>absurd hb (hM b),fun k hk=>absurd (show hget [] k=DO.new from rfl) hk,by
  show SRel w0 S (qa (gOf (fun _=>undef) []) (qg5 ars fn.ntmps x).T) [] a w
  rw[hT];exact hr⟩
 refine hda w0 S Fence.wide (.inl rfl) (fun _=>rfl) _ a w hd0 _ fun m' a' w' _ hd _=>?_
 refine ⟨_,_,hd.2.2,?_⟩
 have key:finB i g caps st'=some y→RetA P w0 S fn ((Rt.fb g caps).A y) (qa (gOf m' st'.H) st'.T) (hes m' st'.H):=fun hy _ a2 w2 hr2=>by
  have hd2:DR w0 S m' st' a2 w2:=⟨hd.1,hd.2.1,hr2⟩
  unfold finB at hy
  split at hy
  ·rename_i g' ds hi
   split at hy
   ·rename_i hg
    have hg:g'=g:=by simpa using hg
    subst hg
    cases hq:qnQ caps st'.H ds with
    | none=>rw[hq] at hy;cases hy
    | some q =>
     obtain ⟨z,H'⟩:=q
     rw[hq] at hy
     injection hy with hy
     have hy:z=y:=hy
     subst hy
     obtain ⟨k1,k2⟩:=qr9 hM caps hq (T:=st'.T) hd2
     obtain ⟨u,hu1,hu2⟩:=(RS.tmp (P:=P) i _ (qcN (g:=gOf m' st'.H) st'.T i)).run hd2.2.2
     refine ⟨u,qoj hrs hu1,?_⟩
     rw[hi] at hu2
     simp only[conc,qa] at hu2
     cases hu2 with
     | fn _ first cps df dc hn hm hh hh' =>
      refine .fn _ first cps [] (qd6 caps z) hn (by rw[hm,qe,qoJ,k1]) (fun j d hj=>by simp at hj) fun j d hj=>?_
      have hlt:=qbK hj
      rw[qoJ,← k1] at hlt
      have e1:(qa (gOf m' st'.H) ds)[j]?=some ((qa (gOf m' st'.H) ds)[j]'(by rw[qe];exact hlt)):=List.getElem?_eq_getElem _
      exact k2 j _ _ d e1 hj (hh' j _ e1)
   ·cases hy
  ·cases hy
 cases e with
 | normal=>exact key h2
 | ret=>exact key h2
 | exit k=>cases h2
end
theorem MC.emptySl{P:Program}{f:FuncId}{sz:Nat}{R:AV→List HE→Prop}(h:∀A c,MC P f [.val (.slice A 0 c)] [] R):MC P f [.sl sz []] [] R:=by
 refine ⟨(h none 0).1,fun w S N vs hT hs=>?_⟩
 have h1:=hs.tm 0
 obtain ⟨A,c,hv⟩:∃A c,vs.getD 0 undef = .slice A 0 c:=by
  generalize vs.getD 0 undef=u at h1
  cases h1 with
  | slnil A c sz hm=>exact ⟨A,c,rfl⟩
  | sl b off n c sz rows cv hn hc hm hS hb hr hcell h =>
   have:n=0:=by simpa using hn.symm
   subst this
   exact ⟨_,_,rfl⟩
 refine (h A c).2 w S N vs hT ?_
 have:=hs.put_id 0 (v:=.val (.slice A 0 c)) (by show Enc w _ (vs.getD 0 undef) _;rw[hv];exact .val _)
 exact this
def CwOk(P:Program)(f:FuncId)(p:Nat)(ins:List It)(r:Nat)(outs:List (List It))(x:qi ins)(y:qdp outs)(m0:Nat→Value):Prop :=
 MC P f (qa (gOf m0 (mkS ins p x).H) (mkS ins p x).T) (hes m0 (mkS ins p x).H) fun v HH =>
  ∃m1,Sane m1 (mkS (qp outs y).1 (r+(mkS ins p x).H.length) (qp outs y).2).H∧(∀k,k<(mkS ins p x).H.length→m1 k=m0 k)∧v=conc (gOf m1 (mkS (qp outs y).1 (r+(mkS ins p x).H.length) (qp outs y).2).H) (resW r (mkS (qp outs y).1 (r+(mkS ins p x).H.length) (qp outs y).2).T)∧HH=hes m1 (mkS (qp outs y).1 (r+(mkS ins p x).H.length) (qp outs y).2).H
theorem Cw.okk{P:Program}(c:Cw P){x:qi c.ins}{y:qdp c.outs}(h:c.M x=some y)(m0:Nat→Value)(hs:Sane m0 (mkS c.ins c.p x).H):CwOk P c.f c.p c.ins c.r c.outs x y m0:=c.ok x y h m0 hs
theorem qxx{P:Program}{f:FuncId}{t:Ty}{outs:List (List It)}{y:qdp outs}{m0:Nat→Value}(h:∀A c,CwOk P f 1 [.raw (.t 0)] 1 outs (Value.slice A 0 c,()) y m0):CwOk P f 1 [.v (.t 0) (.sl t)] 1 outs (([]:List t.den),()) y m0 :=
 MC.emptySl (sz:=t.sz) h
theorem quM(m0:Nat→Value):Sane m0 []:=fun k hk=>absurd (show hget [] k=DO.new from rfl) hk
def qz7{P:Program}(f:FuncId)(t:Ty)(outs:List (List It))(M0:Value×Unit→Option (qdp outs))(M1:List t.den×Unit→Option (qdp outs))(y0:qdp outs)
  (h0:∀v y m0,M0 (v,())=some y→CwOk P f 1 [.raw (.t 0)] 1 outs (v,()) y m0) (h1:∀l y m0,M1 (l,())=some y→CwOk P f 1 [.v (.t 0) (.sl t)] 1 outs (l,()) y m0)
  (e0:∀A c,M0 (.slice A 0 c,())=some y0):Cw P:=⟨f,1,[.v (.t 0) (.sl t)],1,outs,fun x=>match x.1 with
   | []=>some y0
   | a::l=>M1 (a::l,()),fun x y h m0 _=>by
  obtain ⟨l,u⟩:=x
  cases l with
  | nil =>
   injection h with h
   subst h
   exact qxx fun A c=>h0 _ _ _ (e0 A c)
  | cons a l=>exact h1 _ _ _ h⟩
set_option maxHeartbeats 1000000
abbrev nof:Nat→Bool:=fun _=>false
structure LK (P:Program) (rd:Bool):Type 1 where
 id:Nat
 c:Code
 τ:Type
 step:τ
 go:St→PT (DEx×St)
 ok:∀(st:St) (r:DEx×St),(go st).Is r→DA P rd c st r
section
variable {P:Program} {rd:Bool}
def goK:List (LK P rd)→Nat→St→PT (DEx×St)
 | [],_,_=>.fail
 | x::l,k,st=>match Nat.beq k x.id with
  | true=>x.go st
  | false=>goK l k st
def qlf:List (LK P rd)→List (Nat×Code)
 | []=>[]
 | x::l=>(x.id,x.c)::qlf l
def idsK:List (LK P rd)→Bool
 | []=>true
 | x::l=>!((qlf l).any fun y=>Nat.beq y.1 x.id)&&idsK l
theorem qxy:∀{l:List (LK P rd)},idsK l=true→∀(k:Nat) (b:Code),(k,b)∈qlf l→∀(st:St) (r:DEx×St),(goK l k st).Is r→DA P rd b st r
 | [],_,k,b,hk,_,_,_=>by cases hk
 | x::l,h,k,b,hk,st,r,hg=>by
  unfold idsK at h
  rw[Bool.and_eq_true,Bool.not_eq_true',List.any_eq_false] at h
  unfold goK at hg
  rcases List.mem_cons.1 hk with h1 | h1
  ·injection h1 with h1 h2
   subst h1 h2
   rw[show Nat.beq x.id x.id=true from Nat.beq_refl _] at hg
   exact x.ok st r hg
  ·have h2:=h.1 _ h1
   simp only[Bool.not_eq_true] at h2
   rw[h2] at hg
   exact qxy h.2 k b h1 st r hg
theorem hlK{ct:Nat→Bool}{c:Code}{n:Nat}{l:List (LK P rd)}(h:qcm ct c n=qlf l)(hi:idsK l=true):∀(k:Nat) (b:Code),(k,b)∈qcm ct c n→∀(st:St) (r:DEx×St),(goK l k st).Is r→DA P rd b st r:=by
 rw[h];exact qxy hi
variable (B:Tab P) (cs:CL P)
def qwx(ks:List (LK P rd))(body:Code)(id nt:Nat)(its:List It)(out:List (DEx×List It))(rec:qi its→Option (qcb out))(s:qi its):Option (qcb out):=(qff B cs (goK ks) body (id+1) (mkS its nt s)).run (Lp.leaf nt its out rec)
def mkL(ks:List (LK P rd))(fn:Func)(p:List Bool)(id fuel:Nat)(its:List It)(out:List (DEx×List It))(h:(qcm cs.c (subC p (qbH fn)) (id+1),idsK ks)=(qlf ks,true)):LK P rd where
 id:=id
 c:=.loop (subC p (qbH fn))
 τ:=(qi its→Option (qcb out))→qi its→Option (qcb out)
 step:=qwx B cs ks (subC p (qbH fn)) id fn.ntmps its out
 go:=(Lp.mk fn.ntmps its out (qg fuel (qwx B cs ks (subC p (qbH fn)) id fn.ntmps its out))).go
 ok:=fun _ _ hg=>Lp.ok (L:=⟨fn.ntmps,its,out,qg fuel (qwx B cs ks (subC p (qbH fn)) id fn.ntmps its out)⟩) (id:=id) rfl (hlK (congrArg Prod.fst h) (congrArg Prod.snd h)) (fun _ _=>rfl) hg
def qwy(ks:List (LK P true))(ps:List Tmp)(x y:Code)(id nt:Nat)(its:List It)(out:List (DEx×List It))(I:Itr P)(rec:qi its→Option (qi its⊕qcb out))(s:qi its)(v:qx I.ys):Option (qi its⊕qcb out):=(quK B cs (goK ks) ps x y (id+1) (mkS its nt s) (I.el v)).run (qwv nt its out (mkS its nt s) (quJ I.one rec))
def mkG(ks:List (LK P true))(fn:Func)(p:List Bool)(id g:Nat)(ps:List Tmp)(I:Itr P)(its:List It)(out:List (DEx×List It))(h:(I.an+I.ys.length,qcm cs.c (subC (p++[false]) (qbH fn)) (id+1),qcm cs.c (subC (p++[true]) (qbH fn)) (id+1+qfX (subC (p++[false]) (qbH fn))),idsK ks)=(ps.length,[],qlf ks,true)):LK P false where
 id:=id
 c:=.rangeFunc (.tmp g) ps.toArray (subC (p++[false]) (qbH fn)) (subC (p++[true]) (qbH fn))
 τ:=(qi its→Option (qi its⊕qcb out))→qi its→qx I.ys→Option (qi its⊕qcb out)
 step:=qwy B cs ks ps (subC (p++[false]) (qbH fn)) (subC (p++[true]) (qbH fn)) id fn.ntmps its out I
 go:=(Rg.mk (.tmp g) fn.ntmps its I out (rgF (qwy B cs ks ps (subC (p++[false]) (qbH fn)) (subC (p++[true]) (qbH fn)) id fn.ntmps its out I))).go
 ok:=fun _ _ hg=>Rg.ok (L:=⟨.tmp g,fn.ntmps,its,I,out,rgF (qwy B cs ks ps (subC (p++[false]) (qbH fn)) (subC (p++[true]) (qbH fn)) id fn.ntmps its out I)⟩) (lo:=goK ks) (id:=id) rfl (congrArg Prod.fst h) (qr7 (congrArg (fun q=>q.2.1) h) qnP) (hlK (congrArg (fun q=>q.2.2.1) h) (congrArg (fun q=>q.2.2.2) h)) (fun _ _ _=>rfl) hg
def fnK(ks:List (LK P false))(fn:Func):Bool×Bool×Bool×List (Nat×Code)×Bool:=(fn.name == "runtime.NumGoroutine",fn.body.isSome,Nat.ble fn.results.toList.length 4,qcm cs.c (qbH fn) 0,idsK ks)
theorem qtz{fn:Func}(h:fn.body.isSome=true):fn.body=some (qbH fn):=by
 unfold qbH
 cases hb:fn.body with
 | none=>rw[hb] at h;cases h
 | some c=>rfl
def mkC(ks:List (LK P false)){f:FuncId}{fn:Func}(hf:P.funcs[f]?=some fn)(ars:List Ar)(rts:List Ty)(h:fnK cs ks fn=(false,true,true,qlf ks,true)):Ct P :=
 ⟨f,ars,.ts rts,fun x=>(qff B cs (goK ks) (qbH fn) 0 (qg5 ars fn.ntmps x)).run (qzG B fn.results.toList rts),fun _ _ hm=>qA2 (rs:=fn.results.toList) hf (congrArg Prod.fst h) (qtz (congrArg (fun q=>q.2.1) h)) (Array.toArray_toList).symm (Nat.le_of_ble_eq_true (congrArg (fun q=>q.2.2.1) h)) (hlK (congrArg (fun q=>q.2.2.2.1) h) (congrArg (fun q=>q.2.2.2.2) h)) hm⟩
def mkW(ks:List (LK P false)){f:FuncId}{fn:Func}(hf:P.funcs[f]?=some fn)(ins:List It)(p:Nat)(outs:List (List It))(h:fnK cs ks fn=(false,true,true,qlf ks,true)):Cw P :=
 ⟨f,p,ins,fn.results.toList.length,outs,runW B cs (goK ks) (qbH fn) ins p fn.ntmps fn.results.toList outs,fun _ _ hm=>quI (B:=B) (cs:=cs) (lo:=goK ks) (rs:=fn.results.toList) hf (congrArg Prod.fst h) (qtz (congrArg (fun q=>q.2.1) h)) (Array.toArray_toList).symm (Nat.le_of_ble_eq_true (congrArg (fun q=>q.2.2.1) h)) (hlK (congrArg (fun q=>q.2.2.2.1) h) (congrArg (fun q=>q.2.2.2.2) h)) hm⟩
end
end Go.Proofs.YtfnflenkeljkiaaGreat
/- How a law's arguments read, as plain values. -/
namespace Go.Proofs.YtfnflenkeljkiaaGreat
open Go Go.Proofs Go.RowKit Go.Shelf
open Go.ChangeShapes Go.WideShapes Go.ChangeAt Go.Deep
theorem ShAll.split{l m:List Sh}{ds:List AV}(h:ShAll (l++m) ds):ShAll l (ds.take l.length)∧ShAll m (ds.drop l.length):=by
 have hl:ds.length=l.length+m.length:=by rw[h.1,List.length_append]
 refine ⟨⟨by simp;omega,fun i s d h1 h2=>?_⟩,⟨by simp;omega,fun i s d h1 h2=>?_⟩⟩
 ·have hi:i<l.length:=(List.getElem?_eq_some_iff.1 h1).1
  rw[List.getElem?_take,if_pos hi] at h2
  exact h.2 i s d (by rw[List.getElem?_append_left hi];exact h1) h2
 ·rw[List.getElem?_drop] at h2
  exact h.2 (l.length+i) s d (by rw[List.getElem?_append_right (by omega),Nat.add_sub_cancel_left];exact h1) h2
def Ty.sh:Ty→List Sh
 | .i k=>[.int k]
 | .b=>[.bool]
 | .s=>[.str]
 | .u=>[]
 | .sl t=>[.sl t.sh]
 | .pr x y=>x.sh++y.sh
 | .pt _=>[.bool]
theorem Ty.sh_len:∀t:Ty,t.sh.length=t.sz
 | .i _=>rfl
 | .b=>rfl
 | .s=>rfl
 | .u=>rfl
 | .sl _=>rfl
 | .pt _=>rfl
 | .pr x y=>by simp only[Ty.sh,Ty.sz,List.length_append,Ty.sh_len x,Ty.sh_len y]
theorem quN{α:Type}{f:α→List AV}{L:α→Prop}:∀(rows:List (List AV)),(∀row,row∈rows→∃x,row=f x∧L x)→∃l:List α,rows=l.map f∧∀x,x∈l→L x
 | [],_=>⟨[],rfl,fun x hx=>by cases hx⟩
 | r::rows,h=>by
  obtain ⟨x,rfl,hx⟩:=h r (List.mem_cons_self ..)
  obtain ⟨l,rfl,hl⟩:=quN rows fun row hr=>h row (List.mem_cons_of_mem _ hr)
  exact ⟨x::l,rfl,fun y hy=>by rcases List.mem_cons.1 hy with rfl | hy;exact hx;exact hl y hy⟩
def qAB{α:Type}(p:α→Prop)(n:Nat)(l:List α):Prop:=l.length*n≤reachBytes∧∀x,x∈l→p x
def Ty.lim:(t:Ty)→t.den→Prop
 | .i _,_=>True
 | .b,_=>True
 | .s,_=>True
 | .u,_=>True
 | .sl t,l=>qAB t.lim (wtL t.sh) l
 | .pr x y,p=>x.lim p.1∧y.lim p.2
 | .pt _,_=>True
theorem Ty.of_sh:∀(t:Ty) (ds:List AV),ShAll t.sh ds→∀(_:t.noP=true:=by rfl),∃x:t.den,ds=t.enc x∧t.lim x
 | .i k,ds,h,hp=>by
  obtain ⟨_,_,rfl,h0,h⟩:=h.cons
  obtain rfl:=h.nil
  obtain ⟨n,rfl⟩:=h0.int'
  exact ⟨n,rfl,trivial⟩
 | .b,ds,h,hp=>by
  obtain ⟨_,_,rfl,h0,h⟩:=h.cons
  obtain rfl:=h.nil
  obtain ⟨n,rfl⟩:=h0.bool'
  exact ⟨n,rfl,trivial⟩
 | .s,ds,h,hp=>by
  obtain ⟨_,_,rfl,h0,h⟩:=h.cons
  obtain rfl:=h.nil
  obtain ⟨n,rfl⟩:=h0.str'
  exact ⟨n,rfl,trivial⟩
 | .u,ds,h,hp=>⟨(),h.nil,trivial⟩
 | .sl t,ds,h,hp=>by
  obtain ⟨_,_,rfl,h0,h⟩:=h.cons
  obtain rfl:=h.nil
  obtain ⟨rows,rfl,hb,h1⟩:=h0.slW
  obtain ⟨l,rfl,hl⟩:=quN (f:=t.enc) (L:=t.lim) rows fun row hr=>Ty.of_sh t row (h1 row hr) hp
  exact ⟨l,by rw[Ty.sh_len];rfl,by rwa [List.length_map] at hb,hl⟩
 | .pt _,ds,h,hp=>by cases hp
 | .pr x y,ds,h,hp=>by
  simp only[Ty.noP,Bool.and_eq_true] at hp
  obtain ⟨h1,h2⟩:=h.split
  obtain ⟨a,ha,la⟩:=Ty.of_sh x _ h1 hp.1
  obtain ⟨b,hb,lb⟩:=Ty.of_sh y _ h2 hp.2
  exact ⟨(a,b),by show ds=x.enc a++y.enc b;rw[← ha,← hb,List.take_append_drop],la,lb⟩
theorem Ct.pc{P:Program}(c:Ct P)(a:qeo c.ars)(y:c.rs.den)(h:c.M a=some y){f:FuncId}{args:List AV}{r:AV}(hf:c.f=f)(ha:arsA c.ars a=args)(hr:c.rs.A y=r):PC P f args r:=by
 subst hf ha hr;exact c.ok a y h
end Go.Proofs.YtfnflenkeljkiaaGreat
