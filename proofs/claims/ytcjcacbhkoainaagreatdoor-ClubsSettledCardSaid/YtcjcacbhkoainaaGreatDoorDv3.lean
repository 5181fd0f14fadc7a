/- Balances: a group without a proper part of sum 0 is settled by one transfer less than it has members. -/
import Derived.Test.YtcjcacbhkoainaaGreatDoorDv2
set_option linter.constructorNameAsVariable false
set_option linter.unusedSimpArgs false
set_option linter.unusedVariables false
set_option linter.unusedSectionVars false
namespace Go.Proofs.YtcjcacbhkoainaaGreatDoor
open Go Go.Proofs Go.RowKit
set_option maxHeartbeats 1000000
abbrev Debt:=Int×Int
def ws(f:Int→Bool)(d:List Debt):Int:=(d.map fun p=>if f p.1=true then p.2 else 0).sum
theorem qwm{l m:List Int}(h:l.Perm m):l.sum=m.sum:=by
 induction h with
 | nil=>rfl
 | cons x _ ih=>simp[ih]
 | swap x y l=>simp only[List.sum_cons];omega
 | trans _ _ h1 h2=>rw[h1,h2]
theorem qux{f:Int→Bool}{d e:List Debt}(h:d.Perm e):ws f d=ws f e:=qwm (h.map _)
theorem qel(f:Int→Bool)(p:Debt)(d:List Debt):ws f (p::d)=(if f p.1=true then p.2 else 0)+ws f d:=by unfold ws;rw[List.map_cons,List.sum_cons]
theorem qqx{f g:Int→Bool}:∀{d:List Debt},(∀p,p∈d→f p.1=g p.1)→ws f d=ws g d
 | [],_=>rfl
 | p::d,h=>by rw[qel,qel,h p List.mem_cons_self,qqx fun q hq=>h q (List.mem_cons_of_mem _ hq)]
def Irr(d:List Debt):Prop:=∀f:Int→Bool,ws f d=0→(∀p,p∈d→f p.1=true)∨(∀p,p∈d→f p.1=false)
structure DOk (d:List Debt):Prop where
 nd:(d.map (·.1)).Nodup
 nz:∀p,p∈d→p.2≠0
 s0:ws (fun _=>true) d=0
 ir:Irr d
theorem DOk.perm{d e:List Debt}(h:d.Perm e)(k:DOk d):DOk e :=
 ⟨(h.map _).nodup_iff.1 k.nd,fun p hp=>k.nz p (h.mem_iff.2 hp),by rw[← qux h];exact k.s0,fun f hf=>by
  rcases k.ir f (by rw[qux h];exact hf) with h' | h'
  ·exact .inl fun p hp=>h' p (h.mem_iff.2 hp)
  ·exact .inr fun p hp=>h' p (h.mem_iff.2 hp)⟩
theorem DOk.join{x y:Debt}{d:List Debt}(k:DOk (x::y::d))(h:x.2+y.2≠0):DOk ((y.1,x.2+y.2)::d):=by
 have hn:=k.nd
 rw[List.map_cons,List.map_cons,List.nodup_cons,List.nodup_cons,List.mem_cons,not_or] at hn
 obtain ⟨⟨n1,n2⟩,n3,n4⟩:=hn
 refine ⟨?_,fun p hp=>?_,?_,fun f hf=>?_⟩
 ·rw[List.map_cons,List.nodup_cons];exact ⟨n3,n4⟩
 ·rcases List.mem_cons.1 hp with rfl | hp
  ·exact h
  ·exact k.nz p (List.mem_cons_of_mem _ (List.mem_cons_of_mem _ hp))
 ·have:=k.s0
  rw[qel,qel] at this
  rw[qel]
  simp only[if_true] at this ⊢
  omega
 ·have h1:=k.ir (fun i=>if i=x.1 then f y.1 else f i) (by
   have hd:ws (fun i=>if i=x.1 then f y.1 else f i) d=ws f d:=qqx fun p hp=>by
    show (if p.1=x.1 then f y.1 else f p.1)=f p.1
    rw[if_neg fun e=>n2 (by rw[← e];exact List.mem_map_of_mem hp)]
   rw[qel] at hf
   rw[qel,qel,hd]
   simp only[if_true,if_neg (Ne.symm n1)] at hf ⊢
   cases hfy:f y.1<;>rw[hfy] at hf<;>simp only[if_true,Bool.false_eq_true,if_false] at hf ⊢<;>omega)
  have key:∀b:Bool,(∀p,p∈x::y::d→(if p.1=x.1 then f y.1 else f p.1)=b)→∀p,p∈(y.1,x.2+y.2)::d→f p.1=b:=fun b hb p hp=>by
   rcases List.mem_cons.1 hp with rfl | hp
   ·have:=hb x List.mem_cons_self
    rwa [if_pos rfl] at this
   ·have:=hb p (List.mem_cons_of_mem _ (List.mem_cons_of_mem _ hp))
    rwa [if_neg fun e=>n2 (by rw[← e];exact List.mem_map_of_mem hp)] at this
  rcases h1 with h1 | h1
  ·exact .inl (key true h1)
  ·exact .inr (key false h1)
theorem DOk.both{x y:Debt}{d:List Debt}(k:DOk (x::y::d))(h:x.2+y.2=0):d=[]:=by
 have hn:=k.nd
 rw[List.map_cons,List.map_cons,List.nodup_cons,List.nodup_cons,List.mem_cons,not_or] at hn
 obtain ⟨⟨n1,n2⟩,n3,n4⟩:=hn
 have h1:=k.ir (fun i=>decide (i=x.1)||decide (i=y.1)) (by
  have hd:ws (fun i=>decide (i=x.1)||decide (i=y.1)) d=ws (fun _=>false) d:=qqx fun p hp=>by
   show (decide (p.1=x.1)||decide (p.1=y.1))=false
   rw[decide_eq_false fun e=>n2 (by rw[← e];exact List.mem_map_of_mem hp),decide_eq_false fun e=>n3 (by rw[← e];exact List.mem_map_of_mem hp)];rfl
  have h0:ws (fun _=>false) d=0:=by
   unfold ws
   clear hd k n1 n2 n3 n4 h
   induction d with
   | nil=>rfl
   | cons p d ih=>rw[List.map_cons,List.sum_cons,ih];rfl
  rw[qel,qel,hd,h0]
  simp
  omega)
 cases d with
 | nil=>rfl
 | cons p d =>
  rcases h1 with h1 | h1
  ·have:=h1 p (by simp)
   simp only[Bool.or_eq_true,decide_eq_true_eq] at this
   rcases this with e | e
   ·exact absurd (show x.1∈(p::d).map (·.1) by rw[← e];simp) n2
   ·exact absurd (show y.1∈(p::d).map (·.1) by rw[← e];simp) n3
  ·have:=h1 x List.mem_cons_self
   simp at this
inductive Trs:List Debt→List (Int×(Int×Int))→Prop
 | done (d:List Debt):d.length≤1→Trs d []
 | round (d e r:List Debt) (x y:Debt) (ts:List (Int×(Int×Int))):d.Perm (x::y::e)→(∀p,p∈d→x.2≤p.2∧p.2≤y.2)→r.Perm (((x.1,x.2+min (-x.2) y.2)::(y.1,y.2-min (-x.2) y.2)::e).filter fun p=>!decide (p.2=0))→Trs r ts→Trs d ((x.1,(y.1,min (-x.2) y.2))::ts)
theorem qsn{e:List Debt}(h:∀p,p∈e→p.2≠0):e.filter (fun p=>!decide (p.2=0))=e:=List.filter_eq_self.2 fun p hp=>by rw[decide_eq_false (h p hp)];rfl
theorem qvc{x y:Debt}{e:List Debt}(k:DOk (x::y::e))(h:∀p,p∈x::y::e→x.2≤p.2∧p.2≤y.2):x.2<0∧0<y.2:=by
 have hs:=k.s0
 have hx:=k.nz x List.mem_cons_self
 have hy:=k.nz y (List.mem_cons_of_mem _ List.mem_cons_self)
 rw[qel,qel] at hs
 simp only[if_true] at hs
 have lo:∀e:List Debt,(∀p,p∈e→0≤p.2)→0≤ws (fun _=>true) e:=by
  intro e
  induction e with
  | nil=>intro _;exact Int.le_refl _
  | cons p e ih=>intro h;rw[qel];have:=ih fun q hq=>h q (List.mem_cons_of_mem _ hq);have:=h p List.mem_cons_self;simp only[if_true];omega
 have hi:∀e:List Debt,(∀p,p∈e→p.2≤0)→ws (fun _=>true) e≤0:=by
  intro e
  induction e with
  | nil=>intro _;exact Int.le_refl _
  | cons p e ih=>intro h;rw[qel];have:=ih fun q hq=>h q (List.mem_cons_of_mem _ hq);have:=h p List.mem_cons_self;simp only[if_true];omega
 have hxy:=h y (List.mem_cons_of_mem _ List.mem_cons_self)
 constructor
 ·refine Int.not_le.1 fun h0=>?_
  have:=lo e fun p hp=>by have:=h p (List.mem_cons_of_mem _ (List.mem_cons_of_mem _ hp));omega
  omega
 ·refine Int.not_le.1 fun h0=>?_
  have:=hi e fun p hp=>by have:=h p (List.mem_cons_of_mem _ (List.mem_cons_of_mem _ hp));omega
  omega
theorem qqy{d e r:List Debt}{x y:Debt}(k:DOk d)(hp:d.Perm (x::y::e))(hb:∀p,p∈d→x.2≤p.2∧p.2≤y.2)(hr:r.Perm (((x.1,x.2+min (-x.2) y.2)::(y.1,y.2-min (-x.2) y.2)::e).filter fun p=>!decide (p.2=0))):(r=[]∧d.length=2)∨(DOk r∧r.length+1=d.length∧1≤r.length):=by
 have k1:=k.perm hp
 have hl:=hp.length_eq
 simp only[List.length_cons] at hl
 have hsg:=qvc k1 fun p h=>hb p (hp.mem_iff.2 h)
 have he:∀p,p∈e→p.2≠0:=fun p h=>k1.nz p (List.mem_cons_of_mem _ (List.mem_cons_of_mem _ h))
 rcases Int.lt_trichotomy (x.2+y.2) 0 with h | h | h
 ·right
  rw[show min (-x.2) y.2=y.2 by omega,show y.2-y.2=0 by omega] at hr
  rw[List.filter_cons_of_pos (by simp;omega),List.filter_cons_of_neg (by simp),qsn he] at hr
  have k2:DOk (y::x::e):=k1.perm (List.Perm.swap y x e)
  have k3:=k2.join (by omega)
  rw[Int.add_comm y.2 x.2] at k3
  have hrl:=hr.length_eq
  rw[List.length_cons] at hrl
  exact ⟨k3.perm hr.symm,by omega,by omega⟩
 ·left
  have:=k1.both h
  subst this
  rw[show min (-x.2) y.2=y.2 by omega,show y.2-y.2=0 by omega,h] at hr
  exact ⟨by simpa using hr,by simpa using hl⟩
 ·right
  rw[show min (-x.2) y.2 = -x.2 by omega,show x.2 + -x.2=0 by omega,show y.2 - -x.2=x.2+y.2 by omega] at hr
  rw[List.filter_cons_of_neg (by simp),List.filter_cons_of_pos (by simp;omega),qsn he] at hr
  have k3:=k1.join (by omega)
  have hrl:=hr.length_eq
  rw[List.length_cons] at hrl
  exact ⟨k3.perm hr.symm,by omega,by omega⟩
theorem quy{d:List Debt}{ts:List (Int×(Int×Int))}(h:Trs d ts):DOk d→1≤d.length→ts.length+1=d.length:=by
 induction h with
 | done d h=>intro _ h1;simp;omega
 | round d e r x y ts hp hb hr ht ih =>
  intro k _
  rcases qqy k hp hb hr with ⟨h1,h2⟩ | ⟨h1,h2,h3⟩
  ·subst h1
   cases ht with
   | done _ _=>simp[h2]
   | round _ e' _ x' y' _ hp' _ _ _=>have:=hp'.length_eq;simp at this
  ·have:=ih h1 h3
   rw[List.length_cons];omega
end Go.Proofs.YtcjcacbhkoainaaGreatDoor
