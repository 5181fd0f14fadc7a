/- Texts Dp6, Dp7, Dp8, Dp9, Dp10, Dp11 in one. -/
import Derived.Test.YtcjcacbhkoainaaGreatDoorPa
/- Beds, plain: distinct. -/
set_option linter.constructorNameAsVariable false
set_option linter.unusedSimpArgs false
set_option linter.unusedVariables false
set_option linter.unusedSectionVars false
namespace Go.Proofs.YtcjcacbhkoainaaGreatDoor
open Go Go.Proofs Go.RowKit
set_option maxHeartbeats 1000000
section
variable {α:Type} [DecidableEq α]
end
theorem qil{p:Bool}(h:p=true):qbA p=some ():=by rw[h];rfl
abbrev Spot:=Int×Int
abbrev Used:=List (Spot×Int)
def valL(x:Spot):Used→Int
 | []=>0
 | p::l=>if x=p.1 then p.2 else valL x l
def qy6(c:Chn)(h:Int):Int:=match lat c.1 h with
 | some y=>y.1
 | none=>0
def okS(c:Chn)(s:Spot):Prop:=0≤s.1∧s.1≤(c.1.length:Int)-1
structure MsgOk (c:Chn) (m:Msg):Prop where
 p1:1≤m.2.2.2.1
 p2:m.2.2.2.1≤20
 sp:∀s,s∈qdO m.2.2.2.2→okS c s
 nd:(qdO m.2.2.2.2).Nodup
 sd:qrc m.2.2.2.2=some ((qdO m.2.2.2.2).map qrb)
def Inv(c:Chn)(u:Used):Prop:=∀s,okS c s→0≤valL s u∧valL s u≤qy6 c s.1
section
variable {α:Type}
end
section
variable {α:Type} [DecidableEq α]
end
theorem qvd(a b:Int):(cmpI a b = -1∧a<b)∨(cmpI a b=0∧a=b)∨(cmpI a b=1∧b<a):=by
 unfold cmpI
 by_cases h:a<b
 ·simp[h]
 ·by_cases h':a>b
  ·rw[if_neg h,if_pos h'];omega
  ·rw[if_neg h,if_neg h'];omega
structure Msgs (l:List Msg):Prop where
 kd:∀m,m∈l→m.1=1∨m.1=2
 id:∀m,m∈l→0≤m.2.1∧m.2.1≤99
 cl:∀x y,x∈l→y∈l→x.2.1=y.2.1→x.1=y.1→x=y
theorem qws{l:List Msg}(h:∀x y,x∈l→y∈l→x.2.1=y.2.1→x.1=y.1→x=y):qo6 l=false:=by
 unfold qo6
 rw[List.any_eq_false]
 intro i hi
 rw[Bool.not_eq_true,List.any_eq_false]
 intro k hk
 rw[Bool.not_eq_true]
 cases h1:l[i]? with
 | none=>rfl
 | some x=>cases h2:l[k]? with
  | none=>rfl
  | some y =>
   show claB x y=false
   unfold claB
   by_cases e1:x.2.1=y.2.1
   ·by_cases e2:x.1=y.1
    ·simp[h x y (List.mem_of_getElem? h1) (List.mem_of_getElem? h2) e1 e2]
    ·simp[e2]
   ·simp[e1]
theorem Vld.sub{c:Chn}{l m:List Msg}(V:Vld c l)(h:∀x,x∈m→x∈l)(hl:m.length≤40):Vld c m :=
 ⟨V.ch,fun x hx=>V.ms x (h x hx),hl,qws fun x y hx hy h1 h2=>qtB V.cl x y (h x hx) (h y hy) h1 h2,fun x hx=>V.st x (h x hx),V.hu⟩
end Go.Proofs.YtcjcacbhkoainaaGreatDoor
