/- Paths: nets, parties, times, arrivals: what the program computes. -/
import Derived.Test.YtfnflenkeljkiaaGreatTd
import Derived.Test.YtfnflenkeljkiaaGreatDqD
import Derived.Test.YtfnflenkeljkiaaGreatGa
set_option linter.constructorNameAsVariable false
set_option linter.unusedSimpArgs false
set_option linter.unusedVariables false
set_option linter.unusedSectionVars false
namespace Go.Proofs.YtfnflenkeljkiaaGreat
open Go Go.Proofs Go.RowKit
set_option maxHeartbeats 1000000
abbrev NetT:=Int×List qif
abbrev qc8:=Int×(Int×(Int×Int))
theorem qhJ(n:Nat)(x lo hi:Int):qcW n (x,(lo,(hi,())))=some (qc x lo hi,()):=by
 rw[qqP]
 unfold qc
 show cond (decide (lo≤x)) _ _=_
 cases decide (lo≤x)<;>rfl
theorem qnx(n:Nat)(s:Int×Int)(lo hi:Int):qfs n (s,(lo,(hi,())))=some (qW s.1 s.2 lo hi,()):=by
 rw[qp9]
 unfold qW
 show cond (decide (lo≤s.1)) (cond (decide (s.1≤s.2)) _ _) _=_
 cases decide (lo≤s.1)<;>cases decide (s.1≤s.2)<;>rfl
theorem qny(n:Nat)(x lo hi:Int):qdg n (x,(lo,(hi,())))=some (qc x lo hi,()):=by
 rw[qmA]
 unfold qc
 show cond (decide (x≥lo)) _ _=_
 by_cases h:lo≤x<;>simp[h]
theorem qtI(n:Nat)(s:Int×Int)(lo hi:Int):qee n (s,(lo,(hi,())))=some (qW s.1 s.2 lo hi,()):=by
 rw[qmB]
 unfold qW
 show cond (decide (s.1≥lo)) (cond (decide (s.1≤s.2)) _ _) _=_
 by_cases h:lo≤s.1<;>by_cases h2:s.1≤s.2<;>simp[h,h2]
def opOk(s:Int×Int):Bool:=qW s.1 s.2 0 2880
def qmC(N:Int)(p:qif):Bool:=qc p.1 0 (N-1)&&(qc p.2.1 0 (N-1)&&(!iEq p.1 p.2.1&&(qc p.2.2.1 1 6&&(qW p.2.2.2.1.1 p.2.2.2.1.2 1 600&&(qW p.2.2.2.2.1.1 p.2.2.2.2.1.2 0 30&&(decide (p.2.2.2.2.2.length≤6)&&p.2.2.2.2.2.all opOk))))))
def netE(n:NetT):Int:=cond (qc n.1 1 12&&(decide (n.2.length≤24)&&n.2.all (qmC n.1))) 0 10
def qiN(n:NetT):Prop:=n.2.length≤50∧∀p,p∈n.2→p.2.2.2.2.2.length≤50
theorem w12{x:Int}(h:qc x 1 12=true):iW (iSub x 1)=x-1:=by
 have:=qy.1 h
 exact qfF (by unfold iSub;omega) (by unfold iSub;omega)
theorem qv3(n:Nat)(net:NetT)(hs:qiN net)(hn:100≤n):qfO n (net,())=some (netE net,()):=by
 obtain ⟨h1,h2⟩:=hs
 rw[qmO]
 simp only[qny,Option.bind_some]
 unfold netE
 cases hw:qc net.1 1 12 with
 | false=>rfl
 | true =>
  by_cases h24:net.2.length≤24
  rotate_left
  ·rw[show iGt (net.2.length:Int) 24=true from decide_eq_true (by omega),decide_eq_false h24]
   rfl
  rw[show iGt (net.2.length:Int) 24=false from decide_eq_false (by omega),decide_eq_true h24]
  have l0:=qgZ (qgT n) net.2 (qmC net.1) (fun k=>((k:Int),(net,()))) (some (Sum.inl ())) (fun _=>some (Sum.inr (10,()))) (fun k hk rec=>by
   have hopl:=h2 _ (List.getElem_mem hk)
   have l1:=qgZ (qgS n) net.2[k].2.2.2.2.2 opOk (fun j=>((k:Int),((j:Int),(net,(net.2[k],()))))) (some (Sum.inl ((k:Int),(net,())))) (fun _=>some (Sum.inr (10,()))) (fun j hj rec=>by
    rw[qih]
    simp only[iLtN hj,cond_true,qr net.2[k].2.2.2.2.2 hj,Option.bind_some,qtI,qQ (show j<9223372036854775807 by omega)]
    show cond (!opOk net.2[k].2.2.2.2.2[j]) _ _=_
    cases opOk net.2[k].2.2.2.2.2[j]<;>rfl) (fun rec=>by
     rw[qih]
     simp only[qcu (Nat.le_refl net.2[k].2.2.2.2.2.length),cond_false]) n (by omega)
   rw[show ((0:Nat):Int)=0 from rfl] at l1
   rw[qii]
   simp only[iLtN hk,cond_true,qr net.2 hk,Option.bind_some,qig,qny,qtI,w12 hw]
   have e6:iGt (net.2[k].2.2.2.2.2.length:Int) 6 = !decide (net.2[k].2.2.2.2.2.length≤6):=qn4 _ 6
   rw[e6]
   unfold qmC
   rcases l1 with ⟨a,b⟩ | ⟨a,j,_,b⟩
   ·rw[a,b]
    simp only[Option.bind_some,Sum.elim_inl,qQ (show k<9223372036854775807 by omega)]
    cases qc net.2[k].1 0 (net.1-1)
    ·rfl
    cases qc net.2[k].2.1 0 (net.1-1)
    ·rfl
    cases iEq net.2[k].1 net.2[k].2.1
    rotate_left
    ·rfl
    cases qc net.2[k].2.2.1 1 6
    ·rfl
    cases qW net.2[k].2.2.2.1.1 net.2[k].2.2.2.1.2 1 600
    ·rfl
    cases qW net.2[k].2.2.2.2.1.1 net.2[k].2.2.2.2.1.2 0 30
    ·rfl
    cases decide (net.2[k].2.2.2.2.2.length≤6)<;>rfl
   ·rw[a,b]
    cases qc net.2[k].1 0 (net.1-1)
    ·rfl
    cases qc net.2[k].2.1 0 (net.1-1)
    ·rfl
    cases iEq net.2[k].1 net.2[k].2.1
    rotate_left
    ·rfl
    cases qc net.2[k].2.2.1 1 6
    ·rfl
    cases qW net.2[k].2.2.2.1.1 net.2[k].2.2.2.1.2 1 600
    ·rfl
    cases qW net.2[k].2.2.2.2.1.1 net.2[k].2.2.2.2.1.2 0 30
    ·rfl
    cases decide (net.2[k].2.2.2.2.2.length≤6)<;>rfl) (fun rec=>by
    rw[qii]
    simp only[qcu (Nat.le_refl net.2.length),cond_false]) n (by omega)
  rw[show ((0:Nat):Int)=0 from rfl] at l0
  rcases l0 with ⟨a,b⟩ | ⟨a,k,_,b⟩
  ·rw[a,b];rfl
  ·rw[a,b];rfl
theorem qxW(n:Nat)(l:List (Int×Int))(hl:l.length≤50)(hn:100≤n):qct n (l,(((),()),()))=some (!l.all opOk,()):=by
 rw[qgj,qgV]
 have:=qgZ (qcy n) l opOk (fun k=>(l,(((),()),((l.length:Int),((k:Int),()))))) (some (Sum.inl ())) (fun k=>some (Sum.inr ((k:Int),()))) (fun k hk rec=>by
  rw[qds]
  simp only[iLtN hk,cond_true,qr l hk,Option.bind_some,qqa,qnx,qQ (show k<9223372036854775807 by omega)]
  show cond (!opOk l[k]) _ _=_
  cases opOk l[k]<;>rfl) (fun rec=>by
   rw[qds]
   simp only[qcu (Nat.le_refl l.length),cond_false]) n (by omega)
 rw[show ((0:Nat):Int)=0 from rfl] at this
 rcases this with ⟨h1,h2⟩ | ⟨h1,k,_,h2⟩
 ·simp only[h1,h2];rfl
 ·simp only[h1,h2,Option.bind_some,Sum.elim_inr,show iGe (k:Int) 0=true from decide_eq_true (by omega)];rfl
theorem qAp(n:Nat)(net:NetT)(hs:qiN net)(hn:100≤n):qly n (net,())=some (netE net,()):=by
 obtain ⟨h1,h2⟩:=hs
 rw[qrB]
 simp only[qhJ,Option.bind_some]
 unfold netE
 cases hw:qc net.1 1 12 with
 | false=>rfl
 | true =>
  by_cases h24:net.2.length≤24
  rotate_left
  ·rw[show iGt (net.2.length:Int) 24=true from decide_eq_true (by omega),decide_eq_false h24]
   rfl
  rw[show iGt (net.2.length:Int) 24=false from decide_eq_false (by omega),decide_eq_true h24]
  simp only[Bool.not_true,cond_false]
  rw[qc7,qdk]
  have:=qgZ (qO n) net.2 (qmC net.1) (fun k=>(net.2,((net.2.length:Int),((k:Int),(net,()))))) (some (Sum.inl (net,()))) (fun k=>some (Sum.inr ((k:Int),(net,())))) (fun k hk rec=>by
   rw[qbt]
   simp only[iLtN hk,cond_true,qr net.2 hk,Option.bind_some,qgk,qpm,qhJ,qnx,w12 hw,qxW n net.2[k].2.2.2.2.2 (h2 _ (List.getElem_mem hk)) hn,qQ (show k<9223372036854775807 by omega)]
   have e6:iGt (net.2[k].2.2.2.2.2.length:Int) 6 = !decide (net.2[k].2.2.2.2.2.length≤6):=qn4 _ 6
   rw[e6]
   unfold qmC
   cases qc net.2[k].1 0 (net.1-1)
   ·rfl
   cases qc net.2[k].2.1 0 (net.1-1)
   ·rfl
   cases iEq net.2[k].1 net.2[k].2.1
   rotate_left
   ·rfl
   cases qc net.2[k].2.2.1 1 6
   ·rfl
   cases qW net.2[k].2.2.2.1.1 net.2[k].2.2.2.1.2 1 600
   ·rfl
   cases qW net.2[k].2.2.2.2.1.1 net.2[k].2.2.2.2.1.2 0 30
   ·rfl
   cases decide (net.2[k].2.2.2.2.2.length≤6)
   ·rfl
   cases net.2[k].2.2.2.2.2.all opOk<;>rfl) (fun rec=>by
    rw[qbt]
    simp only[qcu (Nat.le_refl net.2.length),cond_false]) n (by omega)
  rw[show ((0:Nat):Int)=0 from rfl] at this
  rcases this with ⟨a,b⟩ | ⟨a,k,_,b⟩
  ·simp only[a,b];rfl
  ·simp only[a,b,Option.bind_some,Sum.elim_inr,show iGe (k:Int) 0=true from decide_eq_true (by omega)];rfl
structure NetOk (net:NetT):Prop where
 pl:1≤net.1∧net.1≤12
 pa:net.2.length≤24
 ok:∀p,p∈net.2→(0≤p.1∧p.1<net.1)∧(0≤p.2.1∧p.2.1<net.1)∧(0≤p.2.2.2.1.1∧p.2.2.2.1.1≤600)∧(0≤p.2.2.2.1.2∧p.2.2.2.1.2≤600)∧(0≤p.2.2.2.2.1.1∧p.2.2.2.2.1.1≤30)∧(0≤p.2.2.2.2.1.2∧p.2.2.2.2.1.2≤30)∧p.2.2.2.2.2.length≤6∧∀s,s∈p.2.2.2.2.2→0≤s.1∧s.1≤s.2∧s.2≤2880
theorem qkX{net:NetT}(h:netE net=0):NetOk net:=by
 unfold netE at h
 cases hb:(qc net.1 1 12&&(decide (net.2.length≤24)&&net.2.all (qmC net.1))) with
 | false=>rw[hb] at h;exact absurd h (show ¬(10:Int)=0 by decide)
 | true =>
  simp only[Bool.and_eq_true,decide_eq_true_eq,qy,List.all_eq_true] at hb
  refine ⟨hb.1,hb.2.1,fun p hp=>?_⟩
  have:=hb.2.2 p hp
  unfold qmC qW at this
  simp only[Bool.and_eq_true,decide_eq_true_eq,qy,List.all_eq_true] at this
  obtain ⟨a,b,_,_,c,d,e,f⟩:=this
  refine ⟨by omega,by omega,by omega,by omega,by omega,by omega,e,fun s hs=>?_⟩
  have:=f s hs
  unfold opOk qW at this
  simp only[Bool.and_eq_true,decide_eq_true_eq] at this
  omega
structure PartOk (p:qc8):Prop where
 g:1≤p.1∧p.1≤6
 l:p.2.1=0
 lo:50≤p.2.2.1∧p.2.2.1≤p.2.2.2∧p.2.2.2≤300
theorem qrE(n:Nat)(net:NetT)(p:qc8)(hs:qiN net)(he:netE net=0)(hp:PartOk p)(hn:100≤n):qjv n (net,(p,()))=some ((net,p),(0,())):=by
 obtain ⟨g,l,lo⟩:=hp
 rw[qrC]
 simp only[qAp n net hs hn,he,Option.bind_some,show iNe (0:Int) 0=false from rfl,cond_false,qhJ,qnx,qy.2 g,Bool.not_true]
 have e1:qW p.2.2.1 p.2.2.2 50 300=true:=by unfold qW;simp only[Bool.and_eq_true,decide_eq_true_eq];omega
 have e2:qc p.2.1 0 40=true:=qy.2 (by omega)
 rw[e1,e2]
 rfl
theorem qAq(n:Nat)(net:NetT)(p:qc8)(from_ start:Int)(hs:qiN net)(he:netE net=0)(hp:PartOk p)(hf:0≤from_∧from_<net.1)(ht:0≤start∧start≤2880)(hn:100≤n):qmz n (net,(p,(((from_::[]),(start::[])),())))=some ((net,p),(0,())):=by
 have hnk:=qkX he
 rw[qss]
 simp only[qrE n net p hs he hp hn,Option.bind_some,show iNe (0:Int) 0=false from rfl,cond_false]
 have l1:qcR n ((from_::[]),(net,()))=some (false,(net,())):=by
  obtain ⟨m,rfl⟩:∃m,n=m+2:=⟨n-2,by omega⟩
  rw[qhf,qhP,qU,qei]
  have e:iW (iSub net.1 1)=net.1-1:=qfF (by unfold iSub;have:=hnk.pl;omega) (by unfold iSub;have:=hnk.pl;omega)
  simp only[show iLt (0:Int) ((from_::[]).length:Int)=true from rfl,cond_true,show lat (from_::[]) 0=some from_ from rfl,Option.bind_some,qqb,qhJ,e,qy.2 (show 0≤from_∧from_≤net.1-1 by omega),Bool.not_true,cond_false]
  rw[qU,qei]
  rfl
 have l2:qcS n ((start::[]),(((),()),()))=some (false,()):=by
  obtain ⟨m,rfl⟩:∃m,n=m+2:=⟨n-2,by omega⟩
  rw[qhg,qhQ,qU,qej]
  simp only[show iLt (0:Int) ((start::[]).length:Int)=true from rfl,cond_true,show lat (start::[]) 0=some start from rfl,Option.bind_some,qqQ,qhJ,qy.2 ht,Bool.not_true,cond_false]
  rw[qU,qej]
  rfl
 simp only[l1,l2,Option.bind_some,cond_false]
end Go.Proofs.YtfnflenkeljkiaaGreat
