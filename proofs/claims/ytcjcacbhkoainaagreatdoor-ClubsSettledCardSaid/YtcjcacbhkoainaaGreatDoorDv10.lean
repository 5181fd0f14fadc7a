/- Clubs: the search for the most groups of sum 0: its result. -/
import Derived.Test.YtcjcacbhkoainaaGreatDoorDv9
set_option linter.constructorNameAsVariable false
set_option linter.unusedSimpArgs false
set_option linter.unusedVariables false
set_option linter.unusedSectionVars false
namespace Go.Proofs.YtcjcacbhkoainaaGreatDoor
open Go Go.Proofs Go.RowKit
set_option maxHeartbeats 1000000
theorem qyF(n:Nat)(l:List Int)(B:Bal l)(hn:2000≤n):∀(k m:Nat) (mp:Memo),m<k→m<256→InL l m→sm l m=0→MI l mp →
  ∃F mp',FG (qk n k) ((m:Int),(mp,(l,())))=some (qey F,(mp',(l,())))∧Part (Zs l) m F∧IsMax (Zs l) m F.length∧MI l mp':=by
 intro k
 induction k with
 | zero=>intro m mp h;exact absurd h (Nat.not_lt_zero _)
 | succ k ihk =>
  intro m mp hk hm hi hz hM
  unfold FG
  rw[qe9,qfg]
  cases hh:qhl (Ty.i .u64) (m:Int) mp with
  | true =>
   obtain ⟨m',F,g1,g2,g3,g4⟩:=hM.2 _ (qwp (z:=([]:List Int)) rfl hh)
   have e:m'=m:=by have:(m:Int)=(m':Int):=g1;omega
   subst e
   refine ⟨F,mp,?_,g3,g4,hM⟩
   simp only[hh,cond_true]
   rw[show qfU (Ty.i .u64) ([]:List Int) (m':Int) mp=qey F from g2]
  | false =>
   have h0:m≠0:=fun e=>by
    rw[e] at hh
    exact absurd hM.1 (by rw[show qhl (Ty.i .u64) (0:Int) mp=false from hh];decide)
   obtain ⟨g1,g2,g3,g4⟩:=qhg m hm h0
   have hd:=qnl m hm h0
   obtain ⟨p1,p2⟩:=qt2 (m ^^^ lowN m) (by omega)
   have hpl:(qik (m ^^^ lowN m)).length≤256:=by
    unfold qik
    refine Nat.le_trans (List.length_filter_le _ _) ?_
    rw[List.length_reverse,List.length_range];omega
   cases hp:qik (m ^^^ lowN m) with
   | nil=>rw[hp] at p2;cases p2
   | cons s ss =>
    rw[hp] at p1 p2 hpl
    have hs:s=m ^^^ lowN m:=by simpa using p2
    obtain ⟨bF,mp',e1,e2,e3,e4⟩:=qwu n l B m hm h0 hi hz hn (qk n k) (fun a mp ha ha0 haz hMp=>by
     have:=qnm ha ha0
     exact ihk (m ^^^ a) mp (by omega) (by omega) (hi.sub (qkn ha)) haz hMp) ss [] s n mp [] hp p1 (by simp at hpl;omega) hM (.inl rfl) fun x hx=>absurd hx List.not_mem_nil
    have hfull:(m ^^^ lowN m) ||| lowN m=m:=Nat.eq_of_testBit_eq fun i=>by
     rw[Nat.testBit_or,qG g3]
     have:=qH.1 g3 i
     cases hmi:m.testBit i<;>cases hli:(lowN m).testBit i<;>simp_all
    have hpos:1≤bF.length:=by
     obtain ⟨r',_,h2⟩:=e4 (m ^^^ lowN m) (by rw[hp,hs];exact List.mem_cons_self) (by rw[hfull];exact hz)
     omega
    rcases e3 with e3 | ⟨e3,a,r',a1,a2,a3,a4,a5⟩
    ·rw[e3] at hpos;exact absurd hpos (by decide)
    have hmax:IsMax (Zs l) m bF.length:=qtC g2 ⟨a,r',a1,a2,a3,a4,a5⟩ fun a ha hb hz'=>by
     have hla:lowN m &&& a=lowN m:=qH.2 fun i hi'=>by
      rw[show lowN m=2 ^ lowI m from rfl,qdU,decide_eq_true_eq] at hi'
      rw[← hi'];exact hb
     have hsp:(a ^^^ lowN m) &&& (m ^^^ lowN m)=a ^^^ lowN m:=qH.2 fun i hi'=>by
      rw[qG hla,Bool.and_eq_true] at hi'
      rw[qG g3,qH.1 ha i hi'.1,hi'.2];rfl
     have hor:(a ^^^ lowN m) ||| lowN m=a:=Nat.eq_of_testBit_eq fun i=>by
      rw[Nat.testBit_or,qG hla]
      have:=qH.1 hla i
      cases hmi:a.testBit i<;>cases hli:(lowN m).testBit i<;>simp_all
     have:=e4 (a ^^^ lowN m) (qpb.2 hsp)
     unfold Done at this
     rw[hor] at this
     exact this hz'
    refine ⟨bF,qgK (Ty.i .u64) (qey bF) (m:Int) mp',?_,e3,hmax,qwq (kt:=Ty.i .u64) e2.1,qwr (kt:=Ty.i .u64) (α:=List Int) (x:=(m:Int)) (v:=qey bF) (l:=mp') (P:=fun p:Int×List Int=>∃(m:Nat) (F:List Nat),p.1=(m:Int)∧p.2=qey F∧Part (Zs l) m F∧IsMax (Zs l) m F.length) rfl e2.2 ⟨m,bF,rfl,rfl,e3,hmax⟩⟩
    have e1':=e1
    rw[hs] at e1'
    simp only[hh,cond_false,bLow m hm h0,qx5 m _ hm g3]
    rw[show (([]:List Int))=qey [] from rfl,e1']
    rfl
theorem qwv(n:Nat)(l:List Int)(B:Bal l)(hn:2000≤n)(m:Nat)(hm:m<256)(hi:InL l m)(hz:sm l m=0):∃F,qg1 n (l,((m:Int),()))=some (qey F,())∧Part (Zs l) m F∧IsMax (Zs l) m F.length:=by
 rw[qlU]
 have hM:MI l (qgK (Ty.i .u64) ([]:List Int) (0:Int) []):=⟨rfl,fun p hp=>by
  rw[show qgK (Ty.i .u64) ([]:List Int) (0:Int) []=[((0:Int),([]:List Int))] from rfl] at hp
  have hp':=List.mem_singleton.1 hp
  subst hp'
  exact ⟨0,[],rfl,rfl,rfl,qn1 _⟩⟩
 obtain ⟨F,mp',e1,e2,e3,_⟩:=qyF n l B hn n m _ (by omega) hm hi hz hM
 refine ⟨F,?_,e2,e3⟩
 rw[qfx]
 show Option.bind (FG _ ((m:Int),(qgK (Ty.i .u64) ([]:List Int) (0:Int) [],(l,())))) _=_
 rw[e1];rfl
end Go.Proofs.YtcjcacbhkoainaaGreatDoor
