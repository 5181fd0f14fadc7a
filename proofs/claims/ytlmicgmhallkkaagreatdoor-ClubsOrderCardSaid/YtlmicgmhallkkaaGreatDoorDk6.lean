/- printed by gen_dk6.py. Clubs, plain: what a stay costs, of a union whose fees lie in a row of their own. -/
import Derived.Test.YtlmicgmhallkkaaGreatDoorDk5
set_option linter.constructorNameAsVariable false
set_option linter.unusedSimpArgs false
set_option linter.unusedVariables false
set_option linter.unusedSectionVars false
namespace Go.Proofs.YtlmicgmhallkkaaGreatDoor
open Go Go.Proofs Go.RowKit
set_option maxHeartbeats 1000000
abbrev bkX{α:Type}(b:Bk)(r:α):Chn×(List Msg×(Int×(List Int×(List (List Int)×(List qdP×(List qhM×(List Work×(Int×(Int×(Int×(Int×(List Msg×α)))))))))))) :=
 (b.1.1,(b.1.2.1,(b.1.2.2.1,(b.1.2.2.2.1,(b.1.2.2.2.2.1,(b.1.2.2.2.2.2.1,(b.1.2.2.2.2.2.2.1,(b.1.2.2.2.2.2.2.2.1,(b.1.2.2.2.2.2.2.2.2.1,(b.1.2.2.2.2.2.2.2.2.2.1,(b.1.2.2.2.2.2.2.2.2.2.2.1,(b.1.2.2.2.2.2.2.2.2.2.2.2,(b.2,r)))))))))))))
theorem qEj(n:Nat)(i:Int)(b:Bk)(hl:b.1.2.2.2.2.2.1.length≤1000)(hn:2000≤n):qj2 n (i,(bkX b ()))=some (payV b.1.2.2.2.2.2.1 i,(bkX b ())):=by
 rw[qqW]
 have h1:=qdl (step:=qiU n) b.1.2.2.2.2.2.1 (fun k=>(i,(b.1.2.2.2.2.2.1,((b.1.2.2.2.2.2.1.length:Int),((k:Int),(bkX b (((0:Int),((0:Int),(0:Int))),()))))))) (fun g=>iEq g.1 i) (fun k=>.inr (bkX b ((b.1.2.2.2.2.2.1[k]?).getD (0,(0,0)),()))) (.inl (i,(bkX b (((0:Int),((0:Int),(0:Int))),())))) (fun rec k hk=>by
  rw[qkO]
  simp only[bkX,qu hk,cond_true,qA _ hk,Option.bind_some,qj (show k<9223372036854775807 by omega),List.getElem?_eq_getElem hk,Option.getD_some]) (fun rec=>by
  rw[qkO]
  simp only[bkX,qw,cond_false]) (n:=n) (by omega)
 unfold payV
 rcases h1 with ⟨h1,h2⟩ | ⟨k,hk,h1,h3,h2⟩
 ·rw[List.find?_eq_none.2 (fun x hx=>by have:=List.any_eq_false.1 h1 x hx;simpa using this)]
  show Option.bind (qb n _ (i,(b.1.2.2.2.2.2.1,((b.1.2.2.2.2.2.1.length:Int),(((0:Nat):Int),(bkX b (((0:Int),((0:Int),(0:Int))),()))))))) _=_
  rw[h2];rfl
 ·have hf:List.find? (fun g=>iEq g.1 i) b.1.2.2.2.2.2.1=some b.1.2.2.2.2.2.1[k]:=by
   have:∀(l:List qdP) (k:Nat) (hk:k<l.length),iEq l[k].1 i=true→(l.take k).any (fun g=>iEq g.1 i)=false→List.find? (fun g=>iEq g.1 i) l=some l[k]:=by
    intro l
    induction l with
    | nil=>intro k hk;exact absurd hk (Nat.not_lt_zero _)
    | cons x l ih =>
     intro k hk a c
     cases k with
     | zero=>exact List.find?_cons_of_pos a
     | succ k =>
      rw[List.take_succ_cons,List.any_cons,Bool.or_eq_false_iff] at c
      rw[List.find?_cons_of_neg (by rw[c.1];decide)]
      exact ih k (Nat.lt_of_succ_lt_succ hk) a c.2
   exact this _ k hk h1 h3
  rw[hf]
  show Option.bind (qb n _ (i,(b.1.2.2.2.2.2.1,((b.1.2.2.2.2.2.1.length:Int),(((0:Nat):Int),(bkX b (((0:Int),((0:Int),(0:Int))),()))))))) _=_
  rw[h2,List.getElem?_eq_getElem hk];rfl
theorem qA1(n:Nat)(c h:Int)(b:Bk)(K:Okay b.1)(hc:0≤c∧c≤b.1.2.2.1-1)(hh:0≤h∧h<b.1.1.1.length):qhL n (c,(h,(bkX b ())))=some (ownV b.1.2.2.2.2.1 c h,(bkX b ())):=by
 rw[qry]
 obtain ⟨j,rfl⟩:=Int.eq_ofNat_of_zero_le hh.1
 obtain ⟨i,rfl⟩:=Int.eq_ofNat_of_zero_le hc.1
 have hj:j<b.1.2.2.2.2.1.length:=by rw[K.sh];omega
 have hr:=K.rows _ (List.getElem_mem hj)
 have hi:i<(b.1.2.2.2.2.1[j]).length:=by omega
 unfold ownV
 simp only[bkX,qA _ hj,Option.bind_some,qA _ hi,Int.toNat_natCast,List.getElem?_eq_getElem hj,Option.getD_some,List.getElem?_eq_getElem hi]
theorem qA2(n:Nat)(c h:Int)(b:Bk)(K:Okay b.1)(hc:-1≤c∧c≤b.1.2.2.1-1)(hh:0≤h∧h<b.1.1.1.length)(hn:2000≤n):qil n (c,(h,(bkX b ())))=some (entV b.1 c h,(bkX b ())):=by
 have hrl:=K.rl
 rw[qpE]
 unfold entV
 cases hc0:iLt c 0 with
 | true=>rfl
 | false =>
  have h0:0≤c:=by unfold iLt at hc0;simpa using hc0
  simp only[bkX,hc0,cond_false,qA1 n c h b K ⟨h0,hc.2⟩ hh,Option.bind_some]
  cases ownV b.1.2.2.2.2.1 c h with
  | true=>rfl
  | false =>
   simp only[bkX,cond_false,Bool.false_or]
   rw[qgz,qha]
   have h1:=qdl (step:=qbS n) b.1.2.2.2.2.2.2.1 (fun k=>(b.1.2.2.2.2.2.2.1,((b.1.2.2.2.2.2.2.1.length:Int),((k:Int),(c,(bkX b (h,()))))))) (fun r=>iEq r.1 c&&ownV b.1.2.2.2.2.1 r.2 h) (fun k=>.inr ((k:Int),(c,(bkX b (h,()))))) (.inl (c,(bkX b (h,())))) (fun rec k hk=>by
    rw[qc9]
    have hr:=K.ri _ (List.getElem_mem hk)
    simp only[bkX,qu hk,cond_true,qA _ hk,Option.bind_some,qoM,qj (show k<9223372036854775807 by omega),qA1 n _ h b K hr.2 hh]
    cases iEq (b.1.2.2.2.2.2.2.1[k]).1 c<;>cases ownV b.1.2.2.2.2.1 (b.1.2.2.2.2.2.2.1[k]).2 h<;>rfl) (fun rec=>by
    rw[qc9]
    simp only[bkX,qw,cond_false]) (n:=n) (by omega)
   rcases h1 with ⟨h1,h2⟩ | ⟨k,hk,h1,_,h2⟩
   ·rw[h1]
    show Option.bind (Option.bind (Option.bind (qb n _ (b.1.2.2.2.2.2.2.1,((b.1.2.2.2.2.2.2.1.length:Int),(((0:Nat):Int),(c,(bkX b (h,()))))))) _) _) _=_
    rw[h2];rfl
   ·rw[show (b.1.2.2.2.2.2.2.1.any fun r=>iEq r.1 c&&ownV b.1.2.2.2.2.1 r.2 h)=true from List.any_eq_true.2 ⟨_,List.getElem_mem hk,h1⟩]
    show Option.bind (Option.bind (Option.bind (qb n _ (b.1.2.2.2.2.2.2.1,((b.1.2.2.2.2.2.2.1.length:Int),(((0:Nat):Int),(c,(bkX b (h,()))))))) _) _) _=_
    rw[h2]
    show some (iGe (k:Int) 0,(bkX b ()))=_
    simp[iGe]
theorem qFW(n:Nat)(m:Msg)(s:Stay)(b:Bk)(K:Okay b.1)(hh:0≤s.1∧s.1<b.1.1.1.length)(hn:2000≤n):qkD n (m,(s,(bkX b ())))=some ((qbA b.1 m s).1,((qbA b.1 m s).2,(bkX b ()))):=by
 have hgl:=K.gl
 rw[qrz]
 obtain ⟨s1,s2⟩:=s
 obtain ⟨j,rfl⟩:=Int.eq_ofNat_of_zero_le hh.1
 have hj:j<b.1.2.2.2.1.length:=by rw[K.fe];have:=hh.2;show j<_;omega
 unfold qbA
 simp only[bkX,qEj n m.2.1 b (by omega) hn,Option.bind_some,qA _ hj,qA2 n _ _ b K (qzo K m.2.1) hh hn,Int.toNat_natCast,List.getElem?_eq_getElem hj,Option.getD_some,qGk]
 cases entV b.1 (payV b.1.2.2.2.2.2.1 m.2.1).2.1 (j:Int)<;>rfl
end Go.Proofs.YtlmicgmhallkkaaGreatDoor
