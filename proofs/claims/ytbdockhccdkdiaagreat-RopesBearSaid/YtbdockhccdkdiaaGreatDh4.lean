/- Ropes: the theorem of the anchor. -/
import Derived.Test.YtbdockhccdkdiaaGreatHa
set_option linter.constructorNameAsVariable false
set_option linter.unusedSimpArgs false
set_option linter.unusedVariables false
set_option linter.unusedSectionVars false
namespace Go.Proofs.YtbdockhccdkdiaaGreat
open Go Go.Proofs Go.RowKit
set_option maxHeartbeats 1000000
abbrev qpj:=Int×(Int×(List Int×SpT))
theorem qi2{p:List SpT}{up:Bool}{load:Int}(ha:areP p=true)(hw:qdD load 1 5000=true):hldV p up load=qb3 (p.map (endT up)) load:=by
 unfold hldV
 rw[decide_eq_true (qj2.2 ⟨ha,hw⟩),Bool.true_and]
theorem quP(n:Nat)(p:List SpT)(S M b:Bool)(x:qpj)(hn:2000≤n)(ha:b=true→areP p=true∧qdD x.2.1 1 5000=true∧(S=true→qb3 (p.map (endT false)) x.2.1=true)∧(M=true→qb3 (p.map (endT true)) x.2.1=true)) :
  qn n (p,(S,(M,(b,(x,())))))=some (Sum.inl (p,(S,(M,(x,()))))):=by
 rw[qgZ]
 cases b with
 | false=>rfl
 | true =>
  obtain ⟨h1,h2,h3,h4⟩:=ha rfl
  simp only[cond_true]
  rw[qnm n p x.2.1 hn,qj2.2 ⟨h1,h2⟩,qi2 h1 h2,qi2 h1 h2]
  simp only[Option.bind_some,show iNe (0:Int) 0=false from rfl,cond_false]
  cases S<;>cases M
  ·rfl
  ·rw[h4 rfl];rfl
  ·rw[h3 rfl];rfl
  ·rw[h3 rfl,h4 rfl];rfl
theorem quQ(n:Nat)(p:List SpT)(S M b:Bool)(x:qpj)(hn:2000≤n)(ha:b=true→areP p=true∧qdD x.1 1 5000=true∧(S=true→qb3 (p.map (endT false)) x.1=true)∧(M=true→qb3 (p.map (endT true)) x.1=true)) :
  qo n (S,(M,(p,(b,(x,())))))=some (Sum.inl ()):=by
 rw[qg0]
 cases b with
 | false=>rfl
 | true =>
  obtain ⟨h1,h2,h3,h4⟩:=ha rfl
  simp only[cond_true]
  rw[qnm n p x.1 hn,qj2.2 ⟨h1,h2⟩,qi2 h1 h2,qi2 h1 h2]
  simp only[Option.bind_some,show iNe (0:Int) 0=false from rfl,cond_false]
  cases S<;>cases M
  ·rfl
  ·rw[h4 rfl];rfl
  ·rw[h3 rfl];rfl
  ·rw[h3 rfl,h4 rfl];rfl
def InSp(p:List SpT)(l:List Int):Prop:=∀k (h:k<p.length) (h':k<l.length),p[k].1≤l[k]∧l[k]≤p[k].2
theorem qsM(n:Nat)(p:List SpT)(x:qpj)(hl:x.2.2.1.length=p.length)(h8:p.length≤8)(hn:3000≤n) :
  (qN n (qbd n) (p,((0:Int),(x,())))=some (Sum.inl (p,(x,())))∧InSp p x.2.2.1)∨qN n (qbd n) (p,((0:Int),(x,())))=some (Sum.inr (true,())):=by
 have st:∀k (hk:k<p.length),∀rec,qbd n rec (p,((k:Int),(x,())))=cond (decide (p[k].1≤x.2.2.1[k]∧x.2.2.1[k]≤p[k].2)) (rec (p,(((k+1:Nat):Int),(x,())))) (some (Sum.inr (true,()))):=by
  intro k hk rec
  rw[qe5]
  simp only[iLtN hk,cond_true,qff p hk,qff x.2.2.1 (show k<x.2.2.1.length by omega),Option.bind_some,qq5 n hn,qeC (show k<9223372036854775807 by omega)]
  by_cases h1:x.2.2.1[k]<p[k].1
  ·rw[show iLt x.2.2.1[k] p[k].1=true from decide_eq_true h1,decide_eq_false (by omega)]
   rfl
  ·rw[show iLt x.2.2.1[k] p[k].1=false from decide_eq_false h1]
   by_cases h2:p[k].2<x.2.2.1[k]
   ·rw[show iGt x.2.2.1[k] p[k].2=true from decide_eq_true h2,decide_eq_false (by omega)]
    rfl
   ·rw[show iGt x.2.2.1[k] p[k].2=false from decide_eq_false h2,decide_eq_true (by omega)]
    rfl
 by_cases hx:∃k,∃hk:k<p.length,¬(p[k].1≤x.2.2.1[k]∧x.2.2.1[k]≤p[k].2)
 ·obtain ⟨m,hm⟩:=hx
  obtain ⟨k,_,⟨hk,h1⟩,h2⟩:=qjR (fun k=>∃hk:k<p.length,¬(p[k].1≤x.2.2.1[k]∧x.2.2.1[k]≤p[k].2)) m hm
  refine .inr ?_
  have:=forN (qbd n) k (fun k=>(p,((k:Int),(x,())))) (some (Sum.inr (true,()))) (fun j hj rec=>by
   have hq:p[j].1≤x.2.2.1[j]∧x.2.2.1[j]≤p[j].2:=Classical.byContradiction fun hc=>h2 j hj ⟨by omega,hc⟩
   rw[st j (by omega),decide_eq_true hq]
   rfl) (fun rec=>by rw[st k hk,decide_eq_false h1];rfl) n (by omega)
  exact this
 ·have hall:∀k (hk:k<p.length),p[k].1≤x.2.2.1[k]∧x.2.2.1[k]≤p[k].2:=fun k hk=>Classical.byContradiction fun hc=>hx ⟨k,hk,hc⟩
  refine .inl ⟨?_,fun k hk hk'=>hall k hk⟩
  have:=forN (qbd n) p.length (fun k=>(p,((k:Int),(x,())))) (some (Sum.inl (p,(x,())))) (fun j hj rec=>by
   rw[st j hj,decide_eq_true (hall j hj)]
   rfl) (fun rec=>by
    rw[qe5]
    simp only[qk8 (Nat.le_refl p.length),cond_false]) n (by omega)
  exact this
theorem qmW{x lo hi:Int}:qdD x lo hi=true↔lo≤x∧x≤hi:=by
 unfold qdD
 rw[Bool.and_eq_true,decide_eq_true_eq,decide_eq_true_eq]
theorem qqm(n:Nat)(p:List SpT)(x:qpj)(hn:4000≤n):qdk n (p,(x,()))=some (true,()):=by
 rw[qiA]
 simp only[qq5 n (show 3000≤n by omega),Option.bind_some]
 by_cases h6:p.length≤6
 rotate_left
 ·rw[show iGt (p.length:Int) 6=true from decide_eq_true (by omega)]
  rfl
 rw[show iGt (p.length:Int) 6=false from decide_eq_false (by omega)]
 simp only[cond_false,qqk n p x.1 true (show p.length≤50 by omega) (show 100≤n by omega),Option.bind_some,Bool.and_true]
 rcases qmb p (qdD x.1 1 5000) with ⟨h0,ha,hw⟩ | ⟨h1,h2⟩
 rotate_left
 ·rw[h1];rfl
 rw[h0]
 simp only[show iNe (0:Int) 0=false from rfl,cond_false]
 by_cases hl:x.2.2.1.length=p.length
 rotate_left
 ·rw[show iNe (x.2.2.1.length:Int) (p.length:Int)=true by unfold iNe;simp;omega]
  rfl
 rw[show iNe (x.2.2.1.length:Int) (p.length:Int)=false by rw[hl];unfold iNe;simp]
 simp only[cond_false]
 obtain ⟨h8,hb⟩:=qq6 ha
 rcases qsM n p x hl h8 (by omega) with ⟨h,hin⟩ | h
 rotate_left
 ·rw[h];rfl
 rw[h]
 simp only[Option.bind_some,Sum.elim_inl]
 have hstr:StrB x.2.2.1:=fun s hs=>by
  obtain ⟨k,hk,rfl⟩:=List.getElem_of_mem hs
  have h1:=hin k (by omega) hk
  have h2:=hb _ (List.getElem_mem (show k<p.length by omega))
  omega
 rw[qnm n p x.1 (by omega),h0,qi2 ha hw,qi2 ha hw]
 simp only[Option.bind_some,qsJ n x.2.2.1 x.1 (show x.2.2.1.length≤8 by omega) hstr (show 2000≤n by omega),show iNe (0:Int) 0=false from rfl,cond_false]
 have f1:qb3 (p.map (endT false)) x.1=true→qb3 x.2.2.1 x.1=true:=fun h=>by
  rw[qef] at *
  refine qo3 (by rw[List.length_map];omega) (fun i hi hi'=>?_) h
  rw[List.length_map] at hi
  rw[List.getElem_map]
  exact (hin i hi hi').1
 have f2:qb3 x.2.2.1 x.1=true→qb3 (p.map (endT true)) x.1=true:=fun h=>by
  rw[qef] at *
  refine qo3 (by rw[List.length_map];omega) (fun i hi hi'=>?_) h
  rw[List.length_map] at hi'
  rw[List.getElem_map]
  exact (hin i hi' hi).2
 have hw2:=qmW.1 hw
 have more:∀up:Bool,qb3 (p.map (endT up)) x.1=true→qb3 ((List.append (List.append [] p) (x.2.2.2::[])).map (endT up)) x.1=true:=fun up h=>by
  rw[qef] at *
  refine qqg ?_ h
  show ((p.map (endT up))).Sublist (((([]:List SpT)++p)++[x.2.2.2]).map (endT up))
  rw[List.nil_append,List.map_append]
  exact List.sublist_append_left _ _
 have low:∀up:Bool,x.2.1≤x.1→qb3 (p.map (endT up)) x.1=true→qb3 (p.map (endT up)) x.2.1=true:=fun up hle h=>by
  rw[qef] at *
  exact qsE hle h
 have rest:∀(S M b:Bool),(S=true→qb3 (p.map (endT false)) x.1=true)→(M=true→qb3 (p.map (endT true)) x.1=true)→(b=true→1≤x.2.1∧x.2.1≤x.1) →
   (Option.bind (qn n (p,(S,(M,(b,(x,())))))) fun y4=>(Sum.elim (fun a1=>(Option.bind (qD (Nat.ble (nAdd (0:Nat) (List.length a1.1)) (8796093022208:Nat))) fun _=>(Option.bind (qD (Nat.ble (nAdd (List.length (List.append [] a1.1)) (1:Nat)) (8796093022208:Nat))) fun _=>(Option.bind (qr n ((List.append (List.append [] a1.1) (a1.2.2.2.1.2.2.2::[])),())) fun y7=>(Option.bind (qo n (a1.2.1,(a1.2.2.1,((List.append (List.append [] a1.1) (a1.2.2.2.1.2.2.2::[])),(y7.1,a1.2.2.2))))) fun y8=>(Sum.elim (fun _=>(some (true,()))) (fun b=>(some b)) y8)))))) (fun b=>(some b)) y4))=some (true,()):=by
  intro S M b hS hM hb2
  rw[quP n p S M b x (by omega) fun h=>⟨ha,qmW.2 (by have:=hb2 h;omega),fun h2=>low false (hb2 h).2 (hS h2),fun h2=>low true (hb2 h).2 (hM h2)⟩]
  have hlm:(List.append (List.append [] p) (x.2.2.2::[])).length=p.length+1:=by
   show ((([]:List SpT)++p)++[x.2.2.2]).length=_
   simp
  simp only[Option.bind_some,Sum.elim_inl,bleM (nAdd (0:Nat) (List.length p)) 8796093022208 (Nat.le_trans (Nat.le_of_eq (Nat.zero_add _)) (Nat.le_trans h6 (by decide))),bleM (nAdd (List.length (List.append [] p)) 1) 8796093022208 (by show (List.append [] p).length+1≤_;show (([]:List SpT)++p).length+1≤_;rw[List.nil_append];omega),qma n (List.append (List.append [] p) (x.2.2.2::[])) (by rw[hlm];omega) (show 100≤n by omega)]
  rw[quQ n _ S M _ x (by omega) fun h=>⟨h,hw,fun h2=>more false (hS h2),fun h2=>more true (hM h2)⟩]
  rfl
 generalize qb3 (p.map (endT false)) x.1=S at *
 generalize qb3 x.2.2.1 x.1=H at *
 generalize qb3 (p.map (endT true)) x.1=M at *
 have r1:∀S' M':Bool,(S'=true→S=true)→(M'=true→M=true)→(cond (iGe x.2.1 (1:Int)) (Option.bind (qn n (p,(S',(M',((iLe x.2.1 x.1),(x,())))))) fun y4=>(Sum.elim (fun a1=>(Option.bind (qD (Nat.ble (nAdd (0:Nat) (List.length a1.1)) (8796093022208:Nat))) fun _=>(Option.bind (qD (Nat.ble (nAdd (List.length (List.append [] a1.1)) (1:Nat)) (8796093022208:Nat))) fun _=>(Option.bind (qr n ((List.append (List.append [] a1.1) (a1.2.2.2.1.2.2.2::[])),())) fun y7=>(Option.bind (qo n (a1.2.1,(a1.2.2.1,((List.append (List.append [] a1.1) (a1.2.2.2.1.2.2.2::[])),(y7.1,a1.2.2.2))))) fun y8=>(Sum.elim (fun _=>(some (true,()))) (fun b=>(some b)) y8)))))) (fun b=>(some b)) y4)) (Option.bind (qn n (p,(S',(M',(false,(x,())))))) fun y4=>(Sum.elim (fun a1=>(Option.bind (qD (Nat.ble (nAdd (0:Nat) (List.length a1.1)) (8796093022208:Nat))) fun _=>(Option.bind (qD (Nat.ble (nAdd (List.length (List.append [] a1.1)) (1:Nat)) (8796093022208:Nat))) fun _=>(Option.bind (qr n ((List.append (List.append [] a1.1) (a1.2.2.2.1.2.2.2::[])),())) fun y7=>(Option.bind (qo n (a1.2.1,(a1.2.2.1,((List.append (List.append [] a1.1) (a1.2.2.2.1.2.2.2::[])),(y7.1,a1.2.2.2))))) fun y8=>(Sum.elim (fun _=>(some (true,()))) (fun b=>(some b)) y8)))))) (fun b=>(some b)) y4)))=some (true,()):=by
  intro S' M' hS' hM'
  by_cases h1:1≤x.2.1
  ·rw[show iGe x.2.1 1=true from decide_eq_true h1]
   exact rest S' M' (iLe x.2.1 x.1) hS' hM' fun h=>⟨h1,of_decide_eq_true h⟩
  ·rw[show iGe x.2.1 1=false from decide_eq_false h1]
   exact rest S' M' false hS' hM' fun h=>Bool.noConfusion h
 have r2:=r1 S M id id
 clear r1 rest more low
 cases S<;>cases H<;>cases M
 ·exact r2
 ·exact r2
 ·cases f2 rfl
 ·exact r2
 ·cases f1 rfl
 ·cases f1 rfl
 ·cases f2 rfl
 ·exact r2
end Go.Proofs.YtbdockhccdkdiaaGreat
