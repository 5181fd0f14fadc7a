/- Texts Dp17, Dp18, Dc0, Dc1, Dc2, Dc3 in one. -/
import Derived.Test.YtlmicgmhallkkaaGreatDoorPc
import Derived.Test.YtlmicgmhallkkaaGreatDoorQa
/- Beds, plain: Check of whatever there is. -/
set_option linter.constructorNameAsVariable false
set_option linter.unusedSimpArgs false
set_option linter.unusedVariables false
set_option linter.unusedSectionVars false
namespace Go.Proofs.YtlmicgmhallkkaaGreatDoor
open Go Go.Proofs Go.RowKit
set_option maxHeartbeats 1000000
structure Near (c:Chn) (l:List Msg):Prop where
 st:∀m,m∈l→m.2.2.2.2.length≤20
 hu:c.1.length≤20
 ln:l.length≤9∨(40<l.length∧l.length≤60)
structure RefOk (c:Chn) (m:Msg):Prop where
 ok:MsgOk c m
 st:qrY c.1.length c.2 (-1) m.2.2.2.2=true
 ln:m.2.2.2.2.length≤20
abbrev qwX:=Int×(Int×Int)
abbrev qwY:=Int×Int
abbrev Work:=Int×(Int×Int)
abbrev Uni:=Chn×(List Msg×(Int×(List Int×(List (List Int)×(List qwX×(List qwY×(List Work×(Int×(Int×(Int×Int))))))))))
theorem qlf(n:Nat)(a lo hi:Int):qc5 n (a,(lo,(hi,())))=some (wi a lo hi,()):=by
 rw[qkv]
 show cond (iGe a lo) (some ((iLe a hi),())) (some (false,()))=_
 unfold wi iGe iLe
 by_cases h:a≥lo
 ·rw[decide_eq_true h];rfl
 ·rw[decide_eq_false h];rfl
def shB(l:List Int):Bool:=l.all (fun x=>wi x 0 100)&&decide (l.sum=100)
theorem qwC{l:List Int}(h:∀x,x∈l→0≤x∧x≤100):0≤l.sum∧l.sum≤100*l.length:=by
 induction l with
 | nil=>simp
 | cons x l ih =>
  have h1:=h x List.mem_cons_self
  have h2:=ih fun y hy=>h y (List.mem_cons_of_mem _ hy)
  simp only[List.sum_cons,List.length_cons]
  omega
theorem qr0(n:Nat)(l:List Int)(hl:l.length≤1000)(hn:2000≤n):qe7 n (l,())=some (shB l&&wi (l.length:Int) 1 6,()):=by
 rw[qjt]
 have key:∀(B A:List Int) (n':Nat),l=A++B→(∀x,x∈A→0≤x∧x≤100)→B.length<n'→qr n' (qes n) (l,(A.sum,((A.length:Int),())))=some (cond (B.all fun x=>wi x 0 100) (.inl (l,(l.sum,()))) (.inr (false,()))):=by
  intro B
  induction B with
  | nil =>
   intro A n' hq hA hn'
   obtain ⟨n',rfl⟩:∃m,n'=m+1:=⟨n'-1,by omega⟩
   rw[List.append_nil] at hq
   rw[qbu,qfW]
   simp only[hq,qi4,cond_false]
   rfl
  | cons x B ih =>
   intro A n' hq hA hn'
   obtain ⟨n',rfl⟩:∃m,n'=m+1:=⟨n'-1,by omega⟩
   have hAl:A.length<l.length:=by rw[hq];simp
   have hx:l[A.length]?=some x:=by rw[hq];simp
   have hsum:=qwC hA
   rw[qbu,qfW]
   simp only[qi3 hAl,cond_true,qqe,hx,Option.bind_some,qlf]
   rw[List.all_cons]
   cases hw:wi x 0 100 with
   | false=>rfl
   | true =>
    have hx2:=qi5.1 hw
    simp only[Bool.not_true,cond_false,Bool.true_and]
    rw[show iW (iAdd A.sum x)=(A++[x]).sum by rw[qhs (by unfold iAdd;omega) (by unfold iAdd;omega)];simp,qht (by omega),show A.length+1=(A++[x]).length by simp]
    exact ih (A++[x]) n' (by rw[hq];simp) (fun y hy=>by
     rcases List.mem_append.1 hy with hy | hy
     ·exact hA y hy
     ·rw[List.mem_singleton] at hy;rw[hy];exact hx2) (by simp at hn';omega)
 have h:=key l [] n rfl (fun x hx=>by cases hx) (by omega)
 show Option.bind (qr n _ (l,((([]:List Int).sum),((([]:List Int).length:Int),())))) _=_
 rw[h]
 unfold shB
 cases l.all fun x=>wi x 0 100 with
 | false=>rfl
 | true =>
  simp only[cond_true,Option.bind_some,Sum.elim_inl,Bool.true_and,qlf,Int.ofNat_eq_natCast]
  by_cases e:l.sum=100
  ·rw[qk2 e,decide_eq_true e];rfl
  ·rw[qvR e,decide_eq_false e];rfl
structure Small11 (u:Uni):Prop where
 hu:u.1.1.length≤20
 ln:u.2.1.length≤9∨(40<u.2.1.length∧u.2.1.length≤60)
 st:∀m,m∈u.2.1→m.2.2.2.2.length≤20
 fe:u.2.2.2.1.length≤20
 sh:u.2.2.2.2.1.length≤20
 rl:∀r,r∈u.2.2.2.2.1→r.length≤20
 gu:u.2.2.2.2.2.1.length≤42
 ri:u.2.2.2.2.2.2.1.length≤14
 wo:u.2.2.2.2.2.2.2.1.length≤22
theorem qmz(n:Nat)(a lo hi:Int):qbO n (a,(lo,(hi,())))=some (wi a lo hi,()):=by
 rw[qoe]
 show cond (iLe lo a) (some ((iLe a hi),())) (some (false,()))=_
 unfold wi iLe
 by_cases h:lo≤a
 ·rw[decide_eq_true h];rfl
 ·rw[decide_eq_false h];rfl
theorem qtj(n:Nat)(x:Int):qfH n (x,())=some (wi x 0 100,()):=by
 rw[qnD]
 show Option.bind (qbO n (x,((0:Int),((100:Int),())))) _=_
 rw[qmz];rfl
theorem quk(n:Nat)(l:List Int)(p:Int→Bool)(hE:∀x,x∈l→qcJ n (x,())=some (!p x,()))(hl:l.length≤1000)(hn:2000≤n):qcX n (l,(((),()),()))=some (l.all p,()):=by
 rw[qhr,qde,qdy]
 have h1:=qtg (step:=q8 n) l (fun k=>(l,((l.length:Int),((k:Int),())))) (fun x=>!p x) (fun k=>.inr ((k:Int),())) (.inl ()) (fun rec k hk=>by
  rw[qbz]
  simp only[qi3 hk,cond_true,qgc l hk,Option.bind_some,hE _ (List.getElem_mem hk),qht (show k<9223372036854775807 by omega)]) (fun rec=>by
  rw[qbz]
  simp only[qi4,cond_false]) (n:=n) (by omega)
 rw[show l.all p = !l.any fun x=>!p x by simp[List.all_eq_not_any_not]]
 show Option.bind (Option.bind (Option.bind (qr n _ (l,((l.length:Int),(((0:Nat):Int),())))) _) _) _=_
 rcases h1 with ⟨h1,h2⟩ | ⟨k,hk,h1,_,h2⟩
 ·rw[h2,h1];rfl
 ·rw[h2,show (l.any fun x=>!p x)=true from List.any_eq_true.2 ⟨_,List.getElem_mem hk,h1⟩]
  show some (!iGe (k:Int) 0,())=_
  simp[iGe]
theorem qtk(n:Nat)(l:List Int)(hl:l.length≤1000)(hn:2000≤n):qi1 n (l,())=some (shB l,()):=by
 rw[qof]
 have h:=qth (step:=qhK n) l (fun k (b:Int)=>(l,(b,(l,((l.length:Int),((k:Int),())))))) (fun b x=>iW (iAdd b x)) 0 (fun b=>(l,(b,()))) (fun rec k b hk _=>by
  rw[qiB]
  simp only[qi3 hk,cond_true,qgc l hk,Option.bind_some,qht (show k<9223372036854775807 by omega)]) (fun rec b=>by
  rw[qiB]
  simp only[qi4,cond_false]) (n:=n) (by omega)
 show Option.bind (qr n _ (l,((0:Int),(l,((l.length:Int),(((0:Nat):Int),())))))) _=_
 rw[h]
 simp only[Option.bind_some]
 rw[quk n l (fun x=>wi x 0 100) (fun x _=>by
  rw[qg5,qtj];rfl) hl hn]
 unfold shB
 cases ha:l.all fun x=>wi x 0 100 with
 | false=>rfl
 | true =>
  have hb:∀x,x∈l→0≤x∧x≤100:=fun x hx=>qi5.1 (List.all_eq_true.1 ha x hx)
  have fs:∀(m:List Int) (b:Int),(∀x,x∈m→0≤x∧x≤100)→0≤b→b+100*m.length≤1000000→m.foldl (fun b x=>iW (iAdd b x)) b=b+m.sum:=by
   intro m
   induction m with
   | nil=>intro b _ _ _;simp
   | cons x m ih =>
    intro b hm h0 hb
    have hx:=hm x List.mem_cons_self
    simp only[List.length_cons] at hb
    rw[List.foldl_cons,qhs (by unfold iAdd;omega) (by unfold iAdd;omega),ih _ (fun y hy=>hm y (List.mem_cons_of_mem _ hy)) (by unfold iAdd;omega) (by unfold iAdd;omega)]
    unfold iAdd
    rw[List.sum_cons];omega
  simp only[Option.bind_some,cond_true,Bool.true_and]
  rw[fs l 0 hb (Int.le_refl _) (by omega),Int.zero_add]
  by_cases e:l.sum=100
  ·rw[qk2 e,decide_eq_true e]
  ·rw[qvR e,decide_eq_false e]
end Go.Proofs.YtlmicgmhallkkaaGreatDoor
