/- Clubs, plain: the parts differ from the exact shares by less than 1, and add up. -/
import Derived.Test.YtlmicgmhallkkaaGreatDoorDk0
import Derived.Test.YtlmicgmhallkkaaGreatDoorPd
import Derived.Test.YtlmicgmhallkkaaGreatDoorDw3
set_option linter.constructorNameAsVariable false
set_option linter.unusedSimpArgs false
set_option linter.unusedVariables false
set_option linter.unusedSectionVars false
namespace Go.Proofs.YtlmicgmhallkkaaGreatDoor
open Go Go.Proofs Go.RowKit
set_option maxHeartbeats 1000000
theorem qun:∀(o p:List Int) (j:Nat),o.Nodup→(∀x,x∈o→0≤x)→j<p.length→((o.foldl qfJ p)[j]?).getD 0=(p[j]?).getD 0+(if (j:Int)∈o then 1 else 0)
 | [],p,j,_,_,_=>by simp
 | i::o,p,j,hn,h0,hj=>by
  rw[List.nodup_cons] at hn
  rw[List.foldl_cons,qun o (qfJ p i) j hn.2 (fun x hx=>h0 x (List.mem_cons_of_mem _ hx)) (by rw[qnJ];exact hj)]
  obtain ⟨k,rfl⟩:=Int.eq_ofNat_of_zero_le (h0 i List.mem_cons_self)
  unfold qfJ
  rw[Int.toNat_natCast,List.getElem?_set]
  by_cases hk:k=j
  ·subst hk
   rw[if_pos rfl,if_pos hj,if_neg hn.1]
   simp
  ·rw[if_neg hk]
   have:((j:Int)∈(k:Int)::o)↔(j:Int)∈o:=by
    rw[List.mem_cons]
    constructor
    ·rintro (h | h)
     ·omega
     ·exact h
    ·exact .inr
   by_cases hm:(j:Int)∈o
   ·rw[if_pos hm,if_pos (this.2 hm)]
   ·rw[if_neg hm,if_neg fun h=>hm (this.1 h)]
theorem qsM(a:Int)(l:List Int)(k:Nat):((ordS a l).take k).Nodup∧∀x,x∈(ordS a l).take k→0≤x∧x<l.length :=
 ⟨(qpP a l).sublist (List.take_sublist _ _),fun x hx=>qi7.1 (List.mem_of_mem_take hx)⟩
theorem qtl(a:Int)(l:List Int):(qin a l).length=l.length:=by unfold qin;rw[qqf,List.length_map]
theorem qup{l:List Int}(h:shB l=true):(∀x,x∈l→0≤x∧x≤100)∧l.sum=100:=by
 unfold shB at h
 rw[Bool.and_eq_true,List.all_eq_true,decide_eq_true_eq] at h
 exact ⟨fun x hx=>qi5.1 (h.1 x hx),h.2⟩
theorem qvy(n:Nat)(a:Int)(l:List Int)(hl:l.length≤1000)(hn:2000≤n):qjK n (a,(l,()))=some (if (wi a 0 1000000000&&(wi (l.length:Int) 1 6&&shB l))=true then (qin a l,(0,())) else ([],(1,()))):=by
 rw[qoX]
 simp only[qmz,Option.bind_some]
 cases h1:wi a 0 1000000000 with
 | false=>rfl
 | true =>
  simp only[Bool.not_true,cond_false,Int.ofNat_eq_natCast,Bool.true_and]
  cases h2:wi (l.length:Int) 1 6 with
  | false=>rfl
  | true =>
   simp only[Bool.not_true,cond_false,qtk n l hl hn,Option.bind_some,Bool.true_and]
   cases h3:shB l with
   | false=>rfl
   | true =>
    obtain ⟨h4,h5⟩:=qup h3
    have h6:=qi5.1 h1
    have h7:=qi5.1 h2
    simp only[Bool.not_true,cond_false,qvv n a l ⟨h6.1,by omega⟩ h4 h5 (by omega) hn,Option.bind_some,if_true]
end Go.Proofs.YtlmicgmhallkkaaGreatDoor
