/- Clubs, plain: the parts differ from the exact shares by less than 1, and add up. -/
import Derived.Test.YtlmicgmhallkkaaGreatDoorDk0
import Derived.Test.YtlmicgmhallkkaaGreatDoorPd
import Derived.Test.YtlmicgmhallkkaaGreatDoorDw3
set_option linter.constructorNameAsVariable false
set_option linter.unusedSimpArgs false
set_option linter.unusedVariables false
set_option linter.unusedSectionVars false
namespace Go.Proofs.YtlmicgmhallkkaaGreatDoor
open Go Go.Proofs Go.RowKit
set_option maxHeartbeats 1000000
theorem qH2{l m:List Int}(h:l.Perm m):l.sum=m.sum:=by
 induction h with
 | nil=>rfl
 | cons x _ ih=>simp[ih]
 | swap x y l=>simp;omega
 | trans _ _ h1 h2=>exact h1.trans h2
theorem qGj:∀(o p:List Int) (j:Nat),o.Nodup→(∀x,x∈o→0≤x)→j<p.length→((o.foldl qj7 p)[j]?).getD 0=(p[j]?).getD 0+(if (j:Int)∈o then 1 else 0)
 | [],p,j,_,_,_=>by simp
 | i::o,p,j,hn,h0,hj=>by
  rw[List.nodup_cons] at hn
  rw[List.foldl_cons,qGj o (qj7 p i) j hn.2 (fun x hx=>h0 x (List.mem_cons_of_mem _ hx)) (by rw[qxj];exact hj)]
  obtain ⟨k,rfl⟩:=Int.eq_ofNat_of_zero_le (h0 i List.mem_cons_self)
  unfold qj7
  rw[Int.toNat_natCast,List.getElem?_set]
  by_cases hk:k=j
  ·subst hk
   rw[if_pos rfl,if_pos hj,if_neg hn.1]
   simp
  ·rw[if_neg hk]
   have:((j:Int)∈(k:Int)::o)↔(j:Int)∈o:=by
    rw[List.mem_cons]
    constructor
    ·rintro (h | h)
     ·omega
     ·exact h
    ·exact .inr
   by_cases hm:(j:Int)∈o
   ·rw[if_pos hm,if_pos (this.2 hm)]
   ·rw[if_neg hm,if_neg fun h=>hm (this.1 h)]
theorem qD0(a:Int)(l:List Int)(k:Nat):((ordS a l).take k).Nodup∧∀x,x∈(ordS a l).take k→0≤x∧x<l.length :=
 ⟨(qzK a l).sublist (List.take_sublist _ _),fun x hx=>qq4.1 (List.mem_of_mem_take hx)⟩
theorem qvQ(a:Int)(l:List Int):(qla a l).length=l.length:=by unfold qla;rw[qAr,List.length_map]
end Go.Proofs.YtlmicgmhallkkaaGreatDoor
