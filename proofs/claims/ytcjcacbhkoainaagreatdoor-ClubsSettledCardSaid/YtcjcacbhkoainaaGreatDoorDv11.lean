/- Clubs: the set of the balances that are not 0. -/
import Derived.Test.YtcjcacbhkoainaaGreatDoorDv10
set_option linter.constructorNameAsVariable false
set_option linter.unusedSimpArgs false
set_option linter.unusedVariables false
set_option linter.unusedSectionVars false
namespace Go.Proofs.YtcjcacbhkoainaaGreatDoor
open Go Go.Proofs Go.RowKit
set_option maxHeartbeats 1000000
theorem shl8(i:Nat)(hi:i<8):iSh .u64 (i:Int)=true∧IntKind.wrap .u64 (iShl (1:Int) (i:Int))=((2 ^ i:Nat):Int):=by
 have:(List.range 8).all (fun i=>iSh .u64 (i:Int)&&decide (IntKind.wrap .u64 (iShl (1:Int) (i:Int))=((2 ^ i:Nat):Int)))=true:=by decide +kernel
 have:=List.all_eq_true.1 this i (List.mem_range.2 hi)
 simpa using this
theorem qx7{m:Nat}(h:∀j,8≤j→m.testBit j=false):m<256:=Nat.lt_of_not_le fun hm=>by
 obtain ⟨j,h1,h2⟩:=Nat.exists_ge_and_testBit_of_ge_two_pow (n:=8) hm
 rw[h j h1] at h2
 cases h2
theorem qzH(n:Nat)(l:List Int)(B:Bal l):∀(Y A:List Int) (n' m:Nat),l=A++Y→Y.length<n'→(∀j,m.testBit j=(decide (j<A.length) && !decide ((l[j]?).getD 0=0))) →
  qg n' (qeP n) ((m:Int),(l,((l.length:Int),((A.length:Int),()))))=some ((qcf l:Int),()):=by
 have h8:=B.ln
 intro Y
 induction Y with
 | nil =>
  intro A n' m e hn hb
  obtain ⟨n',rfl⟩:∃j,n'=j+1:=⟨n'-1,by simp at hn;omega⟩
  rw[List.append_nil] at e
  rw[← e] at hb ⊢
  rw[qw,qih]
  simp only[qg3,cond_false]
  rw[show m=qcf l from Nat.eq_of_testBit_eq fun j=>by rw[hb,qjH]]
 | cons x Y ih =>
  intro A n' m e hn hb
  obtain ⟨n',rfl⟩:∃j,n'=j+1:=⟨n'-1,by simp at hn;omega⟩
  have hlen:l.length=A.length+(Y.length+1):=by rw[e,List.length_append,List.length_cons]
  have hlt:A.length<l.length:=by omega
  have hlat:lat l (A.length:Int)=some x:=by rw[e];exact latA A Y x rfl
  have hx:l[A.length]?=some x:=by rw[e];exact getA A Y x rfl
  have hm:m<256:=qx7 fun j hj=>by rw[hb,decide_eq_false (by omega)];rfl
  obtain ⟨s1,s2⟩:=shl8 A.length (by omega)
  rw[qw,qih]
  simp only[qg2 hlt,cond_true,hlat,Option.bind_some,qcH (show A.length<9223372036854775807 by omega),qil s1,s2]
  have hstep:∀m':Nat,(∀j,m'.testBit j=(decide (j<(A++[x]).length) && !decide ((l[j]?).getD 0=0)))→qg n' (qeP n) ((m':Int),(l,((l.length:Int),(((A.length+1:Nat):Int),()))))=some ((qcf l:Int),()):=fun m' h'=>by
   have:=ih (A++[x]) n' m' (by rw[e];simp) (by simp at hn;omega) h'
   rw[List.length_append] at this
   exact this
  by_cases h0:x=0
  ·rw[qiy h0]
   exact hstep m fun j=>by
    rw[hb,List.length_append,List.length_singleton]
    by_cases h1:j<A.length
    ·rw[decide_eq_true h1,decide_eq_true (show j<A.length+1 by omega)]
    ·rw[decide_eq_false h1]
     by_cases h2:j=A.length
     ·rw[h2,hx,Option.getD_some,decide_eq_true h0,Bool.not_true,Bool.and_false,Bool.and_false]
     ·rw[decide_eq_false (show ¬j<A.length+1 by omega)]
  ·rw[qkw h0]
   have hp:(2 ^ A.length:Nat)<256:=Nat.lt_of_lt_of_le (Nat.pow_lt_pow_right (by decide) (show A.length<8 by omega)) (Nat.le_refl _)
   rw[bOr m (2 ^ A.length) hm hp]
   exact hstep (m ||| 2 ^ A.length) fun j=>by
    rw[Nat.testBit_or,hb,qdU,List.length_append,List.length_singleton]
    by_cases h1:j<A.length
    ·rw[decide_eq_true h1,decide_eq_true (show j<A.length+1 by omega),decide_eq_false (show ¬A.length=j by omega),Bool.or_false]
    ·rw[decide_eq_false h1]
     by_cases h2:j=A.length
     ·rw[h2,hx,Option.getD_some,decide_eq_false h0,decide_eq_true rfl,decide_eq_true (show A.length<A.length+1 by omega)];rfl
     ·rw[decide_eq_false (show ¬j<A.length+1 by omega),decide_eq_false (show ¬A.length=j by omega)];rfl
theorem qxG(n:Nat)(l:List Int)(B:Bal l)(hn:2000≤n):qhL n (l,())=some ((qcf l:Int),()):=by
 have h8:=B.ln
 rw[qmJ]
 have:=qzH n l B l [] n 0 rfl (by omega) fun j=>by rw[Nat.zero_testBit,decide_eq_false (show ¬j<([]:List Int).length by simp)];rfl
 show Option.bind (qg n _ (((0:Nat):Int),(l,((l.length:Int),((([]:List Int).length:Int),()))))) _=_
 rw[this];rfl
theorem qve(l:List Int):InL l (qcf l):=fun i hi=>by
 rw[qjH,Bool.and_eq_true,decide_eq_true_eq] at hi
 exact hi.1
theorem qx8{l:List Int}(B:Bal l):qcf l<256:=qx7 fun j hj=>by
 rw[qjH,decide_eq_false (by have:=B.ln;omega)];rfl
end Go.Proofs.YtcjcacbhkoainaaGreatDoor
