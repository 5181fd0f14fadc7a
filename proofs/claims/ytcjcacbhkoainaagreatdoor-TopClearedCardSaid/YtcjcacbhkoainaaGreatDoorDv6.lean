/- Masks below 256, as the program reads them. -/
import Derived.Test.YtcjcacbhkoainaaGreatDoorVa
import Derived.Test.YtcjcacbhkoainaaGreatDoorQa
set_option linter.constructorNameAsVariable false
set_option linter.unusedSimpArgs false
set_option linter.unusedVariables false
set_option linter.unusedSectionVars false
namespace Go.Proofs.YtcjcacbhkoainaaGreatDoor
open Go Go.Proofs Go.RowKit
set_option maxHeartbeats 1000000
set_option maxRecDepth 100000
theorem bAnd(a b:Nat)(ha:a<256)(hb:b<256):bits .and .u64 (a:Int) (b:Int)=((a &&& b:Nat):Int):=u64_and_nat a b (by omega) (by omega)
theorem bOr(a b:Nat)(ha:a<256)(hb:b<256):bits .or .u64 (a:Int) (b:Int)=((a ||| b:Nat):Int):=u64_or_nat a b (by omega) (by omega)
def lowI(x:Nat):Nat:=((List.range 8).find? x.testBit).getD 0
def lowN(x:Nat):Nat:=2 ^ lowI x
theorem qsg{p:Nat→Bool}(h:(List.range 256).all p=true){x:Nat}(hx:x<256):p x=true:=List.all_eq_true.1 h x (List.mem_range.2 hx)
theorem bLow(x:Nat)(hx:x<256)(h0:x≠0):bits .and .u64 (x:Int) (IntKind.wrap .u64 (iNeg (x:Int)))=(lowN x:Int):=by
 have:=qsg (p:=fun x=>decide (x=0)||decide (bits .and .u64 (x:Int) (IntKind.wrap .u64 (iNeg (x:Int)))=(lowN x:Int))) (by decide +kernel) hx
 simpa[h0] using this
theorem qIb(x:Nat)(hx:x<256)(h0:x≠0):bits .and .u64 (x:Int) (IntKind.wrap .u64 (iSub (x:Int) 1))=((x ^^^ lowN x:Nat):Int):=by
 have:=qsg (p:=fun x=>decide (x=0)||decide (bits .and .u64 (x:Int) (IntKind.wrap .u64 (iSub (x:Int) 1))=((x ^^^ lowN x:Nat):Int))) (by decide +kernel) hx
 simpa[h0] using this
theorem qqM(x:Nat)(hx:x<256)(h0:x≠0):lowI x<8∧x.testBit (lowI x)=true∧(lowN x &&& x=lowN x)∧(∀i,i<lowI x→x.testBit i=false):=by
 have:=qsg (p:=fun x=>decide (x=0)||(decide (lowI x<8)&&(x.testBit (lowI x)&&(decide (lowN x &&& x=lowN x)&&(List.range (lowI x)).all fun i=>!x.testBit i)))) (by decide +kernel) hx
 simp only[h0,decide_false,Bool.false_or,Bool.and_eq_true,decide_eq_true_eq,List.all_eq_true,List.mem_range,Bool.not_eq_true'] at this
 exact this
def qnc(o:Nat):List Nat:=(List.range (o+1)).reverse.filter fun s=>decide (s &&& o=s)
def qwl(o:Nat):List Nat→Bool
 | []=>false
 | [x]=>decide (x=0)
 | x::y::r=>!decide (x=0)&&(decide ((x-1) &&& o=y)&&qwl o (y::r))
theorem qCA(o:Nat)(ho:o<256):qwl o (qnc o)=true∧(qnc o).head?=some o:=by
 have:=qsg (p:=fun o=>qwl o (qnc o)&&decide ((qnc o).head?=some o)) (by decide +kernel) ho
 simpa using this
theorem qwm{o s:Nat}:s∈qnc o↔s &&& o=s:=by
 unfold qnc
 rw[List.mem_filter,List.mem_reverse,List.mem_range,decide_eq_true_eq]
 refine ⟨fun h=>h.2,fun h=>⟨?_,h⟩⟩
 have:=Nat.and_le_right (n:=s) (m:=o)
 omega
theorem qKJ(o s:Nat)(ho:o<256)(hs:s<256)(h0:s≠0):bits .and .u64 (IntKind.wrap .u64 (iSub (s:Int) 1)) (o:Int)=(((s-1) &&& o:Nat):Int):=by
 rw[show IntKind.wrap .u64 (iSub (s:Int) 1)=((s-1:Nat):Int) by
  have:=qsg (p:=fun s=>decide (s=0)||decide (IntKind.wrap .u64 (iSub (s:Int) 1)=((s-1:Nat):Int))) (by decide +kernel) hs
  simpa[h0] using this]
 exact bAnd _ _ (by omega) ho
theorem qIc(m a:Nat)(hm:m<256)(ha:a &&& m=a):bits .andNot .u64 (m:Int) (a:Int)=((m ^^^ a:Nat):Int):=by
 have hle:a≤m:=by have:=Nat.and_le_right (n:=a) (m:=m);omega
 rw[u64_andNot_nat m a (by omega) (by omega)]
 refine congrArg (fun x:Nat=>(x:Int)) (Nat.eq_of_testBit_eq fun i=>?_)
 rw[qbm ha,Nat.testBit_and,show 18446744073709551615-a=2 ^ 64-(a+1) by omega,Nat.testBit_two_pow_sub_succ (by omega)]
 by_cases hi:i<64
 ·rw[decide_eq_true hi,Bool.true_and]
 ·rw[decide_eq_false hi,Bool.false_and,Bool.and_false]
  rw[Nat.testBit_lt_two_pow (Nat.lt_of_lt_of_le (show m<2 ^ 8 by omega) (Nat.pow_le_pow_right (by decide) (by omega)))]
  rfl
end Go.Proofs.YtcjcacbhkoainaaGreatDoor
