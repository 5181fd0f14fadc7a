/- Clubs: the reference's search for the greatest number of groups, and its Fewest. -/
import Derived.Test.YtcjcacbhkoainaaGreatDoorDv17
set_option linter.constructorNameAsVariable false
set_option linter.unusedSimpArgs false
set_option linter.unusedVariables false
set_option linter.unusedSectionVars false
namespace Go.Proofs.YtcjcacbhkoainaaGreatDoor
open Go Go.Proofs Go.RowKit
set_option maxHeartbeats 1000000
set_option maxRecDepth 100000
theorem qwz(m i:Nat)(hm:m<256)(hi:i<8):iEq (bits .and .i64 (iShr (m:Int) (IntKind.wrap .u64 (i:Int))) 1) 1=m.testBit i:=by
 have:=qjI (p:=fun m=>(List.range 8).all fun i=>decide (iEq (bits .and .i64 (iShr (m:Int) (IntKind.wrap .u64 (i:Int))) 1) 1=m.testBit i)) (by decide +kernel) hm
 have:=List.all_eq_true.1 this i (List.mem_range.2 hi)
 simpa using this
theorem qyM(m i:Nat)(hm:m<256)(hi:i<8):iEq (bits .and .i64 (iShr (m:Int) (IntKind.wrap .u64 (i:Int))) 1) 0 = !m.testBit i:=by
 have:=qjI (p:=fun m=>(List.range 8).all fun i=>decide (iEq (bits .and .i64 (iShr (m:Int) (IntKind.wrap .u64 (i:Int))) 1) 0 = !m.testBit i)) (by decide +kernel) hm
 have:=List.all_eq_true.1 this i (List.mem_range.2 hi)
 simpa using this
theorem qvj(i:Nat)(hi:i<8):qbA (iSh .i64 (IntKind.wrap .u64 (i:Int)))=some ():=by
 have:(List.range 8).all (fun i:Nat=>decide (qbA (iSh .i64 (IntKind.wrap .u64 (i:Int)))=some ()))=true:=by decide +kernel
 simpa using List.all_eq_true.1 this i (List.mem_range.2 hi)
def subB(s m:Nat):Bool:=decide (s &&& m=s)
theorem qx9(s m:Nat)(hs:s<256)(hm:m<256):bits .andNot .i64 (s:Int) (m:Int)=((s &&& (m ^^^ 255):Nat):Int):=by
 have h:(List.range 256).all (fun s=>(List.range 256).all fun m=>decide (bits .andNot .i64 ((s:Nat):Int) ((m:Nat):Int)=((s &&& (m ^^^ 255):Nat):Int)))=true:=by decide +kernel
 have:=List.all_eq_true.1 (List.all_eq_true.1 h s (List.mem_range.2 hs)) m (List.mem_range.2 hm)
 simpa using this
theorem qwA{s:Nat}(hs:s<256)(i:Nat)(h:s.testBit i=true):i<8:=by
 refine Nat.lt_of_not_le fun hi=>?_
 rw[Nat.testBit_lt_two_pow (Nat.lt_of_lt_of_le (show s<2 ^ 8 by omega) (Nat.pow_le_pow_right (by decide) hi))] at h
 cases h
theorem qtJ{s m:Nat}(hs:s<256)(i:Nat):(s &&& (m ^^^ 255)).testBit i=(s.testBit i && !m.testBit i):=by
 rw[Nat.testBit_and,Nat.testBit_xor]
 cases h:s.testBit i with
 | false=>rfl
 | true =>
  have:=qwA hs i h
  have h2:(255:Nat).testBit i=true:=by
   have:∀j,j<8→(255:Nat).testBit j=true:=by decide
   exact this i (qwA hs i h)
  rw[h2]
  cases m.testBit i<;>rfl
theorem qzf(s m:Nat)(hs:s<256)(hm:m<256):iNe (bits .andNot .i64 (s:Int) (m:Int)) 0 = !subB s m:=by
 rw[qx9 s m hs hm]
 unfold subB
 by_cases h:s &&& m=s
 ·have:s &&& (m ^^^ 255)=0:=Nat.eq_of_testBit_eq fun i=>by
   rw[qtJ hs,Nat.zero_testBit]
   have:=qH.1 h i
   cases hi:s.testBit i with
   | false=>rfl
   | true=>rw[this hi];rfl
  rw[this,decide_eq_true h];rfl
 ·have:s &&& (m ^^^ 255)≠0:=fun e=>h (qH.2 fun i hi=>by
   have:=qtJ (m:=m) hs i
   rw[e,Nat.zero_testBit,hi] at this
   simpa using this.symm)
  rw[decide_eq_false h,qkw (show (((s &&& (m ^^^ 255):Nat):Nat):Int)≠0 by omega)];rfl
theorem qyN(s m:Nat)(hs:s<256)(hm:m<256)(h:s &&& m=s):bits .andNot .i64 (m:Int) (s:Int)=((m ^^^ s:Nat):Int):=by
 rw[qx9 m s hm hs]
 refine congrArg (fun x:Nat=>(x:Int)) (Nat.eq_of_testBit_eq fun i=>?_)
 rw[qtJ hm,qG h]
def smT(l:List Int)(m k:Nat):Int:=smB (l.take k) m.testBit
theorem qtK:∀(l:List Int) (x:Int) (f:Nat→Bool),smB (l++[x]) f=smB l f+if f l.length=true then x else 0
 | [],x,f=>by
  show (if f 0=true then x else 0)+0=0+_
  simp
 | y::l,x,f=>by
  have:=qtK l x fun i=>f (i+1)
  show (if f 0=true then y else 0)+smB (l++[x]) _=(if f 0=true then y else 0)+smB l _+if f (l.length+1)=true then x else 0
  rw[this]
  omega
theorem qqz{l:List Int}{m k:Nat}(h:k<l.length):smT l m (k+1)=smT l m k+if m.testBit k=true then l[k] else 0:=by
 unfold smT
 rw[List.take_succ_eq_append_getElem h,qtK,List.length_take,Nat.min_eq_left (Nat.le_of_lt h)]
theorem qtL{l:List Int}(B:Bal l)(m:Nat):∀k,k≤l.length→-(1000000000*(k:Int))≤smT l m k∧smT l m k≤1000000000*(k:Int)
 | 0,_=>by unfold smT;rw[List.take_zero];exact ⟨by show _≤(0:Int);omega,by show (0:Int)≤_;omega⟩
 | k+1,h=>by
  have:=qtL B m k (by omega)
  have hb:=B.bd _ (List.getElem_mem (show k<l.length by omega))
  rw[qqz (by omega)]
  split<;>omega
theorem quF(l:List Int)(m:Nat):smT l m l.length=sm l m:=by unfold smT sm;rw[List.take_length]
theorem qzg(n:Nat)(l:List Int)(B:Bal l)(m:Nat)(hm:m<256):∀(j k n':Nat),k+j=l.length→j<n' →
  qg n' (qex n) (l,((m:Int),(smT l m k,((k:Int),()))))=some (sm l m,()):=by
 intro j
 induction j with
 | zero =>
  intro k n' hk hn
  obtain ⟨n',rfl⟩:∃j,n'=j+1:=⟨n'-1,by omega⟩
  rw[qw,qhY,show k=l.length by omega,quF]
  simp only[qg3,cond_false]
 | succ j ih =>
  intro k n' hk hn
  obtain ⟨n',rfl⟩:∃j,n'=j+1:=⟨n'-1,by omega⟩
  have hlt:k<l.length:=by omega
  have h8:=B.ln
  have hb:=qtL B m k (by omega)
  have hx:=B.bd _ (List.getElem_mem hlt)
  have:=ih (k+1) n' (by omega) (by omega)
  rw[qqz hlt] at this
  rw[qw,qhY]
  simp only[qg2 hlt,cond_true,qvj k (by omega),Option.bind_some,qwz m k hm (by omega),qcH (show k<9223372036854775807 by omega)]
  cases hbit:m.testBit k with
  | true =>
   rw[hbit,if_pos rfl] at this
   simp only[cond_true,qjG l hlt,Option.bind_some,show iW (iAdd (smT l m k) l[k])=smT l m k+l[k] from qgM (by unfold iAdd;omega) (by unfold iAdd;omega)]
   exact this
  | false =>
   rw[hbit,if_neg (by decide),Int.add_zero] at this
   simp only[cond_false]
   exact this
theorem qxK(n:Nat)(l:List Int)(B:Bal l)(m:Nat)(hm:m<256)(hn:2000≤n):qhy n (l,((m:Int),()))=some (sm l m,()):=by
 have h8:=B.ln
 have:=qzg n l B m hm l.length 0 n (by omega) (by omega)
 rw[ql4]
 have h':qg n (qex n) (l,((m:Int),((0:Int),((0:Int),()))))=some (sm l m,()):=this
 simp only[h',Option.bind_some]
def fstT(m k:Nat):Int:=match (List.range k).find? m.testBit with
 | some i=>(i:Int)
 | none=>-1
theorem qwB(m k:Nat):fstT m (k+1)=if fstT m k<0∧m.testBit k=true then (k:Int) else fstT m k:=by
 unfold fstT
 rw[List.range_succ,List.find?_append]
 cases h:(List.range k).find? m.testBit with
 | some i =>
  rw[if_neg (fun hc=>absurd hc.1 (by show ¬(i:Int)<0;omega))]
  rfl
 | none =>
  cases hb:m.testBit k with
  | true=>rw[if_pos ⟨by decide,rfl⟩];simp[List.find?_cons,hb]
  | false=>rw[if_neg (by simp)];simp[List.find?_cons,hb]
theorem qyO(n:Nat)(g)(l:List Int)(B:Bal l)(m:Nat)(hm:m<256)(hz:∀i,m.testBit i=true→(l[i]?).getD 0≠0):∀(j k n':Nat),k+j=l.length→j<n' →
  qg n' (qdP n g) (l,((m:Int),(fstT m k,(smT l m k,((k:Int),())))))=some (l,((m:Int),(fstT m l.length,(sm l m,())))):=by
 intro j
 induction j with
 | zero =>
  intro k n' hk hn
  obtain ⟨n',rfl⟩:∃j,n'=j+1:=⟨n'-1,by omega⟩
  rw[qw,qhc,show k=l.length by omega,quF]
  simp only[qg3,cond_false]
 | succ j ih =>
  intro k n' hk hn
  obtain ⟨n',rfl⟩:∃j,n'=j+1:=⟨n'-1,by omega⟩
  have hlt:k<l.length:=by omega
  have h8:=B.ln
  have hb:=qtL B m k (by omega)
  have hx:=B.bd _ (List.getElem_mem hlt)
  have:=ih (k+1) n' (by omega) (by omega)
  rw[qqz hlt,qwB] at this
  rw[qw,qhc]
  simp only[qg2 hlt,cond_true,qvj k (by omega),Option.bind_some,qwz m k hm (by omega),qcH (show k<9223372036854775807 by omega)]
  cases hbit:m.testBit k with
  | true =>
   have hnz:=hz k hbit
   rw[List.getElem?_eq_getElem hlt] at hnz
   have hnz:l[k]≠0:=hnz
   rw[hbit,if_pos rfl] at this
   simp only[cond_true,qjG l hlt,Option.bind_some,show iW (iAdd (smT l m k) l[k])=smT l m k+l[k] from qgM (by unfold iAdd;omega) (by unfold iAdd;omega),qkw hnz]
   by_cases hf:fstT m k<0
   ·rw[show iLt (fstT m k) 0=true from decide_eq_true hf]
    rw[if_pos ⟨hf,rfl⟩] at this
    exact this
   ·rw[show iLt (fstT m k) 0=false from decide_eq_false hf]
    rw[if_neg (fun hc=>hf hc.1)] at this
    exact this
  | false =>
   rw[hbit,if_neg (show ¬(fstT m k<0∧false=true) from fun hc=>by cases hc.2),if_neg (show ¬false=true from Bool.false_ne_true),Int.add_zero] at this
   simp only[cond_false]
   exact this
theorem qyP{l:List Int}{m:Nat}(hm:m<256)(h0:m≠0)(hi:InL l m):fstT m l.length=(lowI m:Int):=by
 obtain ⟨g1,g2,g3,g4⟩:=qhg m hm h0
 have hl:=hi _ g2
 have:(List.range l.length).find? m.testBit=some (lowI m):=by
  rw[List.find?_range_eq_some]
  exact ⟨g2,List.mem_range.2 hl,fun j hj=>by rw[g4 j hj];rfl⟩
 unfold fstT
 rw[this]
theorem qxL(k:Nat):fstT 0 k = -1:=by
 unfold fstT
 rw[List.find?_eq_none.2 fun i _=>by rw[Nat.zero_testBit];decide]
end Go.Proofs.YtcjcacbhkoainaaGreatDoor
