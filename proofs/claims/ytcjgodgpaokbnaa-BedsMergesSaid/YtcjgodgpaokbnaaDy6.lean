/- Beds, plain: whatever the order of the messages. -/
import Derived.Test.YtcjgodgpaokbnaaQb
import Derived.Test.YtcjgodgpaokbnaaPc
import Derived.Test.YtcjgodgpaokbnaaDq5
set_option linter.constructorNameAsVariable false
set_option linter.unusedSimpArgs false
set_option linter.unusedVariables false
set_option linter.unusedSectionVars false
namespace Go.Proofs.Ytcjgodgpaokbnaa
open Go Go.Proofs Go.RowKit
set_option maxHeartbeats 1000000
theorem qKp(n:Nat)(a:Ty.den T77)(l:List (Ty.den T77)):qk1 n (a::l,())=Option.bind (q7 (Nat.ble (nAdd (0:Nat) (List.length (a::l))) 5864062014805)) fun _=>(some ((List.append [] (a::l)),())):=by kernel_rfl
theorem qML(n:Nat):qk4 n ([],())=some ([],()):=by kernel_rfl
theorem qMM(n:Nat)(a:Stay)(l:List Stay):qk4 n (a::l,())=qk1 n (a::l,()):=by kernel_rfl
theorem qMN(n:Nat)(l:List Stay)(hl:l.length≤1000):qk4 n (l,())=some (l,()):=by
 cases l with
 | nil=>exact qML n
 | cons a l =>
  rw[qMM]
  refine (qKp n a l).trans ?_
  rw[qi1 (by rw[Nat.ble_eq];exact Nat.le_trans (Nat.le_of_eq (Nat.zero_add _)) (Nat.le_trans hl (by decide)))]
  rfl
theorem qMO(n:Nat)(m:Msg)(hl:m.2.2.2.2.length≤1000):qx8 n (m,())=some (m,()):=by
 rw[qF3]
 simp only[qMN n m.2.2.2.2 hl,Option.bind_some]
theorem qOf{α:Type}(l:List α)(k:Nat)(h:k<l.length):List.set l k l[k]=l:=by simp
theorem qMP(n:Nat)(l:List Msg)(hl:l.length≤1000)(hs:∀m,m∈l→m.2.2.2.2.length≤1000)(hn:2000≤n):qh n (qts n) ((l.length:Int),((0:Int),(l,())))=some (l,()):=by
 have h:=qpp (step:=qts n) l (fun k (_:Unit)=>((l.length:Int),((k:Int),(l,())))) (fun b _=>b) () (fun _=>(l,())) (fun rec k b hk _=>by
  rw[qyl]
  simp only[qcY hk,cond_true,qeH l hk,Option.bind_some,qpr,List.getElem?_eq_getElem hk,qMO n l[k] (hs _ (List.getElem_mem hk)),qbE (show k<9223372036854775807 by omega),qOf l k hk]) (fun rec b=>by
  rw[qyl]
  simp only[qdk,cond_false]) (n:=n) (by omega)
 exact h
theorem qMQ(n:Nat)(l:List Msg)(hl:l.length≤1000)(hs:∀m,m∈l→m.2.2.2.2.length≤100)(hn:2000≤n):qff n (l,(l,()))=some (true,()):=by
 rw[qvW]
 have h1:=qxC (step:=qkS n) l (fun k=>(l,(l,((k:Int),())))) (fun _=>true) (.inl ()) (.inr (false,())) (fun rec k hk=>by
  rw[qot]
  simp only[qcY hk,cond_true,qeH l hk,Option.bind_some,qFX n l[k] l[k] (hs _ (List.getElem_mem _)) (by omega),decide_true,Bool.not_true,cond_false,qbE (show k<9223372036854775807 by omega)]) (fun rec=>by
  rw[qot]
  simp only[qdk,cond_false]) (n:=n) (by omega)
 simp only[qku rfl,cond_false]
 show Option.bind (qh n _ (l,(l,(((0:Nat):Int),())))) _=_
 rw[h1,show (l.all fun _=>true)=true by simp]
 rfl
end Go.Proofs.Ytcjgodgpaokbnaa
