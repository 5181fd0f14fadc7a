/- Texts DnF, DnG, DnH, DnI, DnE, DnJ, DnK in one. -/
import Derived.Test.YtcjgodgpaokbnaaNd
import Derived.Test.YtcjgodgpaokbnaaDnD
import Derived.Test.YtcjgodgpaokbnaaKc
/- Printed: what functions of the program compute. -/
set_option linter.constructorNameAsVariable false
set_option linter.unusedSimpArgs false
set_option linter.unusedVariables false
set_option linter.unusedSectionVars false
namespace Go.Proofs.Ytcjgodgpaokbnaa
open Go Go.Proofs Go.RowKit
set_option maxRecDepth 20000
noncomputable def qjV(n:Nat):CL Try.prog:=⟨[],[],0,fun _=>false⟩
noncomputable def qom(n:Nat):Nat→St→PT (DEx×St):=fun _ _=>.fail
theorem quH(n:Nat):qe (qjV n).c (qa Try.f71) 0=[]:=by kernel_rfl
theorem quI:Try.f71.body=some (qa Try.f71):=by kernel_rfl
abbrev qjW:List It:=[.raw (.t 0)]
abbrev qjw:List (List It):=[[.row (.t 0) false T30 30]]
noncomputable def qhN(n:Nat)(x:qc qjW):Option (qI qjw):=runW tab (qjV n) (qom n) (qa Try.f71) qjW 1 8 [.tmp 2] qjw x
noncomputable def quJ(n:Nat):Cw Try.prog:=⟨71,1,qjW,1,qjw,qhN n,fun _ _ h=>qb2 (B:=tab) (cs:=qjV n) (lo:=qom n) (rs:=[.tmp 2]) Try.func71 (by kernel_rfl) quI (by kernel_rfl) (by decide) (ql (quH n) qf) h⟩
noncomputable def ql5(n:Nat):CL Try.prog:=⟨[],[],0,fun _=>false⟩
noncomputable def qqo(n:Nat):Nat→St→PT (DEx×St):=fun _ _=>.fail
theorem qwS(n:Nat):qe (ql5 n).c (qa Try.f71) 0=[]:=by kernel_rfl
theorem qwT:Try.f71.body=some (qa Try.f71):=by kernel_rfl
abbrev ql6:List It:=[.v (.t 0) T25]
abbrev qiG:List (List It):=[[.row (.t 0) false T30 30]]
noncomputable def qjm(n:Nat)(x:qc ql6):Option (qI qiG):=runW tab (ql5 n) (qqo n) (qa Try.f71) ql6 1 8 [.tmp 2] qiG x
noncomputable def qwU(n:Nat):Cw Try.prog:=⟨71,1,ql6,1,qiG,qjm n,fun _ _ h=>qb2 (B:=tab) (cs:=ql5 n) (lo:=qqo n) (rs:=[.tmp 2]) Try.func71 (by kernel_rfl) qwT (by kernel_rfl) (by decide) (ql (qwS n) qf) h⟩
noncomputable def qk8(n:Nat):CL Try.prog:=⟨[],[],0,fun _=>false⟩
noncomputable def qp6(n:Nat):Nat→St→PT (DEx×St):=fun _ _=>.fail
theorem qwv(n:Nat):qe (qk8 n).c (qa Try.f63) 0=[]:=by kernel_rfl
theorem qww:Try.f63.body=some (qa Try.f63):=by kernel_rfl
abbrev qk9:List It:=[.raw (.t 0)]
abbrev qkA:List (List It):=[[.row (.t 0) false T77 77]]
noncomputable def qiZ(n:Nat)(x:qc qk9):Option (qI qkA):=runW tab (qk8 n) (qp6 n) (qa Try.f63) qk9 1 8 [.tmp 2] qkA x
noncomputable def qwx(n:Nat):Cw Try.prog:=⟨63,1,qk9,1,qkA,qiZ n,fun _ _ h=>qb2 (B:=tab) (cs:=qk8 n) (lo:=qp6 n) (rs:=[.tmp 2]) Try.func63 (by kernel_rfl) qww (by kernel_rfl) (by decide) (ql (qwv n) qf) h⟩
noncomputable def qnX(n:Nat):CL Try.prog:=⟨[],[],0,fun _=>false⟩
noncomputable def qsj(n:Nat):Nat→St→PT (DEx×St):=fun _ _=>.fail
theorem qyQ(n:Nat):qe (qnX n).c (qa Try.f63) 0=[]:=by kernel_rfl
theorem qyR:Try.f63.body=some (qa Try.f63):=by kernel_rfl
abbrev qnY:List It:=[.v (.t 0) T28]
abbrev qjO:List (List It):=[[.row (.t 0) false T77 77]]
noncomputable def qkK(n:Nat)(x:qc qnY):Option (qI qjO):=runW tab (qnX n) (qsj n) (qa Try.f63) qnY 1 8 [.tmp 2] qjO x
noncomputable def qyS(n:Nat):Cw Try.prog:=⟨63,1,qnY,1,qjO,qkK n,fun _ _ h=>qb2 (B:=tab) (cs:=qnX n) (lo:=qsj n) (rs:=[.tmp 2]) Try.func63 (by kernel_rfl) qyR (by kernel_rfl) (by decide) (ql (qyQ n) qf) h⟩
end Go.Proofs.Ytcjgodgpaokbnaa
/- Printed: slices.Clone. -/
namespace Go.Proofs.Ytcjgodgpaokbnaa
open Go Go.Proofs Go.RowKit
theorem qwV(n:Nat)(c:Nat):qhN n (.slice none 0 c,())=some ([],()):=by kernel_rfl
theorem qwW(n:Nat)(a:Addr)(c:Nat):qhN n (.slice (some a) 0 c,())=some ([],()):=by kernel_rfl
noncomputable def qq6(n:Nat):Cw Try.prog:=qJl 71 T30 qiG (qhN n) (qjm n) ([],()) (fun v y m0 h=>(quJ n).okk (x:=(v,())) (y:=y) h m0 (qBf m0)) (fun l y m0 h=>(qwU n).okk (x:=(l,())) (y:=y) h m0 (qBf m0)) (fun A c=>by cases A with | none=>exact qwV n c | some a=>exact qwW n a c)
noncomputable def qwX(n:Nat):=(qq6 n).M
end Go.Proofs.Ytcjgodgpaokbnaa
/- Printed: slices.Clone. -/
namespace Go.Proofs.Ytcjgodgpaokbnaa
open Go Go.Proofs Go.RowKit
theorem qyT(n:Nat)(c:Nat):qiZ n (.slice none 0 c,())=some ([],()):=by kernel_rfl
theorem qyU(n:Nat)(a:Addr)(c:Nat):qiZ n (.slice (some a) 0 c,())=some ([],()):=by kernel_rfl
noncomputable def qsL(n:Nat):Cw Try.prog:=qJl 63 T77 qjO (qiZ n) (qkK n) ([],()) (fun v y m0 h=>(qwx n).okk (x:=(v,())) (y:=y) h m0 (qBf m0)) (fun l y m0 h=>(qyS n).okk (x:=(l,())) (y:=y) h m0 (qBf m0)) (fun A c=>by cases A with | none=>exact qyT n c | some a=>exact qyU n a c)
noncomputable def qyV(n:Nat):=(qsL n).M
end Go.Proofs.Ytcjgodgpaokbnaa
/- The iterator over the spots of a request, by hand. -/
namespace Go.Proofs.Ytcjgodgpaokbnaa
open Go Go.Proofs Go.RowKit
set_option maxHeartbeats 4000000
set_option maxRecDepth 20000
def qrd(hut:Int)(lo:Int):Nat→List (Int×Int)
 | 0=>[]
 | n+1=>(hut,lo)::qrd hut (lo+1) n
def qAn(s:Int×(Int×Int)):List (Int×Int):=qrd s.1 s.2.1 (s.2.2+1-s.2.1).toNat
def qfs:List (Int×(Int×Int))→List (Int×Int)
 | []=>[]
 | s::l=>qAn s++qfs l
def qCP(l:List (Int×(Int×Int))):Bool:=Nat.ble l.length 1000000&&l.all fun s=>decide (-9223372036854775808≤s.2.1)&&decide (s.2.2<9223372036854775807)
def qFn(y:Int×Int):qu [T80]:=(y,())
theorem qGJ(l:List (Int×Int)):((l.map qFn).map (tysA [T80])).length=l.length:=by rw[List.length_map,List.length_map]
def qyu(l:List (Int×(Int×Int))):Option (List (qu [T80])):=cond (qCP l) (some ((qfs l).map qFn)) none
def qoT(l:List (Int×(Int×Int)))(k:Nat):Nat:=(qfs (l.take k)).length
theorem qzO(h:Int):∀(n:Nat) (lo:Int),(qrd h lo n).length=n
 | 0,_=>rfl
 | n+1,lo=>by simp[qrd,qzO h n]
theorem qFo(h:Int):∀(n:Nat) (lo:Int) (j:Nat),j<n→(qrd h lo n)[j]?=some (h,lo+j)
 | n+1,lo,0,_=>by simp[qrd]
 | n+1,lo,j+1,hj=>by
  simp only[qrd,List.getElem?_cons_succ]
  rw[qFo h n (lo+1) j (by omega)]
  congr 2
  omega
theorem qBu:∀(l m:List (Int×(Int×Int))),qfs (l++m)=qfs l++qfs m
 | [],_=>rfl
 | s::l,m=>by simp[qfs,qBu l m]
theorem qJY(l:List (Int×(Int×Int)))(k:Nat)(hk:k<l.length):qoT l (k+1)=qoT l k+(l[k].2.2+1-l[k].2.1).toNat:=by
 unfold qoT
 rw[List.take_succ_eq_append_getElem hk,qBu]
 simp[qfs,qAn,qzO]
theorem qKY(l:List (Int×(Int×Int))):qoT l l.length=(qfs l).length:=by unfold qoT;simp
theorem qMa(l:List (Int×(Int×Int)))(k:Nat)(hk:k<l.length)(j:Nat)(hj:j<(l[k].2.2+1-l[k].2.1).toNat):(qfs l)[qoT l k+j]?=some (l[k].1,l[k].2.1+j):=by
 have h1:l=l.take k++l[k]::l.drop (k+1):=by simp
 have h2:qfs l=qfs (l.take k)++(qAn l[k]++qfs (l.drop (k+1))):=by
  conv=>lhs;rw[h1]
  rw[qBu];rfl
 rw[h2,List.getElem?_append_right (by unfold qoT;omega),show qoT l k+j-(qfs (l.take k)).length=j by unfold qoT;omega,List.getElem?_append_left (by unfold qAn;rw[qzO];exact hj)]
 exact qFo _ _ _ _ hj
theorem qMP{a b:Int}(h:a=b):[AV.int a]=[AV.int b]:=by rw[h]
theorem qMb(x:qu [T30])(l:List (qu [T80]))(h:qyu x.1.2.2.2.2=some l):qEN Try.prog false 97 [] (qmR [T30] x) (l.map (tysA [T80])):=by
 obtain ⟨⟨ma,mb,mc,md,ss⟩,u⟩:=x
 change List (Int×(Int×Int)) at ss
 unfold qyu at h
 cases hb:qCP ss with
 | false=>simp only at h;rw[hb] at h;cases h
 | true =>
 simp only at h;rw[hb] at h
 injection h with h
 subst h
 unfold qCP at hb
 simp only[Bool.and_eq_true,Nat.ble_eq,List.all_eq_true,decide_eq_true_eq] at hb
 obtain ⟨hlen,hbd⟩:=hb
 refine ⟨enters_of Try.func97 (by kernel_rfl) rfl,fun lp T J Jx X hcJ hcx hone hy=>?_⟩
 have hyk:∀k (hk:k<ss.length) (j:Nat),j<(ss[k].2.2+1-ss[k].2.1).toNat→qEM Try.prog T lp [.agg [.int ss[k].1,.int (ss[k].2.1+j)]] (J (qoT ss k+j)) (J (qoT ss k+j+1)) Jx:=fun k hk j hj=>by
  have h1:=qMa ss k hk j hj
  have h2:=(List.getElem?_eq_some_iff.1 h1).1
  have h3:=hy (qoT ss k+j) (by rw[qGJ];exact h2)
  rw[List.getElem_map,List.getElem_map,(List.getElem?_eq_some_iff.1 h1).2] at h3
  exact h3
 have hY:=Lib.hid hyk
 have hN:=Lib.hid (qJY ss)
 have hN0:qoT ss 0=0:=rfl
 have hNl:qoT ss ss.length=(((qfs ss).map qFn).map (tysA [T80])).length:=by rw[qKY,qGJ]
 show MCT Try.prog T 97 [.val (.func (.yield lp) #[] #[]),.rp [.val (.int .i64 ma),.val (.int .i64 mb),.val (.int .i64 mc),.val (.int .i64 md),.sl 3 (ss.map fun s=>[.val (.int .i64 s.1),.val (.int .i64 s.2.1),.val (.int .i64 s.2.2)])]] [.nodef,.ghost X (J 0)] fun _ H'=>∃X',HE.ghost X' (J (((qfs ss).map qFn).map (tysA [T80])).length)∈H'∨HE.ghost X' Jx∈H'
 rw[← hNl,← hN0]
 clear hy hyk hNl
 generalize hrr:(ss.map fun s=>[AV.val (.int .i64 s.1),AV.val (.int .i64 s.2.1),AV.val (.int .i64 s.2.2)])=rr
 have hrl:rr.length=ss.length:=by rw[← hrr];simp
 have hra:∀k (hk:k<ss.length),rr[k]?=some [.int ss[k].1,.int ss[k].2.1,.int ss[k].2.2]:=fun k hk=>by rw[← hrr,List.getElem?_map,List.getElem?_eq_getElem hk];rfl
 (refine MCT.of Try.func97 (by kernel_rfl) rfl (by simp only[Try.ntmps97,List.length_cons,List.length_nil,Nat.reduceAdd,Nat.reduceSub,List.replicate_succ,List.replicate_zero,List.cons_append,List.nil_append];rfl) fun w0 S hM hT=>?_;have hF:Wf Fence.wide:=.inl rfl)
 (repeat' (first | ((first | with_reducible refine AL.id_ ?_ | with_reducible refine AE.id_ ?_);first | refine AL.build0 hF rfl rfl rfl (fun b=>⟨_,(by simp only[AV.put];rfl),?_⟩) | refine W.s rfl rfl (by first | exact AY.bx rfl (by simp only[evO,AV.get];rfl) rfl | exact AY.mkFn rfl (by simp only[List.map_cons,List.map_nil,evO,AV.get];rfl) | exact AY.mkFn1 rfl (by simp only[evO,AV.get];rfl) (by simp only[List.map_cons,List.map_nil,evO,AV.get];rfl) | exact hEQ rfl rfl rfl | exact Step2.sound (by first | (((first | (apply Step2.a;constructor) | (apply Step2.b;constructor))<;>first | infer_instance | skip)<;>(first | infer_instance | (refine w64c ?_;omega) | (refine qAL ?_;omega) | (refine qxQ ?_;omega) | (refine qxR ?_;omega) | (refine qAI ?_;omega) | ((repeat (first | exact .head _ | refine .tail _ ?_));done) | assumption | (simp only[List.drop_succ_cons,List.drop_zero,List.length_map,Nat.zero_add,Nat.mul_one];rfl) | rfl | omega | (simp;done))) | fail) rfl | exact AY.call rfl rfl _ rfl (by fail) | exact AY.slice1 rfl rfl rfl (by rfl) (by first | (simp;done) | fail) | exact AY.callF rfl _ _ rfl _ rfl (by fail) | exact AY.old1k 0 rfl rfl rfl (by first | assumption | rfl) | exact AY.old1k 1 rfl rfl rfl (by first | assumption | rfl) | exact AY.old1k 2 rfl rfl rfl (by first | assumption | rfl) | exact AY.oldNk 0 rfl rfl rfl (by first | omega | (simp;omega)) (by first | assumption | rfl) | exact AY.oldNk 1 rfl rfl rfl (by first | omega | (simp;omega)) (by first | assumption | rfl)) (by simp only[AV.put];rfl) ?_ | (refine AL.nilK (hK _ _ ?_);clear hK K) | (refine AE.nil (hK _ ?_);clear hK K) | refine W.k rfl rfl (by simp only[AV.put];rfl) ?_ | refine AL.unguardS rfl rfl ?_ | refine AL.al hF rfl rfl rfl (by first | (simp only[Value.cells,List.map_cons,List.map_nil];rfl) | rfl) (fun b=>⟨_,(by simp only[AV.put];rfl),?_⟩) | refine AL.st1 hF rfl rfl rfl rfl (by simp only[evO,AV.get];rfl) (by first | exact qrq | exact qrr | exact qrs | exact qrt | exact qru | exact qrv | exact qrw | exact qrx) (by rfl) rfl (by rfl) (by first | (simp;done) | (simp;omega) | omega) (by simp only[List.set];rfl) ?_ | refine AL.stW hF rfl rfl rfl rfl (by simp only[evO,AV.get];rfl) (by first | exact qrq | exact qrr | exact qrs | exact qrt | exact qru | exact qrv | exact qrw | exact qrx) (by rfl) (by rfl) (by rfl) (by first | rfl | simp) (by simp only[List.set];rfl) ?_) | (with_reducible refine Awp.id_ ?_;first | refine Awp.seq ?_ | refine Awp.regionK (by first | (simp only[AV.putO,AV.put];rfl) | rfl) (fun K hK=>?_) | refine Awp.drawE (by first | (simp only[AV.putO,AV.put];rfl) | rfl) mixed rfl (by kernel_rfl) (fun K hK=>?_) | refine Awp.block ?_ | refine Awp.skip ?_ | refine Awp.exit ?_ | refine Awp.ret ?_ | refine Awp.condT rfl ?_ | refine Awp.condF rfl ?_) | refine qvi ?_ | refine qvj ?_ | refine qvk ?_ | refine qqs ?_ | refine qqt ?_ | refine qqu ?_ | refine qqv rfl ?_ | ((first | ((first | with_reducible refine AL.id_ ?_ | with_reducible refine AE.id_ ?_);(fail_if_success refine W.on rfl ?_);refine W.p rfl rfl (by simp only[AV.put];rfl) (by simp only[AV.put];rfl) (fun hb=>?_) (fun hb=>?_)) | (with_reducible refine Awp.id_ ?_;refine Awp.cond _ rfl (fun hb=>?_) (fun hb=>?_)))<;>(try simp only[z1,z2,z3,z4,z5,z6,z7,z8,y5,y6,y7,y8,z9,x1,x2,x3,x4,x5,x6,x7,x8] at hb;try (exfalso;omega)))))
 refine Awp.loopM [4,5,10,11,12,13,14,15,16,17,18,19,20,21,22,23,24,25,26,27,28,29,30] [9] (fun n vs H=>∃(k:Nat) (X':Nat→Prop),n+k=ss.length∧vs=[.int k]∧H=[.nodef,.ghost X' (J (qoT ss k))]) ss.length ⟨0,X,rfl,rfl,rfl⟩ ?_
 rintro n ju vs H ⟨k,X',hk,rfl,rfl⟩
 (refine Awp.slots (by first | (simp only[putl,mask,AV.put];rfl) | rfl) ?_)
 by_cases hlt:k<ss.length
 ·have hrow:=hra k hlt
  have hYk:=Lib.hid (hY.out k hlt)
  have hNk:=hN.out k hlt
  obtain ⟨hb1,hb2⟩:=hbd _ (List.getElem_mem hlt)
  generalize ss[k].1=hu at *
  generalize ss[k].2.1=lo at *
  generalize ss[k].2.2=hi at *
  (repeat' (first | ((first | with_reducible refine AL.id_ ?_ | with_reducible refine AE.id_ ?_);first | refine AL.build0 hF rfl rfl rfl (fun b=>⟨_,(by simp only[AV.put];rfl),?_⟩) | refine W.s rfl rfl (by first | exact AY.bx rfl (by simp only[evO,AV.get];rfl) rfl | exact AY.mkFn rfl (by simp only[List.map_cons,List.map_nil,evO,AV.get];rfl) | exact AY.mkFn1 rfl (by simp only[evO,AV.get];rfl) (by simp only[List.map_cons,List.map_nil,evO,AV.get];rfl) | exact hEQ rfl rfl rfl | exact Step2.sound (by first | (((first | (apply Step2.a;constructor) | (apply Step2.b;constructor))<;>first | infer_instance | skip)<;>(first | infer_instance | (refine w64c ?_;omega) | (refine qAL ?_;omega) | (refine qxQ ?_;omega) | (refine qxR ?_;omega) | (refine qAI ?_;omega) | ((repeat (first | exact .head _ | refine .tail _ ?_));done) | assumption | (simp only[List.drop_succ_cons,List.drop_zero,List.length_map,Nat.zero_add,Nat.mul_one];rfl) | rfl | omega | (simp;done))) | fail) rfl | exact AY.call rfl rfl _ rfl (by fail) | exact AY.slice1 rfl rfl rfl (by rfl) (by first | (simp;done) | fail) | exact AY.callF rfl _ _ rfl _ rfl (by fail) | exact AY.old1k 0 rfl rfl rfl (by first | assumption | rfl) | exact AY.old1k 1 rfl rfl rfl (by first | assumption | rfl) | exact AY.old1k 2 rfl rfl rfl (by first | assumption | rfl) | exact AY.oldNk 0 rfl rfl rfl (by first | omega | (simp;omega)) (by first | assumption | rfl) | exact AY.oldNk 1 rfl rfl rfl (by first | omega | (simp;omega)) (by first | assumption | rfl)) (by simp only[AV.put];rfl) ?_ | (refine AL.nilK (hK _ _ ?_);clear hK K) | (refine AE.nil (hK _ ?_);clear hK K) | refine W.k rfl rfl (by simp only[AV.put];rfl) ?_ | refine AL.unguardS rfl rfl ?_ | refine AL.al hF rfl rfl rfl (by first | (simp only[Value.cells,List.map_cons,List.map_nil];rfl) | rfl) (fun b=>⟨_,(by simp only[AV.put];rfl),?_⟩) | refine AL.st1 hF rfl rfl rfl rfl (by simp only[evO,AV.get];rfl) (by first | exact qrq | exact qrr | exact qrs | exact qrt | exact qru | exact qrv | exact qrw | exact qrx) (by rfl) rfl (by rfl) (by first | (simp;done) | (simp;omega) | omega) (by simp only[List.set];rfl) ?_ | refine AL.stW hF rfl rfl rfl rfl (by simp only[evO,AV.get];rfl) (by first | exact qrq | exact qrr | exact qrs | exact qrt | exact qru | exact qrv | exact qrw | exact qrx) (by rfl) (by rfl) (by rfl) (by first | rfl | simp) (by simp only[List.set];rfl) ?_) | (with_reducible refine Awp.id_ ?_;first | refine Awp.seq ?_ | refine Awp.regionK (by first | (simp only[AV.putO,AV.put];rfl) | rfl) (fun K hK=>?_) | refine Awp.drawE (by first | (simp only[AV.putO,AV.put];rfl) | rfl) mixed rfl (by kernel_rfl) (fun K hK=>?_) | refine Awp.block ?_ | refine Awp.skip ?_ | refine Awp.exit ?_ | refine Awp.ret ?_ | refine Awp.condT rfl ?_ | refine Awp.condF rfl ?_) | refine qvi ?_ | refine qvj ?_ | refine qvk ?_ | refine qqs ?_ | refine qqt ?_ | refine qqu ?_ | refine qqv rfl ?_ | ((first | ((first | with_reducible refine AL.id_ ?_ | with_reducible refine AE.id_ ?_);(fail_if_success refine W.on rfl ?_);refine W.p rfl rfl (by simp only[AV.put];rfl) (by simp only[AV.put];rfl) (fun hb=>?_) (fun hb=>?_)) | (with_reducible refine Awp.id_ ?_;refine Awp.cond _ rfl (fun hb=>?_) (fun hb=>?_)))<;>(try simp only[z1,z2,z3,z4,z5,z6,z7,z8,y5,y6,y7,y8,z9,x1,x2,x3,x4,x5,x6,x7,x8] at hb;try (exfalso;omega)))))
  refine Awp.loopM [16,17,18,19,20,21,22,23,24,25,26,27,28,29] [5] (fun n vs H=>∃(j:Nat) (X3:Nat→Prop),n+j=(hi+1-lo).toNat∧vs=[.int (lo+j)]∧H=[.blk b 77 [.int hu,.int lo,.int hi],.nodef,.ghost X3 (J (qoT ss k+j))]) (hi+1-lo).toNat ⟨0,X',by omega,by simp;rfl,rfl⟩ ?_
  rintro n1 ju1 vs1 H1 ⟨j,X3,hj,rfl,rfl⟩
  (refine Awp.slots (by first | (simp only[putl,mask,AV.put];rfl) | rfl) ?_)
  by_cases hlt2:j<(hi+1-lo).toNat
  ·have hle:lo+j≤hi:=by omega
   have hye:=hYk.out j hlt2
   (repeat' (first | ((first | with_reducible refine AL.id_ ?_ | with_reducible refine AE.id_ ?_);first | refine AL.build0 hF rfl rfl rfl (fun b=>⟨_,(by simp only[AV.put];rfl),?_⟩) | refine W.s rfl rfl (by first | exact AY.bx rfl (by simp only[evO,AV.get];rfl) rfl | exact AY.mkFn rfl (by simp only[List.map_cons,List.map_nil,evO,AV.get];rfl) | exact AY.mkFn1 rfl (by simp only[evO,AV.get];rfl) (by simp only[List.map_cons,List.map_nil,evO,AV.get];rfl) | exact AY.build rfl (by simp only[List.map_cons,List.map_nil,evO,AV.get];rfl) (by simp only[List.map_cons,List.map_nil];repeat (first | exact Places.nil | apply Places.cons)) (by first | (simp only[zip3,qf3,qiz,qdJ,qM,qlM,List.map_cons,List.map_nil,List.length_cons,List.length_nil,List.take_succ_cons,List.take_zero,List.drop_succ_cons,List.drop_zero,List.replicate_succ,List.replicate_zero,List.cons_append,List.nil_append,List.append_nil,List.drop_nil,List.take_nil,List.toList_toArray,Nat.sub_zero,Nat.reduceSub,Nat.reduceAdd,Nat.reduceMul,Nat.zero_mul,Nat.one_mul,Nat.mul_one,Nat.zero_add,Nat.le_refl,Nat.reduceLeDiff,and_self,true_and,and_true,if_true];rfl) | rfl) | exact AY.buildS rfl (by simp only[List.map_cons,List.map_nil,evO,AV.get];rfl) (by first | rfl | decide) (by omega) (by first | (simp only[zip3,qf3,qiz,qdJ,qM,qlM,List.map_cons,List.map_nil,List.length_cons,List.length_nil,List.take_succ_cons,List.take_zero,List.drop_succ_cons,List.drop_zero,List.replicate_succ,List.replicate_zero,List.cons_append,List.nil_append,List.append_nil,List.drop_nil,List.take_nil,List.toList_toArray,Nat.sub_zero,Nat.reduceSub,Nat.reduceAdd,Nat.reduceMul,Nat.zero_mul,Nat.one_mul,Nat.mul_one,Nat.zero_add,Nat.le_refl,Nat.reduceLeDiff,and_self,true_and,and_true,if_true];rfl) | rfl) (by first | (simp only[zip3,qf3,qiz,qdJ,qM,qlM,List.map_cons,List.map_nil,List.length_cons,List.length_nil,List.take_succ_cons,List.take_zero,List.drop_succ_cons,List.drop_zero,List.replicate_succ,List.replicate_zero,List.cons_append,List.nil_append,List.append_nil,List.drop_nil,List.take_nil,List.toList_toArray,Nat.sub_zero,Nat.reduceSub,Nat.reduceAdd,Nat.reduceMul,Nat.zero_mul,Nat.one_mul,Nat.mul_one,Nat.zero_add,Nat.le_refl,Nat.reduceLeDiff,and_self,true_and,and_true,if_true];rfl) | rfl) | exact hEQ rfl rfl rfl | exact Step2.sound (by first | (((first | (apply Step2.a;constructor) | (apply Step2.b;constructor))<;>first | infer_instance | skip)<;>(first | infer_instance | (refine w64c ?_;omega) | (refine qAL ?_;omega) | (refine qxQ ?_;omega) | (refine qxR ?_;omega) | (refine qAI ?_;omega) | ((repeat (first | exact .head _ | refine .tail _ ?_));done) | assumption | (simp only[List.drop_succ_cons,List.drop_zero,List.length_map,Nat.zero_add,Nat.mul_one];rfl) | rfl | omega | (simp;done))) | fail) rfl | exact AY.call rfl rfl _ rfl (by fail) | exact AY.slice1 rfl rfl rfl (by rfl) (by first | (simp;done) | fail) | exact AY.callF rfl _ _ rfl _ rfl (by fail) | exact AY.old1k 0 rfl rfl rfl (by first | assumption | rfl) | exact AY.old1k 1 rfl rfl rfl (by first | assumption | rfl) | exact AY.old1k 2 rfl rfl rfl (by first | assumption | rfl) | exact AY.oldNk 0 rfl rfl rfl (by first | omega | (simp;omega)) (by first | assumption | rfl) | exact AY.oldNk 1 rfl rfl rfl (by first | omega | (simp;omega)) (by first | assumption | rfl)) (by simp only[AV.put];rfl) ?_ | (refine AL.nilK (hK _ _ ?_);clear hK K) | (refine AE.nil (hK _ ?_);clear hK K) | refine W.k rfl rfl (by simp only[AV.put];rfl) ?_ | refine AL.unguardS rfl rfl ?_ | refine AL.al hF rfl rfl rfl (by first | (simp only[Value.cells,List.map_cons,List.map_nil];rfl) | rfl) (fun b=>⟨_,(by simp only[AV.put];rfl),?_⟩) | refine AL.st1 hF rfl rfl rfl rfl (by simp only[evO,AV.get];rfl) (by first | exact qrq | exact qrr | exact qrs | exact qrt | exact qru | exact qrv | exact qrw | exact qrx) (by rfl) rfl (by rfl) (by first | (simp;done) | (simp;omega) | omega) (by simp only[List.set];rfl) ?_ | refine AL.stW hF rfl rfl rfl rfl (by simp only[evO,AV.get];rfl) (by first | exact qrq | exact qrr | exact qrs | exact qrt | exact qru | exact qrv | exact qrw | exact qrx) (by rfl) (by rfl) (by rfl) (by first | rfl | simp) (by simp only[List.set];rfl) ?_) | (with_reducible refine Awp.id_ ?_;first | refine Awp.seq ?_ | refine Awp.regionK (by first | (simp only[AV.putO,AV.put];rfl) | rfl) (fun K hK=>?_) | refine Awp.drawE (by first | (simp only[AV.putO,AV.put];rfl) | rfl) mixed rfl (by kernel_rfl) (fun K hK=>?_) | refine Awp.block ?_ | refine Awp.skip ?_ | refine Awp.exit ?_ | refine Awp.ret ?_ | refine Awp.condT rfl ?_ | refine Awp.condF rfl ?_) | refine qvi ?_ | refine qvj ?_ | refine qvk ?_ | refine qqs ?_ | refine qqt ?_ | refine qqu ?_ | refine qqv rfl ?_ | ((first | ((first | with_reducible refine AL.id_ ?_ | with_reducible refine AE.id_ ?_);(fail_if_success refine W.on rfl ?_);refine W.p rfl rfl (by simp only[AV.put];rfl) (by simp only[AV.put];rfl) (fun hb=>?_) (fun hb=>?_)) | (with_reducible refine Awp.id_ ?_;refine Awp.cond _ rfl (fun hb=>?_) (fun hb=>?_)))<;>(try simp only[z1,z2,z3,z4,z5,z6,z7,z8,y5,y6,y7,y8,z9,x1,x2,x3,x4,x5,x6,x7,x8] at hb;try (exfalso;omega)))))
   have hgho:∀i e,([HE.blk b 77 [.int hu,.int lo,.int hi],.nodef,.ghost X3 (J (qoT ss k+j))])[i]?=some e→e.isGhost→i=2:=fun i e h1 h2=>by
    match i,h1 with
    | 0,h1=>cases h1;exact h2.elim
    | 1,h1=>cases h1;exact h2.elim
    | 2,_=>rfl
   refine AL.yield 2 rfl rfl rfl rfl _ rfl rfl hgho (by simp) (fun b hA=>hT b fun h=>(hA.1 h).1) hye (hcJ _) hcx (fun X4=>?_) (fun X4=>?_)
   ·refine AL.norm (by simp only[AV.put];rfl) rfl ?_
    (repeat' (first | ((first | with_reducible refine AL.id_ ?_ | with_reducible refine AE.id_ ?_);first | refine AL.build0 hF rfl rfl rfl (fun b=>⟨_,(by simp only[AV.put];rfl),?_⟩) | refine W.s rfl rfl (by first | exact AY.bx rfl (by simp only[evO,AV.get];rfl) rfl | exact AY.mkFn rfl (by simp only[List.map_cons,List.map_nil,evO,AV.get];rfl) | exact AY.mkFn1 rfl (by simp only[evO,AV.get];rfl) (by simp only[List.map_cons,List.map_nil,evO,AV.get];rfl) | exact AY.build rfl (by simp only[List.map_cons,List.map_nil,evO,AV.get];rfl) (by simp only[List.map_cons,List.map_nil];repeat (first | exact Places.nil | apply Places.cons)) (by first | (simp only[zip3,qf3,qiz,qdJ,qM,qlM,List.map_cons,List.map_nil,List.length_cons,List.length_nil,List.take_succ_cons,List.take_zero,List.drop_succ_cons,List.drop_zero,List.replicate_succ,List.replicate_zero,List.cons_append,List.nil_append,List.append_nil,List.drop_nil,List.take_nil,List.toList_toArray,Nat.sub_zero,Nat.reduceSub,Nat.reduceAdd,Nat.reduceMul,Nat.zero_mul,Nat.one_mul,Nat.mul_one,Nat.zero_add,Nat.le_refl,Nat.reduceLeDiff,and_self,true_and,and_true,if_true];rfl) | rfl) | exact AY.buildS rfl (by simp only[List.map_cons,List.map_nil,evO,AV.get];rfl) (by first | rfl | decide) (by omega) (by first | (simp only[zip3,qf3,qiz,qdJ,qM,qlM,List.map_cons,List.map_nil,List.length_cons,List.length_nil,List.take_succ_cons,List.take_zero,List.drop_succ_cons,List.drop_zero,List.replicate_succ,List.replicate_zero,List.cons_append,List.nil_append,List.append_nil,List.drop_nil,List.take_nil,List.toList_toArray,Nat.sub_zero,Nat.reduceSub,Nat.reduceAdd,Nat.reduceMul,Nat.zero_mul,Nat.one_mul,Nat.mul_one,Nat.zero_add,Nat.le_refl,Nat.reduceLeDiff,and_self,true_and,and_true,if_true];rfl) | rfl) (by first | (simp only[zip3,qf3,qiz,qdJ,qM,qlM,List.map_cons,List.map_nil,List.length_cons,List.length_nil,List.take_succ_cons,List.take_zero,List.drop_succ_cons,List.drop_zero,List.replicate_succ,List.replicate_zero,List.cons_append,List.nil_append,List.append_nil,List.drop_nil,List.take_nil,List.toList_toArray,Nat.sub_zero,Nat.reduceSub,Nat.reduceAdd,Nat.reduceMul,Nat.zero_mul,Nat.one_mul,Nat.mul_one,Nat.zero_add,Nat.le_refl,Nat.reduceLeDiff,and_self,true_and,and_true,if_true];rfl) | rfl) | exact hEQ rfl rfl rfl | exact Step2.sound (by first | (((first | (apply Step2.a;constructor) | (apply Step2.b;constructor))<;>first | infer_instance | skip)<;>(first | infer_instance | (refine w64c ?_;omega) | (refine qAL ?_;omega) | (refine qxQ ?_;omega) | (refine qxR ?_;omega) | (refine qAI ?_;omega) | ((repeat (first | exact .head _ | refine .tail _ ?_));done) | assumption | (simp only[List.drop_succ_cons,List.drop_zero,List.length_map,Nat.zero_add,Nat.mul_one];rfl) | rfl | omega | (simp;done))) | fail) rfl | exact AY.call rfl rfl _ rfl (by fail) | exact AY.slice1 rfl rfl rfl (by rfl) (by first | (simp;done) | fail) | exact AY.callF rfl _ _ rfl _ rfl (by fail) | exact AY.old1k 0 rfl rfl rfl (by first | assumption | rfl) | exact AY.old1k 1 rfl rfl rfl (by first | assumption | rfl) | exact AY.old1k 2 rfl rfl rfl (by first | assumption | rfl) | exact AY.oldNk 0 rfl rfl rfl (by first | omega | (simp;omega)) (by first | assumption | rfl) | exact AY.oldNk 1 rfl rfl rfl (by first | omega | (simp;omega)) (by first | assumption | rfl)) (by simp only[AV.put];rfl) ?_ | (refine AL.nilK (hK _ _ ?_);clear hK K) | (refine AE.nil (hK _ ?_);clear hK K) | refine W.k rfl rfl (by simp only[AV.put];rfl) ?_ | refine AL.unguardS rfl rfl ?_ | refine AL.al hF rfl rfl rfl (by first | (simp only[Value.cells,List.map_cons,List.map_nil];rfl) | rfl) (fun b=>⟨_,(by simp only[AV.put];rfl),?_⟩) | refine AL.st1 hF rfl rfl rfl rfl (by simp only[evO,AV.get];rfl) (by first | exact qrq | exact qrr | exact qrs | exact qrt | exact qru | exact qrv | exact qrw | exact qrx) (by rfl) rfl (by rfl) (by first | (simp;done) | (simp;omega) | omega) (by simp only[List.set];rfl) ?_ | refine AL.stW hF rfl rfl rfl rfl (by simp only[evO,AV.get];rfl) (by first | exact qrq | exact qrr | exact qrs | exact qrt | exact qru | exact qrv | exact qrw | exact qrx) (by rfl) (by rfl) (by rfl) (by first | rfl | simp) (by simp only[List.set];rfl) ?_) | (with_reducible refine Awp.id_ ?_;first | refine Awp.seq ?_ | refine Awp.regionK (by first | (simp only[AV.putO,AV.put];rfl) | rfl) (fun K hK=>?_) | refine Awp.drawE (by first | (simp only[AV.putO,AV.put];rfl) | rfl) mixed rfl (by kernel_rfl) (fun K hK=>?_) | refine Awp.block ?_ | refine Awp.skip ?_ | refine Awp.exit ?_ | refine Awp.ret ?_ | refine Awp.condT rfl ?_ | refine Awp.condF rfl ?_) | refine qvi ?_ | refine qvj ?_ | refine qvk ?_ | refine qqs ?_ | refine qqt ?_ | refine qqu ?_ | refine qqv rfl ?_ | ((first | ((first | with_reducible refine AL.id_ ?_ | with_reducible refine AE.id_ ?_);(fail_if_success refine W.on rfl ?_);refine W.p rfl rfl (by simp only[AV.put];rfl) (by simp only[AV.put];rfl) (fun hb=>?_) (fun hb=>?_)) | (with_reducible refine Awp.id_ ?_;refine Awp.cond _ rfl (fun hb=>?_) (fun hb=>?_)))<;>(try simp only[z1,z2,z3,z4,z5,z6,z7,z8,y5,y6,y7,y8,z9,x1,x2,x3,x4,x5,x6,x7,x8] at hb;try (exfalso;omega)))))
    (refine qMW (n1-1) (by first | (simp only[AV.putO,AV.put];rfl) | rfl) (by omega) ?_ (by simp only[List.map,AV.get,mask,putl,AV.put]))
    exact ⟨j+1,X4,by omega,qMP (by omega),rfl⟩
   ·refine AL.norm (by simp only[AV.put];rfl) rfl ?_
    (repeat' (first | ((first | with_reducible refine AL.id_ ?_ | with_reducible refine AE.id_ ?_);first | refine AL.build0 hF rfl rfl rfl (fun b=>⟨_,(by simp only[AV.put];rfl),?_⟩) | refine W.s rfl rfl (by first | exact AY.bx rfl (by simp only[evO,AV.get];rfl) rfl | exact AY.mkFn rfl (by simp only[List.map_cons,List.map_nil,evO,AV.get];rfl) | exact AY.mkFn1 rfl (by simp only[evO,AV.get];rfl) (by simp only[List.map_cons,List.map_nil,evO,AV.get];rfl) | exact AY.build rfl (by simp only[List.map_cons,List.map_nil,evO,AV.get];rfl) (by simp only[List.map_cons,List.map_nil];repeat (first | exact Places.nil | apply Places.cons)) (by first | (simp only[zip3,qf3,qiz,qdJ,qM,qlM,List.map_cons,List.map_nil,List.length_cons,List.length_nil,List.take_succ_cons,List.take_zero,List.drop_succ_cons,List.drop_zero,List.replicate_succ,List.replicate_zero,List.cons_append,List.nil_append,List.append_nil,List.drop_nil,List.take_nil,List.toList_toArray,Nat.sub_zero,Nat.reduceSub,Nat.reduceAdd,Nat.reduceMul,Nat.zero_mul,Nat.one_mul,Nat.mul_one,Nat.zero_add,Nat.le_refl,Nat.reduceLeDiff,and_self,true_and,and_true,if_true];rfl) | rfl) | exact AY.buildS rfl (by simp only[List.map_cons,List.map_nil,evO,AV.get];rfl) (by first | rfl | decide) (by omega) (by first | (simp only[zip3,qf3,qiz,qdJ,qM,qlM,List.map_cons,List.map_nil,List.length_cons,List.length_nil,List.take_succ_cons,List.take_zero,List.drop_succ_cons,List.drop_zero,List.replicate_succ,List.replicate_zero,List.cons_append,List.nil_append,List.append_nil,List.drop_nil,List.take_nil,List.toList_toArray,Nat.sub_zero,Nat.reduceSub,Nat.reduceAdd,Nat.reduceMul,Nat.zero_mul,Nat.one_mul,Nat.mul_one,Nat.zero_add,Nat.le_refl,Nat.reduceLeDiff,and_self,true_and,and_true,if_true];rfl) | rfl) (by first | (simp only[zip3,qf3,qiz,qdJ,qM,qlM,List.map_cons,List.map_nil,List.length_cons,List.length_nil,List.take_succ_cons,List.take_zero,List.drop_succ_cons,List.drop_zero,List.replicate_succ,List.replicate_zero,List.cons_append,List.nil_append,List.append_nil,List.drop_nil,List.take_nil,List.toList_toArray,Nat.sub_zero,Nat.reduceSub,Nat.reduceAdd,Nat.reduceMul,Nat.zero_mul,Nat.one_mul,Nat.mul_one,Nat.zero_add,Nat.le_refl,Nat.reduceLeDiff,and_self,true_and,and_true,if_true];rfl) | rfl) | exact hEQ rfl rfl rfl | exact Step2.sound (by first | (((first | (apply Step2.a;constructor) | (apply Step2.b;constructor))<;>first | infer_instance | skip)<;>(first | infer_instance | (refine w64c ?_;omega) | (refine qAL ?_;omega) | (refine qxQ ?_;omega) | (refine qxR ?_;omega) | (refine qAI ?_;omega) | ((repeat (first | exact .head _ | refine .tail _ ?_));done) | assumption | (simp only[List.drop_succ_cons,List.drop_zero,List.length_map,Nat.zero_add,Nat.mul_one];rfl) | rfl | omega | (simp;done))) | fail) rfl | exact AY.call rfl rfl _ rfl (by fail) | exact AY.slice1 rfl rfl rfl (by rfl) (by first | (simp;done) | fail) | exact AY.callF rfl _ _ rfl _ rfl (by fail) | exact AY.old1k 0 rfl rfl rfl (by first | assumption | rfl) | exact AY.old1k 1 rfl rfl rfl (by first | assumption | rfl) | exact AY.old1k 2 rfl rfl rfl (by first | assumption | rfl) | exact AY.oldNk 0 rfl rfl rfl (by first | omega | (simp;omega)) (by first | assumption | rfl) | exact AY.oldNk 1 rfl rfl rfl (by first | omega | (simp;omega)) (by first | assumption | rfl)) (by simp only[AV.put];rfl) ?_ | (refine AL.nilK (hK _ _ ?_);clear hK K) | (refine AE.nil (hK _ ?_);clear hK K) | refine W.k rfl rfl (by simp only[AV.put];rfl) ?_ | refine AL.unguardS rfl rfl ?_ | refine AL.al hF rfl rfl rfl (by first | (simp only[Value.cells,List.map_cons,List.map_nil];rfl) | rfl) (fun b=>⟨_,(by simp only[AV.put];rfl),?_⟩) | refine AL.st1 hF rfl rfl rfl rfl (by simp only[evO,AV.get];rfl) (by first | exact qrq | exact qrr | exact qrs | exact qrt | exact qru | exact qrv | exact qrw | exact qrx) (by rfl) rfl (by rfl) (by first | (simp;done) | (simp;omega) | omega) (by simp only[List.set];rfl) ?_ | refine AL.stW hF rfl rfl rfl rfl (by simp only[evO,AV.get];rfl) (by first | exact qrq | exact qrr | exact qrs | exact qrt | exact qru | exact qrv | exact qrw | exact qrx) (by rfl) (by rfl) (by rfl) (by first | rfl | simp) (by simp only[List.set];rfl) ?_) | (with_reducible refine Awp.id_ ?_;first | refine Awp.seq ?_ | refine Awp.regionK (by first | (simp only[AV.putO,AV.put];rfl) | rfl) (fun K hK=>?_) | refine Awp.drawE (by first | (simp only[AV.putO,AV.put];rfl) | rfl) mixed rfl (by kernel_rfl) (fun K hK=>?_) | refine Awp.block ?_ | refine Awp.skip ?_ | refine Awp.exit ?_ | refine Awp.ret ?_ | refine Awp.condT rfl ?_ | refine Awp.condF rfl ?_) | refine qvi ?_ | refine qvj ?_ | refine qvk ?_ | refine qqs ?_ | refine qqt ?_ | refine qqu ?_ | refine qqv rfl ?_ | ((first | ((first | with_reducible refine AL.id_ ?_ | with_reducible refine AE.id_ ?_);(fail_if_success refine W.on rfl ?_);refine W.p rfl rfl (by simp only[AV.put];rfl) (by simp only[AV.put];rfl) (fun hb=>?_) (fun hb=>?_)) | (with_reducible refine Awp.id_ ?_;refine Awp.cond _ rfl (fun hb=>?_) (fun hb=>?_)))<;>(try simp only[z1,z2,z3,z4,z5,z6,z7,z8,y5,y6,y7,y8,z9,x1,x2,x3,x4,x5,x6,x7,x8] at hb;try (exfalso;omega)))))
    exact qKe rfl ⟨X4,.inr (List.mem_of_getElem? (i:=2) rfl)⟩
  ·have hle:¬(lo+j≤hi):=by omega
   (repeat' (first | ((first | with_reducible refine AL.id_ ?_ | with_reducible refine AE.id_ ?_);first | refine AL.build0 hF rfl rfl rfl (fun b=>⟨_,(by simp only[AV.put];rfl),?_⟩) | refine W.s rfl rfl (by first | exact AY.bx rfl (by simp only[evO,AV.get];rfl) rfl | exact AY.mkFn rfl (by simp only[List.map_cons,List.map_nil,evO,AV.get];rfl) | exact AY.mkFn1 rfl (by simp only[evO,AV.get];rfl) (by simp only[List.map_cons,List.map_nil,evO,AV.get];rfl) | exact hEQ rfl rfl rfl | exact Step2.sound (by first | (((first | (apply Step2.a;constructor) | (apply Step2.b;constructor))<;>first | infer_instance | skip)<;>(first | infer_instance | (refine w64c ?_;omega) | (refine qAL ?_;omega) | (refine qxQ ?_;omega) | (refine qxR ?_;omega) | (refine qAI ?_;omega) | ((repeat (first | exact .head _ | refine .tail _ ?_));done) | assumption | (simp only[List.drop_succ_cons,List.drop_zero,List.length_map,Nat.zero_add,Nat.mul_one];rfl) | rfl | omega | (simp;done))) | fail) rfl | exact AY.call rfl rfl _ rfl (by fail) | exact AY.slice1 rfl rfl rfl (by rfl) (by first | (simp;done) | fail) | exact AY.callF rfl _ _ rfl _ rfl (by fail) | exact AY.old1k 0 rfl rfl rfl (by first | assumption | rfl) | exact AY.old1k 1 rfl rfl rfl (by first | assumption | rfl) | exact AY.old1k 2 rfl rfl rfl (by first | assumption | rfl) | exact AY.oldNk 0 rfl rfl rfl (by first | omega | (simp;omega)) (by first | assumption | rfl) | exact AY.oldNk 1 rfl rfl rfl (by first | omega | (simp;omega)) (by first | assumption | rfl)) (by simp only[AV.put];rfl) ?_ | (refine AL.nilK (hK _ _ ?_);clear hK K) | (refine AE.nil (hK _ ?_);clear hK K) | refine W.k rfl rfl (by simp only[AV.put];rfl) ?_ | refine AL.unguardS rfl rfl ?_ | refine AL.al hF rfl rfl rfl (by first | (simp only[Value.cells,List.map_cons,List.map_nil];rfl) | rfl) (fun b=>⟨_,(by simp only[AV.put];rfl),?_⟩) | refine AL.st1 hF rfl rfl rfl rfl (by simp only[evO,AV.get];rfl) (by first | exact qrq | exact qrr | exact qrs | exact qrt | exact qru | exact qrv | exact qrw | exact qrx) (by rfl) rfl (by rfl) (by first | (simp;done) | (simp;omega) | omega) (by simp only[List.set];rfl) ?_ | refine AL.stW hF rfl rfl rfl rfl (by simp only[evO,AV.get];rfl) (by first | exact qrq | exact qrr | exact qrs | exact qrt | exact qru | exact qrv | exact qrw | exact qrx) (by rfl) (by rfl) (by rfl) (by first | rfl | simp) (by simp only[List.set];rfl) ?_) | (with_reducible refine Awp.id_ ?_;first | refine Awp.seq ?_ | refine Awp.regionK (by first | (simp only[AV.putO,AV.put];rfl) | rfl) (fun K hK=>?_) | refine Awp.drawE (by first | (simp only[AV.putO,AV.put];rfl) | rfl) mixed rfl (by kernel_rfl) (fun K hK=>?_) | refine Awp.block ?_ | refine Awp.skip ?_ | refine Awp.exit ?_ | refine Awp.ret ?_ | refine Awp.condT rfl ?_ | refine Awp.condF rfl ?_) | refine qvi ?_ | refine qvj ?_ | refine qvk ?_ | refine qqs ?_ | refine qqt ?_ | refine qqu ?_ | refine qqv rfl ?_ | ((first | ((first | with_reducible refine AL.id_ ?_ | with_reducible refine AE.id_ ?_);(fail_if_success refine W.on rfl ?_);refine W.p rfl rfl (by simp only[AV.put];rfl) (by simp only[AV.put];rfl) (fun hb=>?_) (fun hb=>?_)) | (with_reducible refine Awp.id_ ?_;refine Awp.cond _ rfl (fun hb=>?_) (fun hb=>?_)))<;>(try simp only[z1,z2,z3,z4,z5,z6,z7,z8,y5,y6,y7,y8,z9,x1,x2,x3,x4,x5,x6,x7,x8] at hb;try (exfalso;omega)))))
   (refine qLn (n-1) (List.sublist_cons_self _ _) (by first | (simp only[AV.putO,AV.put];rfl) | rfl) (by omega) ?_ (by simp only[List.map,AV.get,mask,putl,AV.put]))
   exact ⟨k+1,X3,by omega,qMP (by omega),by rw[hNk,show (hi+1-lo).toNat=j by omega]⟩
 ·(repeat' (first | ((first | with_reducible refine AL.id_ ?_ | with_reducible refine AE.id_ ?_);first | refine AL.build0 hF rfl rfl rfl (fun b=>⟨_,(by simp only[AV.put];rfl),?_⟩) | refine W.s rfl rfl (by first | exact AY.bx rfl (by simp only[evO,AV.get];rfl) rfl | exact AY.mkFn rfl (by simp only[List.map_cons,List.map_nil,evO,AV.get];rfl) | exact AY.mkFn1 rfl (by simp only[evO,AV.get];rfl) (by simp only[List.map_cons,List.map_nil,evO,AV.get];rfl) | exact hEQ rfl rfl rfl | exact Step2.sound (by first | (((first | (apply Step2.a;constructor) | (apply Step2.b;constructor))<;>first | infer_instance | skip)<;>(first | infer_instance | (refine w64c ?_;omega) | (refine qAL ?_;omega) | (refine qxQ ?_;omega) | (refine qxR ?_;omega) | (refine qAI ?_;omega) | ((repeat (first | exact .head _ | refine .tail _ ?_));done) | assumption | (simp only[List.drop_succ_cons,List.drop_zero,List.length_map,Nat.zero_add,Nat.mul_one];rfl) | rfl | omega | (simp;done))) | fail) rfl | exact AY.call rfl rfl _ rfl (by fail) | exact AY.slice1 rfl rfl rfl (by rfl) (by first | (simp;done) | fail) | exact AY.callF rfl _ _ rfl _ rfl (by fail) | exact AY.old1k 0 rfl rfl rfl (by first | assumption | rfl) | exact AY.old1k 1 rfl rfl rfl (by first | assumption | rfl) | exact AY.old1k 2 rfl rfl rfl (by first | assumption | rfl) | exact AY.oldNk 0 rfl rfl rfl (by first | omega | (simp;omega)) (by first | assumption | rfl) | exact AY.oldNk 1 rfl rfl rfl (by first | omega | (simp;omega)) (by first | assumption | rfl)) (by simp only[AV.put];rfl) ?_ | (refine AL.nilK (hK _ _ ?_);clear hK K) | (refine AE.nil (hK _ ?_);clear hK K) | refine W.k rfl rfl (by simp only[AV.put];rfl) ?_ | refine AL.unguardS rfl rfl ?_ | refine AL.al hF rfl rfl rfl (by first | (simp only[Value.cells,List.map_cons,List.map_nil];rfl) | rfl) (fun b=>⟨_,(by simp only[AV.put];rfl),?_⟩) | refine AL.st1 hF rfl rfl rfl rfl (by simp only[evO,AV.get];rfl) (by first | exact qrq | exact qrr | exact qrs | exact qrt | exact qru | exact qrv | exact qrw | exact qrx) (by rfl) rfl (by rfl) (by first | (simp;done) | (simp;omega) | omega) (by simp only[List.set];rfl) ?_ | refine AL.stW hF rfl rfl rfl rfl (by simp only[evO,AV.get];rfl) (by first | exact qrq | exact qrr | exact qrs | exact qrt | exact qru | exact qrv | exact qrw | exact qrx) (by rfl) (by rfl) (by rfl) (by first | rfl | simp) (by simp only[List.set];rfl) ?_) | (with_reducible refine Awp.id_ ?_;first | refine Awp.seq ?_ | refine Awp.regionK (by first | (simp only[AV.putO,AV.put];rfl) | rfl) (fun K hK=>?_) | refine Awp.drawE (by first | (simp only[AV.putO,AV.put];rfl) | rfl) mixed rfl (by kernel_rfl) (fun K hK=>?_) | refine Awp.block ?_ | refine Awp.skip ?_ | refine Awp.exit ?_ | refine Awp.ret ?_ | refine Awp.condT rfl ?_ | refine Awp.condF rfl ?_) | refine qvi ?_ | refine qvj ?_ | refine qvk ?_ | refine qqs ?_ | refine qqt ?_ | refine qqu ?_ | refine qqv rfl ?_ | ((first | ((first | with_reducible refine AL.id_ ?_ | with_reducible refine AE.id_ ?_);(fail_if_success refine W.on rfl ?_);refine W.p rfl rfl (by simp only[AV.put];rfl) (by simp only[AV.put];rfl) (fun hb=>?_) (fun hb=>?_)) | (with_reducible refine Awp.id_ ?_;refine Awp.cond _ rfl (fun hb=>?_) (fun hb=>?_)))<;>(try simp only[z1,z2,z3,z4,z5,z6,z7,z8,y5,y6,y7,y8,z9,x1,x2,x3,x4,x5,x6,x7,x8] at hb;try (exfalso;omega)))))
  exact qLp rfl ⟨X',.inl (by rw[show ss.length=k by omega];exact List.mem_of_getElem? (i:=1) rfl)⟩
def qGK:Itr Try.prog:=⟨97,[T30],[T80],fun x=>qyu x.1.2.2.2.2,fun x l h=>qMb x l h⟩
end Go.Proofs.Ytcjgodgpaokbnaa
/- Printed: what functions of the program compute. -/
namespace Go.Proofs.Ytcjgodgpaokbnaa
open Go Go.Proofs Go.RowKit
set_option maxRecDepth 20000
noncomputable def qwY(n:Nat):CL Try.prog:=⟨[],[],0,fun _=>false⟩
noncomputable def qBT(n:Nat):Nat→St→PT (DEx×St):=fun _ _=>.fail
theorem qH5(n:Nat):qe (qwY n).c (qa Try.f67) 0=[]:=by kernel_rfl
theorem qH6:Try.f67.body=some (qa Try.f67):=by kernel_rfl
abbrev qyv:List Ar:=[.d T30]
abbrev quK:List Ty:=[T30]
noncomputable def qCQ(n:Nat)(x:qR qyv):Option (qu quK):=(qq tab (qwY n) (qBT n) (qa Try.f67) 0 (qbc qyv 4 x)).run (qMO 2 97 quK)
noncomputable def qCR(n:Nat):Ct Try.prog:=⟨67,qyv,.fb 97 quK,qCQ n,fun _ _ h=>qNG (B:=tab) (cs:=qwY n) (lo:=qBT n) (i:=2) (g:=97) (caps:=quK) Try.func67 (by kernel_rfl) qH6 (by kernel_rfl) (ql (qH5 n) qf) h⟩
noncomputable def qp7(n:Nat):CL Try.prog:=⟨[],[],0,fun _=>false⟩
noncomputable def qt4(n:Nat):Nat→St→PT (DEx×St):=fun _ _=>.fail
theorem qBv(n:Nat):qe (qp7 n).c (qa Try.f37) 0=[]:=by kernel_rfl
theorem qBw:Try.f37.body=some (qa Try.f37):=by kernel_rfl
abbrev qp8:List It:=[.v (.t 1) T80,.obj (.t 0) true 72 5,.v (.c 0 0) T69,.row (.c 0 2) true T30 30,.row (.c 0 3) true T30 30,.mpi (.c 0 4) true T80 T3]
abbrev qpf:List (List It):=[[.v (.t 0) T3,.obj (.t 1) true 72 5,.v (.c 0 0) T69,.row (.c 0 2) true T30 30,.row (.c 0 3) true T30 30,.mpi (.c 0 4) true T80 T3]]
noncomputable def quL(n:Nat)(x:qc qp8):Option (qI qpf):=runW tab (qp7 n) (qt4 n) (qa Try.f37) qp8 2 23 [.tmp 4] qpf x
noncomputable def qBx(n:Nat):Cw Try.prog:=⟨37,2,qp8,1,qpf,quL n,fun _ _ h=>qb2 (B:=tab) (cs:=qp7 n) (lo:=qt4 n) (rs:=[.tmp 4]) Try.func37 (by kernel_rfl) qBw (by kernel_rfl) (by decide) (ql (qBv n) qf) h⟩
noncomputable def qfC(n:Nat):CL Try.prog:=⟨[qCR n],[qBx n],0,fun _=>false⟩
noncomputable def qsM(n:Nat):Nat→St→PT (DEx×St):=fun _ _=>.fail
abbrev qeA:List It:=[.obj (.t 0) true 72 5,.v (.c 0 0) T69,.row (.c 0 2) true T30 30,.row (.c 0 3) true T30 30,.mpi (.c 0 4) true T80 T3,.obj (.t 2) false 64 1,.pal (.c 4 0) 0 0,.obj (.t 3) false 30 5,.v (.c 5 0) T30,.obj (.t 4) false 80 2,.v (.c 6 0) T80,.obj (.t 5) false 3 1,.v (.c 7 0) T3]
abbrev qly:List (DEx×List It):=[(.ret,[.obj (.t 0) true 72 5,.v (.c 0 0) T69,.row (.c 0 2) true T30 30,.row (.c 0 3) true T30 30,.mpi (.c 0 4) true T80 T3,.obj (.t 4) false 80 2,.v (.c 4 0) T80,.obj (.t 5) false 3 1,.v (.c 5 0) T3])]
abbrev qtj:List Ty:=[T80]
noncomputable def qtk(n:Nat)(rec:qc qeA→Option (qc qeA⊕qk qly))(s:qc qeA)(y:qu qtj):Option (qc qeA⊕qk qly):=(qFb tab (qfC n) (qsM n) [10] (subC [true,false,true,false,false] (qa Try.f45)) (subC [true,false,true,false,true] (qa Try.f45)) 1 (mkS qeA 22 s) (tysD qtj y)).run (qHb 22 qeA qly (mkS qeA 22 s) rec)
noncomputable def qpg(n:Nat):Rg Try.prog:=⟨.tmp 9,22,qeA,qGK,qly,rgF (qtk n)⟩
theorem qyW(n:Nat):qe (qfC n).c (subC [true,false,true,false,false] (qa Try.f45)) 1=[]:=by kernel_rfl
theorem qzP(n:Nat):qe (qfC n).c (subC [true,false,true,false,true] (qa Try.f45)) (1+qkN (subC [true,false,true,false,false] (qa Try.f45)))=[]:=by kernel_rfl
theorem qxF(n:Nat)(st:St)(r:DEx×St)(h:((qpg n).go st).Is r):DA Try.prog false (.rangeFunc (.tmp 9) ([10]:List Tmp).toArray (subC [true,false,true,false,false] (qa Try.f45)) (subC [true,false,true,false,true] (qa Try.f45))) st r:=Rg.ok (L:=qpg n) (B:=tab) (cs:=qfC n) (lo:=qsM n) (id:=0) rfl rfl (ql (qyW n) qf) (ql (qzP n) qf) (fun _ _ _=>rfl) h
noncomputable def qtl(n:Nat):Nat→St→PT (DEx×St):=fun k st=>match k with
 | 0=>(qpg n).go st
 | _=>.fail
theorem qAo(n:Nat):qe (qfC n).c (qa Try.f45) 0=[(0,.rangeFunc (.tmp 9) ([10]:List Tmp).toArray (subC [true,false,true,false,false] (qa Try.f45)) (subC [true,false,true,false,true] (qa Try.f45)))]:=by kernel_rfl
theorem qAp:Try.f45.body=some (qa Try.f45):=by kernel_rfl
abbrev qph:List It:=[.v (.t 1) T30,.obj (.t 0) true 72 5,.v (.c 0 0) T69,.row (.c 0 2) true T30 30,.row (.c 0 3) true T30 30,.mpi (.c 0 4) true T80 T3]
abbrev qox:List (List It):=[[.v (.t 0) T80,.v (.t 1) T3,.obj (.t 2) true 72 5,.v (.c 0 0) T69,.row (.c 0 2) true T30 30,.row (.c 0 3) true T30 30,.mpi (.c 0 4) true T80 T3]]
noncomputable def qt5(n:Nat)(x:qc qph):Option (qI qox):=runW tab (qfC n) (qtl n) (qa Try.f45) qph 2 22 [.cell 4 80,.cell 5 3] qox x
noncomputable def qAq(n:Nat):Cw Try.prog:=⟨45,2,qph,2,qox,qt5 n,fun _ _ h=>qb2 (B:=tab) (cs:=qfC n) (lo:=qtl n) (rs:=[.cell 4 80,.cell 5 3]) Try.func45 (by kernel_rfl) qAp (by kernel_rfl) (by decide) (ql (qAo n) (all_cons (fun st r h=>qxF n st r h) qf)) h⟩
noncomputable def qdZ(n:Nat):CL Try.prog:=⟨[qCR n],[qAq n],0,fun _=>false⟩
noncomputable def quM(n:Nat):Nat→St→PT (DEx×St):=fun _ _=>.fail
abbrev qfY:List It:=[.nilf (.t 2),.v (.t 17) T25,.v (.t 18) T3,.v (.t 19) T3,.obj (.t 7) false 64 1,.obj (.c 0 0) false 72 5,.v (.c 1 0) T69,.row (.c 1 2) false T30 30,.row (.c 1 3) false T30 30,.mpi (.c 1 4) false T80 T3,.obj (.t 9) false 30 5,.v (.c 5 0) T30]
abbrev qoa:List (DEx×List It):=[]
abbrev qvd:List Ty:=[T80]
noncomputable def qve(n:Nat)(rec:qc qfY→Option (qc qfY⊕qk qoa))(s:qc qfY)(y:qu qvd):Option (qc qfY⊕qk qoa):=(qFb tab (qdZ n) (quM n) [61] (subC [true,true,false,true,false,false,true,true,false,false,true,true,true,true,true,false,false] (qa Try.f52)) (subC [true,true,false,true,false,false,true,true,false,false,true,true,true,true,true,false,true] (qa Try.f52)) 2 (mkS qfY 75 s) (tysD qvd y)).run (qHb 75 qfY qoa (mkS qfY 75 s) rec)
noncomputable def qrn(n:Nat):Rg Try.prog:=⟨.tmp 60,75,qfY,qGK,qoa,rgF (qve n)⟩
theorem qBy(n:Nat):qe (qdZ n).c (subC [true,true,false,true,false,false,true,true,false,false,true,true,true,true,true,false,false] (qa Try.f52)) 2=[]:=by kernel_rfl
theorem qB4(n:Nat):qe (qdZ n).c (subC [true,true,false,true,false,false,true,true,false,false,true,true,true,true,true,false,true] (qa Try.f52)) (2+qkN (subC [true,true,false,true,false,false,true,true,false,false,true,true,true,true,true,false,false] (qa Try.f52)))=[]:=by kernel_rfl
theorem qzQ(n:Nat)(st:St)(r:DEx×St)(h:((qrn n).go st).Is r):DA Try.prog false (.rangeFunc (.tmp 60) ([61]:List Tmp).toArray (subC [true,true,false,true,false,false,true,true,false,false,true,true,true,true,true,false,false] (qa Try.f52)) (subC [true,true,false,true,false,false,true,true,false,false,true,true,true,true,true,false,true] (qa Try.f52))) st r:=Rg.ok (L:=qrn n) (B:=tab) (cs:=qdZ n) (lo:=quM n) (id:=1) rfl rfl (ql (qBy n) qf) (ql (qB4 n) qf) (fun _ _ _=>rfl) h
noncomputable def quN(n:Nat):Nat→St→PT (DEx×St):=fun k st=>match k with
 | 1=>(qrn n).go st
 | _=>.fail
abbrev qkR:List It:=[.nilf (.t 2),.v (.t 17) T25,.v (.t 18) T3,.v (.t 19) T3,.obj (.t 7) false 64 1,.obj (.c 0 0) false 72 5,.v (.c 1 0) T69,.row (.c 1 2) false T30 30,.row (.c 1 3) false T30 30,.mpi (.c 1 4) false T80 T3]
abbrev qob:List (DEx×List It):=[(.exit 0,[.obj (.t 7) false 64 1,.obj (.c 0 0) false 72 5,.v (.c 1 0) T69,.row (.c 1 2) false T30 30,.row (.c 1 3) false T30 30,.mpi (.c 1 4) false T80 T3])]
noncomputable def qvf(n:Nat)(rec:qc qkR→Option (qk qob))(s:qc qkR):Option (qk qob):=(qq tab (qdZ n) (quN n) (subC [true,true,false,true,false,false] (qa Try.f52)) 1 (mkS qkR 75 s)).run (Lp.leaf 75 qkR qob rec)
noncomputable def qro(n:Nat):Lp:=⟨75,qkR,qob,qj n (qvf n)⟩
theorem qB5(n:Nat):qe (qdZ n).c (subC [true,true,false,true,false,false] (qa Try.f52)) 1=[(1,.rangeFunc (.tmp 60) ([61]:List Tmp).toArray (subC [true,true,false,true,false,false,true,true,false,false,true,true,true,true,true,false,false] (qa Try.f52)) (subC [true,true,false,true,false,false,true,true,false,false,true,true,true,true,true,false,true] (qa Try.f52)))]:=by kernel_rfl
theorem qzR(n:Nat)(st:St)(r:DEx×St)(h:((qro n).go st).Is r):DA Try.prog false (.loop (subC [true,true,false,true,false,false] (qa Try.f52))) st r:=Lp.ok (L:=qro n) (B:=tab) (cs:=qdZ n) (lo:=quN n) (id:=0) rfl (ql (qB5 n) (all_cons (fun st r h=>qzQ n st r h) qf)) (fun _ _=>rfl) h
noncomputable def qvg(n:Nat):Nat→St→PT (DEx×St):=fun k st=>match k with
 | 0=>(qro n).go st
 | _=>.fail
theorem qCS(n:Nat):qe (qdZ n).c (qa Try.f52) 0=[(0,.loop (subC [true,true,false,true,false,false] (qa Try.f52)))]:=by kernel_rfl
theorem qCT:Try.f52.body=some (qa Try.f52):=by kernel_rfl
abbrev qrp:List It:=[.v (.t 0) T69,.v (.t 1) T25,.nilf (.t 2)]
abbrev qqM:List (List It):=[[.obj (.t 0) false 72 5,.v (.c 0 0) T69,.row (.c 0 2) false T30 30,.row (.c 0 3) false T30 30,.mpi (.c 0 4) false T80 T3]]
noncomputable def qwy(n:Nat)(x:qc qrp):Option (qI qqM):=runW tab (qdZ n) (qvg n) (qa Try.f52) qrp 3 75 [.tmp 6] qqM x
noncomputable def qCU(n:Nat):Cw Try.prog:=⟨52,3,qrp,1,qqM,qwy n,fun _ _ h=>qb2 (B:=tab) (cs:=qdZ n) (lo:=qvg n) (rs:=[.tmp 6]) Try.func52 (by kernel_rfl) qCT (by kernel_rfl) (by decide) (ql (qCS n) (all_cons (fun st r h=>qzR n st r h) qf)) h⟩
noncomputable def qwZ(n:Nat):CL Try.prog:=⟨[],[qtH n,qjF n,qjH n,qpd n,qq6 n],1,fun _=>false⟩
noncomputable def qBU(n:Nat):Nat→St→PT (DEx×St):=fun _ _=>.fail
theorem qH7(n:Nat):qe (qwZ n).c (qa Try.f53) 0=[]:=by kernel_rfl
theorem qH8:Try.f53.body=some (qa Try.f53):=by kernel_rfl
abbrev qyw:List Ar:=[.d T25]
abbrev qyx:List Ty:=[T25]
noncomputable def qCV(n:Nat)(x:qR qyw):Option (qu qyx):=(qq tab (qwZ n) (qBU n) (qa Try.f53) 0 (qbc qyw 15 x)).run (qcR tab [.tmp 2] qyx)
noncomputable def qH9(n:Nat):Ct Try.prog:=⟨53,qyw,.ts qyx,qCV n,fun _ _ h=>qcV (B:=tab) (cs:=qwZ n) (lo:=qBU n) (rs:=[.tmp 2]) Try.func53 (by kernel_rfl) qH8 (by kernel_rfl) (by decide) (ql (qH7 n) qf) h⟩
noncomputable def quO(n:Nat):CL Try.prog:=⟨[qya n,qwf n],[],0,fun _=>false⟩
noncomputable def qzv(n:Nat):Nat→St→PT (DEx×St):=fun _ _=>.fail
theorem qF0(n:Nat):qe (quO n).c (qa Try.f49) 0=[]:=by kernel_rfl
theorem qF1:Try.f49.body=some (qa Try.f49):=by kernel_rfl
abbrev quP:List It:=[.v (.t 0) T80,.obj (.t 1) true 69 2,.v (.c 0 0) T69]
abbrev qtI:List (List It):=[[.v (.t 0) T4,.obj (.t 1) true 69 2,.v (.c 0 0) T69]]
noncomputable def qAr(n:Nat)(x:qc quP):Option (qI qtI):=runW tab (quO n) (qzv n) (qa Try.f49) quP 2 16 [.tmp 3] qtI x
noncomputable def qAs(n:Nat):Cw Try.prog:=⟨49,2,quP,1,qtI,qAr n,fun _ _ h=>qb2 (B:=tab) (cs:=quO n) (lo:=qzv n) (rs:=[.tmp 3]) Try.func49 (by kernel_rfl) qF1 (by kernel_rfl) (by decide) (ql (qF0 n) qf) h⟩
noncomputable def qbS(n:Nat):CL Try.prog:=⟨[],[qAs n],0,fun _=>false⟩
noncomputable def qjI(n:Nat):Nat→St→PT (DEx×St):=fun _ _=>.fail
abbrev qcG:List It:=[.v (.t 0) T93,.v (.t 7) T3,.v (.t 8) T3,.fnc (.t 1) 49 [.box true 69 2],.v (.c 0 0) T69]
abbrev qd7:List (DEx×List It):=[(.exit 0,[.fnc (.t 1) 49 [.box true 69 2],.v (.c 0 0) T69]),(.ret,[.v (.t 4) T3,.fnc (.t 1) 49 [.box true 69 2],.v (.c 0 0) T69])]
noncomputable def qjY(n:Nat)(rec:qc qcG→Option (qk qd7))(s:qc qcG):Option (qk qd7):=(qq tab (qbS n) (qjI n) (subC [true,false,true,false,false] (qa Try.f69)) 1 (mkS qcG 19 s)).run (Lp.leaf 19 qcG qd7 rec)
noncomputable def qgJ(n:Nat):Lp:=⟨19,qcG,qd7,qj n (qjY n)⟩
theorem qqi(n:Nat):qe (qbS n).c (subC [true,false,true,false,false] (qa Try.f69)) 1=[]:=by kernel_rfl
theorem qpi(n:Nat)(st:St)(r:DEx×St)(h:((qgJ n).go st).Is r):DA Try.prog false (.loop (subC [true,false,true,false,false] (qa Try.f69))) st r:=Lp.ok (L:=qgJ n) (B:=tab) (cs:=qbS n) (lo:=qjI n) (id:=0) rfl (ql (qqi n) qf) (fun _ _=>rfl) h
noncomputable def qjZ(n:Nat):Nat→St→PT (DEx×St):=fun k st=>match k with
 | 0=>(qgJ n).go st
 | _=>.fail
theorem qqN(n:Nat):qe (qbS n).c (qa Try.f69) 0=[(0,.loop (subC [true,false,true,false,false] (qa Try.f69)))]:=by kernel_rfl
theorem qqO:Try.f69.body=some (qa Try.f69):=by kernel_rfl
abbrev qgK:List It:=[.v (.t 0) T93,.fnc (.t 1) 49 [.box true 69 2],.v (.c 0 0) T69]
abbrev qgq:List (List It):=[[.v (.t 0) T3,.obj (.t 1) true 69 2,.v (.c 0 0) T69]]
noncomputable def qka(n:Nat)(x:qc qgK):Option (qI qgq):=runW tab (qbS n) (qjZ n) (qa Try.f69) qgK 2 19 [.tmp 4] qgq x
noncomputable def qqP(n:Nat):Cw Try.prog:=⟨69,2,qgK,1,qgq,qka n,fun _ _ h=>qb2 (B:=tab) (cs:=qbS n) (lo:=qjZ n) (rs:=[.tmp 4]) Try.func69 (by kernel_rfl) qqO (by kernel_rfl) (by decide) (ql (qqN n) (all_cons (fun st r h=>qpi n st r h) qf)) h⟩
noncomputable def qfD(n:Nat):CL Try.prog:=⟨[],[qAs n,qqP n],0,fun _=>false⟩
noncomputable def qjd(n:Nat):Nat→St→PT (DEx×St):=fun _ _=>.fail
theorem qpz(n:Nat):qe (qfD n).c (qa Try.f48) 0=[]:=by kernel_rfl
theorem qpA:Try.f48.body=some (qa Try.f48):=by kernel_rfl
abbrev qfE:List It:=[.v (.t 0) T93,.fnc (.t 1) 49 [.box true 69 2],.v (.c 0 0) T69]
abbrev qft:List (List It):=[[.v (.t 0) T4,.obj (.t 1) true 69 2,.v (.c 0 0) T69]]
noncomputable def qju(n:Nat)(x:qc qfE):Option (qI qft):=runW tab (qfD n) (qjd n) (qa Try.f48) qfE 2 9 [.tmp 4] qft x
noncomputable def qpB(n:Nat):Cw Try.prog:=⟨48,2,qfE,1,qft,qju n,fun _ _ h=>qb2 (B:=tab) (cs:=qfD n) (lo:=qjd n) (rs:=[.tmp 4]) Try.func48 (by kernel_rfl) qpA (by kernel_rfl) (by decide) (ql (qpz n) qf) h⟩
noncomputable def qw0(n:Nat):CL Try.prog:=⟨[qCO n,qH9 n],[qpB n,qCU n],4,fun _=>false⟩
noncomputable def qBV(n:Nat):Nat→St→PT (DEx×St):=fun _ _=>.fail
theorem qIa(n:Nat):qe (qw0 n).c (qa Try.f31) 0=[]:=by kernel_rfl
theorem qIb:Try.f31.body=some (qa Try.f31):=by kernel_rfl
abbrev qw1:List It:=[.v (.t 0) T24,.v (.t 1) T25,.v (.t 2) T93]
abbrev qvM:List (List It):=[[.v (.t 1) T33,.obj (.t 0) false 72 5,.v (.c 0 0) T69,.row (.c 0 2) false T30 30,.row (.c 0 3) false T30 30,.mpi (.c 0 4) false T80 T3],[.nilp (.t 0),.v (.t 1) T33]]
noncomputable def qCW(n:Nat)(x:qc qw1):Option (qI qvM):=runW tab (qw0 n) (qBV n) (qa Try.f31) qw1 3 25 [.tmp 6,.tmp 7] qvM x
noncomputable def qCX(n:Nat):Cw Try.prog:=⟨31,3,qw1,2,qvM,qCW n,fun _ _ h=>qb2 (B:=tab) (cs:=qw0 n) (lo:=qBV n) (rs:=[.tmp 6,.tmp 7]) Try.func31 (by kernel_rfl) qIb (by kernel_rfl) (by decide) (ql (qIa n) qf) h⟩
noncomputable def qtJ(n:Nat):CL Try.prog:=⟨[],[qCX n,qD7 n,qCM n],4,fun _=>false⟩
noncomputable def qyy(n:Nat):Nat→St→PT (DEx×St):=fun _ _=>.fail
theorem qFp(n:Nat):qe (qtJ n).c (qa Try.f12) 0=[]:=by kernel_rfl
theorem qFq:Try.f12.body=some (qa Try.f12):=by kernel_rfl
abbrev quQ:List Ar:=[.d T24,.d T25]
abbrev quR:List Ty:=[T32,T33]
noncomputable def qzw(n:Nat)(x:qR quQ):Option (qu quR):=(qq tab (qtJ n) (qyy n) (qa Try.f12) 0 (qbc quQ 26 x)).run (qcR tab [.tmp 4,.tmp 5] quR)
noncomputable def qzx(n:Nat):Ct Try.prog:=⟨12,quQ,.ts quR,qzw n,fun _ _ h=>qcV (B:=tab) (cs:=qtJ n) (lo:=qyy n) (rs:=[.tmp 4,.tmp 5]) Try.func12 (by kernel_rfl) qFq (by kernel_rfl) (by decide) (ql (qFp n) qf) h⟩
noncomputable def quS(n:Nat):CL Try.prog:=⟨[],[qCX n,qD7 n],4,fun _=>false⟩
noncomputable def qzy(n:Nat):Nat→St→PT (DEx×St):=fun _ _=>.fail
theorem qF2(n:Nat):qe (quS n).c (qa Try.f13) 0=[]:=by kernel_rfl
theorem qF3:Try.f13.body=some (qa Try.f13):=by kernel_rfl
abbrev qvN:List Ar:=[.d T24,.d T25]
abbrev qvO:List Ty:=[T32,T33]
noncomputable def qAt(n:Nat)(x:qR qvN):Option (qu qvO):=(qq tab (quS n) (qzy n) (qa Try.f13) 0 (qbc qvN 22 x)).run (qcR tab [.tmp 4,.tmp 5] qvO)
noncomputable def qAu(n:Nat):Ct Try.prog:=⟨13,qvN,.ts qvO,qAt n,fun _ _ h=>qcV (B:=tab) (cs:=quS n) (lo:=qzy n) (rs:=[.tmp 4,.tmp 5]) Try.func13 (by kernel_rfl) qF3 (by kernel_rfl) (by decide) (ql (qF2 n) qf) h⟩
end Go.Proofs.Ytcjgodgpaokbnaa
/- Printed: what functions of the program compute. -/
namespace Go.Proofs.Ytcjgodgpaokbnaa
open Go Go.Proofs Go.RowKit
set_option maxRecDepth 20000
noncomputable def qp9(n:Nat):CL Try.prog:=⟨[qzx n,qAu n,qsH n,qzN n],[],0,fun _=>false⟩
noncomputable def qt6(n:Nat):Nat→St→PT (DEx×St):=fun _ _=>.fail
theorem qBz(n:Nat):qe (qp9 n).c (qa Try.f10) 0=[]:=by kernel_rfl
theorem qBA:Try.f10.body=some (qa Try.f10):=by kernel_rfl
abbrev qqQ:List Ar:=[]
abbrev qqR:List Ty:=[T4]
noncomputable def quT(n:Nat)(x:qR qqQ):Option (qu qqR):=(qq tab (qp9 n) (qt6 n) (qa Try.f10) 0 (qbc qqQ 39 x)).run (qcR tab [.tmp 0] qqR)
noncomputable def qBB(n:Nat):Ct Try.prog:=⟨10,qqQ,.ts qqR,quT n,fun _ _ h=>qcV (B:=tab) (cs:=qp9 n) (lo:=qt6 n) (rs:=[.tmp 0]) Try.func10 (by kernel_rfl) qBA (by kernel_rfl) (by decide) (ql (qBz n) qf) h⟩
end Go.Proofs.Ytcjgodgpaokbnaa
/- Printed: what functions of the program compute. -/
namespace Go.Proofs.Ytcjgodgpaokbnaa
open Go Go.Proofs Go.RowKit
set_option maxRecDepth 20000
end Go.Proofs.Ytcjgodgpaokbnaa
