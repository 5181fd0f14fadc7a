/- Texts DnF, DnG, DnH, DnI, DnE, DnJ, DnK in one. -/
import Derived.Test.YtcjgodgpaokbnaaNd
import Derived.Test.YtcjgodgpaokbnaaDnD
import Derived.Test.YtcjgodgpaokbnaaKc
/- Printed: what functions of the program compute. -/
set_option linter.constructorNameAsVariable false
set_option linter.unusedSimpArgs false
set_option linter.unusedVariables false
set_option linter.unusedSectionVars false
namespace Go.Proofs.Ytcjgodgpaokbnaa
open Go Go.Proofs Go.RowKit
set_option maxRecDepth 20000
noncomputable def qj7(n:Nat):CL Try.prog:=⟨[],[],0,fun _=>false⟩
noncomputable def qoM(n:Nat):Nat→St→PT (DEx×St):=fun _ _=>.fail
theorem qvF(n:Nat):qe (qj7 n).c (qa Try.f71) 0=[]:=by kernel_rfl
theorem qvG:Try.f71.body=some (qa Try.f71):=by kernel_rfl
abbrev qj8:List It:=[.raw (.t 0)]
abbrev qjD:List (List It):=[[.row (.t 0) false T30 30]]
noncomputable def qhT(n:Nat)(x:qc qj8):Option (qC qjD):=runW tab (qj7 n) (qoM n) (qa Try.f71) qj8 1 8 [.tmp 2] qjD x
noncomputable def qvH(n:Nat):Cw Try.prog:=⟨71,1,qj8,1,qjD,qhT n,fun _ _ h=>qbT (B:=tab) (cs:=qj7 n) (lo:=qoM n) (rs:=[.tmp 2]) Try.func71 (by kernel_rfl) qvG (by kernel_rfl) (by decide) (ql (qvF n) qf) h⟩
noncomputable def qmm(n:Nat):CL Try.prog:=⟨[],[],0,fun _=>false⟩
noncomputable def qq0(n:Nat):Nat→St→PT (DEx×St):=fun _ _=>.fail
theorem qxP(n:Nat):qe (qmm n).c (qa Try.f71) 0=[]:=by kernel_rfl
theorem qxQ:Try.f71.body=some (qa Try.f71):=by kernel_rfl
abbrev qmn:List It:=[.v (.t 0) T25]
abbrev qiR:List (List It):=[[.row (.t 0) false T30 30]]
noncomputable def qju(n:Nat)(x:qc qmn):Option (qC qiR):=runW tab (qmm n) (qq0 n) (qa Try.f71) qmn 1 8 [.tmp 2] qiR x
noncomputable def qxR(n:Nat):Cw Try.prog:=⟨71,1,qmn,1,qiR,qju n,fun _ _ h=>qbT (B:=tab) (cs:=qmm n) (lo:=qq0 n) (rs:=[.tmp 2]) Try.func71 (by kernel_rfl) qxQ (by kernel_rfl) (by decide) (ql (qxP n) qf) h⟩
noncomputable def qlq(n:Nat):CL Try.prog:=⟨[],[],0,fun _=>false⟩
noncomputable def qqF(n:Nat):Nat→St→PT (DEx×St):=fun _ _=>.fail
theorem qxu(n:Nat):qe (qlq n).c (qa Try.f63) 0=[]:=by kernel_rfl
theorem qxv:Try.f63.body=some (qa Try.f63):=by kernel_rfl
abbrev qlr:List It:=[.raw (.t 0)]
abbrev qkR:List (List It):=[[.row (.t 0) false T77 77]]
noncomputable def qi9(n:Nat)(x:qc qlr):Option (qC qkR):=runW tab (qlq n) (qqF n) (qa Try.f63) qlr 1 8 [.tmp 2] qkR x
noncomputable def qxw(n:Nat):Cw Try.prog:=⟨63,1,qlr,1,qkR,qi9 n,fun _ _ h=>qbT (B:=tab) (cs:=qlq n) (lo:=qqF n) (rs:=[.tmp 2]) Try.func63 (by kernel_rfl) qxv (by kernel_rfl) (by decide) (ql (qxu n) qf) h⟩
noncomputable def qop(n:Nat):CL Try.prog:=⟨[],[],0,fun _=>false⟩
noncomputable def qs6(n:Nat):Nat→St→PT (DEx×St):=fun _ _=>.fail
theorem qzZ(n:Nat):qe (qop n).c (qa Try.f63) 0=[]:=by kernel_rfl
theorem qz0:Try.f63.body=some (qa Try.f63):=by kernel_rfl
abbrev qoq:List It:=[.v (.t 0) T28]
abbrev qjY:List (List It):=[[.row (.t 0) false T77 77]]
noncomputable def qk1(n:Nat)(x:qc qoq):Option (qC qjY):=runW tab (qop n) (qs6 n) (qa Try.f63) qoq 1 8 [.tmp 2] qjY x
noncomputable def qz1(n:Nat):Cw Try.prog:=⟨63,1,qoq,1,qjY,qk1 n,fun _ _ h=>qbT (B:=tab) (cs:=qop n) (lo:=qs6 n) (rs:=[.tmp 2]) Try.func63 (by kernel_rfl) qz0 (by kernel_rfl) (by decide) (ql (qzZ n) qf) h⟩
end Go.Proofs.Ytcjgodgpaokbnaa
/- Printed: slices.Clone. -/
namespace Go.Proofs.Ytcjgodgpaokbnaa
open Go Go.Proofs Go.RowKit
theorem qxS(n:Nat)(c:Nat):qhT n (.slice none 0 c,())=some ([],()):=by kernel_rfl
theorem qxT(n:Nat)(a:Addr)(c:Nat):qhT n (.slice (some a) 0 c,())=some ([],()):=by kernel_rfl
noncomputable def qrH(n:Nat):Cw Try.prog:=qKS 71 T30 qiR (qhT n) (qju n) ([],()) (fun v y m0 h=>(qvH n).okk (x:=(v,())) (y:=y) h m0 (qCr m0)) (fun l y m0 h=>(qxR n).okk (x:=(l,())) (y:=y) h m0 (qCr m0)) (fun A c=>by cases A with | none=>exact qxS n c | some a=>exact qxT n a c)
noncomputable def qxU(n:Nat):=(qrH n).M
end Go.Proofs.Ytcjgodgpaokbnaa
/- Printed: slices.Clone. -/
namespace Go.Proofs.Ytcjgodgpaokbnaa
open Go Go.Proofs Go.RowKit
theorem qz2(n:Nat)(c:Nat):qi9 n (.slice none 0 c,())=some ([],()):=by kernel_rfl
theorem qz3(n:Nat)(a:Addr)(c:Nat):qi9 n (.slice (some a) 0 c,())=some ([],()):=by kernel_rfl
noncomputable def qtz(n:Nat):Cw Try.prog:=qKS 63 T77 qjY (qi9 n) (qk1 n) ([],()) (fun v y m0 h=>(qxw n).okk (x:=(v,())) (y:=y) h m0 (qCr m0)) (fun l y m0 h=>(qz1 n).okk (x:=(l,())) (y:=y) h m0 (qCr m0)) (fun A c=>by cases A with | none=>exact qz2 n c | some a=>exact qz3 n a c)
noncomputable def qz4(n:Nat):=(qtz n).M
end Go.Proofs.Ytcjgodgpaokbnaa
/- The iterator over the spots of a request, by hand. -/
namespace Go.Proofs.Ytcjgodgpaokbnaa
open Go Go.Proofs Go.RowKit
set_option maxHeartbeats 4000000
set_option maxRecDepth 20000
def qrP(hut:Int)(lo:Int):Nat→List (Int×Int)
 | 0=>[]
 | n+1=>(hut,lo)::qrP hut (lo+1) n
def qBz(s:Int×(Int×Int)):List (Int×Int):=qrP s.1 s.2.1 (s.2.2+1-s.2.1).toNat
def qfy:List (Int×(Int×Int))→List (Int×Int)
 | []=>[]
 | s::l=>qBz s++qfy l
def qD9(l:List (Int×(Int×Int))):Bool:=Nat.ble l.length 1000000&&l.all fun s=>decide (-9223372036854775808≤s.2.1)&&decide (s.2.2<9223372036854775807)
def qGI(y:Int×Int):qt [T80]:=(y,())
theorem qIf(l:List (Int×Int)):((l.map qGI).map (tysA [T80])).length=l.length:=by rw[List.length_map,List.length_map]
def qzw(l:List (Int×(Int×Int))):Option (List (qt [T80])):=cond (qD9 l) (some ((qfy l).map qGI)) none
def qpi(l:List (Int×(Int×Int)))(k:Nat):Nat:=(qfy (l.take k)).length
theorem qAX(h:Int):∀(n:Nat) (lo:Int),(qrP h lo n).length=n
 | 0,_=>rfl
 | n+1,lo=>by simp[qrP,qAX h n]
theorem qGJ(h:Int):∀(n:Nat) (lo:Int) (j:Nat),j<n→(qrP h lo n)[j]?=some (h,lo+j)
 | n+1,lo,0,_=>by simp[qrP]
 | n+1,lo,j+1,hj=>by
  simp only[qrP,List.getElem?_cons_succ]
  rw[qGJ h n (lo+1) j (by omega)]
  congr 2
  omega
theorem qCH:∀(l m:List (Int×(Int×Int))),qfy (l++m)=qfy l++qfy m
 | [],_=>rfl
 | s::l,m=>by simp[qfy,qCH l m]
theorem qLv(l:List (Int×(Int×Int)))(k:Nat)(hk:k<l.length):qpi l (k+1)=qpi l k+(l[k].2.2+1-l[k].2.1).toNat:=by
 unfold qpi
 rw[List.take_succ_eq_append_getElem hk,qCH]
 simp[qfy,qBz,qAX]
theorem qMw(l:List (Int×(Int×Int))):qpi l l.length=(qfy l).length:=by unfold qpi;simp
theorem qNR(l:List (Int×(Int×Int)))(k:Nat)(hk:k<l.length)(j:Nat)(hj:j<(l[k].2.2+1-l[k].2.1).toNat):(qfy l)[qpi l k+j]?=some (l[k].1,l[k].2.1+j):=by
 have h1:l=l.take k++l[k]::l.drop (k+1):=by simp
 have h2:qfy l=qfy (l.take k)++(qBz l[k]++qfy (l.drop (k+1))):=by
  conv=>lhs;rw[h1]
  rw[qCH];rfl
 rw[h2,List.getElem?_append_right (by unfold qpi;omega),show qpi l k+j-(qfy (l.take k)).length=j by unfold qpi;omega,List.getElem?_append_left (by unfold qBz;rw[qAX];exact hj)]
 exact qGJ _ _ _ _ hj
theorem qOv{a b:Int}(h:a=b):[AV.int a]=[AV.int b]:=by rw[h]
theorem qNS(x:qt [T30])(l:List (qt [T80]))(h:qzw x.1.2.2.2.2=some l):qF8 Try.prog false 97 [] (qnb [T30] x) (l.map (tysA [T80])):=by
 obtain ⟨⟨ma,mb,mc,md,ss⟩,u⟩:=x
 change List (Int×(Int×Int)) at ss
 unfold qzw at h
 cases hb:qD9 ss with
 | false=>simp only at h;rw[hb] at h;cases h
 | true =>
 simp only at h;rw[hb] at h
 injection h with h
 subst h
 unfold qD9 at hb
 simp only[Bool.and_eq_true,Nat.ble_eq,List.all_eq_true,decide_eq_true_eq] at hb
 obtain ⟨hlen,hbd⟩:=hb
 refine ⟨enters_of Try.func97 (by kernel_rfl) rfl,fun lp T J Jx X hcJ hcx hone hy=>?_⟩
 have hyk:∀k (hk:k<ss.length) (j:Nat),j<(ss[k].2.2+1-ss[k].2.1).toNat→qF7 Try.prog T lp [.agg [.int ss[k].1,.int (ss[k].2.1+j)]] (J (qpi ss k+j)) (J (qpi ss k+j+1)) Jx:=fun k hk j hj=>by
  have h1:=qNR ss k hk j hj
  have h2:=(List.getElem?_eq_some_iff.1 h1).1
  have h3:=hy (qpi ss k+j) (by rw[qIf];exact h2)
  rw[List.getElem_map,List.getElem_map,(List.getElem?_eq_some_iff.1 h1).2] at h3
  exact h3
 have hY:=Lib.hid hyk
 have hN:=Lib.hid (qLv ss)
 have hN0:qpi ss 0=0:=rfl
 have hNl:qpi ss ss.length=(((qfy ss).map qGI).map (tysA [T80])).length:=by rw[qMw,qIf]
 show MCT Try.prog T 97 [.val (.func (.yield lp) #[] #[]),.rp [.val (.int .i64 ma),.val (.int .i64 mb),.val (.int .i64 mc),.val (.int .i64 md),.sl 3 (ss.map fun s=>[.val (.int .i64 s.1),.val (.int .i64 s.2.1),.val (.int .i64 s.2.2)])]] [.nodef,.ghost X (J 0)] fun _ H'=>∃X',HE.ghost X' (J (((qfy ss).map qGI).map (tysA [T80])).length)∈H'∨HE.ghost X' Jx∈H'
 rw[← hNl,← hN0]
 clear hy hyk hNl
 generalize hrr:(ss.map fun s=>[AV.val (.int .i64 s.1),AV.val (.int .i64 s.2.1),AV.val (.int .i64 s.2.2)])=rr
 have hrl:rr.length=ss.length:=by rw[← hrr];simp
 have hra:∀k (hk:k<ss.length),rr[k]?=some [.int ss[k].1,.int ss[k].2.1,.int ss[k].2.2]:=fun k hk=>by rw[← hrr,List.getElem?_map,List.getElem?_eq_getElem hk];rfl
 (refine MCT.of Try.func97 (by kernel_rfl) rfl (by simp only[Try.ntmps97,List.length_cons,List.length_nil,Nat.reduceAdd,Nat.reduceSub,List.replicate_succ,List.replicate_zero,List.cons_append,List.nil_append];rfl) fun w0 S hM hT=>?_;have hF:Wf Fence.wide:=.inl rfl)
 (repeat' (first | ((first | with_reducible refine AL.id_ ?_ | with_reducible refine AE.id_ ?_);first | refine AL.build0 hF rfl rfl rfl (fun b=>⟨_,(by simp only[AV.put];rfl),?_⟩) | refine W.s rfl rfl (by first | exact AY.bx rfl (by simp only[evO,AV.get];rfl) rfl | exact AY.mkFn rfl (by simp only[List.map_cons,List.map_nil,evO,AV.get];rfl) | exact AY.mkFn1 rfl (by simp only[evO,AV.get];rfl) (by simp only[List.map_cons,List.map_nil,evO,AV.get];rfl) | exact hEQ rfl rfl rfl | exact Step2.sound (by first | (((first | (apply Step2.a;constructor) | (apply Step2.b;constructor))<;>first | infer_instance | skip)<;>(first | infer_instance | (refine w64c ?_;omega) | (refine qBX ?_;omega) | (refine qyM ?_;omega) | (refine qyN ?_;omega) | (refine qBU ?_;omega) | ((repeat (first | exact .head _ | refine .tail _ ?_));done) | assumption | (simp only[List.drop_succ_cons,List.drop_zero,List.length_map,Nat.zero_add,Nat.mul_one];rfl) | rfl | omega | (simp;done))) | fail) rfl | exact AY.call rfl rfl _ rfl (by fail) | exact AY.slice1 rfl rfl rfl (by rfl) (by first | (simp;done) | fail) | exact AY.callF rfl _ _ rfl _ rfl (by fail) | exact AY.old1k 0 rfl rfl rfl (by first | assumption | rfl) | exact AY.old1k 1 rfl rfl rfl (by first | assumption | rfl) | exact AY.old1k 2 rfl rfl rfl (by first | assumption | rfl) | exact AY.oldNk 0 rfl rfl rfl (by first | omega | (simp;omega)) (by first | assumption | rfl) | exact AY.oldNk 1 rfl rfl rfl (by first | omega | (simp;omega)) (by first | assumption | rfl)) (by simp only[AV.put];rfl) ?_ | (refine AL.nilK (hK _ _ ?_);clear hK K) | (refine AE.nil (hK _ ?_);clear hK K) | refine W.k rfl rfl (by simp only[AV.put];rfl) ?_ | refine AL.unguardS rfl rfl ?_ | refine AL.al hF rfl rfl rfl (by first | (simp only[Value.cells,List.map_cons,List.map_nil];rfl) | rfl) (fun b=>⟨_,(by simp only[AV.put];rfl),?_⟩) | refine AL.st1 hF rfl rfl rfl rfl (by simp only[evO,AV.get];rfl) (by first | exact qr4 | exact qr5 | exact qr6 | exact qr7 | exact qr8 | exact qr9 | exact qsa | exact qsb) (by rfl) rfl (by rfl) (by first | (simp;done) | (simp;omega) | omega) (by simp only[List.set];rfl) ?_ | refine AL.stW hF rfl rfl rfl rfl (by simp only[evO,AV.get];rfl) (by first | exact qr4 | exact qr5 | exact qr6 | exact qr7 | exact qr8 | exact qr9 | exact qsa | exact qsb) (by rfl) (by rfl) (by rfl) (by first | rfl | simp) (by simp only[List.set];rfl) ?_) | (with_reducible refine Awp.id_ ?_;first | refine Awp.seq ?_ | refine Awp.regionK (by first | (simp only[AV.putO,AV.put];rfl) | rfl) (fun K hK=>?_) | refine Awp.drawE (by first | (simp only[AV.putO,AV.put];rfl) | rfl) mixed rfl (by kernel_rfl) (fun K hK=>?_) | refine Awp.block ?_ | refine Awp.skip ?_ | refine Awp.exit ?_ | refine Awp.ret ?_ | refine Awp.condT rfl ?_ | refine Awp.condF rfl ?_) | refine qwi ?_ | refine qwj ?_ | refine qwk ?_ | refine qq3 ?_ | refine qq4 ?_ | refine qq5 ?_ | refine qq6 rfl ?_ | ((first | ((first | with_reducible refine AL.id_ ?_ | with_reducible refine AE.id_ ?_);(fail_if_success refine W.on rfl ?_);refine W.p rfl rfl (by simp only[AV.put];rfl) (by simp only[AV.put];rfl) (fun hb=>?_) (fun hb=>?_)) | (with_reducible refine Awp.id_ ?_;refine Awp.cond _ rfl (fun hb=>?_) (fun hb=>?_)))<;>(try simp only[z1,z2,z3,z4,z5,z6,z7,z8,y5,y6,y7,y8,z9,x1,x2,x3,x4,x5,x6,x7,x8] at hb;try (exfalso;omega)))))
 refine Awp.loopM [4,5,10,11,12,13,14,15,16,17,18,19,20,21,22,23,24,25,26,27,28,29,30] [9] (fun n vs H=>∃(k:Nat) (X':Nat→Prop),n+k=ss.length∧vs=[.int k]∧H=[.nodef,.ghost X' (J (qpi ss k))]) ss.length ⟨0,X,rfl,rfl,rfl⟩ ?_
 rintro n ju vs H ⟨k,X',hk,rfl,rfl⟩
 (refine Awp.slots (by first | (simp only[putl,mask,AV.put];rfl) | rfl) ?_)
 by_cases hlt:k<ss.length
 ·have hrow:=hra k hlt
  have hYk:=Lib.hid (hY.out k hlt)
  have hNk:=hN.out k hlt
  obtain ⟨hb1,hb2⟩:=hbd _ (List.getElem_mem hlt)
  generalize ss[k].1=hu at *
  generalize ss[k].2.1=lo at *
  generalize ss[k].2.2=hi at *
  (repeat' (first | ((first | with_reducible refine AL.id_ ?_ | with_reducible refine AE.id_ ?_);first | refine AL.build0 hF rfl rfl rfl (fun b=>⟨_,(by simp only[AV.put];rfl),?_⟩) | refine W.s rfl rfl (by first | exact AY.bx rfl (by simp only[evO,AV.get];rfl) rfl | exact AY.mkFn rfl (by simp only[List.map_cons,List.map_nil,evO,AV.get];rfl) | exact AY.mkFn1 rfl (by simp only[evO,AV.get];rfl) (by simp only[List.map_cons,List.map_nil,evO,AV.get];rfl) | exact hEQ rfl rfl rfl | exact Step2.sound (by first | (((first | (apply Step2.a;constructor) | (apply Step2.b;constructor))<;>first | infer_instance | skip)<;>(first | infer_instance | (refine w64c ?_;omega) | (refine qBX ?_;omega) | (refine qyM ?_;omega) | (refine qyN ?_;omega) | (refine qBU ?_;omega) | ((repeat (first | exact .head _ | refine .tail _ ?_));done) | assumption | (simp only[List.drop_succ_cons,List.drop_zero,List.length_map,Nat.zero_add,Nat.mul_one];rfl) | rfl | omega | (simp;done))) | fail) rfl | exact AY.call rfl rfl _ rfl (by fail) | exact AY.slice1 rfl rfl rfl (by rfl) (by first | (simp;done) | fail) | exact AY.callF rfl _ _ rfl _ rfl (by fail) | exact AY.old1k 0 rfl rfl rfl (by first | assumption | rfl) | exact AY.old1k 1 rfl rfl rfl (by first | assumption | rfl) | exact AY.old1k 2 rfl rfl rfl (by first | assumption | rfl) | exact AY.oldNk 0 rfl rfl rfl (by first | omega | (simp;omega)) (by first | assumption | rfl) | exact AY.oldNk 1 rfl rfl rfl (by first | omega | (simp;omega)) (by first | assumption | rfl)) (by simp only[AV.put];rfl) ?_ | (refine AL.nilK (hK _ _ ?_);clear hK K) | (refine AE.nil (hK _ ?_);clear hK K) | refine W.k rfl rfl (by simp only[AV.put];rfl) ?_ | refine AL.unguardS rfl rfl ?_ | refine AL.al hF rfl rfl rfl (by first | (simp only[Value.cells,List.map_cons,List.map_nil];rfl) | rfl) (fun b=>⟨_,(by simp only[AV.put];rfl),?_⟩) | refine AL.st1 hF rfl rfl rfl rfl (by simp only[evO,AV.get];rfl) (by first | exact qr4 | exact qr5 | exact qr6 | exact qr7 | exact qr8 | exact qr9 | exact qsa | exact qsb) (by rfl) rfl (by rfl) (by first | (simp;done) | (simp;omega) | omega) (by simp only[List.set];rfl) ?_ | refine AL.stW hF rfl rfl rfl rfl (by simp only[evO,AV.get];rfl) (by first | exact qr4 | exact qr5 | exact qr6 | exact qr7 | exact qr8 | exact qr9 | exact qsa | exact qsb) (by rfl) (by rfl) (by rfl) (by first | rfl | simp) (by simp only[List.set];rfl) ?_) | (with_reducible refine Awp.id_ ?_;first | refine Awp.seq ?_ | refine Awp.regionK (by first | (simp only[AV.putO,AV.put];rfl) | rfl) (fun K hK=>?_) | refine Awp.drawE (by first | (simp only[AV.putO,AV.put];rfl) | rfl) mixed rfl (by kernel_rfl) (fun K hK=>?_) | refine Awp.block ?_ | refine Awp.skip ?_ | refine Awp.exit ?_ | refine Awp.ret ?_ | refine Awp.condT rfl ?_ | refine Awp.condF rfl ?_) | refine qwi ?_ | refine qwj ?_ | refine qwk ?_ | refine qq3 ?_ | refine qq4 ?_ | refine qq5 ?_ | refine qq6 rfl ?_ | ((first | ((first | with_reducible refine AL.id_ ?_ | with_reducible refine AE.id_ ?_);(fail_if_success refine W.on rfl ?_);refine W.p rfl rfl (by simp only[AV.put];rfl) (by simp only[AV.put];rfl) (fun hb=>?_) (fun hb=>?_)) | (with_reducible refine Awp.id_ ?_;refine Awp.cond _ rfl (fun hb=>?_) (fun hb=>?_)))<;>(try simp only[z1,z2,z3,z4,z5,z6,z7,z8,y5,y6,y7,y8,z9,x1,x2,x3,x4,x5,x6,x7,x8] at hb;try (exfalso;omega)))))
  refine Awp.loopM [16,17,18,19,20,21,22,23,24,25,26,27,28,29] [5] (fun n vs H=>∃(j:Nat) (X3:Nat→Prop),n+j=(hi+1-lo).toNat∧vs=[.int (lo+j)]∧H=[.blk b 77 [.int hu,.int lo,.int hi],.nodef,.ghost X3 (J (qpi ss k+j))]) (hi+1-lo).toNat ⟨0,X',by omega,by simp;rfl,rfl⟩ ?_
  rintro n1 ju1 vs1 H1 ⟨j,X3,hj,rfl,rfl⟩
  (refine Awp.slots (by first | (simp only[putl,mask,AV.put];rfl) | rfl) ?_)
  by_cases hlt2:j<(hi+1-lo).toNat
  ·have hle:lo+j≤hi:=by omega
   have hye:=hYk.out j hlt2
   (repeat' (first | ((first | with_reducible refine AL.id_ ?_ | with_reducible refine AE.id_ ?_);first | refine AL.build0 hF rfl rfl rfl (fun b=>⟨_,(by simp only[AV.put];rfl),?_⟩) | refine W.s rfl rfl (by first | exact AY.bx rfl (by simp only[evO,AV.get];rfl) rfl | exact AY.mkFn rfl (by simp only[List.map_cons,List.map_nil,evO,AV.get];rfl) | exact AY.mkFn1 rfl (by simp only[evO,AV.get];rfl) (by simp only[List.map_cons,List.map_nil,evO,AV.get];rfl) | exact AY.build rfl (by simp only[List.map_cons,List.map_nil,evO,AV.get];rfl) (by simp only[List.map_cons,List.map_nil];repeat (first | exact Places.nil | apply Places.cons)) (by first | (simp only[zip3,qf9,qiJ,qdO,qN,ql3,List.map_cons,List.map_nil,List.length_cons,List.length_nil,List.take_succ_cons,List.take_zero,List.drop_succ_cons,List.drop_zero,List.replicate_succ,List.replicate_zero,List.cons_append,List.nil_append,List.append_nil,List.drop_nil,List.take_nil,List.toList_toArray,Nat.sub_zero,Nat.reduceSub,Nat.reduceAdd,Nat.reduceMul,Nat.zero_mul,Nat.one_mul,Nat.mul_one,Nat.zero_add,Nat.le_refl,Nat.reduceLeDiff,and_self,true_and,and_true,if_true];rfl) | rfl) | exact AY.buildS rfl (by simp only[List.map_cons,List.map_nil,evO,AV.get];rfl) (by first | rfl | decide) (by omega) (by first | (simp only[zip3,qf9,qiJ,qdO,qN,ql3,List.map_cons,List.map_nil,List.length_cons,List.length_nil,List.take_succ_cons,List.take_zero,List.drop_succ_cons,List.drop_zero,List.replicate_succ,List.replicate_zero,List.cons_append,List.nil_append,List.append_nil,List.drop_nil,List.take_nil,List.toList_toArray,Nat.sub_zero,Nat.reduceSub,Nat.reduceAdd,Nat.reduceMul,Nat.zero_mul,Nat.one_mul,Nat.mul_one,Nat.zero_add,Nat.le_refl,Nat.reduceLeDiff,and_self,true_and,and_true,if_true];rfl) | rfl) (by first | (simp only[zip3,qf9,qiJ,qdO,qN,ql3,List.map_cons,List.map_nil,List.length_cons,List.length_nil,List.take_succ_cons,List.take_zero,List.drop_succ_cons,List.drop_zero,List.replicate_succ,List.replicate_zero,List.cons_append,List.nil_append,List.append_nil,List.drop_nil,List.take_nil,List.toList_toArray,Nat.sub_zero,Nat.reduceSub,Nat.reduceAdd,Nat.reduceMul,Nat.zero_mul,Nat.one_mul,Nat.mul_one,Nat.zero_add,Nat.le_refl,Nat.reduceLeDiff,and_self,true_and,and_true,if_true];rfl) | rfl) | exact hEQ rfl rfl rfl | exact Step2.sound (by first | (((first | (apply Step2.a;constructor) | (apply Step2.b;constructor))<;>first | infer_instance | skip)<;>(first | infer_instance | (refine w64c ?_;omega) | (refine qBX ?_;omega) | (refine qyM ?_;omega) | (refine qyN ?_;omega) | (refine qBU ?_;omega) | ((repeat (first | exact .head _ | refine .tail _ ?_));done) | assumption | (simp only[List.drop_succ_cons,List.drop_zero,List.length_map,Nat.zero_add,Nat.mul_one];rfl) | rfl | omega | (simp;done))) | fail) rfl | exact AY.call rfl rfl _ rfl (by fail) | exact AY.slice1 rfl rfl rfl (by rfl) (by first | (simp;done) | fail) | exact AY.callF rfl _ _ rfl _ rfl (by fail) | exact AY.old1k 0 rfl rfl rfl (by first | assumption | rfl) | exact AY.old1k 1 rfl rfl rfl (by first | assumption | rfl) | exact AY.old1k 2 rfl rfl rfl (by first | assumption | rfl) | exact AY.oldNk 0 rfl rfl rfl (by first | omega | (simp;omega)) (by first | assumption | rfl) | exact AY.oldNk 1 rfl rfl rfl (by first | omega | (simp;omega)) (by first | assumption | rfl)) (by simp only[AV.put];rfl) ?_ | (refine AL.nilK (hK _ _ ?_);clear hK K) | (refine AE.nil (hK _ ?_);clear hK K) | refine W.k rfl rfl (by simp only[AV.put];rfl) ?_ | refine AL.unguardS rfl rfl ?_ | refine AL.al hF rfl rfl rfl (by first | (simp only[Value.cells,List.map_cons,List.map_nil];rfl) | rfl) (fun b=>⟨_,(by simp only[AV.put];rfl),?_⟩) | refine AL.st1 hF rfl rfl rfl rfl (by simp only[evO,AV.get];rfl) (by first | exact qr4 | exact qr5 | exact qr6 | exact qr7 | exact qr8 | exact qr9 | exact qsa | exact qsb) (by rfl) rfl (by rfl) (by first | (simp;done) | (simp;omega) | omega) (by simp only[List.set];rfl) ?_ | refine AL.stW hF rfl rfl rfl rfl (by simp only[evO,AV.get];rfl) (by first | exact qr4 | exact qr5 | exact qr6 | exact qr7 | exact qr8 | exact qr9 | exact qsa | exact qsb) (by rfl) (by rfl) (by rfl) (by first | rfl | simp) (by simp only[List.set];rfl) ?_) | (with_reducible refine Awp.id_ ?_;first | refine Awp.seq ?_ | refine Awp.regionK (by first | (simp only[AV.putO,AV.put];rfl) | rfl) (fun K hK=>?_) | refine Awp.drawE (by first | (simp only[AV.putO,AV.put];rfl) | rfl) mixed rfl (by kernel_rfl) (fun K hK=>?_) | refine Awp.block ?_ | refine Awp.skip ?_ | refine Awp.exit ?_ | refine Awp.ret ?_ | refine Awp.condT rfl ?_ | refine Awp.condF rfl ?_) | refine qwi ?_ | refine qwj ?_ | refine qwk ?_ | refine qq3 ?_ | refine qq4 ?_ | refine qq5 ?_ | refine qq6 rfl ?_ | ((first | ((first | with_reducible refine AL.id_ ?_ | with_reducible refine AE.id_ ?_);(fail_if_success refine W.on rfl ?_);refine W.p rfl rfl (by simp only[AV.put];rfl) (by simp only[AV.put];rfl) (fun hb=>?_) (fun hb=>?_)) | (with_reducible refine Awp.id_ ?_;refine Awp.cond _ rfl (fun hb=>?_) (fun hb=>?_)))<;>(try simp only[z1,z2,z3,z4,z5,z6,z7,z8,y5,y6,y7,y8,z9,x1,x2,x3,x4,x5,x6,x7,x8] at hb;try (exfalso;omega)))))
   have hgho:∀i e,([HE.blk b 77 [.int hu,.int lo,.int hi],.nodef,.ghost X3 (J (qpi ss k+j))])[i]?=some e→e.isGhost→i=2:=fun i e h1 h2=>by
    match i,h1 with
    | 0,h1=>cases h1;exact h2.elim
    | 1,h1=>cases h1;exact h2.elim
    | 2,_=>rfl
   refine AL.yield 2 rfl rfl rfl rfl _ rfl rfl hgho (by simp) (fun b hA=>hT b fun h=>(hA.1 h).1) hye (hcJ _) hcx (fun X4=>?_) (fun X4=>?_)
   ·refine AL.norm (by simp only[AV.put];rfl) rfl ?_
    (repeat' (first | ((first | with_reducible refine AL.id_ ?_ | with_reducible refine AE.id_ ?_);first | refine AL.build0 hF rfl rfl rfl (fun b=>⟨_,(by simp only[AV.put];rfl),?_⟩) | refine W.s rfl rfl (by first | exact AY.bx rfl (by simp only[evO,AV.get];rfl) rfl | exact AY.mkFn rfl (by simp only[List.map_cons,List.map_nil,evO,AV.get];rfl) | exact AY.mkFn1 rfl (by simp only[evO,AV.get];rfl) (by simp only[List.map_cons,List.map_nil,evO,AV.get];rfl) | exact AY.build rfl (by simp only[List.map_cons,List.map_nil,evO,AV.get];rfl) (by simp only[List.map_cons,List.map_nil];repeat (first | exact Places.nil | apply Places.cons)) (by first | (simp only[zip3,qf9,qiJ,qdO,qN,ql3,List.map_cons,List.map_nil,List.length_cons,List.length_nil,List.take_succ_cons,List.take_zero,List.drop_succ_cons,List.drop_zero,List.replicate_succ,List.replicate_zero,List.cons_append,List.nil_append,List.append_nil,List.drop_nil,List.take_nil,List.toList_toArray,Nat.sub_zero,Nat.reduceSub,Nat.reduceAdd,Nat.reduceMul,Nat.zero_mul,Nat.one_mul,Nat.mul_one,Nat.zero_add,Nat.le_refl,Nat.reduceLeDiff,and_self,true_and,and_true,if_true];rfl) | rfl) | exact AY.buildS rfl (by simp only[List.map_cons,List.map_nil,evO,AV.get];rfl) (by first | rfl | decide) (by omega) (by first | (simp only[zip3,qf9,qiJ,qdO,qN,ql3,List.map_cons,List.map_nil,List.length_cons,List.length_nil,List.take_succ_cons,List.take_zero,List.drop_succ_cons,List.drop_zero,List.replicate_succ,List.replicate_zero,List.cons_append,List.nil_append,List.append_nil,List.drop_nil,List.take_nil,List.toList_toArray,Nat.sub_zero,Nat.reduceSub,Nat.reduceAdd,Nat.reduceMul,Nat.zero_mul,Nat.one_mul,Nat.mul_one,Nat.zero_add,Nat.le_refl,Nat.reduceLeDiff,and_self,true_and,and_true,if_true];rfl) | rfl) (by first | (simp only[zip3,qf9,qiJ,qdO,qN,ql3,List.map_cons,List.map_nil,List.length_cons,List.length_nil,List.take_succ_cons,List.take_zero,List.drop_succ_cons,List.drop_zero,List.replicate_succ,List.replicate_zero,List.cons_append,List.nil_append,List.append_nil,List.drop_nil,List.take_nil,List.toList_toArray,Nat.sub_zero,Nat.reduceSub,Nat.reduceAdd,Nat.reduceMul,Nat.zero_mul,Nat.one_mul,Nat.mul_one,Nat.zero_add,Nat.le_refl,Nat.reduceLeDiff,and_self,true_and,and_true,if_true];rfl) | rfl) | exact hEQ rfl rfl rfl | exact Step2.sound (by first | (((first | (apply Step2.a;constructor) | (apply Step2.b;constructor))<;>first | infer_instance | skip)<;>(first | infer_instance | (refine w64c ?_;omega) | (refine qBX ?_;omega) | (refine qyM ?_;omega) | (refine qyN ?_;omega) | (refine qBU ?_;omega) | ((repeat (first | exact .head _ | refine .tail _ ?_));done) | assumption | (simp only[List.drop_succ_cons,List.drop_zero,List.length_map,Nat.zero_add,Nat.mul_one];rfl) | rfl | omega | (simp;done))) | fail) rfl | exact AY.call rfl rfl _ rfl (by fail) | exact AY.slice1 rfl rfl rfl (by rfl) (by first | (simp;done) | fail) | exact AY.callF rfl _ _ rfl _ rfl (by fail) | exact AY.old1k 0 rfl rfl rfl (by first | assumption | rfl) | exact AY.old1k 1 rfl rfl rfl (by first | assumption | rfl) | exact AY.old1k 2 rfl rfl rfl (by first | assumption | rfl) | exact AY.oldNk 0 rfl rfl rfl (by first | omega | (simp;omega)) (by first | assumption | rfl) | exact AY.oldNk 1 rfl rfl rfl (by first | omega | (simp;omega)) (by first | assumption | rfl)) (by simp only[AV.put];rfl) ?_ | (refine AL.nilK (hK _ _ ?_);clear hK K) | (refine AE.nil (hK _ ?_);clear hK K) | refine W.k rfl rfl (by simp only[AV.put];rfl) ?_ | refine AL.unguardS rfl rfl ?_ | refine AL.al hF rfl rfl rfl (by first | (simp only[Value.cells,List.map_cons,List.map_nil];rfl) | rfl) (fun b=>⟨_,(by simp only[AV.put];rfl),?_⟩) | refine AL.st1 hF rfl rfl rfl rfl (by simp only[evO,AV.get];rfl) (by first | exact qr4 | exact qr5 | exact qr6 | exact qr7 | exact qr8 | exact qr9 | exact qsa | exact qsb) (by rfl) rfl (by rfl) (by first | (simp;done) | (simp;omega) | omega) (by simp only[List.set];rfl) ?_ | refine AL.stW hF rfl rfl rfl rfl (by simp only[evO,AV.get];rfl) (by first | exact qr4 | exact qr5 | exact qr6 | exact qr7 | exact qr8 | exact qr9 | exact qsa | exact qsb) (by rfl) (by rfl) (by rfl) (by first | rfl | simp) (by simp only[List.set];rfl) ?_) | (with_reducible refine Awp.id_ ?_;first | refine Awp.seq ?_ | refine Awp.regionK (by first | (simp only[AV.putO,AV.put];rfl) | rfl) (fun K hK=>?_) | refine Awp.drawE (by first | (simp only[AV.putO,AV.put];rfl) | rfl) mixed rfl (by kernel_rfl) (fun K hK=>?_) | refine Awp.block ?_ | refine Awp.skip ?_ | refine Awp.exit ?_ | refine Awp.ret ?_ | refine Awp.condT rfl ?_ | refine Awp.condF rfl ?_) | refine qwi ?_ | refine qwj ?_ | refine qwk ?_ | refine qq3 ?_ | refine qq4 ?_ | refine qq5 ?_ | refine qq6 rfl ?_ | ((first | ((first | with_reducible refine AL.id_ ?_ | with_reducible refine AE.id_ ?_);(fail_if_success refine W.on rfl ?_);refine W.p rfl rfl (by simp only[AV.put];rfl) (by simp only[AV.put];rfl) (fun hb=>?_) (fun hb=>?_)) | (with_reducible refine Awp.id_ ?_;refine Awp.cond _ rfl (fun hb=>?_) (fun hb=>?_)))<;>(try simp only[z1,z2,z3,z4,z5,z6,z7,z8,y5,y6,y7,y8,z9,x1,x2,x3,x4,x5,x6,x7,x8] at hb;try (exfalso;omega)))))
    (refine qOD (n1-1) (by first | (simp only[AV.putO,AV.put];rfl) | rfl) (by omega) ?_ (by simp only[List.map,AV.get,mask,putl,AV.put]))
    exact ⟨j+1,X4,by omega,qOv (by omega),rfl⟩
   ·refine AL.norm (by simp only[AV.put];rfl) rfl ?_
    (repeat' (first | ((first | with_reducible refine AL.id_ ?_ | with_reducible refine AE.id_ ?_);first | refine AL.build0 hF rfl rfl rfl (fun b=>⟨_,(by simp only[AV.put];rfl),?_⟩) | refine W.s rfl rfl (by first | exact AY.bx rfl (by simp only[evO,AV.get];rfl) rfl | exact AY.mkFn rfl (by simp only[List.map_cons,List.map_nil,evO,AV.get];rfl) | exact AY.mkFn1 rfl (by simp only[evO,AV.get];rfl) (by simp only[List.map_cons,List.map_nil,evO,AV.get];rfl) | exact AY.build rfl (by simp only[List.map_cons,List.map_nil,evO,AV.get];rfl) (by simp only[List.map_cons,List.map_nil];repeat (first | exact Places.nil | apply Places.cons)) (by first | (simp only[zip3,qf9,qiJ,qdO,qN,ql3,List.map_cons,List.map_nil,List.length_cons,List.length_nil,List.take_succ_cons,List.take_zero,List.drop_succ_cons,List.drop_zero,List.replicate_succ,List.replicate_zero,List.cons_append,List.nil_append,List.append_nil,List.drop_nil,List.take_nil,List.toList_toArray,Nat.sub_zero,Nat.reduceSub,Nat.reduceAdd,Nat.reduceMul,Nat.zero_mul,Nat.one_mul,Nat.mul_one,Nat.zero_add,Nat.le_refl,Nat.reduceLeDiff,and_self,true_and,and_true,if_true];rfl) | rfl) | exact AY.buildS rfl (by simp only[List.map_cons,List.map_nil,evO,AV.get];rfl) (by first | rfl | decide) (by omega) (by first | (simp only[zip3,qf9,qiJ,qdO,qN,ql3,List.map_cons,List.map_nil,List.length_cons,List.length_nil,List.take_succ_cons,List.take_zero,List.drop_succ_cons,List.drop_zero,List.replicate_succ,List.replicate_zero,List.cons_append,List.nil_append,List.append_nil,List.drop_nil,List.take_nil,List.toList_toArray,Nat.sub_zero,Nat.reduceSub,Nat.reduceAdd,Nat.reduceMul,Nat.zero_mul,Nat.one_mul,Nat.mul_one,Nat.zero_add,Nat.le_refl,Nat.reduceLeDiff,and_self,true_and,and_true,if_true];rfl) | rfl) (by first | (simp only[zip3,qf9,qiJ,qdO,qN,ql3,List.map_cons,List.map_nil,List.length_cons,List.length_nil,List.take_succ_cons,List.take_zero,List.drop_succ_cons,List.drop_zero,List.replicate_succ,List.replicate_zero,List.cons_append,List.nil_append,List.append_nil,List.drop_nil,List.take_nil,List.toList_toArray,Nat.sub_zero,Nat.reduceSub,Nat.reduceAdd,Nat.reduceMul,Nat.zero_mul,Nat.one_mul,Nat.mul_one,Nat.zero_add,Nat.le_refl,Nat.reduceLeDiff,and_self,true_and,and_true,if_true];rfl) | rfl) | exact hEQ rfl rfl rfl | exact Step2.sound (by first | (((first | (apply Step2.a;constructor) | (apply Step2.b;constructor))<;>first | infer_instance | skip)<;>(first | infer_instance | (refine w64c ?_;omega) | (refine qBX ?_;omega) | (refine qyM ?_;omega) | (refine qyN ?_;omega) | (refine qBU ?_;omega) | ((repeat (first | exact .head _ | refine .tail _ ?_));done) | assumption | (simp only[List.drop_succ_cons,List.drop_zero,List.length_map,Nat.zero_add,Nat.mul_one];rfl) | rfl | omega | (simp;done))) | fail) rfl | exact AY.call rfl rfl _ rfl (by fail) | exact AY.slice1 rfl rfl rfl (by rfl) (by first | (simp;done) | fail) | exact AY.callF rfl _ _ rfl _ rfl (by fail) | exact AY.old1k 0 rfl rfl rfl (by first | assumption | rfl) | exact AY.old1k 1 rfl rfl rfl (by first | assumption | rfl) | exact AY.old1k 2 rfl rfl rfl (by first | assumption | rfl) | exact AY.oldNk 0 rfl rfl rfl (by first | omega | (simp;omega)) (by first | assumption | rfl) | exact AY.oldNk 1 rfl rfl rfl (by first | omega | (simp;omega)) (by first | assumption | rfl)) (by simp only[AV.put];rfl) ?_ | (refine AL.nilK (hK _ _ ?_);clear hK K) | (refine AE.nil (hK _ ?_);clear hK K) | refine W.k rfl rfl (by simp only[AV.put];rfl) ?_ | refine AL.unguardS rfl rfl ?_ | refine AL.al hF rfl rfl rfl (by first | (simp only[Value.cells,List.map_cons,List.map_nil];rfl) | rfl) (fun b=>⟨_,(by simp only[AV.put];rfl),?_⟩) | refine AL.st1 hF rfl rfl rfl rfl (by simp only[evO,AV.get];rfl) (by first | exact qr4 | exact qr5 | exact qr6 | exact qr7 | exact qr8 | exact qr9 | exact qsa | exact qsb) (by rfl) rfl (by rfl) (by first | (simp;done) | (simp;omega) | omega) (by simp only[List.set];rfl) ?_ | refine AL.stW hF rfl rfl rfl rfl (by simp only[evO,AV.get];rfl) (by first | exact qr4 | exact qr5 | exact qr6 | exact qr7 | exact qr8 | exact qr9 | exact qsa | exact qsb) (by rfl) (by rfl) (by rfl) (by first | rfl | simp) (by simp only[List.set];rfl) ?_) | (with_reducible refine Awp.id_ ?_;first | refine Awp.seq ?_ | refine Awp.regionK (by first | (simp only[AV.putO,AV.put];rfl) | rfl) (fun K hK=>?_) | refine Awp.drawE (by first | (simp only[AV.putO,AV.put];rfl) | rfl) mixed rfl (by kernel_rfl) (fun K hK=>?_) | refine Awp.block ?_ | refine Awp.skip ?_ | refine Awp.exit ?_ | refine Awp.ret ?_ | refine Awp.condT rfl ?_ | refine Awp.condF rfl ?_) | refine qwi ?_ | refine qwj ?_ | refine qwk ?_ | refine qq3 ?_ | refine qq4 ?_ | refine qq5 ?_ | refine qq6 rfl ?_ | ((first | ((first | with_reducible refine AL.id_ ?_ | with_reducible refine AE.id_ ?_);(fail_if_success refine W.on rfl ?_);refine W.p rfl rfl (by simp only[AV.put];rfl) (by simp only[AV.put];rfl) (fun hb=>?_) (fun hb=>?_)) | (with_reducible refine Awp.id_ ?_;refine Awp.cond _ rfl (fun hb=>?_) (fun hb=>?_)))<;>(try simp only[z1,z2,z3,z4,z5,z6,z7,z8,y5,y6,y7,y8,z9,x1,x2,x3,x4,x5,x6,x7,x8] at hb;try (exfalso;omega)))))
    exact qLM rfl ⟨X4,.inr (List.mem_of_getElem? (i:=2) rfl)⟩
  ·have hle:¬(lo+j≤hi):=by omega
   (repeat' (first | ((first | with_reducible refine AL.id_ ?_ | with_reducible refine AE.id_ ?_);first | refine AL.build0 hF rfl rfl rfl (fun b=>⟨_,(by simp only[AV.put];rfl),?_⟩) | refine W.s rfl rfl (by first | exact AY.bx rfl (by simp only[evO,AV.get];rfl) rfl | exact AY.mkFn rfl (by simp only[List.map_cons,List.map_nil,evO,AV.get];rfl) | exact AY.mkFn1 rfl (by simp only[evO,AV.get];rfl) (by simp only[List.map_cons,List.map_nil,evO,AV.get];rfl) | exact hEQ rfl rfl rfl | exact Step2.sound (by first | (((first | (apply Step2.a;constructor) | (apply Step2.b;constructor))<;>first | infer_instance | skip)<;>(first | infer_instance | (refine w64c ?_;omega) | (refine qBX ?_;omega) | (refine qyM ?_;omega) | (refine qyN ?_;omega) | (refine qBU ?_;omega) | ((repeat (first | exact .head _ | refine .tail _ ?_));done) | assumption | (simp only[List.drop_succ_cons,List.drop_zero,List.length_map,Nat.zero_add,Nat.mul_one];rfl) | rfl | omega | (simp;done))) | fail) rfl | exact AY.call rfl rfl _ rfl (by fail) | exact AY.slice1 rfl rfl rfl (by rfl) (by first | (simp;done) | fail) | exact AY.callF rfl _ _ rfl _ rfl (by fail) | exact AY.old1k 0 rfl rfl rfl (by first | assumption | rfl) | exact AY.old1k 1 rfl rfl rfl (by first | assumption | rfl) | exact AY.old1k 2 rfl rfl rfl (by first | assumption | rfl) | exact AY.oldNk 0 rfl rfl rfl (by first | omega | (simp;omega)) (by first | assumption | rfl) | exact AY.oldNk 1 rfl rfl rfl (by first | omega | (simp;omega)) (by first | assumption | rfl)) (by simp only[AV.put];rfl) ?_ | (refine AL.nilK (hK _ _ ?_);clear hK K) | (refine AE.nil (hK _ ?_);clear hK K) | refine W.k rfl rfl (by simp only[AV.put];rfl) ?_ | refine AL.unguardS rfl rfl ?_ | refine AL.al hF rfl rfl rfl (by first | (simp only[Value.cells,List.map_cons,List.map_nil];rfl) | rfl) (fun b=>⟨_,(by simp only[AV.put];rfl),?_⟩) | refine AL.st1 hF rfl rfl rfl rfl (by simp only[evO,AV.get];rfl) (by first | exact qr4 | exact qr5 | exact qr6 | exact qr7 | exact qr8 | exact qr9 | exact qsa | exact qsb) (by rfl) rfl (by rfl) (by first | (simp;done) | (simp;omega) | omega) (by simp only[List.set];rfl) ?_ | refine AL.stW hF rfl rfl rfl rfl (by simp only[evO,AV.get];rfl) (by first | exact qr4 | exact qr5 | exact qr6 | exact qr7 | exact qr8 | exact qr9 | exact qsa | exact qsb) (by rfl) (by rfl) (by rfl) (by first | rfl | simp) (by simp only[List.set];rfl) ?_) | (with_reducible refine Awp.id_ ?_;first | refine Awp.seq ?_ | refine Awp.regionK (by first | (simp only[AV.putO,AV.put];rfl) | rfl) (fun K hK=>?_) | refine Awp.drawE (by first | (simp only[AV.putO,AV.put];rfl) | rfl) mixed rfl (by kernel_rfl) (fun K hK=>?_) | refine Awp.block ?_ | refine Awp.skip ?_ | refine Awp.exit ?_ | refine Awp.ret ?_ | refine Awp.condT rfl ?_ | refine Awp.condF rfl ?_) | refine qwi ?_ | refine qwj ?_ | refine qwk ?_ | refine qq3 ?_ | refine qq4 ?_ | refine qq5 ?_ | refine qq6 rfl ?_ | ((first | ((first | with_reducible refine AL.id_ ?_ | with_reducible refine AE.id_ ?_);(fail_if_success refine W.on rfl ?_);refine W.p rfl rfl (by simp only[AV.put];rfl) (by simp only[AV.put];rfl) (fun hb=>?_) (fun hb=>?_)) | (with_reducible refine Awp.id_ ?_;refine Awp.cond _ rfl (fun hb=>?_) (fun hb=>?_)))<;>(try simp only[z1,z2,z3,z4,z5,z6,z7,z8,y5,y6,y7,y8,z9,x1,x2,x3,x4,x5,x6,x7,x8] at hb;try (exfalso;omega)))))
   (refine qM4 (n-1) (List.sublist_cons_self _ _) (by first | (simp only[AV.putO,AV.put];rfl) | rfl) (by omega) ?_ (by simp only[List.map,AV.get,mask,putl,AV.put]))
   exact ⟨k+1,X3,by omega,qOv (by omega),by rw[hNk,show (hi+1-lo).toNat=j by omega]⟩
 ·(repeat' (first | ((first | with_reducible refine AL.id_ ?_ | with_reducible refine AE.id_ ?_);first | refine AL.build0 hF rfl rfl rfl (fun b=>⟨_,(by simp only[AV.put];rfl),?_⟩) | refine W.s rfl rfl (by first | exact AY.bx rfl (by simp only[evO,AV.get];rfl) rfl | exact AY.mkFn rfl (by simp only[List.map_cons,List.map_nil,evO,AV.get];rfl) | exact AY.mkFn1 rfl (by simp only[evO,AV.get];rfl) (by simp only[List.map_cons,List.map_nil,evO,AV.get];rfl) | exact hEQ rfl rfl rfl | exact Step2.sound (by first | (((first | (apply Step2.a;constructor) | (apply Step2.b;constructor))<;>first | infer_instance | skip)<;>(first | infer_instance | (refine w64c ?_;omega) | (refine qBX ?_;omega) | (refine qyM ?_;omega) | (refine qyN ?_;omega) | (refine qBU ?_;omega) | ((repeat (first | exact .head _ | refine .tail _ ?_));done) | assumption | (simp only[List.drop_succ_cons,List.drop_zero,List.length_map,Nat.zero_add,Nat.mul_one];rfl) | rfl | omega | (simp;done))) | fail) rfl | exact AY.call rfl rfl _ rfl (by fail) | exact AY.slice1 rfl rfl rfl (by rfl) (by first | (simp;done) | fail) | exact AY.callF rfl _ _ rfl _ rfl (by fail) | exact AY.old1k 0 rfl rfl rfl (by first | assumption | rfl) | exact AY.old1k 1 rfl rfl rfl (by first | assumption | rfl) | exact AY.old1k 2 rfl rfl rfl (by first | assumption | rfl) | exact AY.oldNk 0 rfl rfl rfl (by first | omega | (simp;omega)) (by first | assumption | rfl) | exact AY.oldNk 1 rfl rfl rfl (by first | omega | (simp;omega)) (by first | assumption | rfl)) (by simp only[AV.put];rfl) ?_ | (refine AL.nilK (hK _ _ ?_);clear hK K) | (refine AE.nil (hK _ ?_);clear hK K) | refine W.k rfl rfl (by simp only[AV.put];rfl) ?_ | refine AL.unguardS rfl rfl ?_ | refine AL.al hF rfl rfl rfl (by first | (simp only[Value.cells,List.map_cons,List.map_nil];rfl) | rfl) (fun b=>⟨_,(by simp only[AV.put];rfl),?_⟩) | refine AL.st1 hF rfl rfl rfl rfl (by simp only[evO,AV.get];rfl) (by first | exact qr4 | exact qr5 | exact qr6 | exact qr7 | exact qr8 | exact qr9 | exact qsa | exact qsb) (by rfl) rfl (by rfl) (by first | (simp;done) | (simp;omega) | omega) (by simp only[List.set];rfl) ?_ | refine AL.stW hF rfl rfl rfl rfl (by simp only[evO,AV.get];rfl) (by first | exact qr4 | exact qr5 | exact qr6 | exact qr7 | exact qr8 | exact qr9 | exact qsa | exact qsb) (by rfl) (by rfl) (by rfl) (by first | rfl | simp) (by simp only[List.set];rfl) ?_) | (with_reducible refine Awp.id_ ?_;first | refine Awp.seq ?_ | refine Awp.regionK (by first | (simp only[AV.putO,AV.put];rfl) | rfl) (fun K hK=>?_) | refine Awp.drawE (by first | (simp only[AV.putO,AV.put];rfl) | rfl) mixed rfl (by kernel_rfl) (fun K hK=>?_) | refine Awp.block ?_ | refine Awp.skip ?_ | refine Awp.exit ?_ | refine Awp.ret ?_ | refine Awp.condT rfl ?_ | refine Awp.condF rfl ?_) | refine qwi ?_ | refine qwj ?_ | refine qwk ?_ | refine qq3 ?_ | refine qq4 ?_ | refine qq5 ?_ | refine qq6 rfl ?_ | ((first | ((first | with_reducible refine AL.id_ ?_ | with_reducible refine AE.id_ ?_);(fail_if_success refine W.on rfl ?_);refine W.p rfl rfl (by simp only[AV.put];rfl) (by simp only[AV.put];rfl) (fun hb=>?_) (fun hb=>?_)) | (with_reducible refine Awp.id_ ?_;refine Awp.cond _ rfl (fun hb=>?_) (fun hb=>?_)))<;>(try simp only[z1,z2,z3,z4,z5,z6,z7,z8,y5,y6,y7,y8,z9,x1,x2,x3,x4,x5,x6,x7,x8] at hb;try (exfalso;omega)))))
  exact qM6 rfl ⟨X',.inl (by rw[show ss.length=k by omega];exact List.mem_of_getElem? (i:=1) rfl)⟩
def qIg:Itr Try.prog:=⟨97,[T30],[T80],fun x=>qzw x.1.2.2.2.2,fun x l h=>qNS x l h⟩
end Go.Proofs.Ytcjgodgpaokbnaa
/- Printed: what functions of the program compute. -/
namespace Go.Proofs.Ytcjgodgpaokbnaa
open Go Go.Proofs Go.RowKit
set_option maxRecDepth 20000
noncomputable def qxV(n:Nat):CL Try.prog:=⟨[],[],0,fun _=>false⟩
noncomputable def qC9(n:Nat):Nat→St→PT (DEx×St):=fun _ _=>.fail
theorem qJD(n:Nat):qe (qxV n).c (qa Try.f67) 0=[]:=by kernel_rfl
theorem qJE:Try.f67.body=some (qa Try.f67):=by kernel_rfl
abbrev qzx:List Ar:=[.d T30]
abbrev qvI:List Ty:=[T30]
noncomputable def qEa(n:Nat)(x:qQ qzx):Option (qt qvI):=(qo tab (qxV n) (qC9 n) (qa Try.f67) 0 (q8 qzx 4 x)).run (qOu 2 97 qvI)
noncomputable def qEb(n:Nat):Ct Try.prog:=⟨67,qzx,.fb 97 qvI,qEa n,fun _ _ h=>qPr (B:=tab) (cs:=qxV n) (lo:=qC9 n) (i:=2) (g:=97) (caps:=qvI) Try.func67 (by kernel_rfl) qJE (by kernel_rfl) (ql (qJD n) qf) h⟩
noncomputable def qqG(n:Nat):CL Try.prog:=⟨[],[],0,fun _=>false⟩
noncomputable def qu1(n:Nat):Nat→St→PT (DEx×St):=fun _ _=>.fail
theorem qCI(n:Nat):qe (qqG n).c (qa Try.f37) 0=[]:=by kernel_rfl
theorem qCJ:Try.f37.body=some (qa Try.f37):=by kernel_rfl
abbrev qqH:List It:=[.v (.t 1) T80,.obj (.t 0) true 72 5,.v (.c 0 0) T69,.row (.c 0 2) true T30 30,.row (.c 0 3) true T30 30,.mpi (.c 0 4) true T80 T3]
abbrev qpI:List (List It):=[[.v (.t 0) T3,.obj (.t 1) true 72 5,.v (.c 0 0) T69,.row (.c 0 2) true T30 30,.row (.c 0 3) true T30 30,.mpi (.c 0 4) true T80 T3]]
noncomputable def qvJ(n:Nat)(x:qc qqH):Option (qC qpI):=runW tab (qqG n) (qu1 n) (qa Try.f37) qqH 2 23 [.tmp 4] qpI x
noncomputable def qCK(n:Nat):Cw Try.prog:=⟨37,2,qqH,1,qpI,qvJ n,fun _ _ h=>qbT (B:=tab) (cs:=qqG n) (lo:=qu1 n) (rs:=[.tmp 4]) Try.func37 (by kernel_rfl) qCJ (by kernel_rfl) (by decide) (ql (qCI n) qf) h⟩
noncomputable def qfI(n:Nat):CL Try.prog:=⟨[qEb n],[qCK n],0,fun _=>false⟩
noncomputable def qtA(n:Nat):Nat→St→PT (DEx×St):=fun _ _=>.fail
abbrev qeG:List It:=[.obj (.t 0) true 72 5,.v (.c 0 0) T69,.row (.c 0 2) true T30 30,.row (.c 0 3) true T30 30,.mpi (.c 0 4) true T80 T3,.obj (.t 2) false 64 1,.pal (.c 4 0) 0 0,.obj (.t 3) false 30 5,.v (.c 5 0) T30,.obj (.t 4) false 80 2,.v (.c 6 0) T80,.obj (.t 5) false 3 1,.v (.c 7 0) T3]
abbrev qlP:List (DEx×List It):=[(.ret,[.obj (.t 0) true 72 5,.v (.c 0 0) T69,.row (.c 0 2) true T30 30,.row (.c 0 3) true T30 30,.mpi (.c 0 4) true T80 T3,.obj (.t 4) false 80 2,.v (.c 4 0) T80,.obj (.t 5) false 3 1,.v (.c 5 0) T3])]
abbrev qub:List Ty:=[T80]
noncomputable def quc(n:Nat)(rec:qc qeG→Option (qc qeG⊕qk qlP))(s:qc qeG)(y:qt qub):Option (qc qeG⊕qk qlP):=(qGw tab (qfI n) (qtA n) [10] (subC [true,false,true,false,false] (qa Try.f45)) (subC [true,false,true,false,true] (qa Try.f45)) 1 (mkS qeG 22 s) (tysD qub y)).run (qIJ 22 qeG qlP (mkS qeG 22 s) rec)
noncomputable def qpJ(n:Nat):Rg Try.prog:=⟨.tmp 9,22,qeG,qIg,qlP,rgF (quc n)⟩
theorem qz5(n:Nat):qe (qfI n).c (subC [true,false,true,false,false] (qa Try.f45)) 1=[]:=by kernel_rfl
theorem qAY(n:Nat):qe (qfI n).c (subC [true,false,true,false,true] (qa Try.f45)) (1+qk5 (subC [true,false,true,false,false] (qa Try.f45)))=[]:=by kernel_rfl
theorem qyA(n:Nat)(st:St)(r:DEx×St)(h:((qpJ n).go st).Is r):DA Try.prog false (.rangeFunc (.tmp 9) ([10]:List Tmp).toArray (subC [true,false,true,false,false] (qa Try.f45)) (subC [true,false,true,false,true] (qa Try.f45))) st r:=Rg.ok (L:=qpJ n) (B:=tab) (cs:=qfI n) (lo:=qtA n) (id:=0) rfl rfl (ql (qz5 n) qf) (ql (qAY n) qf) (fun _ _ _=>rfl) h
noncomputable def qud(n:Nat):Nat→St→PT (DEx×St):=fun k st=>match k with
 | 0=>(qpJ n).go st
 | _=>.fail
theorem qBA(n:Nat):qe (qfI n).c (qa Try.f45) 0=[(0,.rangeFunc (.tmp 9) ([10]:List Tmp).toArray (subC [true,false,true,false,false] (qa Try.f45)) (subC [true,false,true,false,true] (qa Try.f45)))]:=by kernel_rfl
theorem qBB:Try.f45.body=some (qa Try.f45):=by kernel_rfl
abbrev qpK:List It:=[.v (.t 1) T30,.obj (.t 0) true 72 5,.v (.c 0 0) T69,.row (.c 0 2) true T30 30,.row (.c 0 3) true T30 30,.mpi (.c 0 4) true T80 T3]
abbrev qoX:List (List It):=[[.v (.t 0) T80,.v (.t 1) T3,.obj (.t 2) true 72 5,.v (.c 0 0) T69,.row (.c 0 2) true T30 30,.row (.c 0 3) true T30 30,.mpi (.c 0 4) true T80 T3]]
noncomputable def qu2(n:Nat)(x:qc qpK):Option (qC qoX):=runW tab (qfI n) (qud n) (qa Try.f45) qpK 2 22 [.cell 4 80,.cell 5 3] qoX x
noncomputable def qBC(n:Nat):Cw Try.prog:=⟨45,2,qpK,2,qoX,qu2 n,fun _ _ h=>qbT (B:=tab) (cs:=qfI n) (lo:=qud n) (rs:=[.cell 4 80,.cell 5 3]) Try.func45 (by kernel_rfl) qBB (by kernel_rfl) (by decide) (ql (qBA n) (all_cons (fun st r h=>qyA n st r h) qf)) h⟩
noncomputable def qd6(n:Nat):CL Try.prog:=⟨[qEb n],[qBC n],0,fun _=>false⟩
noncomputable def qvK(n:Nat):Nat→St→PT (DEx×St):=fun _ _=>.fail
abbrev qf4:List It:=[.nilf (.t 2),.v (.t 17) T25,.v (.t 18) T3,.v (.t 19) T3,.obj (.t 7) false 64 1,.obj (.c 0 0) false 72 5,.v (.c 1 0) T69,.row (.c 1 2) false T30 30,.row (.c 1 3) false T30 30,.mpi (.c 1 4) false T80 T3,.obj (.t 9) false 30 5,.v (.c 5 0) T30]
abbrev qoA:List (DEx×List It):=[]
abbrev qwd:List Ty:=[T80]
noncomputable def qwe(n:Nat)(rec:qc qf4→Option (qc qf4⊕qk qoA))(s:qc qf4)(y:qt qwd):Option (qc qf4⊕qk qoA):=(qGw tab (qd6 n) (qvK n) [61] (subC [true,true,false,true,false,false,true,true,false,false,true,true,true,true,true,false,false] (qa Try.f52)) (subC [true,true,false,true,false,false,true,true,false,false,true,true,true,true,true,false,true] (qa Try.f52)) 2 (mkS qf4 75 s) (tysD qwd y)).run (qIJ 75 qf4 qoA (mkS qf4 75 s) rec)
noncomputable def qr1(n:Nat):Rg Try.prog:=⟨.tmp 60,75,qf4,qIg,qoA,rgF (qwe n)⟩
theorem qCL(n:Nat):qe (qd6 n).c (subC [true,true,false,true,false,false,true,true,false,false,true,true,true,true,true,false,false] (qa Try.f52)) 2=[]:=by kernel_rfl
theorem qDo(n:Nat):qe (qd6 n).c (subC [true,true,false,true,false,false,true,true,false,false,true,true,true,true,true,false,true] (qa Try.f52)) (2+qk5 (subC [true,true,false,true,false,false,true,true,false,false,true,true,true,true,true,false,false] (qa Try.f52)))=[]:=by kernel_rfl
theorem qAZ(n:Nat)(st:St)(r:DEx×St)(h:((qr1 n).go st).Is r):DA Try.prog false (.rangeFunc (.tmp 60) ([61]:List Tmp).toArray (subC [true,true,false,true,false,false,true,true,false,false,true,true,true,true,true,false,false] (qa Try.f52)) (subC [true,true,false,true,false,false,true,true,false,false,true,true,true,true,true,false,true] (qa Try.f52))) st r:=Rg.ok (L:=qr1 n) (B:=tab) (cs:=qd6 n) (lo:=qvK n) (id:=1) rfl rfl (ql (qCL n) qf) (ql (qDo n) qf) (fun _ _ _=>rfl) h
noncomputable def qvL(n:Nat):Nat→St→PT (DEx×St):=fun k st=>match k with
 | 1=>(qr1 n).go st
 | _=>.fail
abbrev qk9:List It:=[.nilf (.t 2),.v (.t 17) T25,.v (.t 18) T3,.v (.t 19) T3,.obj (.t 7) false 64 1,.obj (.c 0 0) false 72 5,.v (.c 1 0) T69,.row (.c 1 2) false T30 30,.row (.c 1 3) false T30 30,.mpi (.c 1 4) false T80 T3]
abbrev qoB:List (DEx×List It):=[(.exit 0,[.obj (.t 7) false 64 1,.obj (.c 0 0) false 72 5,.v (.c 1 0) T69,.row (.c 1 2) false T30 30,.row (.c 1 3) false T30 30,.mpi (.c 1 4) false T80 T3])]
noncomputable def qwf(n:Nat)(rec:qc qk9→Option (qk qoB))(s:qc qk9):Option (qk qoB):=(qo tab (qd6 n) (qvL n) (subC [true,true,false,true,false,false] (qa Try.f52)) 1 (mkS qk9 75 s)).run (Lp.leaf 75 qk9 qoB rec)
noncomputable def qr2(n:Nat):Lp:=⟨75,qk9,qoB,qh n (qwf n)⟩
theorem qDp(n:Nat):qe (qd6 n).c (subC [true,true,false,true,false,false] (qa Try.f52)) 1=[(1,.rangeFunc (.tmp 60) ([61]:List Tmp).toArray (subC [true,true,false,true,false,false,true,true,false,false,true,true,true,true,true,false,false] (qa Try.f52)) (subC [true,true,false,true,false,false,true,true,false,false,true,true,true,true,true,false,true] (qa Try.f52)))]:=by kernel_rfl
theorem qA0(n:Nat)(st:St)(r:DEx×St)(h:((qr2 n).go st).Is r):DA Try.prog false (.loop (subC [true,true,false,true,false,false] (qa Try.f52))) st r:=Lp.ok (L:=qr2 n) (B:=tab) (cs:=qd6 n) (lo:=qvL n) (id:=0) rfl (ql (qDp n) (all_cons (fun st r h=>qAZ n st r h) qf)) (fun _ _=>rfl) h
noncomputable def qwg(n:Nat):Nat→St→PT (DEx×St):=fun k st=>match k with
 | 0=>(qr2 n).go st
 | _=>.fail
theorem qEc(n:Nat):qe (qd6 n).c (qa Try.f52) 0=[(0,.loop (subC [true,true,false,true,false,false] (qa Try.f52)))]:=by kernel_rfl
theorem qEd:Try.f52.body=some (qa Try.f52):=by kernel_rfl
abbrev qr3:List It:=[.v (.t 0) T69,.v (.t 1) T25,.nilf (.t 2)]
abbrev qrp:List (List It):=[[.obj (.t 0) false 72 5,.v (.c 0 0) T69,.row (.c 0 2) false T30 30,.row (.c 0 3) false T30 30,.mpi (.c 0 4) false T80 T3]]
noncomputable def qxx(n:Nat)(x:qc qr3):Option (qC qrp):=runW tab (qd6 n) (qwg n) (qa Try.f52) qr3 3 75 [.tmp 6] qrp x
noncomputable def qEe(n:Nat):Cw Try.prog:=⟨52,3,qr3,1,qrp,qxx n,fun _ _ h=>qbT (B:=tab) (cs:=qd6 n) (lo:=qwg n) (rs:=[.tmp 6]) Try.func52 (by kernel_rfl) qEd (by kernel_rfl) (by decide) (ql (qEc n) (all_cons (fun st r h=>qA0 n st r h) qf)) h⟩
noncomputable def qxW(n:Nat):CL Try.prog:=⟨[],[quz n,qjO n,qjQ n,qpG n,qrH n],1,fun _=>false⟩
noncomputable def qDa(n:Nat):Nat→St→PT (DEx×St):=fun _ _=>.fail
theorem qJF(n:Nat):qe (qxW n).c (qa Try.f53) 0=[]:=by kernel_rfl
theorem qJG:Try.f53.body=some (qa Try.f53):=by kernel_rfl
abbrev qzy:List Ar:=[.d T25]
abbrev qzz:List Ty:=[T25]
noncomputable def qEf(n:Nat)(x:qQ qzy):Option (qt qzz):=(qo tab (qxW n) (qDa n) (qa Try.f53) 0 (q8 qzy 15 x)).run (qcK tab [.tmp 2] qzz)
noncomputable def qJH(n:Nat):Ct Try.prog:=⟨53,qzy,.ts qzz,qEf n,fun _ _ h=>qcR (B:=tab) (cs:=qxW n) (lo:=qDa n) (rs:=[.tmp 2]) Try.func53 (by kernel_rfl) qJG (by kernel_rfl) (by decide) (ql (qJF n) qf) h⟩
noncomputable def qvM(n:Nat):CL Try.prog:=⟨[qy9 n,qxg n],[],0,fun _=>false⟩
noncomputable def qAE(n:Nat):Nat→St→PT (DEx×St):=fun _ _=>.fail
theorem qHr(n:Nat):qe (qvM n).c (qa Try.f49) 0=[]:=by kernel_rfl
theorem qHs:Try.f49.body=some (qa Try.f49):=by kernel_rfl
abbrev qvN:List It:=[.v (.t 0) T80,.obj (.t 1) true 69 2,.v (.c 0 0) T69]
abbrev quA:List (List It):=[[.v (.t 0) T4,.obj (.t 1) true 69 2,.v (.c 0 0) T69]]
noncomputable def qBD(n:Nat)(x:qc qvN):Option (qC quA):=runW tab (qvM n) (qAE n) (qa Try.f49) qvN 2 16 [.tmp 3] quA x
noncomputable def qBE(n:Nat):Cw Try.prog:=⟨49,2,qvN,1,quA,qBD n,fun _ _ h=>qbT (B:=tab) (cs:=qvM n) (lo:=qAE n) (rs:=[.tmp 3]) Try.func49 (by kernel_rfl) qHs (by kernel_rfl) (by decide) (ql (qHr n) qf) h⟩
noncomputable def qbV(n:Nat):CL Try.prog:=⟨[],[qBE n],0,fun _=>false⟩
noncomputable def qjR(n:Nat):Nat→St→PT (DEx×St):=fun _ _=>.fail
abbrev qcJ:List It:=[.v (.t 0) T93,.v (.t 7) T3,.v (.t 8) T3,.fnc (.t 1) 49 [.box true 69 2],.v (.c 0 0) T69]
abbrev qee:List (DEx×List It):=[(.exit 0,[.fnc (.t 1) 49 [.box true 69 2],.v (.c 0 0) T69]),(.ret,[.v (.t 4) T3,.fnc (.t 1) 49 [.box true 69 2],.v (.c 0 0) T69])]
noncomputable def qka(n:Nat)(rec:qc qcJ→Option (qk qee))(s:qc qcJ):Option (qk qee):=(qo tab (qbV n) (qjR n) (subC [true,false,true,false,false] (qa Try.f69)) 1 (mkS qcJ 19 s)).run (Lp.leaf 19 qcJ qee rec)
noncomputable def qgP(n:Nat):Lp:=⟨19,qcJ,qee,qh n (qka n)⟩
theorem qqU(n:Nat):qe (qbV n).c (subC [true,false,true,false,false] (qa Try.f69)) 1=[]:=by kernel_rfl
theorem qpL(n:Nat)(st:St)(r:DEx×St)(h:((qgP n).go st).Is r):DA Try.prog false (.loop (subC [true,false,true,false,false] (qa Try.f69))) st r:=Lp.ok (L:=qgP n) (B:=tab) (cs:=qbV n) (lo:=qjR n) (id:=0) rfl (ql (qqU n) qf) (fun _ _=>rfl) h
noncomputable def qkb(n:Nat):Nat→St→PT (DEx×St):=fun k st=>match k with
 | 0=>(qgP n).go st
 | _=>.fail
theorem qrq(n:Nat):qe (qbV n).c (qa Try.f69) 0=[(0,.loop (subC [true,false,true,false,false] (qa Try.f69)))]:=by kernel_rfl
theorem qrr:Try.f69.body=some (qa Try.f69):=by kernel_rfl
abbrev qgQ:List It:=[.v (.t 0) T93,.fnc (.t 1) 49 [.box true 69 2],.v (.c 0 0) T69]
abbrev qgw:List (List It):=[[.v (.t 0) T3,.obj (.t 1) true 69 2,.v (.c 0 0) T69]]
noncomputable def qko(n:Nat)(x:qc qgQ):Option (qC qgw):=runW tab (qbV n) (qkb n) (qa Try.f69) qgQ 2 19 [.tmp 4] qgw x
noncomputable def qrs(n:Nat):Cw Try.prog:=⟨69,2,qgQ,1,qgw,qko n,fun _ _ h=>qbT (B:=tab) (cs:=qbV n) (lo:=qkb n) (rs:=[.tmp 4]) Try.func69 (by kernel_rfl) qrr (by kernel_rfl) (by decide) (ql (qrq n) (all_cons (fun st r h=>qpL n st r h) qf)) h⟩
noncomputable def qfJ(n:Nat):CL Try.prog:=⟨[],[qBE n,qrs n],0,fun _=>false⟩
noncomputable def qjl(n:Nat):Nat→St→PT (DEx×St):=fun _ _=>.fail
theorem qp7(n:Nat):qe (qfJ n).c (qa Try.f48) 0=[]:=by kernel_rfl
theorem qp8:Try.f48.body=some (qa Try.f48):=by kernel_rfl
abbrev qfK:List It:=[.v (.t 0) T93,.fnc (.t 1) 49 [.box true 69 2],.v (.c 0 0) T69]
abbrev qfz:List (List It):=[[.v (.t 0) T4,.obj (.t 1) true 69 2,.v (.c 0 0) T69]]
noncomputable def qjB(n:Nat)(x:qc qfK):Option (qC qfz):=runW tab (qfJ n) (qjl n) (qa Try.f48) qfK 2 9 [.tmp 4] qfz x
noncomputable def qp9(n:Nat):Cw Try.prog:=⟨48,2,qfK,1,qfz,qjB n,fun _ _ h=>qbT (B:=tab) (cs:=qfJ n) (lo:=qjl n) (rs:=[.tmp 4]) Try.func48 (by kernel_rfl) qp8 (by kernel_rfl) (by decide) (ql (qp7 n) qf) h⟩
noncomputable def qxX(n:Nat):CL Try.prog:=⟨[qD8 n,qJH n],[qp9 n,qEe n],4,fun _=>false⟩
noncomputable def qDb(n:Nat):Nat→St→PT (DEx×St):=fun _ _=>.fail
theorem qJI(n:Nat):qe (qxX n).c (qa Try.f31) 0=[]:=by kernel_rfl
theorem qJJ:Try.f31.body=some (qa Try.f31):=by kernel_rfl
abbrev qxY:List It:=[.v (.t 0) T24,.v (.t 1) T25,.v (.t 2) T93]
abbrev qwM:List (List It):=[[.v (.t 1) T33,.obj (.t 0) false 72 5,.v (.c 0 0) T69,.row (.c 0 2) false T30 30,.row (.c 0 3) false T30 30,.mpi (.c 0 4) false T80 T3],[.nilp (.t 0),.v (.t 1) T33]]
noncomputable def qEg(n:Nat)(x:qc qxY):Option (qC qwM):=runW tab (qxX n) (qDb n) (qa Try.f31) qxY 3 25 [.tmp 6,.tmp 7] qwM x
noncomputable def qEh(n:Nat):Cw Try.prog:=⟨31,3,qxY,2,qwM,qEg n,fun _ _ h=>qbT (B:=tab) (cs:=qxX n) (lo:=qDb n) (rs:=[.tmp 6,.tmp 7]) Try.func31 (by kernel_rfl) qJJ (by kernel_rfl) (by decide) (ql (qJI n) qf) h⟩
noncomputable def quB(n:Nat):CL Try.prog:=⟨[],[qEh n,qFq n,qD6 n],4,fun _=>false⟩
noncomputable def qzA(n:Nat):Nat→St→PT (DEx×St):=fun _ _=>.fail
theorem qGK(n:Nat):qe (quB n).c (qa Try.f12) 0=[]:=by kernel_rfl
theorem qGL:Try.f12.body=some (qa Try.f12):=by kernel_rfl
abbrev qvO:List Ar:=[.d T24,.d T25]
abbrev qvP:List Ty:=[T32,T33]
noncomputable def qAF(n:Nat)(x:qQ qvO):Option (qt qvP):=(qo tab (quB n) (qzA n) (qa Try.f12) 0 (q8 qvO 26 x)).run (qcK tab [.tmp 4,.tmp 5] qvP)
noncomputable def qGM(n:Nat):Ct Try.prog:=⟨12,qvO,.ts qvP,qAF n,fun _ _ h=>qcR (B:=tab) (cs:=quB n) (lo:=qzA n) (rs:=[.tmp 4,.tmp 5]) Try.func12 (by kernel_rfl) qGL (by kernel_rfl) (by decide) (ql (qGK n) qf) h⟩
noncomputable def qvQ(n:Nat):CL Try.prog:=⟨[],[qEh n,qFq n],4,fun _=>false⟩
noncomputable def qAG(n:Nat):Nat→St→PT (DEx×St):=fun _ _=>.fail
theorem qHt(n:Nat):qe (qvQ n).c (qa Try.f13) 0=[]:=by kernel_rfl
theorem qHu:Try.f13.body=some (qa Try.f13):=by kernel_rfl
abbrev qwN:List Ar:=[.d T24,.d T25]
abbrev qwO:List Ty:=[T32,T33]
noncomputable def qBF(n:Nat)(x:qQ qwN):Option (qt qwO):=(qo tab (qvQ n) (qAG n) (qa Try.f13) 0 (q8 qwN 22 x)).run (qcK tab [.tmp 4,.tmp 5] qwO)
noncomputable def qHv(n:Nat):Ct Try.prog:=⟨13,qwN,.ts qwO,qBF n,fun _ _ h=>qcR (B:=tab) (cs:=qvQ n) (lo:=qAG n) (rs:=[.tmp 4,.tmp 5]) Try.func13 (by kernel_rfl) qHu (by kernel_rfl) (by decide) (ql (qHt n) qf) h⟩
end Go.Proofs.Ytcjgodgpaokbnaa
/- Printed: what functions of the program compute. -/
namespace Go.Proofs.Ytcjgodgpaokbnaa
open Go Go.Proofs Go.RowKit
set_option maxRecDepth 20000
noncomputable def qqI(n:Nat):CL Try.prog:=⟨[qGM n,qHv n,qzV n,qAW n],[],0,fun _=>false⟩
noncomputable def qu3(n:Nat):Nat→St→PT (DEx×St):=fun _ _=>.fail
theorem qCM(n:Nat):qe (qqI n).c (qa Try.f10) 0=[]:=by kernel_rfl
theorem qCN:Try.f10.body=some (qa Try.f10):=by kernel_rfl
abbrev qrt:List Ar:=[]
abbrev qru:List Ty:=[T4]
noncomputable def qvR(n:Nat)(x:qQ qrt):Option (qt qru):=(qo tab (qqI n) (qu3 n) (qa Try.f10) 0 (q8 qrt 39 x)).run (qcK tab [.tmp 0] qru)
noncomputable def qCO(n:Nat):Ct Try.prog:=⟨10,qrt,.ts qru,qvR n,fun _ _ h=>qcR (B:=tab) (cs:=qqI n) (lo:=qu3 n) (rs:=[.tmp 0]) Try.func10 (by kernel_rfl) qCN (by kernel_rfl) (by decide) (ql (qCM n) qf) h⟩
end Go.Proofs.Ytcjgodgpaokbnaa
/- Printed: what functions of the program compute. -/
namespace Go.Proofs.Ytcjgodgpaokbnaa
open Go Go.Proofs Go.RowKit
set_option maxRecDepth 20000
noncomputable def quC(n:Nat):CL Try.prog:=⟨[],[],0,fun _=>false⟩
noncomputable def qzB(n:Nat):Nat→St→PT (DEx×St):=fun _ _=>.fail
theorem qGN(n:Nat):qe (quC n).c (qa Try.f65) 0=[]:=by kernel_rfl
theorem qGO:Try.f65.body=some (qa Try.f65):=by kernel_rfl
abbrev quD:List It:=[.v (.t 0) T30,.obj (.t 1) true 3 1,.v (.c 0 0) T3]
abbrev qtW:List (List It):=[[.v (.t 0) T4,.obj (.t 1) true 3 1,.v (.c 0 0) T3]]
noncomputable def qGP(n:Nat)(x:qc quD):Option (qC qtW):=runW tab (quC n) (qzB n) (qa Try.f65) quD 2 8 [.tmp 3] qtW x
noncomputable def qGQ(n:Nat):Cw Try.prog:=⟨65,2,quD,1,qtW,qGP n,fun _ _ h=>qbT (B:=tab) (cs:=quC n) (lo:=qzB n) (rs:=[.tmp 3]) Try.func65 (by kernel_rfl) qGO (by kernel_rfl) (by decide) (ql (qGN n) qf) h⟩
noncomputable def qpM(n:Nat):CL Try.prog:=⟨[],[qGQ n],0,fun _=>false⟩
noncomputable def qpj(n:Nat):Nat→St→PT (DEx×St):=fun _ _=>.fail
abbrev qcj:List It:=[.v (.t 0) T25,.v (.t 7) T3,.v (.t 8) T3,.fnc (.t 1) 65 [.box true 3 1],.v (.c 0 0) T3]
abbrev qdK:List (DEx×List It):=[(.exit 0,[.fnc (.t 1) 65 [.box true 3 1],.v (.c 0 0) T3]),(.ret,[.v (.t 4) T3,.fnc (.t 1) 65 [.box true 3 1],.v (.c 0 0) T3])]
noncomputable def qpN(n:Nat)(rec:qc qcj→Option (qk qdK))(s:qc qcj):Option (qk qdK):=(qo tab (qpM n) (qpj n) (subC [true,false,true,false,false] (qa Try.f64)) 1 (mkS qcj 19 s)).run (Lp.leaf 19 qcj qdK rec)
noncomputable def qpO(n:Nat):Lp:=⟨19,qcj,qdK,qh n (qpN n)⟩
noncomputable def qA1(n:Nat):Nat→St→PT (DEx×St):=fun k st=>match k with
 | 0=>(qpO n).go st
 | _=>.fail
noncomputable def qia(n:Nat):CL Try.prog:=⟨[],[],0,fun _=>false⟩
noncomputable def que(n:Nat):Nat→St→PT (DEx×St):=fun _ _=>.fail
abbrev qjS:List It:=[.v (.t 0) T25,.v (.t 4) T3,.row (.t 3) false T30 30]
abbrev qmO:List (DEx×List It):=[(.exit 0,[.row (.t 3) false T30 30])]
noncomputable def qu4(n:Nat)(rec:qc qjS→Option (qk qmO))(s:qc qjS):Option (qk qmO):=(qo tab (qia n) (que n) (subC [true,true,false,true,false,false] (qa Try.f26)) 1 (mkS qjS 26 s)).run (Lp.leaf 26 qjS qmO rec)
noncomputable def qqJ(n:Nat):Lp:=⟨26,qjS,qmO,qh n (qu4 n)⟩
theorem qBG(n:Nat):qe (qia n).c (subC [true,true,false,true,false,false] (qa Try.f26)) 1=[]:=by kernel_rfl
theorem qzC(n:Nat)(st:St)(r:DEx×St)(h:((qqJ n).go st).Is r):DA Try.prog false (.loop (subC [true,true,false,true,false,false] (qa Try.f26))) st r:=Lp.ok (L:=qqJ n) (B:=tab) (cs:=qia n) (lo:=que n) (id:=0) rfl (ql (qBG n) qf) (fun _ _=>rfl) h
noncomputable def qu5(n:Nat):Nat→St→PT (DEx×St):=fun k st=>match k with
 | 0=>(qqJ n).go st
 | _=>.fail
theorem qCP(n:Nat):qe (qia n).c (qa Try.f26) 0=[(0,.loop (subC [true,true,false,true,false,false] (qa Try.f26)))]:=by kernel_rfl
theorem qCQ:Try.f26.body=some (qa Try.f26):=by kernel_rfl
abbrev qqK:List It:=[.v (.t 0) T25]
abbrev qpP:List (List It):=[[.row (.t 0) false T30 30]]
noncomputable def qvS(n:Nat)(x:qc qqK):Option (qC qpP):=runW tab (qia n) (qu5 n) (qa Try.f26) qqK 1 26 [.tmp 2] qpP x
noncomputable def qCR(n:Nat):Cw Try.prog:=⟨26,1,qqK,1,qpP,qvS n,fun _ _ h=>qbT (B:=tab) (cs:=qia n) (lo:=qu5 n) (rs:=[.tmp 2]) Try.func26 (by kernel_rfl) qCQ (by kernel_rfl) (by decide) (ql (qCP n) (all_cons (fun st r h=>qzC n st r h) qf)) h⟩
end Go.Proofs.Ytcjgodgpaokbnaa
