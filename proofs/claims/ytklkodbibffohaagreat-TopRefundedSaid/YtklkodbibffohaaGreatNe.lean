/- Texts DnF, DnG, DnH, DnI, DnE, DnJ in one. -/
import Derived.Test.YtklkodbibffohaaGreatNd
import Derived.Test.YtklkodbibffohaaGreatDnD
import Derived.Test.YtklkodbibffohaaGreatKc
/- Printed: what functions of the program compute. -/
set_option linter.constructorNameAsVariable false
set_option linter.unusedSimpArgs false
set_option linter.unusedVariables false
set_option linter.unusedSectionVars false
namespace Go.Proofs.YtklkodbibffohaaGreat
open Go Go.Proofs Go.RowKit
set_option maxRecDepth 20000
noncomputable def qlr(n:Nat):CL Tryz.prog:=⟨[],[],0,fun _=>false⟩
noncomputable def qqK(n:Nat):Nat→St→PT (DEx×St):=fun _ _=>.fail
theorem qAM(n:Nat):qc (qlr n).c (qa Tryz.f84) 0=[]:=by kernel_rfl
theorem qAN:Tryz.f84.body=some (qa Tryz.f84):=by kernel_rfl
abbrev qls:List It:=[.raw (.t 0)]
abbrev qkP:List (List It):=[[.row (.t 0) false T44 44]]
noncomputable def qin(n:Nat)(x:qb qls):Option (qm qkP):=runW tab (qlr n) (qqK n) (qa Tryz.f84) qls 1 8 [.tmp 2] qkP x
noncomputable def qAO(n:Nat):Cw Tryz.prog:=⟨84,1,qls,1,qkP,qin n,fun _ _ h=>qz (B:=tab) (cs:=qlr n) (lo:=qqK n) (rs:=[.tmp 2]) Tryz.func84 (by kernel_rfl) qAN (by kernel_rfl) (by decide) (qf (qAM n) all_nil) h⟩
noncomputable def qnz(n:Nat):CL Tryz.prog:=⟨[],[],0,fun _=>false⟩
noncomputable def qt4(n:Nat):Nat→St→PT (DEx×St):=fun _ _=>.fail
theorem qDG(n:Nat):qc (qnz n).c (qa Tryz.f84) 0=[]:=by kernel_rfl
theorem qDH:Tryz.f84.body=some (qa Tryz.f84):=by kernel_rfl
abbrev qnA:List It:=[.v (.t 0) T25]
abbrev qjt:List (List It):=[[.row (.t 0) false T44 44]]
noncomputable def qks(n:Nat)(x:qb qnA):Option (qm qjt):=runW tab (qnz n) (qt4 n) (qa Tryz.f84) qnA 1 8 [.tmp 2] qjt x
noncomputable def qDI(n:Nat):Cw Tryz.prog:=⟨84,1,qnA,1,qjt,qks n,fun _ _ h=>qz (B:=tab) (cs:=qnz n) (lo:=qt4 n) (rs:=[.tmp 2]) Tryz.func84 (by kernel_rfl) qDH (by kernel_rfl) (by decide) (qf (qDG n) all_nil) h⟩
end Go.Proofs.YtklkodbibffohaaGreat
/- Printed: slices.Clone. -/
namespace Go.Proofs.YtklkodbibffohaaGreat
open Go Go.Proofs Go.RowKit
theorem qDJ(n:Nat)(c:Nat):qin n (.slice none 0 c,())=some ([],()):=by kernel_rfl
theorem qDK(n:Nat)(a:Addr)(c:Nat):qin n (.slice (some a) 0 c,())=some ([],()):=by kernel_rfl
noncomputable def quX(n:Nat):Cw Tryz.prog:=qXR 84 T44 qjt (qin n) (qks n) ([],()) (fun v y m0 h=>(qAO n).okk (x:=(v,())) (y:=y) h m0 (qRP m0)) (fun l y m0 h=>(qDI n).okk (x:=(l,())) (y:=y) h m0 (qRP m0)) (fun A c=>by cases A with | none=>exact qDJ n c | some a=>exact qDK n a c)
noncomputable def qDL(n:Nat):=(quX n).M
end Go.Proofs.YtklkodbibffohaaGreat
/- Nothing here. -/
/- The iterator over the spots of a request, by hand. -/
namespace Go.Proofs.YtklkodbibffohaaGreat
open Go Go.Proofs Go.RowKit
set_option maxHeartbeats 4000000
set_option maxRecDepth 20000
def qvf(hut:Int)(lo:Int):Nat→List (Int×Int)
 | 0=>[]
 | n+1=>(hut,lo)::qvf hut (lo+1) n
def qIq(s:Int×(Int×Int)):List (Int×Int):=qvf s.1 s.2.1 (s.2.2+1-s.2.1).toNat
def qfq:List (Int×(Int×Int))→List (Int×Int)
 | []=>[]
 | s::l=>qIq s++qfq l
def qLF(l:List (Int×(Int×Int))):Bool:=Nat.ble l.length 1000000&&l.all fun s=>decide (-9223372036854775808≤s.2.1)&&decide (s.2.2<9223372036854775807)
def qOH(y:Int×Int):qk [T99]:=(y,())
theorem qQo(l:List (Int×Int)):((l.map qOH).map (tysA [T99])).length=l.length:=by rw[List.length_map,List.length_map]
def qFG(l:List (Int×(Int×Int))):Option (List (qk [T99])):=cond (qLF l) (some ((qfq l).map qOH)) none
def qro(l:List (Int×(Int×Int)))(k:Nat):Nat:=(qfq (l.take k)).length
theorem qHA(h:Int):∀(n:Nat) (lo:Int),(qvf h lo n).length=n
 | 0,_=>rfl
 | n+1,lo=>by simp[qvf,qHA h n]
theorem qOI(h:Int):∀(n:Nat) (lo:Int) (j:Nat),j<n→(qvf h lo n)[j]?=some (h,lo+j)
 | n+1,lo,0,_=>by simp[qvf]
 | n+1,lo,j+1,hj=>by
  simp only[qvf,List.getElem?_cons_succ]
  rw[qOI h n (lo+1) j (by omega)]
  congr 2
  omega
theorem qJN:∀(l m:List (Int×(Int×Int))),qfq (l++m)=qfq l++qfq m
 | [],_=>rfl
 | s::l,m=>by simp[qfq,qJN l m]
theorem qT5(l:List (Int×(Int×Int)))(k:Nat)(hk:k<l.length):qro l (k+1)=qro l k+(l[k].2.2+1-l[k].2.1).toNat:=by
 unfold qro
 rw[List.take_succ_eq_append_getElem hk,qJN]
 simp[qfq,qIq,qHA]
theorem qVh(l:List (Int×(Int×Int))):qro l l.length=(qfq l).length:=by unfold qro;simp
theorem qWJ(l:List (Int×(Int×Int)))(k:Nat)(hk:k<l.length)(j:Nat)(hj:j<(l[k].2.2+1-l[k].2.1).toNat):(qfq l)[qro l k+j]?=some (l[k].1,l[k].2.1+j):=by
 have h1:l=l.take k++l[k]::l.drop (k+1):=by simp
 have h2:qfq l=qfq (l.take k)++(qIq l[k]++qfq (l.drop (k+1))):=by
  conv=>lhs;rw[h1]
  rw[qJN];rfl
 rw[h2,List.getElem?_append_right (by unfold qro;omega),show qro l k+j-(qfq (l.take k)).length=j by unfold qro;omega,List.getElem?_append_left (by unfold qIq;rw[qHA];exact hj)]
 exact qOI _ _ _ _ hj
theorem qXt{a b:Int}(h:a=b):[AV.int a]=[AV.int b]:=by rw[h]
theorem qWK(x:qk [T44])(l:List (qk [T99]))(h:qFG x.1.2.2.2.2=some l):qN5 Tryz.prog false 120 [] (qoE [T44] x) (l.map (tysA [T99])):=by
 obtain ⟨⟨ma,mb,mc,md,ss⟩,u⟩:=x
 change List (Int×(Int×Int)) at ss
 unfold qFG at h
 cases hb:qLF ss with
 | false=>simp only at h;rw[hb] at h;cases h
 | true =>
 simp only at h;rw[hb] at h
 injection h with h
 subst h
 unfold qLF at hb
 simp only[Bool.and_eq_true,Nat.ble_eq,List.all_eq_true,decide_eq_true_eq] at hb
 obtain ⟨hlen,hbd⟩:=hb
 refine ⟨enters_of Tryz.func120 (by kernel_rfl) rfl,fun lp T J Jx X hcJ hcx hone hy=>?_⟩
 have hyk:∀k (hk:k<ss.length) (j:Nat),j<(ss[k].2.2+1-ss[k].2.1).toNat→qN4 Tryz.prog T lp [.agg [.int ss[k].1,.int (ss[k].2.1+j)]] (J (qro ss k+j)) (J (qro ss k+j+1)) Jx:=fun k hk j hj=>by
  have h1:=qWJ ss k hk j hj
  have h2:=(List.getElem?_eq_some_iff.1 h1).1
  have h3:=hy (qro ss k+j) (by rw[qQo];exact h2)
  rw[List.getElem_map,List.getElem_map,(List.getElem?_eq_some_iff.1 h1).2] at h3
  exact h3
 have hY:=Lib.hid hyk
 have hN:=Lib.hid (qT5 ss)
 have hN0:qro ss 0=0:=rfl
 have hNl:qro ss ss.length=(((qfq ss).map qOH).map (tysA [T99])).length:=by rw[qVh,qQo]
 show MCT Tryz.prog T 120 [.val (.func (.yield lp) #[] #[]),.rp [.val (.int .i64 ma),.val (.int .i64 mb),.val (.int .i64 mc),.val (.int .i64 md),.sl 3 (ss.map fun s=>[.val (.int .i64 s.1),.val (.int .i64 s.2.1),.val (.int .i64 s.2.2)])]] [.nodef,.ghost X (J 0)] fun _ H'=>∃X',HE.ghost X' (J (((qfq ss).map qOH).map (tysA [T99])).length)∈H'∨HE.ghost X' Jx∈H'
 rw[← hNl,← hN0]
 clear hy hyk hNl
 generalize hrr:(ss.map fun s=>[AV.val (.int .i64 s.1),AV.val (.int .i64 s.2.1),AV.val (.int .i64 s.2.2)])=rr
 have hrl:rr.length=ss.length:=by rw[← hrr];simp
 have hra:∀k (hk:k<ss.length),rr[k]?=some [.int ss[k].1,.int ss[k].2.1,.int ss[k].2.2]:=fun k hk=>by rw[← hrr,List.getElem?_map,List.getElem?_eq_getElem hk];rfl
 (refine MCT.of Tryz.func120 (by kernel_rfl) rfl (by simp only[Tryz.ntmps120,List.length_cons,List.length_nil,Nat.reduceAdd,Nat.reduceSub,List.replicate_succ,List.replicate_zero,List.cons_append,List.nil_append];rfl) fun w0 S hM hT=>?_;have hF:Wf Fence.wide:=.inl rfl)
 (repeat' (first | ((first | with_reducible refine AL.id_ ?_ | with_reducible refine AE.id_ ?_);first | refine AL.build0 hF rfl rfl rfl (fun b=>⟨_,(by simp only[AV.put];rfl),?_⟩) | refine W.s rfl rfl (by first | exact AY.bx rfl (by simp only[evO,AV.get];rfl) rfl | exact AY.mkFn rfl (by simp only[List.map_cons,List.map_nil,evO,AV.get];rfl) | exact AY.mkFn1 rfl (by simp only[evO,AV.get];rfl) (by simp only[List.map_cons,List.map_nil,evO,AV.get];rfl) | exact hEQ rfl rfl rfl | exact Step2.sound (by first | (((first | (apply Step2.a;constructor) | (apply Step2.b;constructor))<;>first | infer_instance | skip)<;>(first | infer_instance | (refine w64c ?_;omega) | (refine qI4 ?_;omega) | (refine qEX ?_;omega) | (refine qEY ?_;omega) | (refine qI1 ?_;omega) | ((repeat (first | exact .head _ | refine .tail _ ?_));done) | assumption | (simp only[List.drop_succ_cons,List.drop_zero,List.length_map,Nat.zero_add,Nat.mul_one];rfl) | rfl | omega | (simp;done))) | fail) rfl | exact AY.call rfl rfl _ rfl (by fail) | exact AY.slice1 rfl rfl rfl (by rfl) (by first | (simp;done) | fail) | exact AY.callF rfl _ _ rfl _ rfl (by fail) | exact AY.old1k 0 rfl rfl rfl (by first | assumption | rfl) | exact AY.old1k 1 rfl rfl rfl (by first | assumption | rfl) | exact AY.old1k 2 rfl rfl rfl (by first | assumption | rfl) | exact AY.oldNk 0 rfl rfl rfl (by first | omega | (simp;omega)) (by first | assumption | rfl) | exact AY.oldNk 1 rfl rfl rfl (by first | omega | (simp;omega)) (by first | assumption | rfl)) (by simp only[AV.put];rfl) ?_ | (refine AL.nilK (hK _ _ ?_);clear hK K) | (refine AE.nil (hK _ ?_);clear hK K) | refine W.k rfl rfl (by simp only[AV.put];rfl) ?_ | refine AL.unguardS rfl rfl ?_ | refine AL.al hF rfl rfl rfl (by first | (simp only[Value.cells,List.map_cons,List.map_nil];rfl) | rfl) (fun b=>⟨_,(by simp only[AV.put];rfl),?_⟩) | refine AL.st1 hF rfl rfl rfl rfl (by simp only[evO,AV.get];rfl) (by first | exact qvA | exact qvB | exact qvC | exact qvD | exact qvE | exact qvF | exact qvG | exact qvH) (by rfl) rfl (by rfl) (by first | (simp;done) | (simp;omega) | omega) (by simp only[List.set];rfl) ?_ | refine AL.stW hF rfl rfl rfl rfl (by simp only[evO,AV.get];rfl) (by first | exact qvA | exact qvB | exact qvC | exact qvD | exact qvE | exact qvF | exact qvG | exact qvH) (by rfl) (by rfl) (by rfl) (by first | rfl | simp) (by simp only[List.set];rfl) ?_) | (with_reducible refine Awp.id_ ?_;first | refine Awp.seq ?_ | refine Awp.regionK (by first | (simp only[AV.putO,AV.put];rfl) | rfl) (fun K hK=>?_) | refine Awp.drawE (by first | (simp only[AV.putO,AV.put];rfl) | rfl) mixed rfl (by kernel_rfl) (fun K hK=>?_) | refine Awp.block ?_ | refine Awp.skip ?_ | refine Awp.exit ?_ | refine Awp.ret ?_ | refine Awp.condT rfl ?_ | refine Awp.condF rfl ?_) | refine qBU ?_ | refine qBV ?_ | refine qBW ?_ | refine qt9 ?_ | refine qua ?_ | refine qub ?_ | refine quc rfl ?_ | ((first | ((first | with_reducible refine AL.id_ ?_ | with_reducible refine AE.id_ ?_);(fail_if_success refine W.on rfl ?_);refine W.p rfl rfl (by simp only[AV.put];rfl) (by simp only[AV.put];rfl) (fun hb=>?_) (fun hb=>?_)) | (with_reducible refine Awp.id_ ?_;refine Awp.cond _ rfl (fun hb=>?_) (fun hb=>?_)))<;>(try simp only[z1,z2,z3,z4,z5,z6,z7,z8,y5,y6,y7,y8,z9,x1,x2,x3,x4,x5,x6,x7,x8] at hb;try (exfalso;omega)))))
 refine Awp.loopM [4,5,10,11,12,13,14,15,16,17,18,19,20,21,22,23,24,25,26,27,28,29,30] [9] (fun n vs H=>∃(k:Nat) (X':Nat→Prop),n+k=ss.length∧vs=[.int k]∧H=[.nodef,.ghost X' (J (qro ss k))]) ss.length ⟨0,X,rfl,rfl,rfl⟩ ?_
 rintro n ju vs H ⟨k,X',hk,rfl,rfl⟩
 (refine Awp.slots (by first | (simp only[putl,mask,AV.put];rfl) | rfl) ?_)
 by_cases hlt:k<ss.length
 ·have hrow:=hra k hlt
  have hYk:=Lib.hid (hY.out k hlt)
  have hNk:=hN.out k hlt
  obtain ⟨hb1,hb2⟩:=hbd _ (List.getElem_mem hlt)
  generalize ss[k].1=hu at *
  generalize ss[k].2.1=lo at *
  generalize ss[k].2.2=hi at *
  (repeat' (first | ((first | with_reducible refine AL.id_ ?_ | with_reducible refine AE.id_ ?_);first | refine AL.build0 hF rfl rfl rfl (fun b=>⟨_,(by simp only[AV.put];rfl),?_⟩) | refine W.s rfl rfl (by first | exact AY.bx rfl (by simp only[evO,AV.get];rfl) rfl | exact AY.mkFn rfl (by simp only[List.map_cons,List.map_nil,evO,AV.get];rfl) | exact AY.mkFn1 rfl (by simp only[evO,AV.get];rfl) (by simp only[List.map_cons,List.map_nil,evO,AV.get];rfl) | exact hEQ rfl rfl rfl | exact Step2.sound (by first | (((first | (apply Step2.a;constructor) | (apply Step2.b;constructor))<;>first | infer_instance | skip)<;>(first | infer_instance | (refine w64c ?_;omega) | (refine qI4 ?_;omega) | (refine qEX ?_;omega) | (refine qEY ?_;omega) | (refine qI1 ?_;omega) | ((repeat (first | exact .head _ | refine .tail _ ?_));done) | assumption | (simp only[List.drop_succ_cons,List.drop_zero,List.length_map,Nat.zero_add,Nat.mul_one];rfl) | rfl | omega | (simp;done))) | fail) rfl | exact AY.call rfl rfl _ rfl (by fail) | exact AY.slice1 rfl rfl rfl (by rfl) (by first | (simp;done) | fail) | exact AY.callF rfl _ _ rfl _ rfl (by fail) | exact AY.old1k 0 rfl rfl rfl (by first | assumption | rfl) | exact AY.old1k 1 rfl rfl rfl (by first | assumption | rfl) | exact AY.old1k 2 rfl rfl rfl (by first | assumption | rfl) | exact AY.oldNk 0 rfl rfl rfl (by first | omega | (simp;omega)) (by first | assumption | rfl) | exact AY.oldNk 1 rfl rfl rfl (by first | omega | (simp;omega)) (by first | assumption | rfl)) (by simp only[AV.put];rfl) ?_ | (refine AL.nilK (hK _ _ ?_);clear hK K) | (refine AE.nil (hK _ ?_);clear hK K) | refine W.k rfl rfl (by simp only[AV.put];rfl) ?_ | refine AL.unguardS rfl rfl ?_ | refine AL.al hF rfl rfl rfl (by first | (simp only[Value.cells,List.map_cons,List.map_nil];rfl) | rfl) (fun b=>⟨_,(by simp only[AV.put];rfl),?_⟩) | refine AL.st1 hF rfl rfl rfl rfl (by simp only[evO,AV.get];rfl) (by first | exact qvA | exact qvB | exact qvC | exact qvD | exact qvE | exact qvF | exact qvG | exact qvH) (by rfl) rfl (by rfl) (by first | (simp;done) | (simp;omega) | omega) (by simp only[List.set];rfl) ?_ | refine AL.stW hF rfl rfl rfl rfl (by simp only[evO,AV.get];rfl) (by first | exact qvA | exact qvB | exact qvC | exact qvD | exact qvE | exact qvF | exact qvG | exact qvH) (by rfl) (by rfl) (by rfl) (by first | rfl | simp) (by simp only[List.set];rfl) ?_) | (with_reducible refine Awp.id_ ?_;first | refine Awp.seq ?_ | refine Awp.regionK (by first | (simp only[AV.putO,AV.put];rfl) | rfl) (fun K hK=>?_) | refine Awp.drawE (by first | (simp only[AV.putO,AV.put];rfl) | rfl) mixed rfl (by kernel_rfl) (fun K hK=>?_) | refine Awp.block ?_ | refine Awp.skip ?_ | refine Awp.exit ?_ | refine Awp.ret ?_ | refine Awp.condT rfl ?_ | refine Awp.condF rfl ?_) | refine qBU ?_ | refine qBV ?_ | refine qBW ?_ | refine qt9 ?_ | refine qua ?_ | refine qub ?_ | refine quc rfl ?_ | ((first | ((first | with_reducible refine AL.id_ ?_ | with_reducible refine AE.id_ ?_);(fail_if_success refine W.on rfl ?_);refine W.p rfl rfl (by simp only[AV.put];rfl) (by simp only[AV.put];rfl) (fun hb=>?_) (fun hb=>?_)) | (with_reducible refine Awp.id_ ?_;refine Awp.cond _ rfl (fun hb=>?_) (fun hb=>?_)))<;>(try simp only[z1,z2,z3,z4,z5,z6,z7,z8,y5,y6,y7,y8,z9,x1,x2,x3,x4,x5,x6,x7,x8] at hb;try (exfalso;omega)))))
  refine Awp.loopM [16,17,18,19,20,21,22,23,24,25,26,27,28,29] [5] (fun n vs H=>∃(j:Nat) (X3:Nat→Prop),n+j=(hi+1-lo).toNat∧vs=[.int (lo+j)]∧H=[.blk b 68 [.int hu,.int lo,.int hi],.nodef,.ghost X3 (J (qro ss k+j))]) (hi+1-lo).toNat ⟨0,X',by omega,by simp;rfl,rfl⟩ ?_
  rintro n1 ju1 vs1 H1 ⟨j,X3,hj,rfl,rfl⟩
  (refine Awp.slots (by first | (simp only[putl,mask,AV.put];rfl) | rfl) ?_)
  by_cases hlt2:j<(hi+1-lo).toNat
  ·have hle:lo+j≤hi:=by omega
   have hye:=hYk.out j hlt2
   (repeat' (first | ((first | with_reducible refine AL.id_ ?_ | with_reducible refine AE.id_ ?_);first | refine AL.build0 hF rfl rfl rfl (fun b=>⟨_,(by simp only[AV.put];rfl),?_⟩) | refine W.s rfl rfl (by first | exact AY.bx rfl (by simp only[evO,AV.get];rfl) rfl | exact AY.mkFn rfl (by simp only[List.map_cons,List.map_nil,evO,AV.get];rfl) | exact AY.mkFn1 rfl (by simp only[evO,AV.get];rfl) (by simp only[List.map_cons,List.map_nil,evO,AV.get];rfl) | exact AY.build rfl (by simp only[List.map_cons,List.map_nil,evO,AV.get];rfl) (by simp only[List.map_cons,List.map_nil];repeat (first | exact Places.nil | apply Places.cons)) (by first | (simp only[zip3,qgv,qjm,qdR,qM,qnq,List.map_cons,List.map_nil,List.length_cons,List.length_nil,List.take_succ_cons,List.take_zero,List.drop_succ_cons,List.drop_zero,List.replicate_succ,List.replicate_zero,List.cons_append,List.nil_append,List.append_nil,List.drop_nil,List.take_nil,List.toList_toArray,Nat.sub_zero,Nat.reduceSub,Nat.reduceAdd,Nat.reduceMul,Nat.zero_mul,Nat.one_mul,Nat.mul_one,Nat.zero_add,Nat.le_refl,Nat.reduceLeDiff,and_self,true_and,and_true,if_true];rfl) | rfl) | exact AY.buildS rfl (by simp only[List.map_cons,List.map_nil,evO,AV.get];rfl) (by first | rfl | decide) (by omega) (by first | (simp only[zip3,qgv,qjm,qdR,qM,qnq,List.map_cons,List.map_nil,List.length_cons,List.length_nil,List.take_succ_cons,List.take_zero,List.drop_succ_cons,List.drop_zero,List.replicate_succ,List.replicate_zero,List.cons_append,List.nil_append,List.append_nil,List.drop_nil,List.take_nil,List.toList_toArray,Nat.sub_zero,Nat.reduceSub,Nat.reduceAdd,Nat.reduceMul,Nat.zero_mul,Nat.one_mul,Nat.mul_one,Nat.zero_add,Nat.le_refl,Nat.reduceLeDiff,and_self,true_and,and_true,if_true];rfl) | rfl) (by first | (simp only[zip3,qgv,qjm,qdR,qM,qnq,List.map_cons,List.map_nil,List.length_cons,List.length_nil,List.take_succ_cons,List.take_zero,List.drop_succ_cons,List.drop_zero,List.replicate_succ,List.replicate_zero,List.cons_append,List.nil_append,List.append_nil,List.drop_nil,List.take_nil,List.toList_toArray,Nat.sub_zero,Nat.reduceSub,Nat.reduceAdd,Nat.reduceMul,Nat.zero_mul,Nat.one_mul,Nat.mul_one,Nat.zero_add,Nat.le_refl,Nat.reduceLeDiff,and_self,true_and,and_true,if_true];rfl) | rfl) | exact hEQ rfl rfl rfl | exact Step2.sound (by first | (((first | (apply Step2.a;constructor) | (apply Step2.b;constructor))<;>first | infer_instance | skip)<;>(first | infer_instance | (refine w64c ?_;omega) | (refine qI4 ?_;omega) | (refine qEX ?_;omega) | (refine qEY ?_;omega) | (refine qI1 ?_;omega) | ((repeat (first | exact .head _ | refine .tail _ ?_));done) | assumption | (simp only[List.drop_succ_cons,List.drop_zero,List.length_map,Nat.zero_add,Nat.mul_one];rfl) | rfl | omega | (simp;done))) | fail) rfl | exact AY.call rfl rfl _ rfl (by fail) | exact AY.slice1 rfl rfl rfl (by rfl) (by first | (simp;done) | fail) | exact AY.callF rfl _ _ rfl _ rfl (by fail) | exact AY.old1k 0 rfl rfl rfl (by first | assumption | rfl) | exact AY.old1k 1 rfl rfl rfl (by first | assumption | rfl) | exact AY.old1k 2 rfl rfl rfl (by first | assumption | rfl) | exact AY.oldNk 0 rfl rfl rfl (by first | omega | (simp;omega)) (by first | assumption | rfl) | exact AY.oldNk 1 rfl rfl rfl (by first | omega | (simp;omega)) (by first | assumption | rfl)) (by simp only[AV.put];rfl) ?_ | (refine AL.nilK (hK _ _ ?_);clear hK K) | (refine AE.nil (hK _ ?_);clear hK K) | refine W.k rfl rfl (by simp only[AV.put];rfl) ?_ | refine AL.unguardS rfl rfl ?_ | refine AL.al hF rfl rfl rfl (by first | (simp only[Value.cells,List.map_cons,List.map_nil];rfl) | rfl) (fun b=>⟨_,(by simp only[AV.put];rfl),?_⟩) | refine AL.st1 hF rfl rfl rfl rfl (by simp only[evO,AV.get];rfl) (by first | exact qvA | exact qvB | exact qvC | exact qvD | exact qvE | exact qvF | exact qvG | exact qvH) (by rfl) rfl (by rfl) (by first | (simp;done) | (simp;omega) | omega) (by simp only[List.set];rfl) ?_ | refine AL.stW hF rfl rfl rfl rfl (by simp only[evO,AV.get];rfl) (by first | exact qvA | exact qvB | exact qvC | exact qvD | exact qvE | exact qvF | exact qvG | exact qvH) (by rfl) (by rfl) (by rfl) (by first | rfl | simp) (by simp only[List.set];rfl) ?_) | (with_reducible refine Awp.id_ ?_;first | refine Awp.seq ?_ | refine Awp.regionK (by first | (simp only[AV.putO,AV.put];rfl) | rfl) (fun K hK=>?_) | refine Awp.drawE (by first | (simp only[AV.putO,AV.put];rfl) | rfl) mixed rfl (by kernel_rfl) (fun K hK=>?_) | refine Awp.block ?_ | refine Awp.skip ?_ | refine Awp.exit ?_ | refine Awp.ret ?_ | refine Awp.condT rfl ?_ | refine Awp.condF rfl ?_) | refine qBU ?_ | refine qBV ?_ | refine qBW ?_ | refine qt9 ?_ | refine qua ?_ | refine qub ?_ | refine quc rfl ?_ | ((first | ((first | with_reducible refine AL.id_ ?_ | with_reducible refine AE.id_ ?_);(fail_if_success refine W.on rfl ?_);refine W.p rfl rfl (by simp only[AV.put];rfl) (by simp only[AV.put];rfl) (fun hb=>?_) (fun hb=>?_)) | (with_reducible refine Awp.id_ ?_;refine Awp.cond _ rfl (fun hb=>?_) (fun hb=>?_)))<;>(try simp only[z1,z2,z3,z4,z5,z6,z7,z8,y5,y6,y7,y8,z9,x1,x2,x3,x4,x5,x6,x7,x8] at hb;try (exfalso;omega)))))
   have hgho:∀i e,([HE.blk b 68 [.int hu,.int lo,.int hi],.nodef,.ghost X3 (J (qro ss k+j))])[i]?=some e→e.isGhost→i=2:=fun i e h1 h2=>by
    match i,h1 with
    | 0,h1=>cases h1;exact h2.elim
    | 1,h1=>cases h1;exact h2.elim
    | 2,_=>rfl
   refine AL.yield 2 rfl rfl rfl rfl _ rfl rfl hgho (by simp) (fun b hA=>hT b fun h=>(hA.1 h).1) hye (hcJ _) hcx (fun X4=>?_) (fun X4=>?_)
   ·refine AL.norm (by simp only[AV.put];rfl) rfl ?_
    (repeat' (first | ((first | with_reducible refine AL.id_ ?_ | with_reducible refine AE.id_ ?_);first | refine AL.build0 hF rfl rfl rfl (fun b=>⟨_,(by simp only[AV.put];rfl),?_⟩) | refine W.s rfl rfl (by first | exact AY.bx rfl (by simp only[evO,AV.get];rfl) rfl | exact AY.mkFn rfl (by simp only[List.map_cons,List.map_nil,evO,AV.get];rfl) | exact AY.mkFn1 rfl (by simp only[evO,AV.get];rfl) (by simp only[List.map_cons,List.map_nil,evO,AV.get];rfl) | exact AY.build rfl (by simp only[List.map_cons,List.map_nil,evO,AV.get];rfl) (by simp only[List.map_cons,List.map_nil];repeat (first | exact Places.nil | apply Places.cons)) (by first | (simp only[zip3,qgv,qjm,qdR,qM,qnq,List.map_cons,List.map_nil,List.length_cons,List.length_nil,List.take_succ_cons,List.take_zero,List.drop_succ_cons,List.drop_zero,List.replicate_succ,List.replicate_zero,List.cons_append,List.nil_append,List.append_nil,List.drop_nil,List.take_nil,List.toList_toArray,Nat.sub_zero,Nat.reduceSub,Nat.reduceAdd,Nat.reduceMul,Nat.zero_mul,Nat.one_mul,Nat.mul_one,Nat.zero_add,Nat.le_refl,Nat.reduceLeDiff,and_self,true_and,and_true,if_true];rfl) | rfl) | exact AY.buildS rfl (by simp only[List.map_cons,List.map_nil,evO,AV.get];rfl) (by first | rfl | decide) (by omega) (by first | (simp only[zip3,qgv,qjm,qdR,qM,qnq,List.map_cons,List.map_nil,List.length_cons,List.length_nil,List.take_succ_cons,List.take_zero,List.drop_succ_cons,List.drop_zero,List.replicate_succ,List.replicate_zero,List.cons_append,List.nil_append,List.append_nil,List.drop_nil,List.take_nil,List.toList_toArray,Nat.sub_zero,Nat.reduceSub,Nat.reduceAdd,Nat.reduceMul,Nat.zero_mul,Nat.one_mul,Nat.mul_one,Nat.zero_add,Nat.le_refl,Nat.reduceLeDiff,and_self,true_and,and_true,if_true];rfl) | rfl) (by first | (simp only[zip3,qgv,qjm,qdR,qM,qnq,List.map_cons,List.map_nil,List.length_cons,List.length_nil,List.take_succ_cons,List.take_zero,List.drop_succ_cons,List.drop_zero,List.replicate_succ,List.replicate_zero,List.cons_append,List.nil_append,List.append_nil,List.drop_nil,List.take_nil,List.toList_toArray,Nat.sub_zero,Nat.reduceSub,Nat.reduceAdd,Nat.reduceMul,Nat.zero_mul,Nat.one_mul,Nat.mul_one,Nat.zero_add,Nat.le_refl,Nat.reduceLeDiff,and_self,true_and,and_true,if_true];rfl) | rfl) | exact hEQ rfl rfl rfl | exact Step2.sound (by first | (((first | (apply Step2.a;constructor) | (apply Step2.b;constructor))<;>first | infer_instance | skip)<;>(first | infer_instance | (refine w64c ?_;omega) | (refine qI4 ?_;omega) | (refine qEX ?_;omega) | (refine qEY ?_;omega) | (refine qI1 ?_;omega) | ((repeat (first | exact .head _ | refine .tail _ ?_));done) | assumption | (simp only[List.drop_succ_cons,List.drop_zero,List.length_map,Nat.zero_add,Nat.mul_one];rfl) | rfl | omega | (simp;done))) | fail) rfl | exact AY.call rfl rfl _ rfl (by fail) | exact AY.slice1 rfl rfl rfl (by rfl) (by first | (simp;done) | fail) | exact AY.callF rfl _ _ rfl _ rfl (by fail) | exact AY.old1k 0 rfl rfl rfl (by first | assumption | rfl) | exact AY.old1k 1 rfl rfl rfl (by first | assumption | rfl) | exact AY.old1k 2 rfl rfl rfl (by first | assumption | rfl) | exact AY.oldNk 0 rfl rfl rfl (by first | omega | (simp;omega)) (by first | assumption | rfl) | exact AY.oldNk 1 rfl rfl rfl (by first | omega | (simp;omega)) (by first | assumption | rfl)) (by simp only[AV.put];rfl) ?_ | (refine AL.nilK (hK _ _ ?_);clear hK K) | (refine AE.nil (hK _ ?_);clear hK K) | refine W.k rfl rfl (by simp only[AV.put];rfl) ?_ | refine AL.unguardS rfl rfl ?_ | refine AL.al hF rfl rfl rfl (by first | (simp only[Value.cells,List.map_cons,List.map_nil];rfl) | rfl) (fun b=>⟨_,(by simp only[AV.put];rfl),?_⟩) | refine AL.st1 hF rfl rfl rfl rfl (by simp only[evO,AV.get];rfl) (by first | exact qvA | exact qvB | exact qvC | exact qvD | exact qvE | exact qvF | exact qvG | exact qvH) (by rfl) rfl (by rfl) (by first | (simp;done) | (simp;omega) | omega) (by simp only[List.set];rfl) ?_ | refine AL.stW hF rfl rfl rfl rfl (by simp only[evO,AV.get];rfl) (by first | exact qvA | exact qvB | exact qvC | exact qvD | exact qvE | exact qvF | exact qvG | exact qvH) (by rfl) (by rfl) (by rfl) (by first | rfl | simp) (by simp only[List.set];rfl) ?_) | (with_reducible refine Awp.id_ ?_;first | refine Awp.seq ?_ | refine Awp.regionK (by first | (simp only[AV.putO,AV.put];rfl) | rfl) (fun K hK=>?_) | refine Awp.drawE (by first | (simp only[AV.putO,AV.put];rfl) | rfl) mixed rfl (by kernel_rfl) (fun K hK=>?_) | refine Awp.block ?_ | refine Awp.skip ?_ | refine Awp.exit ?_ | refine Awp.ret ?_ | refine Awp.condT rfl ?_ | refine Awp.condF rfl ?_) | refine qBU ?_ | refine qBV ?_ | refine qBW ?_ | refine qt9 ?_ | refine qua ?_ | refine qub ?_ | refine quc rfl ?_ | ((first | ((first | with_reducible refine AL.id_ ?_ | with_reducible refine AE.id_ ?_);(fail_if_success refine W.on rfl ?_);refine W.p rfl rfl (by simp only[AV.put];rfl) (by simp only[AV.put];rfl) (fun hb=>?_) (fun hb=>?_)) | (with_reducible refine Awp.id_ ?_;refine Awp.cond _ rfl (fun hb=>?_) (fun hb=>?_)))<;>(try simp only[z1,z2,z3,z4,z5,z6,z7,z8,y5,y6,y7,y8,z9,x1,x2,x3,x4,x5,x6,x7,x8] at hb;try (exfalso;omega)))))
    (refine qXA (n1-1) (by first | (simp only[AV.putO,AV.put];rfl) | rfl) (by omega) ?_ (by simp only[List.map,AV.get,mask,putl,AV.put]))
    exact ⟨j+1,X4,by omega,qXt (by omega),rfl⟩
   ·refine AL.norm (by simp only[AV.put];rfl) rfl ?_
    (repeat' (first | ((first | with_reducible refine AL.id_ ?_ | with_reducible refine AE.id_ ?_);first | refine AL.build0 hF rfl rfl rfl (fun b=>⟨_,(by simp only[AV.put];rfl),?_⟩) | refine W.s rfl rfl (by first | exact AY.bx rfl (by simp only[evO,AV.get];rfl) rfl | exact AY.mkFn rfl (by simp only[List.map_cons,List.map_nil,evO,AV.get];rfl) | exact AY.mkFn1 rfl (by simp only[evO,AV.get];rfl) (by simp only[List.map_cons,List.map_nil,evO,AV.get];rfl) | exact AY.build rfl (by simp only[List.map_cons,List.map_nil,evO,AV.get];rfl) (by simp only[List.map_cons,List.map_nil];repeat (first | exact Places.nil | apply Places.cons)) (by first | (simp only[zip3,qgv,qjm,qdR,qM,qnq,List.map_cons,List.map_nil,List.length_cons,List.length_nil,List.take_succ_cons,List.take_zero,List.drop_succ_cons,List.drop_zero,List.replicate_succ,List.replicate_zero,List.cons_append,List.nil_append,List.append_nil,List.drop_nil,List.take_nil,List.toList_toArray,Nat.sub_zero,Nat.reduceSub,Nat.reduceAdd,Nat.reduceMul,Nat.zero_mul,Nat.one_mul,Nat.mul_one,Nat.zero_add,Nat.le_refl,Nat.reduceLeDiff,and_self,true_and,and_true,if_true];rfl) | rfl) | exact AY.buildS rfl (by simp only[List.map_cons,List.map_nil,evO,AV.get];rfl) (by first | rfl | decide) (by omega) (by first | (simp only[zip3,qgv,qjm,qdR,qM,qnq,List.map_cons,List.map_nil,List.length_cons,List.length_nil,List.take_succ_cons,List.take_zero,List.drop_succ_cons,List.drop_zero,List.replicate_succ,List.replicate_zero,List.cons_append,List.nil_append,List.append_nil,List.drop_nil,List.take_nil,List.toList_toArray,Nat.sub_zero,Nat.reduceSub,Nat.reduceAdd,Nat.reduceMul,Nat.zero_mul,Nat.one_mul,Nat.mul_one,Nat.zero_add,Nat.le_refl,Nat.reduceLeDiff,and_self,true_and,and_true,if_true];rfl) | rfl) (by first | (simp only[zip3,qgv,qjm,qdR,qM,qnq,List.map_cons,List.map_nil,List.length_cons,List.length_nil,List.take_succ_cons,List.take_zero,List.drop_succ_cons,List.drop_zero,List.replicate_succ,List.replicate_zero,List.cons_append,List.nil_append,List.append_nil,List.drop_nil,List.take_nil,List.toList_toArray,Nat.sub_zero,Nat.reduceSub,Nat.reduceAdd,Nat.reduceMul,Nat.zero_mul,Nat.one_mul,Nat.mul_one,Nat.zero_add,Nat.le_refl,Nat.reduceLeDiff,and_self,true_and,and_true,if_true];rfl) | rfl) | exact hEQ rfl rfl rfl | exact Step2.sound (by first | (((first | (apply Step2.a;constructor) | (apply Step2.b;constructor))<;>first | infer_instance | skip)<;>(first | infer_instance | (refine w64c ?_;omega) | (refine qI4 ?_;omega) | (refine qEX ?_;omega) | (refine qEY ?_;omega) | (refine qI1 ?_;omega) | ((repeat (first | exact .head _ | refine .tail _ ?_));done) | assumption | (simp only[List.drop_succ_cons,List.drop_zero,List.length_map,Nat.zero_add,Nat.mul_one];rfl) | rfl | omega | (simp;done))) | fail) rfl | exact AY.call rfl rfl _ rfl (by fail) | exact AY.slice1 rfl rfl rfl (by rfl) (by first | (simp;done) | fail) | exact AY.callF rfl _ _ rfl _ rfl (by fail) | exact AY.old1k 0 rfl rfl rfl (by first | assumption | rfl) | exact AY.old1k 1 rfl rfl rfl (by first | assumption | rfl) | exact AY.old1k 2 rfl rfl rfl (by first | assumption | rfl) | exact AY.oldNk 0 rfl rfl rfl (by first | omega | (simp;omega)) (by first | assumption | rfl) | exact AY.oldNk 1 rfl rfl rfl (by first | omega | (simp;omega)) (by first | assumption | rfl)) (by simp only[AV.put];rfl) ?_ | (refine AL.nilK (hK _ _ ?_);clear hK K) | (refine AE.nil (hK _ ?_);clear hK K) | refine W.k rfl rfl (by simp only[AV.put];rfl) ?_ | refine AL.unguardS rfl rfl ?_ | refine AL.al hF rfl rfl rfl (by first | (simp only[Value.cells,List.map_cons,List.map_nil];rfl) | rfl) (fun b=>⟨_,(by simp only[AV.put];rfl),?_⟩) | refine AL.st1 hF rfl rfl rfl rfl (by simp only[evO,AV.get];rfl) (by first | exact qvA | exact qvB | exact qvC | exact qvD | exact qvE | exact qvF | exact qvG | exact qvH) (by rfl) rfl (by rfl) (by first | (simp;done) | (simp;omega) | omega) (by simp only[List.set];rfl) ?_ | refine AL.stW hF rfl rfl rfl rfl (by simp only[evO,AV.get];rfl) (by first | exact qvA | exact qvB | exact qvC | exact qvD | exact qvE | exact qvF | exact qvG | exact qvH) (by rfl) (by rfl) (by rfl) (by first | rfl | simp) (by simp only[List.set];rfl) ?_) | (with_reducible refine Awp.id_ ?_;first | refine Awp.seq ?_ | refine Awp.regionK (by first | (simp only[AV.putO,AV.put];rfl) | rfl) (fun K hK=>?_) | refine Awp.drawE (by first | (simp only[AV.putO,AV.put];rfl) | rfl) mixed rfl (by kernel_rfl) (fun K hK=>?_) | refine Awp.block ?_ | refine Awp.skip ?_ | refine Awp.exit ?_ | refine Awp.ret ?_ | refine Awp.condT rfl ?_ | refine Awp.condF rfl ?_) | refine qBU ?_ | refine qBV ?_ | refine qBW ?_ | refine qt9 ?_ | refine qua ?_ | refine qub ?_ | refine quc rfl ?_ | ((first | ((first | with_reducible refine AL.id_ ?_ | with_reducible refine AE.id_ ?_);(fail_if_success refine W.on rfl ?_);refine W.p rfl rfl (by simp only[AV.put];rfl) (by simp only[AV.put];rfl) (fun hb=>?_) (fun hb=>?_)) | (with_reducible refine Awp.id_ ?_;refine Awp.cond _ rfl (fun hb=>?_) (fun hb=>?_)))<;>(try simp only[z1,z2,z3,z4,z5,z6,z7,z8,y5,y6,y7,y8,z9,x1,x2,x3,x4,x5,x6,x7,x8] at hb;try (exfalso;omega)))))
    exact qUx rfl ⟨X4,.inr (List.mem_of_getElem? (i:=2) rfl)⟩
  ·have hle:¬(lo+j≤hi):=by omega
   (repeat' (first | ((first | with_reducible refine AL.id_ ?_ | with_reducible refine AE.id_ ?_);first | refine AL.build0 hF rfl rfl rfl (fun b=>⟨_,(by simp only[AV.put];rfl),?_⟩) | refine W.s rfl rfl (by first | exact AY.bx rfl (by simp only[evO,AV.get];rfl) rfl | exact AY.mkFn rfl (by simp only[List.map_cons,List.map_nil,evO,AV.get];rfl) | exact AY.mkFn1 rfl (by simp only[evO,AV.get];rfl) (by simp only[List.map_cons,List.map_nil,evO,AV.get];rfl) | exact hEQ rfl rfl rfl | exact Step2.sound (by first | (((first | (apply Step2.a;constructor) | (apply Step2.b;constructor))<;>first | infer_instance | skip)<;>(first | infer_instance | (refine w64c ?_;omega) | (refine qI4 ?_;omega) | (refine qEX ?_;omega) | (refine qEY ?_;omega) | (refine qI1 ?_;omega) | ((repeat (first | exact .head _ | refine .tail _ ?_));done) | assumption | (simp only[List.drop_succ_cons,List.drop_zero,List.length_map,Nat.zero_add,Nat.mul_one];rfl) | rfl | omega | (simp;done))) | fail) rfl | exact AY.call rfl rfl _ rfl (by fail) | exact AY.slice1 rfl rfl rfl (by rfl) (by first | (simp;done) | fail) | exact AY.callF rfl _ _ rfl _ rfl (by fail) | exact AY.old1k 0 rfl rfl rfl (by first | assumption | rfl) | exact AY.old1k 1 rfl rfl rfl (by first | assumption | rfl) | exact AY.old1k 2 rfl rfl rfl (by first | assumption | rfl) | exact AY.oldNk 0 rfl rfl rfl (by first | omega | (simp;omega)) (by first | assumption | rfl) | exact AY.oldNk 1 rfl rfl rfl (by first | omega | (simp;omega)) (by first | assumption | rfl)) (by simp only[AV.put];rfl) ?_ | (refine AL.nilK (hK _ _ ?_);clear hK K) | (refine AE.nil (hK _ ?_);clear hK K) | refine W.k rfl rfl (by simp only[AV.put];rfl) ?_ | refine AL.unguardS rfl rfl ?_ | refine AL.al hF rfl rfl rfl (by first | (simp only[Value.cells,List.map_cons,List.map_nil];rfl) | rfl) (fun b=>⟨_,(by simp only[AV.put];rfl),?_⟩) | refine AL.st1 hF rfl rfl rfl rfl (by simp only[evO,AV.get];rfl) (by first | exact qvA | exact qvB | exact qvC | exact qvD | exact qvE | exact qvF | exact qvG | exact qvH) (by rfl) rfl (by rfl) (by first | (simp;done) | (simp;omega) | omega) (by simp only[List.set];rfl) ?_ | refine AL.stW hF rfl rfl rfl rfl (by simp only[evO,AV.get];rfl) (by first | exact qvA | exact qvB | exact qvC | exact qvD | exact qvE | exact qvF | exact qvG | exact qvH) (by rfl) (by rfl) (by rfl) (by first | rfl | simp) (by simp only[List.set];rfl) ?_) | (with_reducible refine Awp.id_ ?_;first | refine Awp.seq ?_ | refine Awp.regionK (by first | (simp only[AV.putO,AV.put];rfl) | rfl) (fun K hK=>?_) | refine Awp.drawE (by first | (simp only[AV.putO,AV.put];rfl) | rfl) mixed rfl (by kernel_rfl) (fun K hK=>?_) | refine Awp.block ?_ | refine Awp.skip ?_ | refine Awp.exit ?_ | refine Awp.ret ?_ | refine Awp.condT rfl ?_ | refine Awp.condF rfl ?_) | refine qBU ?_ | refine qBV ?_ | refine qBW ?_ | refine qt9 ?_ | refine qua ?_ | refine qub ?_ | refine quc rfl ?_ | ((first | ((first | with_reducible refine AL.id_ ?_ | with_reducible refine AE.id_ ?_);(fail_if_success refine W.on rfl ?_);refine W.p rfl rfl (by simp only[AV.put];rfl) (by simp only[AV.put];rfl) (fun hb=>?_) (fun hb=>?_)) | (with_reducible refine Awp.id_ ?_;refine Awp.cond _ rfl (fun hb=>?_) (fun hb=>?_)))<;>(try simp only[z1,z2,z3,z4,z5,z6,z7,z8,y5,y6,y7,y8,z9,x1,x2,x3,x4,x5,x6,x7,x8] at hb;try (exfalso;omega)))))
   (refine qVV (n-1) (List.sublist_cons_self _ _) (by first | (simp only[AV.putO,AV.put];rfl) | rfl) (by omega) ?_ (by simp only[List.map,AV.get,mask,putl,AV.put]))
   exact ⟨k+1,X3,by omega,qXt (by omega),by rw[hNk,show (hi+1-lo).toNat=j by omega]⟩
 ·(repeat' (first | ((first | with_reducible refine AL.id_ ?_ | with_reducible refine AE.id_ ?_);first | refine AL.build0 hF rfl rfl rfl (fun b=>⟨_,(by simp only[AV.put];rfl),?_⟩) | refine W.s rfl rfl (by first | exact AY.bx rfl (by simp only[evO,AV.get];rfl) rfl | exact AY.mkFn rfl (by simp only[List.map_cons,List.map_nil,evO,AV.get];rfl) | exact AY.mkFn1 rfl (by simp only[evO,AV.get];rfl) (by simp only[List.map_cons,List.map_nil,evO,AV.get];rfl) | exact hEQ rfl rfl rfl | exact Step2.sound (by first | (((first | (apply Step2.a;constructor) | (apply Step2.b;constructor))<;>first | infer_instance | skip)<;>(first | infer_instance | (refine w64c ?_;omega) | (refine qI4 ?_;omega) | (refine qEX ?_;omega) | (refine qEY ?_;omega) | (refine qI1 ?_;omega) | ((repeat (first | exact .head _ | refine .tail _ ?_));done) | assumption | (simp only[List.drop_succ_cons,List.drop_zero,List.length_map,Nat.zero_add,Nat.mul_one];rfl) | rfl | omega | (simp;done))) | fail) rfl | exact AY.call rfl rfl _ rfl (by fail) | exact AY.slice1 rfl rfl rfl (by rfl) (by first | (simp;done) | fail) | exact AY.callF rfl _ _ rfl _ rfl (by fail) | exact AY.old1k 0 rfl rfl rfl (by first | assumption | rfl) | exact AY.old1k 1 rfl rfl rfl (by first | assumption | rfl) | exact AY.old1k 2 rfl rfl rfl (by first | assumption | rfl) | exact AY.oldNk 0 rfl rfl rfl (by first | omega | (simp;omega)) (by first | assumption | rfl) | exact AY.oldNk 1 rfl rfl rfl (by first | omega | (simp;omega)) (by first | assumption | rfl)) (by simp only[AV.put];rfl) ?_ | (refine AL.nilK (hK _ _ ?_);clear hK K) | (refine AE.nil (hK _ ?_);clear hK K) | refine W.k rfl rfl (by simp only[AV.put];rfl) ?_ | refine AL.unguardS rfl rfl ?_ | refine AL.al hF rfl rfl rfl (by first | (simp only[Value.cells,List.map_cons,List.map_nil];rfl) | rfl) (fun b=>⟨_,(by simp only[AV.put];rfl),?_⟩) | refine AL.st1 hF rfl rfl rfl rfl (by simp only[evO,AV.get];rfl) (by first | exact qvA | exact qvB | exact qvC | exact qvD | exact qvE | exact qvF | exact qvG | exact qvH) (by rfl) rfl (by rfl) (by first | (simp;done) | (simp;omega) | omega) (by simp only[List.set];rfl) ?_ | refine AL.stW hF rfl rfl rfl rfl (by simp only[evO,AV.get];rfl) (by first | exact qvA | exact qvB | exact qvC | exact qvD | exact qvE | exact qvF | exact qvG | exact qvH) (by rfl) (by rfl) (by rfl) (by first | rfl | simp) (by simp only[List.set];rfl) ?_) | (with_reducible refine Awp.id_ ?_;first | refine Awp.seq ?_ | refine Awp.regionK (by first | (simp only[AV.putO,AV.put];rfl) | rfl) (fun K hK=>?_) | refine Awp.drawE (by first | (simp only[AV.putO,AV.put];rfl) | rfl) mixed rfl (by kernel_rfl) (fun K hK=>?_) | refine Awp.block ?_ | refine Awp.skip ?_ | refine Awp.exit ?_ | refine Awp.ret ?_ | refine Awp.condT rfl ?_ | refine Awp.condF rfl ?_) | refine qBU ?_ | refine qBV ?_ | refine qBW ?_ | refine qt9 ?_ | refine qua ?_ | refine qub ?_ | refine quc rfl ?_ | ((first | ((first | with_reducible refine AL.id_ ?_ | with_reducible refine AE.id_ ?_);(fail_if_success refine W.on rfl ?_);refine W.p rfl rfl (by simp only[AV.put];rfl) (by simp only[AV.put];rfl) (fun hb=>?_) (fun hb=>?_)) | (with_reducible refine Awp.id_ ?_;refine Awp.cond _ rfl (fun hb=>?_) (fun hb=>?_)))<;>(try simp only[z1,z2,z3,z4,z5,z6,z7,z8,y5,y6,y7,y8,z9,x1,x2,x3,x4,x5,x6,x7,x8] at hb;try (exfalso;omega)))))
  exact qVX rfl ⟨X',.inl (by rw[show ss.length=k by omega];exact List.mem_of_getElem? (i:=1) rfl)⟩
def qQp:Itr Tryz.prog:=⟨120,[T44],[T99],fun x=>qFG x.1.2.2.2.2,fun x l h=>qWK x l h⟩
end Go.Proofs.YtklkodbibffohaaGreat
/- Printed: what functions of the program compute. -/
namespace Go.Proofs.YtklkodbibffohaaGreat
open Go Go.Proofs Go.RowKit
set_option maxRecDepth 20000
noncomputable def qDM(n:Nat):CL Tryz.prog:=⟨[],[],0,fun _=>false⟩
noncomputable def qKo(n:Nat):Nat→St→PT (DEx×St):=fun _ _=>.fail
theorem qRZ(n:Nat):qc (qDM n).c (qa Tryz.f81) 0=[]:=by kernel_rfl
theorem qR0:Tryz.f81.body=some (qa Tryz.f81):=by kernel_rfl
abbrev qFH:List Ar:=[.d T44]
abbrev qAP:List Ty:=[T44]
noncomputable def qLG(n:Nat)(x:qC qFH):Option (qk qAP):=(qh tab (qDM n) (qKo n) (qa Tryz.f81) 0 (qJ qFH 4 x)).run (qXs 2 120 qAP)
noncomputable def qLH(n:Nat):Ct Tryz.prog:=⟨81,qFH,.fb 120 qAP,qLG n,fun _ _ h=>qYn (B:=tab) (cs:=qDM n) (lo:=qKo n) (i:=2) (g:=120) (caps:=qAP) Tryz.func81 (by kernel_rfl) qR0 (by kernel_rfl) (qf (qRZ n) all_nil) h⟩
noncomputable def qtk(n:Nat):CL Tryz.prog:=⟨[],[],0,fun _=>false⟩
noncomputable def qzV(n:Nat):Nat→St→PT (DEx×St):=fun _ _=>.fail
theorem qJO(n:Nat):qc (qtk n).c (qa Tryz.f119) 0=[]:=by kernel_rfl
theorem qJP:Tryz.f119.body=some (qa Tryz.f119):=by kernel_rfl
abbrev qtl:List It:=[.v (.t 1) T99,.obj (.t 0) true 86 5,.v (.c 0 0) T83,.row (.c 0 2) true T44 44,.row (.c 0 3) true T44 44,.mpi (.c 0 4) true T99 T3]
abbrev qr1:List (List It):=[[.v (.t 0) T3,.obj (.t 1) true 86 5,.v (.c 0 0) T83,.row (.c 0 2) true T44 44,.row (.c 0 3) true T44 44,.mpi (.c 0 4) true T99 T3]]
noncomputable def qAQ(n:Nat)(x:qb qtl):Option (qm qr1):=runW tab (qtk n) (qzV n) (qa Tryz.f119) qtl 2 23 [.tmp 4] qr1 x
noncomputable def qJQ(n:Nat):Cw Tryz.prog:=⟨119,2,qtl,1,qr1,qAQ n,fun _ _ h=>qz (B:=tab) (cs:=qtk n) (lo:=qzV n) (rs:=[.tmp 4]) Tryz.func119 (by kernel_rfl) qJP (by kernel_rfl) (by decide) (qf (qJO n) all_nil) h⟩
noncomputable def qfT(n:Nat):CL Tryz.prog:=⟨[qLH n],[qJQ n],0,fun _=>false⟩
noncomputable def qxK(n:Nat):Nat→St→PT (DEx×St):=fun _ _=>.fail
abbrev qeT:List It:=[.obj (.t 0) true 86 5,.v (.c 0 0) T83,.row (.c 0 2) true T44 44,.row (.c 0 3) true T44 44,.mpi (.c 0 4) true T99 T3,.obj (.t 2) false 78 1,.pal (.c 4 0) 0 0,.obj (.t 3) false 44 5,.v (.c 5 0) T44,.obj (.t 4) false 99 2,.v (.c 6 0) T99,.obj (.t 5) false 3 1,.v (.c 7 0) T3]
abbrev qm5:List (DEx×List It):=[(.ret,[.obj (.t 0) true 86 5,.v (.c 0 0) T83,.row (.c 0 2) true T44 44,.row (.c 0 3) true T44 44,.mpi (.c 0 4) true T99 T3,.obj (.t 4) false 99 2,.v (.c 4 0) T99,.obj (.t 5) false 3 1,.v (.c 5 0) T3])]
abbrev qyF:List Ty:=[T99]
noncomputable def qyG(n:Nat)(rec:qb qeT→Option (qb qeT⊕qg qm5))(s:qb qeT)(y:qk qyF):Option (qb qeT⊕qg qm5):=(qOv tab (qfT n) (qxK n) [10] (subC [true,false,true,false,false] (qa Tryz.f80)) (subC [true,false,true,false,true] (qa Tryz.f80)) 1 (mkS qeT 22 s) (tysD qyF y)).run (qQ2 22 qeT qm5 (mkS qeT 22 s) rec)
noncomputable def qr2(n:Nat):Rg Tryz.prog:=⟨.tmp 9,22,qeT,qQp,qm5,rgF (qyG n)⟩
theorem qGu(n:Nat):qc (qfT n).c (subC [true,false,true,false,false] (qa Tryz.f80)) 1=[]:=by kernel_rfl
theorem qHB(n:Nat):qc (qfT n).c (subC [true,false,true,false,true] (qa Tryz.f80)) (1+qoF (subC [true,false,true,false,false] (qa Tryz.f80)))=[]:=by kernel_rfl
theorem qEB(n:Nat)(st:St)(r:DEx×St)(h:((qr2 n).go st).Is r):DA Tryz.prog false (.rangeFunc (.tmp 9) ([10]:List Tmp).toArray (subC [true,false,true,false,false] (qa Tryz.f80)) (subC [true,false,true,false,true] (qa Tryz.f80))) st r:=Rg.ok (L:=qr2 n) (B:=tab) (cs:=qfT n) (lo:=qxK n) (id:=0) rfl rfl (qf (qGu n) all_nil) (qf (qHB n) all_nil) (fun _ _ _=>rfl) h
noncomputable def qyH(n:Nat):Nat→St→PT (DEx×St):=fun k st=>match k with
 | 0=>(qr2 n).go st
 | _=>.fail
theorem qIr(n:Nat):qc (qfT n).c (qa Tryz.f80) 0=[(0,.rangeFunc (.tmp 9) ([10]:List Tmp).toArray (subC [true,false,true,false,false] (qa Tryz.f80)) (subC [true,false,true,false,true] (qa Tryz.f80)))]:=by kernel_rfl
theorem qIs:Tryz.f80.body=some (qa Tryz.f80):=by kernel_rfl
abbrev qr3:List It:=[.v (.t 1) T44,.obj (.t 0) true 86 5,.v (.c 0 0) T83,.row (.c 0 2) true T44 44,.row (.c 0 3) true T44 44,.mpi (.c 0 4) true T99 T3]
abbrev qqV:List (List It):=[[.v (.t 0) T99,.v (.t 1) T3,.obj (.t 2) true 86 5,.v (.c 0 0) T83,.row (.c 0 2) true T44 44,.row (.c 0 3) true T44 44,.mpi (.c 0 4) true T99 T3]]
noncomputable def qzW(n:Nat)(x:qb qr3):Option (qm qqV):=runW tab (qfT n) (qyH n) (qa Tryz.f80) qr3 2 22 [.cell 4 99,.cell 5 3] qqV x
noncomputable def qIt(n:Nat):Cw Tryz.prog:=⟨80,2,qr3,2,qqV,qzW n,fun _ _ h=>qz (B:=tab) (cs:=qfT n) (lo:=qyH n) (rs:=[.cell 4 99,.cell 5 3]) Tryz.func80 (by kernel_rfl) qIs (by kernel_rfl) (by decide) (qf (qIr n) (all_cons (fun st r h=>qEB n st r h) all_nil)) h⟩
noncomputable def qeo(n:Nat):CL Tryz.prog:=⟨[qLH n],[qIt n],0,fun _=>false⟩
noncomputable def qAR(n:Nat):Nat→St→PT (DEx×St):=fun _ _=>.fail
abbrev qgn:List It:=[.nilf (.t 2),.v (.t 17) T25,.v (.t 18) T3,.v (.t 19) T3,.obj (.t 7) false 78 1,.obj (.c 0 0) false 86 5,.v (.c 1 0) T83,.row (.c 1 2) false T44 44,.row (.c 1 3) false T44 44,.mpi (.c 1 4) false T99 T3,.obj (.t 9) false 44 5,.v (.c 5 0) T44]
abbrev qqy:List (DEx×List It):=[]
abbrev qBJ:List Ty:=[T99]
noncomputable def qBK(n:Nat)(rec:qb qgn→Option (qb qgn⊕qg qqy))(s:qb qgn)(y:qk qBJ):Option (qb qgn⊕qg qqy):=(qOv tab (qeo n) (qAR n) [61] (subC [true,true,false,true,false,false,true,true,false,false,true,true,true,true,true,false,false] (qa Tryz.f50)) (subC [true,true,false,true,false,false,true,true,false,false,true,true,true,true,true,false,true] (qa Tryz.f50)) 2 (mkS qgn 75 s) (tysD qBJ y)).run (qQ2 75 qgn qqy (mkS qgn 75 s) rec)
noncomputable def qvq(n:Nat):Rg Tryz.prog:=⟨.tmp 60,75,qgn,qQp,qqy,rgF (qBK n)⟩
theorem qJR(n:Nat):qc (qeo n).c (subC [true,true,false,true,false,false,true,true,false,false,true,true,true,true,true,false,false] (qa Tryz.f50)) 2=[]:=by kernel_rfl
theorem qKF(n:Nat):qc (qeo n).c (subC [true,true,false,true,false,false,true,true,false,false,true,true,true,true,true,false,true] (qa Tryz.f50)) (2+qoF (subC [true,true,false,true,false,false,true,true,false,false,true,true,true,true,true,false,false] (qa Tryz.f50)))=[]:=by kernel_rfl
theorem qHC(n:Nat)(st:St)(r:DEx×St)(h:((qvq n).go st).Is r):DA Tryz.prog false (.rangeFunc (.tmp 60) ([61]:List Tmp).toArray (subC [true,true,false,true,false,false,true,true,false,false,true,true,true,true,true,false,false] (qa Tryz.f50)) (subC [true,true,false,true,false,false,true,true,false,false,true,true,true,true,true,false,true] (qa Tryz.f50))) st r:=Rg.ok (L:=qvq n) (B:=tab) (cs:=qeo n) (lo:=qAR n) (id:=1) rfl rfl (qf (qJR n) all_nil) (qf (qKF n) all_nil) (fun _ _ _=>rfl) h
noncomputable def qAS(n:Nat):Nat→St→PT (DEx×St):=fun k st=>match k with
 | 1=>(qvq n).go st
 | _=>.fail
abbrev qmB:List It:=[.nilf (.t 2),.v (.t 17) T25,.v (.t 18) T3,.v (.t 19) T3,.obj (.t 7) false 78 1,.obj (.c 0 0) false 86 5,.v (.c 1 0) T83,.row (.c 1 2) false T44 44,.row (.c 1 3) false T44 44,.mpi (.c 1 4) false T99 T3]
abbrev qqz:List (DEx×List It):=[(.exit 0,[.obj (.t 7) false 78 1,.obj (.c 0 0) false 86 5,.v (.c 1 0) T83,.row (.c 1 2) false T44 44,.row (.c 1 3) false T44 44,.mpi (.c 1 4) false T99 T3])]
noncomputable def qBL(n:Nat)(rec:qb qmB→Option (qg qqz))(s:qb qmB):Option (qg qqz):=(qh tab (qeo n) (qAS n) (subC [true,true,false,true,false,false] (qa Tryz.f50)) 1 (mkS qmB 75 s)).run (Lp.leaf 75 qmB qqz rec)
noncomputable def qvr(n:Nat):Lp:=⟨75,qmB,qqz,qe n (qBL n)⟩
theorem qKG(n:Nat):qc (qeo n).c (subC [true,true,false,true,false,false] (qa Tryz.f50)) 1=[(1,.rangeFunc (.tmp 60) ([61]:List Tmp).toArray (subC [true,true,false,true,false,false,true,true,false,false,true,true,true,true,true,false,false] (qa Tryz.f50)) (subC [true,true,false,true,false,false,true,true,false,false,true,true,true,true,true,false,true] (qa Tryz.f50)))]:=by kernel_rfl
theorem qHD(n:Nat)(st:St)(r:DEx×St)(h:((qvr n).go st).Is r):DA Tryz.prog false (.loop (subC [true,true,false,true,false,false] (qa Tryz.f50))) st r:=Lp.ok (L:=qvr n) (B:=tab) (cs:=qeo n) (lo:=qAS n) (id:=0) rfl (qf (qKG n) (all_cons (fun st r h=>qHC n st r h) all_nil)) (fun _ _=>rfl) h
noncomputable def qBM(n:Nat):Nat→St→PT (DEx×St):=fun k st=>match k with
 | 0=>(qvr n).go st
 | _=>.fail
theorem qLI(n:Nat):qc (qeo n).c (qa Tryz.f50) 0=[(0,.loop (subC [true,true,false,true,false,false] (qa Tryz.f50)))]:=by kernel_rfl
theorem qLJ:Tryz.f50.body=some (qa Tryz.f50):=by kernel_rfl
abbrev qvs:List It:=[.v (.t 0) T83,.v (.t 1) T25,.nilf (.t 2)]
abbrev quu:List (List It):=[[.obj (.t 0) false 86 5,.v (.c 0 0) T83,.row (.c 0 2) false T44 44,.row (.c 0 3) false T44 44,.mpi (.c 0 4) false T99 T3]]
noncomputable def qDd(n:Nat)(x:qb qvs):Option (qm quu):=runW tab (qeo n) (qBM n) (qa Tryz.f50) qvs 3 75 [.tmp 6] quu x
noncomputable def qLK(n:Nat):Cw Tryz.prog:=⟨50,3,qvs,1,quu,qDd n,fun _ _ h=>qz (B:=tab) (cs:=qeo n) (lo:=qBM n) (rs:=[.tmp 6]) Tryz.func50 (by kernel_rfl) qLJ (by kernel_rfl) (by decide) (qf (qLI n) (all_cons (fun st r h=>qHD n st r h) all_nil)) h⟩
noncomputable def qDN(n:Nat):CL Tryz.prog:=⟨[],[qFB n,qrZ n,quX n,qk4 n,qk6 n],1,fun _=>false⟩
noncomputable def qKp(n:Nat):Nat→St→PT (DEx×St):=fun _ _=>.fail
theorem qR1(n:Nat):qc (qDN n).c (qa Tryz.f51) 0=[]:=by kernel_rfl
theorem qR2:Tryz.f51.body=some (qa Tryz.f51):=by kernel_rfl
abbrev qFI:List Ar:=[.d T25]
abbrev qFJ:List Ty:=[T25]
noncomputable def qLL(n:Nat)(x:qC qFI):Option (qk qFJ):=(qh tab (qDN n) (qKp n) (qa Tryz.f51) 0 (qJ qFI 15 x)).run (qbM tab [.tmp 2] qFJ)
noncomputable def qR3(n:Nat):Ct Tryz.prog:=⟨51,qFI,.ts qFJ,qLL n,fun _ _ h=>qbO (B:=tab) (cs:=qDN n) (lo:=qKp n) (rs:=[.tmp 2]) Tryz.func51 (by kernel_rfl) qR2 (by kernel_rfl) (by decide) (qf (qR1 n) all_nil) h⟩
noncomputable def qAT(n:Nat):CL Tryz.prog:=⟨[qFo n,qC3 n],[],0,fun _=>false⟩
noncomputable def qG5(n:Nat):Nat→St→PT (DEx×St):=fun _ _=>.fail
theorem qPp(n:Nat):qc (qAT n).c (qa Tryz.f47) 0=[]:=by kernel_rfl
theorem qPq:Tryz.f47.body=some (qa Tryz.f47):=by kernel_rfl
abbrev qAU:List It:=[.v (.t 0) T99,.obj (.t 1) true 83 2,.v (.c 0 0) T83]
abbrev qzf:List (List It):=[[.v (.t 0) T4,.obj (.t 1) true 83 2,.v (.c 0 0) T83]]
noncomputable def qIu(n:Nat)(x:qb qAU):Option (qm qzf):=runW tab (qAT n) (qG5 n) (qa Tryz.f47) qAU 2 16 [.tmp 3] qzf x
noncomputable def qIv(n:Nat):Cw Tryz.prog:=⟨47,2,qAU,1,qzf,qIu n,fun _ _ h=>qz (B:=tab) (cs:=qAT n) (lo:=qG5 n) (rs:=[.tmp 3]) Tryz.func47 (by kernel_rfl) qPq (by kernel_rfl) (by decide) (qf (qPp n) all_nil) h⟩
noncomputable def qbX(n:Nat):CL Tryz.prog:=⟨[],[qIv n],0,fun _=>false⟩
noncomputable def qk7(n:Nat):Nat→St→PT (DEx×St):=fun _ _=>.fail
abbrev qcE:List It:=[.v (.t 0) T96,.v (.t 7) T3,.v (.t 8) T3,.fnc (.t 1) 47 [.box true 83 2],.v (.c 0 0) T83]
abbrev qeA:List (DEx×List It):=[(.exit 0,[.fnc (.t 1) 47 [.box true 83 2],.v (.c 0 0) T83]),(.ret,[.v (.t 4) T3,.fnc (.t 1) 47 [.box true 83 2],.v (.c 0 0) T83])]
noncomputable def qlB(n:Nat)(rec:qb qcE→Option (qg qeA))(s:qb qcE):Option (qg qeA):=(qh tab (qbX n) (qk7 n) (subC [true,false,true,false,false] (qa Tryz.f78)) 1 (mkS qcE 19 s)).run (Lp.leaf 19 qcE qeA rec)
noncomputable def qhc(n:Nat):Lp:=⟨19,qcE,qeA,qe n (qlB n)⟩
theorem qtW(n:Nat):qc (qbX n).c (subC [true,false,true,false,false] (qa Tryz.f78)) 1=[]:=by kernel_rfl
theorem qr4(n:Nat)(st:St)(r:DEx×St)(h:((qhc n).go st).Is r):DA Tryz.prog false (.loop (subC [true,false,true,false,false] (qa Tryz.f78))) st r:=Lp.ok (L:=qhc n) (B:=tab) (cs:=qbX n) (lo:=qk7 n) (id:=0) rfl (qf (qtW n) all_nil) (fun _ _=>rfl) h
noncomputable def qlC(n:Nat):Nat→St→PT (DEx×St):=fun k st=>match k with
 | 0=>(qhc n).go st
 | _=>.fail
theorem quv(n:Nat):qc (qbX n).c (qa Tryz.f78) 0=[(0,.loop (subC [true,false,true,false,false] (qa Tryz.f78)))]:=by kernel_rfl
theorem quw:Tryz.f78.body=some (qa Tryz.f78):=by kernel_rfl
abbrev qhd:List It:=[.v (.t 0) T96,.fnc (.t 1) 47 [.box true 83 2],.v (.c 0 0) T83]
abbrev qgF:List (List It):=[[.v (.t 0) T3,.obj (.t 1) true 83 2,.v (.c 0 0) T83]]
noncomputable def qlQ(n:Nat)(x:qb qhd):Option (qm qgF):=runW tab (qbX n) (qlC n) (qa Tryz.f78) qhd 2 19 [.tmp 4] qgF x
noncomputable def qux(n:Nat):Cw Tryz.prog:=⟨78,2,qhd,1,qgF,qlQ n,fun _ _ h=>qz (B:=tab) (cs:=qbX n) (lo:=qlC n) (rs:=[.tmp 4]) Tryz.func78 (by kernel_rfl) quw (by kernel_rfl) (by decide) (qf (quv n) (all_cons (fun st r h=>qr4 n st r h) all_nil)) h⟩
noncomputable def qfU(n:Nat):CL Tryz.prog:=⟨[],[qIv n,qux n],0,fun _=>false⟩
noncomputable def qkg(n:Nat):Nat→St→PT (DEx×St):=fun _ _=>.fail
theorem qsG(n:Nat):qc (qfU n).c (qa Tryz.f46) 0=[]:=by kernel_rfl
theorem qsH:Tryz.f46.body=some (qa Tryz.f46):=by kernel_rfl
abbrev qfV:List It:=[.v (.t 0) T96,.fnc (.t 1) 47 [.box true 83 2],.v (.c 0 0) T83]
abbrev qfB:List (List It):=[[.v (.t 0) T4,.obj (.t 1) true 83 2,.v (.c 0 0) T83]]
noncomputable def qkF(n:Nat)(x:qb qfV):Option (qm qfB):=runW tab (qfU n) (qkg n) (qa Tryz.f46) qfV 2 9 [.tmp 4] qfB x
noncomputable def qsI(n:Nat):Cw Tryz.prog:=⟨46,2,qfV,1,qfB,qkF n,fun _ _ h=>qz (B:=tab) (cs:=qfU n) (lo:=qkg n) (rs:=[.tmp 4]) Tryz.func46 (by kernel_rfl) qsH (by kernel_rfl) (by decide) (qf (qsG n) all_nil) h⟩
noncomputable def qDO(n:Nat):CL Tryz.prog:=⟨[qLE n,qR3 n],[qsI n,qLK n],4,fun _=>false⟩
noncomputable def qKq(n:Nat):Nat→St→PT (DEx×St):=fun _ _=>.fail
theorem qR4(n:Nat):qc (qDO n).c (qa Tryz.f31) 0=[]:=by kernel_rfl
theorem qR5:Tryz.f31.body=some (qa Tryz.f31):=by kernel_rfl
abbrev qDP:List It:=[.v (.t 0) T24,.v (.t 1) T25,.v (.t 2) T96]
abbrev qCm:List (List It):=[[.v (.t 1) T37,.obj (.t 0) false 86 5,.v (.c 0 0) T83,.row (.c 0 2) false T44 44,.row (.c 0 3) false T44 44,.mpi (.c 0 4) false T99 T3],[.nilp (.t 0),.v (.t 1) T37]]
noncomputable def qLM(n:Nat)(x:qb qDP):Option (qm qCm):=runW tab (qDO n) (qKq n) (qa Tryz.f31) qDP 3 25 [.tmp 6,.tmp 7] qCm x
noncomputable def qR6(n:Nat):Cw Tryz.prog:=⟨31,3,qDP,2,qCm,qLM n,fun _ _ h=>qz (B:=tab) (cs:=qDO n) (lo:=qKq n) (rs:=[.tmp 6,.tmp 7]) Tryz.func31 (by kernel_rfl) qR5 (by kernel_rfl) (by decide) (qf (qR4 n) all_nil) h⟩
noncomputable def qzg(n:Nat):CL Tryz.prog:=⟨[],[qR6 n,qSH n,qLC n],4,fun _=>false⟩
noncomputable def qFK(n:Nat):Nat→St→PT (DEx×St):=fun _ _=>.fail
theorem qOJ(n:Nat):qc (qzg n).c (qa Tryz.f14) 0=[]:=by kernel_rfl
theorem qOK:Tryz.f14.body=some (qa Tryz.f14):=by kernel_rfl
abbrev qAV:List Ar:=[.d T24,.d T25]
abbrev qAW:List Ty:=[T26,T37]
noncomputable def qG6(n:Nat)(x:qC qAV):Option (qk qAW):=(qh tab (qzg n) (qFK n) (qa Tryz.f14) 0 (qJ qAV 26 x)).run (qbM tab [.tmp 4,.tmp 5] qAW)
noncomputable def qG7(n:Nat):Ct Tryz.prog:=⟨14,qAV,.ts qAW,qG6 n,fun _ _ h=>qbO (B:=tab) (cs:=qzg n) (lo:=qFK n) (rs:=[.tmp 4,.tmp 5]) Tryz.func14 (by kernel_rfl) qOK (by kernel_rfl) (by decide) (qf (qOJ n) all_nil) h⟩
end Go.Proofs.YtklkodbibffohaaGreat
/- Printed: what functions of the program compute. -/
namespace Go.Proofs.YtklkodbibffohaaGreat
open Go Go.Proofs Go.RowKit
set_option maxRecDepth 20000
end Go.Proofs.YtklkodbibffohaaGreat
