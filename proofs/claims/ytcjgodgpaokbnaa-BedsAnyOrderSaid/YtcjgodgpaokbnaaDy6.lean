/- Beds, plain: whatever the order of the messages. -/
import Derived.Test.YtcjgodgpaokbnaaQb
import Derived.Test.YtcjgodgpaokbnaaPc
import Derived.Test.YtcjgodgpaokbnaaDq5
set_option linter.constructorNameAsVariable false
set_option linter.unusedSimpArgs false
set_option linter.unusedVariables false
set_option linter.unusedSectionVars false
namespace Go.Proofs.Ytcjgodgpaokbnaa
open Go Go.Proofs Go.RowKit
set_option maxHeartbeats 1000000
theorem qIS(n:Nat)(a:Ty.den T77)(l:List (Ty.den T77)):qkK n (a::l,())=Option.bind (q6 (Nat.ble (nAdd (0:Nat) (List.length (a::l))) 1000000)) fun _=>(some ((List.append [] (a::l)),())):=by kernel_rfl
theorem qK9(n:Nat):qkM n ([],())=some ([],()):=by kernel_rfl
theorem qLa(n:Nat)(a:Stay)(l:List Stay):qkM n (a::l,())=qkK n (a::l,()):=by kernel_rfl
theorem qLb(n:Nat)(l:List Stay)(hl:l.length≤1000):qkM n (l,())=some (l,()):=by
 cases l with
 | nil=>exact qK9 n
 | cons a l =>
  rw[qLa]
  refine (qIS n a l).trans ?_
  rw[qld (by rw[Nat.ble_eq];exact Nat.le_trans (Nat.le_of_eq (Nat.zero_add _)) (Nat.le_trans hl (by decide)))]
  rfl
theorem qLc(n:Nat)(m:Msg)(hl:m.2.2.2.2.length≤1000):qxa n (m,())=some (m,()):=by
 rw[qEH]
 simp only[qLb n m.2.2.2.2 hl,Option.bind_some]
theorem qMz{α:Type}(l:List α)(k:Nat)(h:k<l.length):List.set l k l[k]=l:=by simp
theorem qLd(n:Nat)(l:List Msg)(hl:l.length≤1000)(hs:∀m,m∈l→m.2.2.2.2.length≤1000)(hn:2000≤n):qj n (qsD n) ((l.length:Int),((0:Int),(l,())))=some (l,()):=by
 have h:=qxI (step:=qsD n) l (fun k (_:Unit)=>((l.length:Int),((k:Int),(l,())))) (fun b _=>b) () (fun _=>(l,())) (fun rec k b hk _=>by
  rw[qxq]
  simp only[qep hk,cond_true,qff l hk,Option.bind_some,qlL,List.getElem?_eq_getElem hk,qLc n l[k] (hs _ (List.getElem_mem hk)),qb9 (show k<9223372036854775807 by omega),qMz l k hk]) (fun rec b=>by
  rw[qxq]
  simp only[qeR,cond_false]) (n:=n) (by omega)
 exact h
theorem qDe{l m:List Msg}(M:Msgs l)(M':Msgs m)(h:∀x,x∈l↔x∈m):qcX l=qcX m :=
 qFz key1 _ _ (qC6 M) (qC6 M') fun x=>by rw[qhA,qhA];exact h x
theorem qBJ(n:Nat)(c:Chn)(l:List Msg)(V:Vld c l)(hn:5000≤n):qsp n (c,(l,()))=some (0,()):=by
 obtain ⟨h1,h2,h3,h4⟩:=qzF V.ch
 have hl:=V.ln
 have hs:∀z,z∈l→z.2.2.2.2.length≤1000:=fun z hz=>by have:=V.st z hz;omega
 obtain ⟨u,hu⟩:=qAB n c l (by omega) (by omega) (by omega) (by omega) hs (by omega)
 rw[show (l.any fun m=>!mesB c m)=false by rw[List.any_eq_false];intro m hm;rw[V.ms m hm];simp] at hu
 rw[qzz,qMQ n c (by omega) (by omega),V.ch]
 simp only[Option.bind_some,Bool.not_true,cond_false]
 rw[qss]
 have c1:iGt (l.length:Int) 40=false:=by unfold iGt;exact decide_eq_false (by omega)
 simp only[c1,cond_false,hu,Option.bind_some,qDb n l (by omega) hs hn]
 rw[qC4 n (qcX l) (by have:=qt9 l;omega) (quZ _) (fun x y hx hy=>qn4 V.cl x y (qhA.1 hx) (qhA.1 hy)) (by omega)]
 rfl
theorem qLe(n:Nat)(l:List Msg)(hl:l.length≤128)(hd12:(qcX l).length≤12)(hs:∀z,z∈l→z.2.2.2.2.length≤1000)(hn:5000≤n):quW n (l,())=some (qm5 l,()):=by
 have hd:=qt9 l
 rw[qzB]
 simp only[qDb n l hl hs hn,Option.bind_some,qIm n (qcX l) (by omega)]
 obtain ⟨l2,w,h1,h2,h3⟩:=qGO n (qcX l) (qcX l) (by omega) (by omega) (by omega)
 rw[h1]
 simp only[Option.bind_some,show Nat.beq 0 0=true from rfl,cond_true]
 rw[show Nat.ble w l2.length=true by rw[Nat.ble_eq];exact h2,h3]
 simp only[cond_true]
 show Option.bind (qcx n (((),()),(qts l,()))) _=_
 rw[qJn n (qts l) (by unfold qts;exact Nat.le_trans (List.length_filter_le _ _) (by omega)) (by omega)]
 rfl
theorem qIz(n:Nat)(c:Chn)(l:List Msg)(V:Vld c l)(hd12:(qcX l).length≤12)(hn:5000≤n) :
  qsr n (c,(l,([],())))=some (.inl (0,((c,()),((offL c l).1,((offL c l).2.1,((offL c l).2.2,())))))):=by
 have hln:=V.ln
 rw[qzC,qBJ n c l V hn]
 simp only[Option.bind_some,qjo rfl,cond_false,qIr n c [] V.ch (by simp) (by omega:2000≤n),List.any_nil]
 have hs:∀z,z∈l→z.2.2.2.2.length≤1000:=fun z hz=>by have:=V.st z hz;omega
 simp only[qLe n l (by omega) hd12 hs hn,Option.bind_some,qGQ n c V.ch (qm5 l) (qIq V) (by have:=qBH l;omega) (by omega:2000≤n)]
 rfl
theorem qGU(c:Chn)(l:List Msg):(offL c l).1.length+(offL c l).2.1.length≤(qcX l).length:=by
 have:=qGb c (qm5 l) ([],([],[]))
 have h2:(qm5 l).length≤(qcX l).length:=by
  unfold qm5 qts
  rw[(qlK _ _).length_eq]
  exact List.length_filter_le _ _
 unfold offL dcL
 simp at this
 omega
theorem qyG(n:Nat)(c:Chn)(l:List Msg)(V:Vld c l)(hd12:(qcX l).length≤12)(hn:5000≤n):qkc n (c,(l,()))=some (accL c l,(0,())):=by
 have:=qGU c l
 rw[qwC]
 simp only[qIz n c l V hd12 hn,Option.bind_some,Sum.elim_inl,qjo rfl,cond_false,qFy n (offL c l).1 (by omega) (by omega:2000≤n)]
 rw[qJo n ((offL c l).1.map (·.2.1)) (by simp;omega) (by omega)]
 rfl
theorem qEd(n:Nat)(c:Chn)(l:List Msg)(V:Vld c l)(hd12:(qcX l).length≤12)(hn:5000≤n):qnE n (c,(l,()))=some (qv6 c l,(0,())):=by
 have:=qGU c l
 rw[qxp]
 simp only[qIz n c l V hd12 hn,Option.bind_some,Sum.elim_inl,qjo rfl,cond_false,qFy n (offL c l).2.1 (by omega) (by omega:2000≤n)]
 rfl
theorem qLf(n:Nat)(c:Chn)(a b:List Msg)(Va:Vld c a)(Vb:Vld c b)(hn:5000≤n):qj n (qsC n) (a,(b,([a,b],((2:Int),((0:Int),(c,()))))))=some (.inl (a,(b,()))):=by
 obtain ⟨n',rfl⟩:∃m,n=m+3:=⟨n-3,by omega⟩
 rw[qbd,qs8]
 simp only[show iLt (0:Int) 2=true from rfl,cond_true,show lat [a,b] 0=some a from rfl,Option.bind_some,qBJ (n'+3) c a Va hn,qjo rfl,cond_false]
 rw[qbd,qs8]
 simp only[show iW (iAdd (0:Int) 1)=1 from rfl,show iLt (1:Int) 2=true from rfl,cond_true,show lat [a,b] 1=some b from rfl,Option.bind_some,qBJ (n'+3) c b Vb hn,qjo rfl,cond_false]
 rw[qbd,qs8]
 simp only[show iW (iAdd (1:Int) 1)=2 from rfl,show iLt (2:Int) 2=false from rfl,cond_false]
theorem qEI(n:Nat)(c:Chn)(a b:List Msg)(Va:Vld c a)(Vb:Vld c b)(hc:qn3 (a++b)=false)(hd:(qcX (a++b)).length≤40)(hn:5000≤n):qsu n (c,(a,(b,())))=some (qcX (a++b),(0,())):=by
 have h1:=Va.ln
 have h2:=Vb.ln
 have hs:∀z,z∈a++b→z.2.2.2.2.length≤1000:=fun z hz=>by
  rcases List.mem_append.1 hz with hz | hz
  ·have:=Va.st z hz;omega
  ·have:=Vb.st z hz;omega
 rw[qFB]
 show Option.bind (qj n (qsC n) (a,(b,([a,b],((2:Int),((0:Int),(c,()))))))) _=_
 rw[qLf n c a b Va Vb hn]
 simp only[Option.bind_some,Sum.elim_inl,qIv n a b (by omega) hs hn,show iGt ((qcX (a++b)).length:Int) 40=false from decide_eq_false (by omega),cond_false]
 rw[qC4 n (qcX (a++b)) (by omega) (quZ _) (fun x y hx hy=>qn4 hc x y (qhA.1 hx) (qhA.1 hy)) (by omega)]
 simp only[Option.bind_some,cond_false,qLd n (qcX (a++b)) (by omega) (fun m hm=>hs m (qhA.1 hm)) (by omega)]
theorem qLg(n:Nat)(l:List Msg)(hl:l.length≤1000)(hs:∀m,m∈l→m.2.2.2.2.length≤100)(hn:2000≤n):qi0 n (l,(l,()))=some (true,()):=by
 rw[quX]
 have h1:=qt8 (step:=qkB n) l (fun k=>(l,(l,((k:Int),())))) (fun _=>true) (.inl ()) (.inr (false,())) (fun rec k hk=>by
  rw[qn1]
  simp only[qep hk,cond_true,qff l hk,Option.bind_some,qIe n l[k] l[k] (hs _ (List.getElem_mem _)) (by omega),decide_true,Bool.not_true,cond_false,qb9 (show k<9223372036854775807 by omega)]) (fun rec=>by
  rw[qn1]
  simp only[qeR,cond_false]) (n:=n) (by omega)
 simp only[qjo rfl,cond_false]
 show Option.bind (qj n _ (l,(l,(((0:Nat):Int),())))) _=_
 rw[h1,show (l.all fun _=>true)=true by simp]
 rfl
theorem qIT(n:Nat)(l:List Msg)(order:List Int)(hl:l.length≤1000)(ho:order.length≤1000)(hn:5000≤n) :
  Ok (qoB n (l,(order,()))) fun r=>r=([],(false,()))∨∃m,r=(m,(true,()))∧m.length=order.length∧∀x,x∈m↔x∈l:=by
 rw[qxb]
 rw[show q6 (iMk (l.length:Int))=some () from qld (by unfold iMk;simp;omega),Option.bind_some,show q6 (iEq (l.length:Int) (l.length:Int))=some () from qld (qiH rfl),Option.bind_some]
 have hrep:∀j:Nat,(List.replicate (Int.toNat (l.length:Int)) false)[j]?=some true→∃x,l[j]?=some x∧x∈([]:List Msg):=by
  intro j hj
  rw[List.getElem?_replicate] at hj
  split at hj
  ·cases hj
  ·cases hj
 refine Ok.bind (Q:=fun r=>r = .inr ([],(false,()))∨∃m all,r = .inl (m,(all,()))∧m.length=order.length∧all.length=l.length∧(∀x,x∈m→x∈l)∧∀j:Nat,all[j]?=some true→∃x,l[j]?=some x∧x∈m) ?_ ?_
 ·refine Ok.iter (step:=qno n) (fun p:Nat×(List Msg×List Bool)=>(l,(order,((p.1:Int),(p.2.1,(p.2.2,())))))) (fun p=>p.1≤order.length∧p.2.1.length=p.1∧p.2.2.length=l.length∧(∀x,x∈p.2.1→x∈l)∧∀j:Nat,p.2.2[j]?=some true→∃x,l[j]?=some x∧x∈p.2.1) (fun p=>order.length-p.1) ?_ n (0,([],List.replicate (Int.toNat (l.length:Int)) false)) ⟨Nat.zero_le _,rfl,by simp,fun x hx=>absurd hx List.not_mem_nil,hrep⟩ (by omega)
  rintro rec ⟨k,out,all⟩ ⟨h1,h2,h3,h4,h5⟩ ih
  dsimp only at h1 h2 h3 h4 h5 ih ⊢
  rw[qvW]
  try dsimp only
  refine Ok.lt (fun h=>?_) (fun h=>?_)
  ·have hk:k<order.length:=by omega
   rw[qff order hk,Option.bind_some]
   refine Ok.lt (fun _=>Ok.ret (.inl rfl)) (fun g0=>?_)
   rw[Option.bind_some]
   refine Ok.ge (fun _=>Ok.ret (.inl rfl)) (fun g1=>?_)
   obtain ⟨j,hj⟩:=Int.eq_ofNat_of_zero_le g0
   rw[hj] at g1
   rw[hj]
   have hjl:j<l.length:=by omega
   simp only[Option.bind_some,qre,qlL,List.getElem?_eq_getElem (show j<all.length by omega),List.getElem?_eq_getElem hjl]
   rw[qld (by rw[Nat.ble_eq];unfold nAdd;omega),Option.bind_some,qb9 (by omega)]
   refine ih (k+1,(out++[l[j]],all.set j true)) ⟨by dsimp only;omega,by dsimp only;simp;omega,by dsimp only;simp;omega,fun x hx=>?_,fun i hi=>?_⟩ (by dsimp only;omega)
   ·rcases List.mem_append.1 hx with hx | hx
    ·exact h4 x hx
    ·rw[List.mem_singleton] at hx;rw[hx];exact List.getElem_mem hjl
   ·dsimp only at hi
    rw[List.getElem?_set] at hi
    by_cases e:j=i
    ·subst e
     exact ⟨l[j],List.getElem?_eq_getElem hjl,by simp⟩
    ·rw[if_neg e] at hi
     obtain ⟨x,x1,x2⟩:=h5 i hi
     exact ⟨x,x1,by simp[x2]⟩
  ·exact Ok.ret (.inr ⟨out,all,rfl,by omega,h3,h4,h5⟩)
 ·rintro _ (rfl | ⟨m,all,rfl,h2,h3,h4,h5⟩)
  ·exact Ok.ret (.inl rfl)
  ·simp only[Sum.elim_inl]
   have hh:=qt8 (step:=qjP n) all (fun k=>((k:Int),(m,(all,())))) (fun b=>b) (.inl (m,())) (.inr ([],(false,()))) (fun rec k hk=>by
    rw[qqe]
    simp only[qep hk,cond_true,qff all hk,Option.bind_some,qlL,List.getElem?_eq_getElem hk,qb9 (show k<9223372036854775807 by omega)]
    cases all[k]<;>rfl) (fun rec=>by
    rw[qqe]
    simp only[qeR,cond_false]) (n:=n) (by omega)
   have hh':qj n (qjP n) ((0:Int),(m,(all,())))=_:=hh
   rw[hh']
   cases ha:all.all fun b=>b with
   | false=>exact Ok.ret (.inl rfl)
   | true =>
    refine Ok.ret (.inr ⟨m,rfl,h2,fun x=>⟨h4 x,fun hx=>?_⟩⟩)
    obtain ⟨j,hj,e⟩:=List.mem_iff_getElem.1 hx
    have:=List.all_eq_true.1 ha all[j] (List.getElem_mem (by omega))
    obtain ⟨y,y1,y2⟩:=h5 j (by rw[List.getElem?_eq_getElem (by omega),this])
    rw[List.getElem?_eq_getElem hj,e] at y1
    injection y1 with y1
    rw[y1];exact y2
theorem qOa(n:Nat)(c:Chn)(l:List Msg)(order:List Int)(hl:l.length≤9223372036854775807)(ho:order.length≤9223372036854775807)(hn:l.length+order.length+9000≤n):qi5 n (c,(l,(order,())))=some (true,()):=by
 have hw:=qMq n (by omega)
 rw[qu0]
 simp only[qMe n c l hl (by omega),Option.bind_some,hw]
 cases hv:qC1 c l with
 | false=>rfl
 | true =>
  obtain ⟨V,h9⟩:=qIN hv
  simp only[Bool.not_true,cond_false]
  by_cases h40:order.length≤40
  ·rw[show iGt (order.length:Int) 40=false from decide_eq_false (by omega)]
   simp only[cond_false]
   obtain ⟨r,hr,hq⟩:=qIT n l order (by omega) (by omega) (by omega)
   rw[hr]
   rcases hq with rfl | ⟨m,rfl,hm1,hm2⟩
   ·rfl
   ·have Vm:Vld c m:=V.sub (fun x hx=>(hm2 x).1 hx) (by omega)
    have dm:qcX m=qcX l:=qDe Vm.msgs V.msgs hm2
    have dl:=qt9 l
    have em:offL c m=offL c l:=by unfold offL qm5 qts;rw[dm]
    have ea:accL c m=accL c l:=by unfold accL;rw[em]
    have ew:qv6 c m=qv6 c l:=by unfold qv6;rw[em]
    have hal:=qMs c l
    have hwl:=qK5 c l
    simp only[Option.bind_some,Bool.not_true,cond_false,qyG n c l V (by omega) (by omega),qyG n c m Vm (by rw[dm];omega) (by omega),qEd n c l V (by omega) (by omega),qEd n c m Vm (by rw[dm];omega) (by omega),qjo rfl,ea,ew,
     qto n (accL c l) (accL c l) (by omega) (by omega:2000≤n),qto n (qv6 c l) (qv6 c l) (by omega) (by omega:2000≤n),decide_true]
    rw[show q6 (iNe (2:Int) (0:Int))=some () from rfl,Option.bind_some]
    have ecut:iW (Int.tdiv (l.length:Int) 2)=((l.length/2:Nat):Int):=by
     rw[Int.tdiv_eq_ediv_of_nonneg (by omega),qrM (by omega) (by omega)];omega
    rw[ecut,qvU (by omega)]
    simp only[Option.bind_some]
    have V1:Vld c (l.take (l.length/2)):=V.sub (fun x hx=>List.mem_of_mem_take hx) (by simp;omega)
    have V2:Vld c (l.drop (l.length/2)):=V.sub (fun x hx=>List.mem_of_mem_drop hx) (by simp;omega)
    have sub1:∀x,x∈l.take (l.length/2)++m↔x∈l:=fun x=>by
     rw[List.mem_append]
     exact ⟨fun h=>h.elim (fun h=>List.mem_of_mem_take h) (fun h=>(hm2 x).1 h),fun h=>.inr ((hm2 x).2 h)⟩
    have sub2:∀x,x∈m++l.drop (l.length/2)↔x∈l:=fun x=>by
     rw[List.mem_append]
     exact ⟨fun h=>h.elim (fun h=>(hm2 x).1 h) (fun h=>List.mem_of_mem_drop h),fun h=>.inl ((hm2 x).2 h)⟩
    have sub3:∀x,x∈qcX l++qcX l↔x∈l:=fun x=>by
     rw[List.mem_append,qhA];exact ⟨fun h=>h.elim id id,.inl⟩
    have cl:∀{s:List Msg},(∀x,x∈s↔x∈l)→qn3 s=false∧qcX s=qcX l:=fun {s} hs=>by
     have hc:qn3 s=false:=qGR fun x y hx hy h1 h2=>qn4 V.cl x y ((hs x).1 hx) ((hs y).1 hy) h1 h2
     refine ⟨hc,qDe ⟨fun x hx=>V.msgs.kd x ((hs x).1 hx),fun x hx=>V.msgs.id x ((hs x).1 hx),qn4 hc⟩ V.msgs hs⟩
    have Vd:Vld c (qcX l):=V.sub (fun x hx=>qhA.1 hx) (by omega)
    have dd:qcX (qcX l)=qcX l:=qDe Vd.msgs V.msgs fun x=>qhA
    have ed:offL c (qcX l)=offL c l:=by unfold offL qm5 qts;rw[dd]
    have ead:accL c (qcX l)=accL c l:=by unfold accL;rw[ed]
    obtain ⟨c1,d1⟩:=cl sub1
    obtain ⟨c2,d2⟩:=cl sub2
    obtain ⟨c3,d3⟩:=cl sub3
    have sm:=qLg n (qcX l) (by omega) (fun z hz=>by have:=V.st z (qhA.1 hz);omega) (by omega)
    simp only[qEI n c _ m V1 Vm c1 (by rw[d1];omega) (by omega),Option.bind_some,d1]
    simp only[qEI n c m _ Vm V2 c2 (by rw[d2];omega) (by omega),Option.bind_some,d2]
    simp only[qEI n c _ _ Vd Vd c3 (by rw[d3];omega) (by omega),Option.bind_some,d3,qjo rfl,cond_false,sm,Bool.not_true,qyG n c (qcX l) Vd (by rw[dd];omega) (by omega),qiH rfl,cond_true,ead,
     qto n (accL c l) (accL c l) (by omega) (by omega:2000≤n),decide_true,hw]
  ·rw[show iGt (order.length:Int) 40=true from decide_eq_true (by omega)];rfl
end Go.Proofs.Ytcjgodgpaokbnaa
