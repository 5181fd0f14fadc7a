/- Beds, plain: Merge is what the reference says. -/
import Derived.Test.YtcjgodgpaokbnaaDy6
import Derived.Test.YtcjgodgpaokbnaaPc
import Derived.Test.YtcjgodgpaokbnaaDp17
set_option linter.constructorNameAsVariable false
set_option linter.unusedSimpArgs false
set_option linter.unusedVariables false
set_option linter.unusedSectionVars false
namespace Go.Proofs.Ytcjgodgpaokbnaa
open Go Go.Proofs Go.RowKit
set_option maxHeartbeats 1000000
theorem qBR{c:Chn}{m:Msg}(h:mesB c m=true):m.2.2.2.2.length≤6:=by
 unfold mesB canB reqB at h
 simp only[Bool.and_eq_true,Bool.or_eq_true,qn3,decide_eq_true_eq] at h
 omega
theorem qEu(n:Nat)(c:Chn)(l:List Msg)(hh:c.1.length≤100)(hl:l.length≤100)(hn:200≤n):qnE n (c,(l,()))=some (chkN c l,()):=by
 rw[qz8]
 simp only[qLw n c hh hn,qGU n c l hh hl hn,Option.bind_some]
 unfold chkN
 cases qiB c with
 | false=>rfl
 | true =>
  cases hm:(l.all (mesB c)&&decide (l.length≤40)) with
  | false=>rfl
  | true =>
   have hs:∀m,m∈l→m.2.2.2.2.length≤100:=fun m h=>by
    have:=qBR (List.all_eq_true.1 ((Bool.and_eq_true _ _ ▸ hm:_∧_).1) m h);omega
   simp only[qJL n l hl hs hn,Option.bind_some,Bool.not_true,cond_false,cond_true]
   cases qkv l<;>rfl
theorem qG3(n:Nat)(c:Chn)(l:List Msg)(hu:c.1.length≤20)(hl60:l.length≤60)(hn:5000≤n):qtc n (c,(l,()))=some (chkN c l,()):=by
 rw[qAI,qOw n c (by omega) (by omega)]
 unfold chkN
 cases hc:qiB c with
 | false=>rfl
 | true =>
  obtain ⟨h1,h2,h3,h4⟩:=qAO hc
  simp only[Option.bind_some,Bool.not_true,cond_false,cond_true]
  rw[qte]
  by_cases hl:l.length≤40
  ·obtain ⟨u,hu⟩:=qAM n c l (by omega) (by omega) (by omega) (by omega) (by omega)
   have c1:iGt (l.length:Int) 40=false:=decide_eq_false (by omega)
   simp only[c1,cond_false,hu,Option.bind_some,hl,decide_true,Bool.and_true]
   rw[show (l.any fun m=>!mesB c m) = !l.all (mesB c) by simp[List.all_eq_not_any_not]]
   cases hm:l.all (mesB c) with
   | false=>rfl
   | true =>
    have hm':=List.all_eq_true.1 hm
    have hk:∀m,m∈l→m.1=1∨m.1=2:=fun m h=>(qER (hm' m h)).1
    simp only[Bool.not_true,cond_false,qJ1 n l (by omega) (fun m h=>by have:=qBR (hm' m h);omega) hn,Option.bind_some,qIp n (qc5 l) (by have:=qxD l;omega) (by omega),qG2 hk,cond_true]
    cases qkv l<;>rfl
  ·have c1:iGt (l.length:Int) 40=true:=decide_eq_true (by omega)
   simp only[c1,cond_true,hl,decide_false,Bool.and_false,cond_false]
   rfl
def ddF(d:List Msg)(x:Msg):List Msg:=if x∈d then d else d++[x]
theorem qHJ:∀(l d:List Msg) (x:Msg),x∈l.foldl ddF d↔x∈d∨x∈l
 | [],d,x=>by simp
 | y::l,d,x=>by
  rw[List.foldl_cons,qHJ l]
  unfold ddF
  split
  ·rename_i h
   simp only[List.mem_cons]
   constructor
   ·rintro (h | h)
    ·exact .inl h
    ·exact .inr (.inr h)
   ·rintro (h1 | rfl | h1)
    ·exact .inl h1
    ·exact .inl h
    ·exact .inr h1
  ·simp only[List.mem_append,List.mem_cons,List.not_mem_nil,or_false]
   constructor
   ·rintro ((h | h) | h)
    ·exact .inl h
    ·exact .inr (.inl h)
    ·exact .inr (.inr h)
   ·rintro (h | h | h)
    ·exact .inl (.inl h)
    ·exact .inl (.inr h)
    ·exact .inr h
theorem qIq:∀(l d:List Msg),d.Nodup→(l.foldl ddF d).Nodup
 | [],d,h=>h
 | y::l,d,h=>by
  rw[List.foldl_cons]
  refine qIq l _ ?_
  unfold ddF
  split
  ·exact h
  ·rename_i hy
   rw[List.nodup_append]
   exact ⟨h,by simp,fun a ha b hb=>by rw[List.mem_singleton] at hb;subst hb;exact fun e=>hy (e ▸ ha)⟩
theorem qK4:∀(l d:List Msg),(l.foldl ddF d).length≤d.length+l.length
 | [],d=>by simp
 | y::l,d=>by
  rw[List.foldl_cons]
  have:=qK4 l (ddF d y)
  have h2:(ddF d y).length≤d.length+1:=by unfold ddF;split<;>simp
  simp only[List.length_cons];omega
theorem qKq(l:List Msg):(qc5 l).Nodup:=by
 have h1:(qnM (fun x y=>decide (cmpM x y<0)) l).Pairwise fun a b=>rank cmpM l a≤rank cmpM l b:=qv0 _ _ l fun x y hx hy=>⟨fun h=>Int.le_of_lt ((qtq cmpM_wo hx).1 (of_decide_eq_true h)),fun h=>by
  have h2:=qtq cmpM_wo (l:=l) (x:=x) (y:=y) hx
  have h3:=of_decide_eq_false h
  omega⟩
 have h2:=qCW (rank cmpM l) (qc5 l) (h1.sublist (qzJ _)) (qvY _) fun x y hx hy h=>by
  have h1:=qtq cmpM_wo (l:=l) (x:=x) (y:=y) (qhG.1 hx)
  have h2:=qtq cmpM_wo (l:=l) (x:=y) (y:=x) (qhG.1 hy)
  have h3:=cmpM_wo.anti y x
  exact qAN.1 (by omega)
 exact h2.imp fun {a b} h e=>by subst e;omega
theorem qPV(l:List Msg):(l.foldl ddF []).length=(qc5 l).length:=by
 refine ((List.perm_ext_iff_of_nodup (qIq l [] List.nodup_nil) (qKq l)).2 fun x=>?_).length_eq
 rw[qHJ,qhG];simp
theorem qMS(n:Nat)(l:List Msg)(i:Nat)(cnt:Int)(hi:i<l.length)(hl:l.length≤1000)(hs:∀m,m∈l→m.2.2.2.2.length≤100)(hn:2000≤n):qh n (ql2 n) (l,(cnt,((i:Int),(true,((0:Int),())))))=some (l,(cnt,((i:Int),(!decide (l[i]∈l.take i),())))):=by
 have hti:(l.take i).length=i:=by simp;omega
 have h:=qpp (step:=ql2 n) (l.take i) (fun k (b:Bool)=>(l,(cnt,((i:Int),(b,((k:Int),())))))) (fun b x=>b && !decide (l[i]=x)) true (fun b=>(l,(cnt,((i:Int),(b,()))))) (fun rec k b hk _=>by
  have hk':k<i:=by omega
  rw[qsx]
  simp only[qcY hk',cond_true,qeH l hi,qeH l (show k<l.length by omega),Option.bind_some,qFX n l[i] l[k] (hs _ (List.getElem_mem _)) (by omega),qbE (show k<9223372036854775807 by omega),List.getElem_take]
  cases b<;>rfl) (fun rec b=>by
  rw[hti,qsx]
  simp only[qdk,cond_false]) (n:=n) (by omega)
 have f1:∀(d:List Msg) (b:Bool) (x:Msg),d.foldl (fun b y=>b && !decide (x=y)) b=(b && !decide (x∈d)):=by
  intro d
  induction d with
  | nil=>intro b x;simp
  | cons y d ih =>
   intro b x
   rw[List.foldl_cons,ih]
   by_cases e:x=y
   ·simp[e]
   ·simp[e]
 rw[f1,Bool.true_and] at h
 exact h
theorem qMT(n:Nat)(l:List Msg)(hl:l.length≤1000)(hs:∀m,m∈l→m.2.2.2.2.length≤100)(hn:2000≤n):qh n (ql1 n) (l,((0:Int),((0:Int),())))=some (l,(((qc5 l).length:Int),())):=by
 have h:=qpp (step:=ql1 n) l (fun k (b:List Msg)=>(l,((b.length:Int),((k:Int),())))) ddF [] (fun b=>(l,((b.length:Int),()))) (fun rec k b hk hb=>by
  have hbl:b.length≤k:=by
   have:=qK4 (l.take k) []
   rw[← hb] at this
   simp at this;omega
  have hm:l[k]∈l.take k↔l[k]∈b:=by rw[hb,qHJ];simp
  rw[qsw]
  simp only[qcY hk,cond_true,qMS n l k _ hk hl hs hn,Option.bind_some,qbE (show k<9223372036854775807 by omega),qbE (show b.length<9223372036854775807 by omega)]
  unfold ddF
  by_cases e:l[k]∈b
  ·rw[if_pos e,decide_eq_true (hm.2 e)];rfl
  ·rw[if_neg e,decide_eq_false fun h=>e (hm.1 h)]
   simp) (fun rec b=>by
  rw[qsw]
  simp only[qdk,cond_false]) (n:=n) (by omega)
 rw[qPV] at h
 exact h
theorem qIr(n:Nat)(l:List Msg)(hl:l.length≤1000)(hs:∀m,m∈l→m.2.2.2.2.length≤5864062014805)(hn:2000≤n):qdN n (l,())=some (l,()):=by
 rw[qAc]
 have h:=qpp (step:=qpV n) l (fun k b=>(l,((k:Int),(b,())))) (fun b m=>b++[m]) [] (fun b=>(b,())) (fun rec k b hk hb=>by
  have hb2:b=l.take k:=by
   have:=qCX (fun m:Msg=>m) (l.take k) []
   rw[hb,this];simp
  have hbl:b.length≤k:=by rw[hb2];simp;omega
  have hst:=hs l[k] (List.getElem_mem hk)
  rw[qst]
  simp only[qcY hk,cond_true,qeH l hk,Option.bind_some,qbE (show k<9223372036854775807 by omega)]
  rw[qi1 (by rw[Nat.ble_eq];unfold nAdd;omega)]
  simp only[Option.bind_some]
  rw[qi1 (by rw[Nat.ble_eq];unfold nAdd;omega)]
  rfl) (fun rec b=>by
  rw[qst]
  simp only[qdk,cond_false]) (n:=n) (by omega)
 show Option.bind (qh n _ (l,(((0:Nat):Int),([],())))) _=_
 have h2:=qCX (fun m:Msg=>m) l []
 rw[h,h2]
 simp
theorem qMU(n:Nat)(c:Chn)(a b:List Msg)(hu:c.1.length≤20)(ha:a.length≤60)(hb:b.length≤60)(hn:5000≤n):qh n (qtr n) (a,(b,([a,b],((2:Int),((0:Int),(c,()))))))=some (if chkN c a=0 then if chkN c b=0 then .inl (a,(b,())) else .inr ([],(chkN c b,())) else .inr ([],(chkN c a,()))):=by
 obtain ⟨n',rfl⟩:∃m,n=m+3:=⟨n-3,by omega⟩
 rw[qM,qtY]
 simp only[show iLt (0:Int) 2=true from rfl,cond_true,show lat [a,b] 0=some a from rfl,Option.bind_some,qG3 (n'+3) c a hu ha hn]
 by_cases h1:chkN c a=0
 ·rw[if_pos h1,qku h1]
  simp only[cond_false]
  rw[qM,qtY]
  simp only[show iW (iAdd (0:Int) 1)=1 from rfl,show iLt (1:Int) 2=true from rfl,cond_true,show lat [a,b] 1=some b from rfl,Option.bind_some,qG3 (n'+3) c b hu hb hn]
  by_cases h2:chkN c b=0
  ·rw[if_pos h2,qku h2]
   simp only[cond_false]
   rw[qM,qtY]
   simp only[show iW (iAdd (1:Int) 1)=2 from rfl,show iLt (2:Int) 2=false from rfl,cond_false]
  ·rw[if_neg h2,qrA h2];rfl
 ·rw[if_neg h1,qrA h1];rfl
def mrgN(c:Chn)(a b:List Msg):List Msg×(Int×Unit) :=
 if chkN c a=0 then if chkN c b=0 then if 40<(qc5 (a++b)).length then ([],(2,())) else cond (qkv (a++b)) ([],(22,())) (qc5 (a++b),(0,())) else ([],(chkN c b,())) else ([],(chkN c a,()))
theorem qBS{c:Chn}{l:List Msg}(h:chkN c l=0):l.length≤40∧∀m,m∈l→mesB c m=true:=by
 obtain ⟨_,h2,h3,_⟩:=qOU h
 exact ⟨h3,h2⟩
theorem qMV(n:Nat)(c:Chn)(a b:List Msg)(hu:c.1.length≤20)(ha:a.length≤60)(hb:b.length≤60)(hn:5000≤n):qqQ n (c,(a,(b,())))=some (mrgN c a b):=by
 rw[qG1]
 show Option.bind (qh n (qtr n) (a,(b,([a,b],((2:Int),((0:Int),(c,()))))))) _=_
 rw[qMU n c a b hu ha hb hn]
 unfold mrgN
 by_cases h1:chkN c a=0
 ·by_cases h2:chkN c b=0
  ·rw[if_pos h1,if_pos h2,if_pos h1,if_pos h2]
   obtain ⟨a1,a2⟩:=qBS h1
   obtain ⟨b1,b2⟩:=qBS h2
   have hm:∀m,m∈a++b→mesB c m=true:=fun m h=>(List.mem_append.1 h).elim (a2 m) (b2 m)
   have hs:∀m,m∈a++b→m.2.2.2.2.length≤1000:=fun m h=>by have:=qBR (hm m h);omega
   have hd:=qxD (a++b)
   rw[List.length_append] at hd
   simp only[Option.bind_some,Sum.elim_inl,qJ2 n a b (by omega) hs hn]
   by_cases h40:40<(qc5 (a++b)).length
   ·rw[if_pos h40,show iGt ((qc5 (a++b)).length:Int) 40=true from decide_eq_true (by omega)];rfl
   ·rw[if_neg h40,show iGt ((qc5 (a++b)).length:Int) 40=false from decide_eq_false (by omega)]
    simp only[cond_false,qIp n (qc5 (a++b)) (by omega) (by omega),qG2 (l:=a++b) (fun m h=>(qER (hm m h)).1),Option.bind_some]
    cases qkv (a++b) with
    | true=>rfl
    | false=>simp only[cond_false,qMP n (qc5 (a++b)) (by omega) (fun m h=>hs m (qhG.1 h)) (by omega),Option.bind_some]
  ·rw[if_pos h1,if_neg h2,if_pos h1,if_neg h2];rfl
 ·rw[if_neg h1,if_neg h1];rfl
theorem qMW(n:Nat)(c:Chn)(a b:List Msg)(hu:c.1.length≤20)(ha:a.length≤60)(hb:b.length≤60)(hn:5000≤n):qiT n (c,(a,(b,())))=some (mrgN c a b):=by
 rw[qAd]
 simp only[qEu n c a (by omega) (by omega) (by omega),qEu n c b (by omega) (by omega) (by omega),Option.bind_some]
 unfold mrgN
 by_cases h1:chkN c a=0
 ·rw[if_pos h1,qku h1]
  by_cases h2:chkN c b=0
  ·rw[if_pos h2,qku h2]
   obtain ⟨a1,a2⟩:=qBS h1
   obtain ⟨b1,b2⟩:=qBS h2
   have hm:∀m,m∈a++b→mesB c m=true:=fun m h=>(List.mem_append.1 h).elim (a2 m) (b2 m)
   have hs:∀m,m∈a++b→m.2.2.2.2.length≤100:=fun m h=>by have:=qBR (hm m h);omega
   simp only[cond_false]
   rw[qi1 (by rw[Nat.ble_eq];unfold nAdd;omega),Option.bind_some,qi1 (by rw[Nat.ble_eq];unfold nAdd;simp[List.append_eq];omega),Option.bind_some]
   have e0:List.append (List.append [] a) b=a++b:=rfl
   rw[e0,qMT n (a++b) (by simp;omega) hs (by omega)]
   simp only[Option.bind_some]
   by_cases h40:40<(qc5 (a++b)).length
   ·rw[if_pos h40,show iGt ((qc5 (a++b)).length:Int) 40=true from decide_eq_true (by omega)];rfl
   ·rw[if_neg h40,show iGt ((qc5 (a++b)).length:Int) 40=false from decide_eq_false (by omega)]
    simp only[cond_false,qJL n (a++b) (by simp;omega) hs (by omega),Option.bind_some]
    cases hc:qkv (a++b) with
    | true=>rfl
    | false =>
     simp only[cond_false,qHG n (a++b) (by simp;omega) (by omega),Option.bind_some,qPj (l:=a++b) ⟨fun m h=>(qER (hm m h)).1,fun m h=>(qER (hm m h)).2,qvX hc⟩]
  ·rw[if_neg h2,qrA h2];rfl
 ·rw[if_neg h1,qrA h1];rfl
theorem qPk(c:Chn)(a b:List Msg):(mrgN c a b).1.length≤1000∧∀m,m∈(mrgN c a b).1→m.2.2.2.2.length≤100:=by
 unfold mrgN
 by_cases h1:chkN c a=0
 ·by_cases h2:chkN c b=0
  ·rw[if_pos h1,if_pos h2]
   split
   ·exact ⟨Nat.zero_le _,fun m h=>by cases h⟩
   ·cases qkv (a++b) with
    | true=>exact ⟨Nat.zero_le _,fun m h=>by cases h⟩
    | false =>
     refine ⟨by simp only[cond_false];omega,fun m h=>?_⟩
     have h:=qhG.1 h
     have:mesB c m=true:=(List.mem_append.1 h).elim ((qBS h1).2 m) ((qBS h2).2 m)
     have:=qBR this;omega
  ·rw[if_pos h1,if_neg h2];exact ⟨Nat.zero_le _,fun m h=>by cases h⟩
 ·rw[if_neg h1];exact ⟨Nat.zero_le _,fun m h=>by cases h⟩
theorem qK5{c:Chn}{l:List Msg}(h:60<l.length):farB c l=true:=by
 unfold farB
 simp[h]
theorem qMX(n:Nat)(c:Chn)(a b:List Msg)(la:a.length≤9223372036854775807)(lb:b.length≤9223372036854775807)(sa:∀m,m∈a→m.2.2.2.2.length≤5864062014805)(sb:∀m,m∈b→m.2.2.2.2.length≤5864062014805)(hn:a.length+b.length+9000≤n):qj1 n (c,(a,(b,())))=some (true,()):=by
 have hw:=qN7 n (by omega)
 rw[qwW]
 simp only[qMy n c a la (by omega),qMy n c b lb (by omega),Option.bind_some,hw]
 have hA:∀{x y:Option (Bool×Unit)},cond (farB c a) (cond (iGt (a.length:Int) 60) x y) y=cond (iGt (a.length:Int) 60) x y:=fun {x y}=>by
  by_cases h:a.length≤60
  ·rw[show iGt (a.length:Int) 60=false from decide_eq_false (by omega)];cases farB c a<;>rfl
  ·rw[show iGt (a.length:Int) 60=true from decide_eq_true (by omega),qK5 (by omega)];rfl
 have hB:∀{x y:Option (Bool×Unit)},cond (farB c b) (cond (iGt (b.length:Int) 60) x y) y=cond (iGt (b.length:Int) 60) x y:=fun {x y}=>by
  by_cases h:b.length≤60
  ·rw[show iGt (b.length:Int) 60=false from decide_eq_false (by omega)];cases farB c b<;>rfl
  ·rw[show iGt (b.length:Int) 60=true from decide_eq_true (by omega),qK5 (by omega)];rfl
 rw[hA]
 by_cases h60:a.length≤60
 ·rw[show iGt (a.length:Int) 60=false from decide_eq_false (by omega)]
  simp only[cond_false]
  rw[hB]
  by_cases k60:b.length≤60
  ·rw[show iGt (b.length:Int) 60=false from decide_eq_false (by omega)]
   simp only[cond_false]
   by_cases hu:c.1.length≤20
   ·rw[show iGt (c.1.length:Int) 20=false from decide_eq_false (by omega)]
    obtain ⟨m1,m2⟩:=qPk c a b
    have hcc:qgx n (c,())=some (c,()):=by
     rw[qxy,qi1 (by rw[Nat.ble_eq];unfold nAdd;show 0+c.1.length≤_;omega)]
     rfl
    simp only[cond_false,hcc,qIr n a (by omega) sa (by omega),qIr n b (by omega) sb (by omega),Option.bind_some,qMV n c a b hu h60 k60 (by omega),qMW n c a b hu h60 k60 (by omega),qMQ n (mrgN c a b).1 m1 m2 (by omega),cond_true,qhs rfl]
   ·rw[show iGt (c.1.length:Int) 20=true from decide_eq_true (by omega)];rfl
  ·rw[show iGt (b.length:Int) 60=true from decide_eq_true (by omega)];rfl
 ·rw[show iGt (a.length:Int) 60=true from decide_eq_true (by omega)];rfl
end Go.Proofs.Ytcjgodgpaokbnaa
