/- Clubs: the law ClubsZero, plain. -/
import Derived.Test.YtlmicgmhallkkaaGreatDoorDk4
set_option linter.constructorNameAsVariable false
set_option linter.unusedSimpArgs false
set_option linter.unusedVariables false
set_option linter.unusedSectionVars false
namespace Go.Proofs.YtlmicgmhallkkaaGreatDoor
open Go Go.Proofs Go.RowKit
set_option maxHeartbeats 1000000
def InW(x:Int):Prop:=-9223372036854775808≤x∧x≤9223372036854775807
theorem wsum{α:Type}(f:α→Int):∀(l:List α) (b:Int),InW b→InW (l.foldl (fun b x=>iW (iAdd b (f x))) b)∧(18446744073709551616:Int)∣l.foldl (fun b x=>iW (iAdd b (f x))) b-b-(l.map f).sum
 | [],b,h=>⟨h,⟨0,by simp⟩⟩
 | x::l,b,h=>by
  obtain ⟨h1,h2⟩:=wsum f l (iW (iAdd b (f x))) (qvg _)
  have d:=qh5 (iAdd b (f x))
  rw[List.foldl_cons,List.map_cons,List.sum_cons]
  refine ⟨h1,?_⟩
  unfold iAdd at *
  omega
theorem qyN{α:Type}(f g:α→Int):∀(l:List α) (a b:Int),l.foldl (fun(p:Int×Int) x=>(iW (iAdd p.1 (f x)),iW (iAdd p.2 (g x)))) (a,b)=(l.foldl (fun b x=>iW (iAdd b (f x))) a,l.foldl (fun b x=>iW (iAdd b (g x))) b)
 | [],_,_=>rfl
 | x::l,a,b=>by rw[List.foldl_cons,List.foldl_cons,List.foldl_cons,qyN f g l]
theorem qFb(n:Nat)(u:Uni)(hl:u.2.1.length≤9223372036854775807)(hl2:u.2.2.2.2.1.length≤9223372036854775807)(hn:u.2.1.length+u.2.2.2.2.1.length+9000≤n):qkV n (u,())=some (!qqZ u&&decide (chkU u=0),()):=by
 rw[qrg]
 simp only[qE2 n u hl hl2 (by omega) (by omega),Option.bind_some]
 cases hf:qqZ u with
 | true=>rfl
 | false =>
  simp only[Bool.not_false,cond_true,qyZ n u (quW hf) (by omega),Option.bind_some,Bool.true_and]
  rfl
theorem qFc{u:Uni}(K:Okay u)(h:chkU u=0){i:Int}(hi:i∈accL u.1 u.2.1):(quU u i)=(qm5 u (qey u.2.1 i),(qlN u (qey u.2.1 i),(0,())))∧0≤qm5 u (qey u.2.1 i)∧0≤qlN u (qey u.2.1 i):=by
 obtain ⟨m,_,hm,h1,_,he⟩:=qvf K.v hi
 obtain ⟨a,b,c⟩:=qDC K h hm h1
 rw[he]
 refine ⟨?_,b,c⟩
 unfold quU
 rw[if_pos hi,he,a]
theorem qHw(n:Nat)(acc a2 w3:List Int)(u:Uni)(hl:acc.length<1000)(hn:2000≤n):qb n (qfy n) (acc,(a2,(w3,((0:Int),((0:Int),((0:Int),((0:Int),(u,()))))))))=some (acc,(a2,(w3,(acc.foldl (fun b x=>iW (iAdd b x)) 0,((0:Int),((0:Int),(u,()))))))) :=
 qkW (step:=qfy n) acc (fun k (b:Int)=>(acc,(a2,(w3,(b,((0:Int),((0:Int),((k:Int),(u,())))))))) ) (fun b x=>iW (iAdd b x)) 0 (fun b=>(acc,(a2,(w3,(b,((0:Int),((0:Int),(u,()))))))) ) (fun rec k b hk _=>by
  rw[qjZ]
  simp only[qy hk,cond_true,qr acc hk,Option.bind_some,qj (show k<9223372036854775807 by omega)]) (fun rec b=>by
  rw[qjZ]
  simp only[qB,cond_false]) (n:=n) (by omega)
theorem qHx(n:Nat)(acc w3:List Int)(s:Int)(u:Uni)(hs:Small11 u)(K:Okay u)(h:chkU u=0)(hn:5000≤n):qb n (qfz n) (acc,(accL u.1 u.2.1,(w3,(s,((0:Int),((0:Int),((0:Int),(u,())))))))) =
  some (.inl (acc,(w3,(s,((accL u.1 u.2.1).foldl (fun b i=>iW (iAdd b (qm5 u (qey u.2.1 i)))) 0,((accL u.1 u.2.1).foldl (fun b i=>iW (iAdd b (qlN u (qey u.2.1 i)))) 0,(u,()))))))):=by
 have hl:=qAb u.1 u.2.1
 have hm:=K.ms
 have h1:=qkW (step:=qfz n) (accL u.1 u.2.1) (fun k (p:Int×Int)=>(acc,(accL u.1 u.2.1,(w3,(s,(p.1,(p.2,((k:Int),(u,())))))))) ) (fun(p:Int×Int) i=>(iW (iAdd p.1 (qm5 u (qey u.2.1 i))),iW (iAdd p.2 (qlN u (qey u.2.1 i))))) (0,0) (fun p=>.inl (acc,(w3,(s,(p.1,(p.2,(u,()))))))) (fun rec k p hk _=>by
  obtain ⟨e,p1,p2⟩:=qFc K h (List.getElem_mem hk)
  rw[qj0]
  simp only[qy hk,cond_true,qr _ hk,Option.bind_some,qAj n u _ hs K h hn,e,qc2 rfl,cond_false,show iLt (qm5 u (qey u.2.1 (accL u.1 u.2.1)[k])) 0=false from decide_eq_false (by omega),show iLt (qlN u (qey u.2.1 (accL u.1 u.2.1)[k])) 0=false from decide_eq_false (by omega),qj (show k<9223372036854775807 by omega)]) (fun rec p=>by
  rw[qj0]
  simp only[qB,cond_false]) (n:=n) (by omega)
 rw[qyN] at h1
 exact h1
theorem qHy(n:Nat)(acc:List Int)(s p t:Int)(u:Uni)(hs:Small11 u)(K:Okay u)(h:chkU u=0)(hn:5000≤n):qb n (qfA n) (acc,(qm4 u.1 u.2.1,(s,(p,(t,((0:Int),(u,())))))))=some (.inl (acc,(s,(p,(t,(u,())))))):=by
 have hl:=qyG u.1 u.2.1
 have hm:=K.ms
 exact qkW (step:=qfA n) (qm4 u.1 u.2.1) (fun k (_:Unit)=>(acc,(qm4 u.1 u.2.1,(s,(p,(t,((k:Int),(u,())))))))) (fun b _=>b) () (fun _=>.inl (acc,(s,(p,(t,(u,())))))) (fun rec k b hk _=>by
  have hno:=qGn K.v (List.getElem_mem hk)
  rw[qj1]
  simp only[qy hk,cond_true,qr _ hk,Option.bind_some,qAj n u _ hs K h hn]
  unfold quU
  rw[if_neg hno]
  simp only[qc2 rfl,cond_false,qj (show k<9223372036854775807 by omega)]) (fun rec b=>by
  rw[qj1]
  simp only[qB,cond_false]) (n:=n) (by omega)
theorem qwo(u:Uni)(f:Msg→Int):((qcW u).map f).sum=((accL u.1 u.2.1).map fun i=>f (qey u.2.1 i)).sum:=by
 unfold qcW
 rw[List.map_map]
 rfl
theorem qDD{x y s:Int}(hx:InW x)(hy:InW y)(h:(18446744073709551616:Int)∣x-s)(h':(18446744073709551616:Int)∣y-0-s):x=y:=by
 unfold InW at *
 omega
theorem qDE{P T x a b:Int}(hx:InW x)(h:(18446744073709551616:Int)∣x - -(a+b))(hP:(18446744073709551616:Int)∣P-0-a)(hT:(18446744073709551616:Int)∣T-0-b):x=iW (iNeg (iW (iAdd P T))):=by
 have d1:(18446744073709551616:Int)∣iW (iAdd P T)-(P+T):=qh5 (P+T)
 generalize iW (iAdd P T)=y at *
 have d2:(18446744073709551616:Int)∣iW (iNeg y)-(0-y):=qh5 (0-y)
 have r2:=qvg (iNeg y)
 generalize iW (iNeg y)=z at *
 unfold InW at *
 omega
theorem qGo(n:Nat)(u:Uni)(hl:u.2.1.length≤9223372036854775807)(hl2:u.2.2.2.2.1.length≤9223372036854775807)(hn:u.2.1.length+u.2.2.2.2.1.length+9000≤n):qgo n (u,())=some (true,()):=by
 have hw:=qGk n (by omega)
 rw[qpB,qFb n u hl hl2 hn]
 simp only[Option.bind_some,hw]
 cases hr:!qqZ u&&decide (chkU u=0) with
 | false=>rfl
 | true =>
  rw[Bool.and_eq_true,Bool.not_eq_true',decide_eq_true_eq] at hr
  have hs:=quW hr.1
  have h:=hr.2
  have K:=qE9 hs h
  have B:=quV h
  have hms:=K.ms
  have hcl:=K.cl
  obtain ⟨acc,ha,hac⟩:=qAI n u hs K h (by omega)
  obtain ⟨acc2,ha2,hac2⟩:=qAH n u hs K h (by omega)
  have he:acc=acc2:=congrArg Prod.fst (Option.some.inj (hac.symm.trans hac2))
  rw[← he] at ha2
  obtain ⟨c,hc⟩:=Int.eq_ofNat_of_zero_le (show 0≤u.2.2.1 by omega)
  have hlen:=ha2.1
  have hc1:c<acc.length:=by omega
  have hc2:c+1<acc.length:=by omega
  have hal:=qAb u.1 u.2.1
  have hwl:=qyG u.1 u.2.1
  obtain ⟨t1,t2⟩:=qGm K B (bs:=qcW u) (fun m hm=>by have:=qty K.v hm;exact ⟨this.2.1,this.2.2.1⟩) hc
  rw[qwo,qwo] at t2
  rw[qwo] at t1
  have v1:=ha.2 c hc1
  have v2:=ha.2 (c+1) hc2
  rw[t1] at v1
  rw[t2] at v2
  have q0:=qHw n acc (accL u.1 u.2.1) (qm4 u.1 u.2.1) u (by omega) (by omega)
  have q1:=fun s=>qHx n acc (qm4 u.1 u.2.1) s u hs K h (by omega)
  have q2:=fun s p t=>qHy n acc s p t u hs K h (by omega)
  obtain ⟨w1,w2⟩:=wsum (fun i=>qm5 u (qey u.2.1 i)) (accL u.1 u.2.1) 0 ⟨by decide,by decide⟩
  obtain ⟨w3,w4⟩:=wsum (fun i=>qlN u (qey u.2.1 i)) (accL u.1 u.2.1) 0 ⟨by decide,by decide⟩
  obtain ⟨w5,w6⟩:=wsum (fun x:Int=>x) acc 0 ⟨by decide,by decide⟩
  generalize (accL u.1 u.2.1).foldl (fun b i=>iW (iAdd b (qm5 u (qey u.2.1 i)))) 0=P at *
  generalize (accL u.1 u.2.1).foldl (fun b i=>iW (iAdd b (qlN u (qey u.2.1 i)))) 0=T at *
  generalize acc.foldl (fun b x=>iW (iAdd b x)) 0=S at *
  rw[List.map_id''] at w6
  ·have hS:S=0:=qDD (s:=acc.sum) w5 ⟨by decide,by decide⟩ (by have:=w6;omega) (by have:=ha2.2;omega)
   have hT:acc[c]=T:=qDD v1.1 w3 v1.2 w4
   have hG:acc[c+1]=iW (iNeg (iW (iAdd P T))):=qDE v2.1 v2.2 w2 w4
   have e2:iW (iAdd u.2.2.1 2)=u.2.2.1+2:=qbc (by unfold iAdd;omega) (by unfold iAdd;omega)
   have e1:iW (iAdd u.2.2.1 1)=u.2.2.1+1:=qbc (by unfold iAdd;omega) (by unfold iAdd;omega)
   simp only[Bool.not_true,cond_false,hac,qvN n u.1 u.2.1 K.v (by omega) (by omega),qB1 n u.1 u.2.1 K.v (by omega) (by omega),Option.bind_some,qc2 rfl,e2,qc2 hlen,show iGt ((accL u.1 u.2.1).length:Int) 100=false from decide_eq_false (by omega),show iGt ((qm4 u.1 u.2.1).length:Int) 100=false from decide_eq_false (by omega),q0,q1,Sum.elim_inl,q2,qbT hS,cond_true,e1]
   rw[hc]
   simp only[qr _ hc1,Option.bind_some,qbT hT,cond_true]
   rw[show ((c:Int)+1)=((c+1:Nat):Int) from rfl]
   simp only[qr _ hc2,Option.bind_some,qbT hG,cond_true]
  ·exact fun x=>rfl
end Go.Proofs.YtlmicgmhallkkaaGreatDoor
