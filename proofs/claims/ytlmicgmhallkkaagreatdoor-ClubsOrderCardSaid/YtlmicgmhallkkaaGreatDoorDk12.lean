/- Clubs, plain: no result depends on the order of the messages, guests, rights or works. -/
import Derived.Test.YtlmicgmhallkkaaGreatDoorDk11
set_option linter.constructorNameAsVariable false
set_option linter.unusedSimpArgs false
set_option linter.unusedVariables false
set_option linter.unusedSectionVars false
namespace Go.Proofs.YtlmicgmhallkkaaGreatDoor
open Go Go.Proofs Go.RowKit
set_option maxHeartbeats 1000000
def rot{α:Type}(l:List α)(a:Nat):List α:=l.drop (a % l.length)++l.take (a % l.length)
theorem que{α:Type}(l:List α)(a:Nat):(rot l a).Perm l:=by
 unfold rot
 refine List.perm_append_comm.trans ?_
 rw[List.take_append_drop]
theorem qpH{α:Type}(l:List α)(a:Nat):(rot l a).length=l.length:=(que l a).length_eq
theorem qHU{α:Type}(l:List α)(a k:Nat)(hk:k<(rot l a).length):∃h:(k+a) % l.length<l.length,l[(k+a) % l.length]=(rot l a)[k]:=by
 have hl:=qpH l a
 have hpos:0<l.length:=by omega
 have h1:(k+a) % l.length<l.length:=Nat.mod_lt _ hpos
 refine ⟨h1,?_⟩
 have h2:a % l.length<l.length:=Nat.mod_lt _ hpos
 have h3:(k+a) % l.length=(k+a % l.length) % l.length:=by rw[Nat.add_mod,Nat.add_mod k (a % l.length),Nat.mod_mod]
 have h4:l[(k+a) % l.length]?=(rot l a)[k]?:=by
  rw[h3]
  unfold rot
  generalize a % l.length=r at *
  by_cases h:k+r<l.length
  ·rw[Nat.mod_eq_of_lt h,List.getElem?_append_left (by rw[List.length_drop];omega),List.getElem?_drop,Nat.add_comm r k]
  ·rw[Nat.mod_eq_sub_mod (by omega),Nat.mod_eq_of_lt (by omega),List.getElem?_append_right (by rw[List.length_drop];omega),List.length_drop,List.getElem?_take_of_lt (by omega)]
   congr 1
   omega
 rw[List.getElem?_eq_getElem h1,List.getElem?_eq_getElem hk] at h4
 exact Option.some.inj h4
theorem qyE{α:Type}(l:List α)(a k:Nat)(ha:a≤1000)(hl:l.length≤1000)(hk:k<(rot l a).length):lat l (Int.tmod (iW (iAdd (k:Int) (a:Int))) (l.length:Int))=some (rot l a)[k]:=by
 obtain ⟨h,e⟩:=qHU l a k hk
 have hk':k<l.length:=by rw[← qpH l a];exact hk
 rw[show iW (iAdd (k:Int) (a:Int))=((k+a:Nat):Int) from qbg (by unfold iAdd;omega) (by unfold iAdd;omega),Int.tmod_eq_emod_of_nonneg (by omega),← Int.natCast_emod,qA l h,e]
abbrev TR3:=Int×(Int×(Int×(Int×Unit)))
abbrev TR2:=List Work×TR3
abbrev TR1:=List qhM×TR2
abbrev TR0:=Int×(List Int×(List (List Int)×(List qdP×TR1)))
theorem qIj(n:Nat)(u v0:Uni)(ch:Chn)(a:Nat)(tw:Bool)(R:TR0)(ha:a≤1000)(hl:u.2.1.length≤1000)(hn:2000≤n):qb n (qgR n) ((a:Int),(tw,((0:Int),(u,(v0,(ch,(([]:List Msg),R)))))))=some ((a:Int),(tw,(u,(v0,(ch,(rot u.2.1 a,R)))))):=by
 have hrl:=qpH u.2.1 a
 have h:=qhk (step:=qgR n) (rot u.2.1 a) (fun k (b:List Msg)=>((a:Int),(tw,((k:Int),(u,(v0,(ch,(b,R)))))))) (fun b m=>b++[m]) [] (fun b=>((a:Int),(tw,(u,(v0,(ch,(b,R))))))) (fun rec k b hk hb=>by
  have hb2:b=(rot u.2.1 a).take k:=by
   have:=qe8 (fun m:Msg=>m) ((rot u.2.1 a).take k) []
   rw[hb,this];simp
  have hbl:b.length≤k:=by rw[hb2];simp;omega
  have hk':k<u.2.1.length:=by omega
  rw[qlm]
  simp only[qu hk',cond_true,qbe (qgS (show (u.2.1.length:Int)≠0 by omega)),Option.bind_some,qyE u.2.1 a k ha hl hk,qj (show k<9223372036854775807 by omega)]
  rw[qbe (by rw[Nat.ble_eq];unfold nAdd;omega)]
  rfl) (fun rec b=>by
  rw[qlm]
  simp only[hrl,qw,cond_false]) (n:=n) (by omega)
 have h2:=qe8 (fun m:Msg=>m) (rot u.2.1 a) []
 rw[h2,List.map_id',List.nil_append] at h
 exact h
theorem qCS(n:Nat)(u v0:Uni)(ch:Chn)(a:Nat)(ms:List Msg)(c:Int)(fe:List Int)(sh:List (List Int))(R:TR1)(ha:a≤1000)(hl:u.2.2.2.2.2.1.length≤1000)(hn:2000≤n):qb n (qdX n) ((a:Int),((0:Int),(u,(v0,(ch,(ms,(c,(fe,(sh,(([]:List qdP),R))))))))))=some ((a:Int),(u,(v0,(ch,(ms,(c,(fe,(sh,(rot u.2.2.2.2.2.1 a,R))))))))):=by
 have hrl:=qpH u.2.2.2.2.2.1 a
 have h:=qhk (step:=qdX n) (rot u.2.2.2.2.2.1 a) (fun k (b:List qdP)=>((a:Int),((k:Int),(u,(v0,(ch,(ms,(c,(fe,(sh,(b,R)))))))))))  (fun b m=>b++[m]) [] (fun b=>((a:Int),(u,(v0,(ch,(ms,(c,(fe,(sh,(b,R)))))))))) (fun rec k b hk hb=>by
  have hb2:b=(rot u.2.2.2.2.2.1 a).take k:=by
   have:=qe8 (fun m:qdP=>m) ((rot u.2.2.2.2.2.1 a).take k) []
   rw[hb,this];simp
  have hbl:b.length≤k:=by rw[hb2];simp;omega
  have hk':k<u.2.2.2.2.2.1.length:=by omega
  rw[qln]
  simp only[qu hk',cond_true,qbe (qgS (show (u.2.2.2.2.2.1.length:Int)≠0 by omega)),Option.bind_some,qyE u.2.2.2.2.2.1 a k ha hl hk,qj (show k<9223372036854775807 by omega)]
  rw[qbe (by rw[Nat.ble_eq];unfold nAdd;omega)]
  rfl) (fun rec b=>by
  rw[qln]
  simp only[hrl,qw,cond_false]) (n:=n) (by omega)
 have h2:=qe8 (fun m:qdP=>m) (rot u.2.2.2.2.2.1 a) []
 rw[h2,List.map_id',List.nil_append] at h
 exact h
theorem qCT(n:Nat)(u v0:Uni)(ch:Chn)(a:Nat)(ms:List Msg)(c:Int)(fe:List Int)(sh:List (List Int))(gs:List qdP)(R:TR2)(ha:a≤1000)(hl:u.2.2.2.2.2.2.1.length≤1000)(hn:2000≤n):qb n (qdY n) ((a:Int),((0:Int),(u,(v0,(ch,(ms,(c,(fe,(sh,(gs,(([]:List qhM),R)))))))))))=some (u,(v0,(ch,(ms,(c,(fe,(sh,(gs,(rot u.2.2.2.2.2.2.1 a,R))))))))):=by
 have hrl:=qpH u.2.2.2.2.2.2.1 a
 have h:=qhk (step:=qdY n) (rot u.2.2.2.2.2.2.1 a) (fun k (b:List qhM)=>((a:Int),((k:Int),(u,(v0,(ch,(ms,(c,(fe,(sh,(gs,(b,R))))))))))))  (fun b m=>b++[m]) [] (fun b=>(u,(v0,(ch,(ms,(c,(fe,(sh,(gs,(b,R)))))))))) (fun rec k b hk hb=>by
  have hb2:b=(rot u.2.2.2.2.2.2.1 a).take k:=by
   have:=qe8 (fun m:qhM=>m) ((rot u.2.2.2.2.2.2.1 a).take k) []
   rw[hb,this];simp
  have hbl:b.length≤k:=by rw[hb2];simp;omega
  have hk':k<u.2.2.2.2.2.2.1.length:=by omega
  rw[qlo]
  simp only[qu hk',cond_true,qbe (qgS (show (u.2.2.2.2.2.2.1.length:Int)≠0 by omega)),Option.bind_some,qyE u.2.2.2.2.2.2.1 a k ha hl hk,qj (show k<9223372036854775807 by omega)]
  rw[qbe (by rw[Nat.ble_eq];unfold nAdd;omega)]
  rfl) (fun rec b=>by
  rw[qlo]
  simp only[hrl,qw,cond_false]) (n:=n) (by omega)
 have h2:=qe8 (fun m:qhM=>m) (rot u.2.2.2.2.2.2.1 a) []
 rw[h2,List.map_id',List.nil_append] at h
 exact h
theorem qCU(n:Nat)(u v0:Uni)(ch:Chn)(ms:List Msg)(c:Int)(fe:List Int)(sh:List (List Int))(gs:List qdP)(rs:List qhM)(R:TR3)(hl:u.2.2.2.2.2.2.2.1.length≤1000)(hn:2000≤n):qb n (qdZ n) ((0:Int),(u,(v0,(ch,(ms,(c,(fe,(sh,(gs,(rs,(([]:List Work),R)))))))))))=some (v0,(ch,(ms,(c,(fe,(sh,(gs,(rs,(u.2.2.2.2.2.2.2.1.reverse,R))))))))):=by
 have hrl:u.2.2.2.2.2.2.2.1.reverse.length=u.2.2.2.2.2.2.2.1.length:=List.length_reverse
 have h:=qhk (step:=qdZ n) u.2.2.2.2.2.2.2.1.reverse (fun k (b:List Work)=>((k:Int),(u,(v0,(ch,(ms,(c,(fe,(sh,(gs,(rs,(b,R))))))))))))  (fun b m=>b++[m]) [] (fun b=>(v0,(ch,(ms,(c,(fe,(sh,(gs,(rs,(b,R)))))))))) (fun rec k b hk hb=>by
  have hb2:b=u.2.2.2.2.2.2.2.1.reverse.take k:=by
   have:=qe8 (fun m:Work=>m) (u.2.2.2.2.2.2.2.1.reverse.take k) []
   rw[hb,this];simp
  have hbl:b.length≤k:=by rw[hb2];simp;omega
  have hk':k<u.2.2.2.2.2.2.2.1.length:=by omega
  have hix:iW (iSub (iW (iSub (u.2.2.2.2.2.2.2.1.length:Int) 1)) (k:Int))=((u.2.2.2.2.2.2.2.1.length-1-k:Nat):Int):=by
   rw[show iW (iSub (u.2.2.2.2.2.2.2.1.length:Int) 1)=(u.2.2.2.2.2.2.2.1.length:Int)-1 from qbg (by unfold iSub;omega) (by unfold iSub;omega),qbg (by unfold iSub;omega) (by unfold iSub;omega)]
   unfold iSub;omega
  rw[qlp]
  simp only[qu hk',cond_true,hix,qA _ (show u.2.2.2.2.2.2.2.1.length-1-k<u.2.2.2.2.2.2.2.1.length by omega),Option.bind_some,qj (show k<9223372036854775807 by omega),List.getElem_reverse]
  rw[qbe (by rw[Nat.ble_eq];unfold nAdd;omega)]
  rfl) (fun rec b=>by
  rw[qlp]
  simp only[hrl,qw,cond_false]) (n:=n) (by omega)
 have h2:=qe8 (fun m:Work=>m) u.2.2.2.2.2.2.2.1.reverse []
 rw[h2,List.map_id',List.nil_append] at h
 exact h
def mkV(u:Uni)(ms:List Msg)(gs:List qdP)(rs:List qhM)(ws:List Work):Uni:=(u.1,(ms,(u.2.2.1,(u.2.2.2.1,(u.2.2.2.2.1,(gs,(rs,(ws,u.2.2.2.2.2.2.2.2))))))))
theorem qEp(n:Nat)(u:Uni)(a:Nat)(tw:Bool)(hs:Small11 u)(ha:a≤1000)(hn:2000≤n):∃b:Bool,(b=true→2*u.2.1.length≤9)∧qkE n (u,((a:Int),(tw,())))=some (mkV u (rot u.2.1 a++cond b u.2.1 []) (rot u.2.2.2.2.2.1 a) (rot u.2.2.2.2.2.2.1 a) u.2.2.2.2.2.2.2.1.reverse,()):=by
 have a2:=hs.ms;have a5:=hs.gu;have a6:=hs.ri;have a7:=hs.wo
 have hrl:=qpH u.2.1 a
 rw[qrB]
 simp only[qFN n u hs hn,Option.bind_some,qIj n u _ _ a tw _ ha (by omega) hn]
 cases tw with
 | false =>
  refine ⟨false,(fun h=>(by cases h)),?_⟩
  simp only[cond_false,qCS n u _ _ a _ _ _ _ _ ha (by omega) hn,Option.bind_some,qCT n u _ _ a _ _ _ _ _ _ ha (by omega) hn,qCU n u _ _ _ _ _ _ _ _ _ (by omega) hn,List.append_nil]
  rfl
 | true =>
  by_cases h2:2*u.2.1.length≤9
  ·refine ⟨true,(fun _=>h2),?_⟩
   rw[show iW (iMul (2:Int) (u.2.1.length:Int))=2*(u.2.1.length:Int) from qbg (by unfold iMul;omega) (by unfold iMul;omega),show iLe (2*(u.2.1.length:Int)) 9=true from decide_eq_true (by omega)]
   simp only[cond_true,qbe (show Nat.ble (nAdd (rot u.2.1 a).length u.2.1.length) 2513169434916=true by rw[Nat.ble_eq];unfold nAdd;omega),qCS n u _ _ a _ _ _ _ _ ha (by omega) hn,Option.bind_some,qCT n u _ _ a _ _ _ _ _ _ ha (by omega) hn,qCU n u _ _ _ _ _ _ _ _ _ (by omega) hn]
   rfl
  ·refine ⟨false,(fun h=>(by cases h)),?_⟩
   rw[show iW (iMul (2:Int) (u.2.1.length:Int))=2*(u.2.1.length:Int) from qbg (by unfold iMul;omega) (by unfold iMul;omega),show iLe (2*(u.2.1.length:Int)) 9=false from decide_eq_false (by omega)]
   simp only[cond_true,cond_false,qCS n u _ _ a _ _ _ _ _ ha (by omega) hn,Option.bind_some,qCT n u _ _ a _ _ _ _ _ _ ha (by omega) hn,qCU n u _ _ _ _ _ _ _ _ _ (by omega) hn,List.append_nil]
   rfl
end Go.Proofs.YtlmicgmhallkkaaGreatDoor
