/- Clubs, plain: no result depends on the order of the messages, guests, rights or works: the law. -/
import Derived.Test.YtlmicgmhallkkaaGreatDoorDk12
set_option linter.constructorNameAsVariable false
set_option linter.unusedSimpArgs false
set_option linter.unusedVariables false
set_option linter.unusedSectionVars false
namespace Go.Proofs.YtlmicgmhallkkaaGreatDoor
open Go Go.Proofs Go.RowKit
set_option maxHeartbeats 1000000
theorem qzt{α:Type}{f:α→Int}:∀{l:List α},(l.map f).Nodup→∀{x y:α},x∈l→y∈l→f x=f y→x=y
 | [],_,_,_,hx,_,_=>by cases hx
 | a::l,h,x,y,hx,hy,e=>by
  rw[List.map_cons,List.nodup_cons] at h
  rcases List.mem_cons.1 hx with e1 | h1
  ·rcases List.mem_cons.1 hy with e2 | h2
   ·rw[e1,e2]
   ·rw[e1] at e
    exact absurd (List.mem_map_of_mem (f:=f) h2) (by rw[← e];exact h.1)
  ·rcases List.mem_cons.1 hy with e2 | h2
   ·rw[e2] at e
    exact absurd (List.mem_map_of_mem (f:=f) h1) (by rw[e];exact h.1)
   ·exact qzt h.2 h1 h2 e
theorem qFY{α:Type}{p:α→Bool}{l m:List α}(h:l.Perm m):l.any p=m.any p:=by
 rw[Bool.eq_iff_iff,List.any_eq_true,List.any_eq_true]
 exact ⟨fun⟨x,a,b⟩=>⟨x,h.mem_iff.1 a,b⟩,fun⟨x,a,b⟩=>⟨x,h.mem_iff.2 a,b⟩⟩
theorem qEq{l m:List qdP}(h:l.Perm m)(hn:(m.map (·.1)).Nodup)(i:Int):payV l i=payV m i:=by
 unfold payV
 have key:l.find? (fun g=>iEq g.1 i)=m.find? fun g=>iEq g.1 i:=by
  cases h1:m.find? fun g=>iEq g.1 i with
  | none =>
   rw[List.find?_eq_none] at h1 ⊢
   exact fun x hx=>h1 x (h.mem_iff.1 hx)
  | some g =>
   cases h2:l.find? fun g=>iEq g.1 i with
   | none =>
    rw[List.find?_eq_none] at h2
    exact absurd (List.find?_some h1) (h2 g (h.mem_iff.2 (List.mem_of_find?_eq_some h1)))
   | some g' =>
    have e1:g.1=i:=by have:=List.find?_some h1;simpa[iEq] using this
    have e2:g'.1=i:=by have:=List.find?_some h2;simpa[iEq] using this
    rw[qzt hn (h.mem_iff.1 (List.mem_of_find?_eq_some h2)) (List.mem_of_find?_eq_some h1) (by rw[e1,e2])]
 rw[key]
theorem qw5{u:Uni}{ms:List Msg}{gs:List qdP}{rs:List qhM}{ws:List Work}(hg:gs.Perm u.2.2.2.2.2.1)(hr:rs.Perm u.2.2.2.2.2.2.1)(hn:(u.2.2.2.2.2.1.map (·.1)).Nodup):qbA (mkV u ms gs rs ws)=qbA u:=by
 funext m s
 have e1:payV (mkV u ms gs rs ws).2.2.2.2.2.1 m.2.1=payV u.2.2.2.2.2.1 m.2.1:=qEq hg hn _
 have e2:entV (mkV u ms gs rs ws)=entV u:=by
  funext c h
  unfold entV
  rw[show (mkV u ms gs rs ws).2.2.2.2.2.2.1=rs from rfl,qFY hr]
  rfl
 unfold qbA
 rw[e1,e2]
 rfl
theorem qA5{u:Uni}(V:Vld u.1 u.2.1){ms:List Msg}(h:∀x,x∈ms↔x∈u.2.1)(hl:ms.length≤9):Vld u.1 ms∧qex ms=qex u.2.1:=by
 have V':Vld u.1 ms:=V.sub (fun x hx=>(h x).1 hx) (by omega)
 exact ⟨V',qxW key1 _ _ (qvx V'.msgs) (qvx V.msgs) fun x=>by rw[qf0,qf0];exact h x⟩
theorem qHV{u:Uni}(K:Okay u)(hc:chkU u=0){ms:List Msg}{gs:List qdP}{rs:List qhM}{ws:List Work}(hm:∀x,x∈ms↔x∈u.2.1)(hl:ms.length≤9)(hg:gs.Perm u.2.2.2.2.2.1)(hr:rs.Perm u.2.2.2.2.2.2.1)(hw:ws.Perm u.2.2.2.2.2.2.2.1):chkU (mkV u ms gs rs ws)=0:=by
 obtain ⟨V',_⟩:=qA5 K.v hm hl
 have h1:chkN u.1 ms=0:=by
  unfold chkN
  rw[V'.ch,V'.cl,show (ms.all (mesB u.1)&&decide (ms.length≤40))=true by rw[Bool.and_eq_true,List.all_eq_true,decide_eq_true_eq];exact ⟨V'.ms,by omega⟩]
  rfl
 have h2:=(qud hc).2
 have h3:uniB (mkV u ms gs rs ws)=true:=by
  unfold uniB qgv at h2 ⊢
  simp only[Bool.and_eq_true,decide_eq_true_eq,List.all_eq_true] at h2 ⊢
  obtain ⟨a1,a2,a3,⟨a4,a4'⟩,a5,a6,a7,a8,a9,a10,a11,a12⟩:=h2
  exact ⟨a1,a2,a3,⟨fun x hx=>a4 x (hg.mem_iff.1 hx),(hg.map _).nodup_iff.2 a4'⟩,(show gs.length≤40 by rw[hg.length_eq];exact a5),(show rs.length≤12 by rw[hr.length_eq];exact a6),(show ws.length≤20 by rw[hw.length_eq];exact a7),a8,a9,fun x hx=>a10 x (hr.mem_iff.1 hx),fun x hx=>a11 x (hw.mem_iff.1 hx),a12⟩
 unfold chkU
 rw[if_pos (show chkN (mkV u ms gs rs ws).1 (mkV u ms gs rs ws).2.1=0 from h1),h3]
 rfl
theorem qFZ{u:Uni}(hs:Small11 u){ms:List Msg}{gs:List qdP}{rs:List qhM}{ws:List Work}(hm:∀x,x∈ms↔x∈u.2.1)(hl:ms.length≤9)(hg:gs.Perm u.2.2.2.2.2.1)(hr:rs.Perm u.2.2.2.2.2.2.1)(hw:ws.Perm u.2.2.2.2.2.2.2.1):Small11 (mkV u ms gs rs ws) :=
 ⟨hs.hu,.inl hl,fun m h=>hs.st m ((hm m).1 h),hs.fe,hs.sh,hs.rl,(show gs.length≤42 by rw[hg.length_eq];exact hs.gu),(show rs.length≤14 by rw[hr.length_eq];exact hs.ri),(show ws.length≤22 by rw[hw.length_eq];exact hs.wo)⟩
theorem qHc{u:Uni}(V:Vld u.1 u.2.1){ms:List Msg}{gs:List qdP}{rs:List qhM}{ws:List Work}(hm:∀x,x∈ms↔x∈u.2.1)(hl:ms.length≤9):accL u.1 ms=accL u.1 u.2.1∧(∀i,i∈accL u.1 u.2.1→qgs ms i=qgs u.2.1 i)∧qcK (mkV u ms gs rs ws)=qcK u:=by
 obtain ⟨V',d⟩:=qA5 V hm hl
 have eo:offL u.1 ms=offL u.1 u.2.1:=by unfold offL qh7 qua;rw[d]
 have ea:accL u.1 ms=accL u.1 u.2.1:=by unfold accL;rw[eo]
 have em:∀i,i∈accL u.1 u.2.1→qgs ms i=qgs u.2.1 i:=fun i hi=>by
  obtain ⟨m,h1,rfl⟩:=qAR.1 hi
  obtain ⟨h2,h3,_⟩:=qHb V h1
  rw[qwX V.msgs h2 h3,qwX V'.msgs ((hm m).2 h2) h3]
 refine ⟨ea,em,?_⟩
 show (accL u.1 ms).map (qgs ms)=(accL u.1 u.2.1).map (qgs u.2.1)
 rw[ea]
 exact List.map_congr_left em
theorem qA6{u:Uni}(hc:chkU u=0):(u.2.2.2.2.2.1.map (·.1)).Nodup:=by
 have h2:=(qud hc).2
 unfold uniB qgv at h2
 simp only[Bool.and_eq_true,decide_eq_true_eq] at h2
 exact h2.2.2.2.1.2
theorem qHd{u:Uni}{ms:List Msg}{gs:List qdP}{rs:List qhM}{ws:List Work}(hg:gs.Perm u.2.2.2.2.2.1)(hr:rs.Perm u.2.2.2.2.2.2.1)(hn:(u.2.2.2.2.2.1.map (·.1)).Nodup)(hut f:Int)(bs:List Msg):incV (setF (mkV u ms gs rs ws) hut f) hut bs=incV (setF u hut f) hut bs:=by
 have:qbA (setF (mkV u ms gs rs ws) hut f)=qbA (setF u hut f):=qw5 (u:=setF u hut f) (ms:=ms) (ws:=ws) hg hr hn
 unfold incV incS
 rw[this]
theorem qHe{u:Uni}{ms:List Msg}{gs:List qdP}{rs:List qhM}{ws:List Work}(hg:gs.Perm u.2.2.2.2.2.1)(hr:rs.Perm u.2.2.2.2.2.2.1)(hw:ws.Perm u.2.2.2.2.2.2.2.1)(hn:(u.2.2.2.2.2.1.map (·.1)).Nodup)(bs:List Msg)(j:Nat):accT (mkV u ms gs rs ws) bs j=accT u bs j:=by
 have hst:=qw5 (ms:=ms) (ws:=ws) hg hr hn
 have e1:msgC (mkV u ms gs rs ws)=msgC u:=by
  funext m j
  unfold msgC qx0
  rw[hst]
  rfl
 unfold accT
 rw[e1]
 refine congrArg (fun x=>(bs.map fun m=>msgC u m j).sum+x) ?_
 exact qFT (hw.map _)
theorem qF0(n:Nat)(u:Uni)(q:Int×(Int×(Int×(Int×Bool))))(hl:u.2.1.length≤9223372036854775807)(hl2:u.2.2.2.2.1.length≤9223372036854775807)(hn:u.2.1.length+u.2.2.2.2.1.length+200000≤n):qf3 n (u,(q,()))=some (true,()):=by
 have hw:=qG9 n (by omega)
 obtain ⟨at_,id,hut,need,tw⟩:=q
 rw[qpG,qFV n u hl hl2 (by omega)]
 simp only[Option.bind_some,hw]
 cases hr:!qrE u&&decide (chkU u=0) with
 | false=>rfl
 | true =>
  rw[Bool.and_eq_true,Bool.not_eq_true',decide_eq_true_eq] at hr
  have hs:=qvC hr.1
  have h:=hr.2
  have K:=qw4 hs h
  have hms:=K.ms
  simp only[Bool.not_true,cond_false]
  cases c1:iLt at_ 0 with
  | true=>rfl
  | false =>
  cases c2:iGt at_ 1000 with
  | true=>rfl
  | false =>
  have d1:¬at_<0:=of_decide_eq_false c1
  have d2:¬at_>1000:=of_decide_eq_false c2
  obtain ⟨a,rfl⟩:=Int.eq_ofNat_of_zero_le (show 0≤at_ by omega)
  obtain ⟨b,hb,ht⟩:=qEp n u a tw hs (by omega) (by omega)
  have hm:∀x,x∈rot u.2.1 a++cond b u.2.1 []↔x∈u.2.1:=fun x=>by
   rw[List.mem_append,(que u.2.1 a).mem_iff]
   cases b<;>simp
  have hml:(rot u.2.1 a++cond b u.2.1 []).length≤9:=by
   rw[List.length_append,qpH]
   cases b with
   | false=>simpa using hms
   | true=>have:=hb rfl;simp only[cond_true];omega
  have hg:=que u.2.2.2.2.2.1 a
  have hri:=que u.2.2.2.2.2.2.1 a
  have hwo:u.2.2.2.2.2.2.2.1.reverse.Perm u.2.2.2.2.2.2.2.1:=List.reverse_perm _
  have hnd:=qA6 h
  generalize rot u.2.1 a++cond b u.2.1 []=ms at *
  generalize rot u.2.2.2.2.2.1 a=gs at *
  generalize rot u.2.2.2.2.2.2.1 a=rs at *
  generalize u.2.2.2.2.2.2.2.1.reverse=ws at *
  have hs':=qFZ hs hm hml hg hri hwo
  have h':=qHV K h hm hml hg hri hwo
  have K':=qw4 hs' h'
  obtain ⟨e1,e2,e3⟩:=qHc (gs:=gs) (rs:=rs) (ws:=ws) K.v hm hml
  have hst:=qw5 (ms:=ms) (ws:=ws) hg hri hnd
  obtain ⟨a1,g1,g2⟩:=qwr n u hs K h (by omega)
  obtain ⟨a2,g3,g4⟩:=qwr n _ hs' K' h' (by omega)
  have g5:AcI (u.2.2.1+2).toNat (accT u (qcK u)) a2:=AcI.congr g3 fun j=>by rw[e3];exact qHe hg hri hwo hnd _ j
  rw[← g1.uniq g5] at g4
  have hcl:=K.cl
  have hal:=g1.1
  have ep:qvB (mkV u ms gs rs ws) id=qvB u id:=by
   unfold qvB
   rw[show accL (mkV u ms gs rs ws).1 (mkV u ms gs rs ws).2.1=accL u.1 u.2.1 from e1]
   by_cases hi:id∈accL u.1 u.2.1
   ·have el:qvA (mkV u ms gs rs ws) (qgs (mkV u ms gs rs ws).2.1 id)=qvA u (qgs u.2.1 id):=by
     rw[show qgs (mkV u ms gs rs ws).2.1 id=qgs u.2.1 id from e2 id hi]
     unfold qvA qAX
     rw[hst]
    rw[if_pos hi,if_pos hi,el]
   ·rw[if_neg hi,if_neg hi]
  have er:qtt (mkV u ms gs rs ws) hut need=qtt u hut need:=by
   have eo:okP (mkV u ms gs rs ws) hut need (qcK (mkV u ms gs rs ws))=okP u hut need (qcK u):=by
    funext f
    unfold okP
    rw[e3,qHd hg hri hnd]
   unfold qtt
   rw[eo,h,h']
   rfl
  simp only[cond_false,ht,Option.bind_some,g2,g4,qAY n u id hs K h (by omega),qAY n _ id hs' K' h' (by omega),ep,qA4 n u hs hut need (by omega),qA4 n _ hs' hut need (by omega),er,qcg rfl,cond_true,qEl n a1 (by omega) (by omega)]
  cases iLt hut 0<;>cases iGe hut (u.2.2.2.1.length:Int)<;>cases iLt need 0<;>cases iGt need 1000000000<;>rfl
end Go.Proofs.YtlmicgmhallkkaaGreatDoor
