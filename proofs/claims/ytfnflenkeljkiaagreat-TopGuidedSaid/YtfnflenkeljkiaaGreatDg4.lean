/- The theorem of the guided party. -/
import Derived.Test.YtfnflenkeljkiaaGreatDg3
set_option linter.constructorNameAsVariable false
set_option linter.unusedSimpArgs false
set_option linter.unusedVariables false
set_option linter.unusedSectionVars false
namespace Go.Proofs.YtfnflenkeljkiaaGreat
open Go Go.Proofs Go.RowKit
set_option maxHeartbeats 1000000
theorem qzs(n:Nat)(net:NetT)(p:qc8)(i:Nat)(hi:i<net.2.length)(hs:qiN net)(he:netE net=0)(hp:PartOk p)(hg:net.2[i].2.2.1≤p.1)(hn:100≤n):qgc n (net,(p,((i:Int),())))=some ((qdV net.2[i].2.2.2.1.1 p.2.2.1 net.2[i].2.2.2.2.1.1 p.2.1,qdV net.2[i].2.2.2.1.2 p.2.2.2 net.2[i].2.2.2.2.1.2 p.2.1),(0,())):=by
 have hnk:=qkX he
 have h24:=hnk.pa
 rw[qnh]
 have e:iW (iSub (net.2.length:Int) 1)=(net.2.length:Int)-1:=qfF (by unfold iSub;omega) (by unfold iSub;omega)
 simp only[qrE n net p hs he hp hn,Option.bind_some,show iNe (0:Int) 0=false from rfl,cond_false,e,qhJ,qy.2 (show 0≤(i:Int)∧(i:Int)≤(net.2.length:Int)-1 by omega),Bool.not_true]
 rw[qsv n (net,p) i hi]
 simp only[Option.bind_some]
 show (cond (!decide (net.2[i].2.2.1≤p.1)) _ _)=_
 rw[decide_eq_true hg]
 simp only[Bool.not_true,cond_false,qqz n hnk hp hi,Option.bind_some]
def qtX:NetT:=(4,[(0,(1,(2,((100,120),((0,0),[(0,2880)]))))),(1,(2,(3,((60,90),((4,10),[(0,2880)]))))),(2,(3,(2,((60,60),((0,0),[(400,700)]))))),(0,(3,(2,((300,400),((0,0),[(0,2880)]))))),(3,(0,(2,((200,240),((0,0),[(0,2880)])))))])
def qqC:qc8:=(3,(0,(100,100)))
theorem ex01(n:Nat):qgU n ()=some (qtX,(qqC,())):=by kernel_rfl
theorem qAV(n:Nat)(hn:100≤n):qgc n (qtX,(qqC,((1:Int),())))=some ((72,135),(0,())):=by
 have:=qzs n qtX qqC 1 (by decide) ⟨by decide,by decide⟩ (by decide) ⟨by decide,by decide,by decide⟩ (by decide) hn
 exact this
theorem qAW(n:Nat)(o:OutX)(q:List (Int×(Int×Int)))(nt:NetT)(pt:qc8)(d:Int×Int)(h1:qgL n ()=some (o.1,(q,())))(h2:qg8 n (o.1,())=some ((2:Int),((0:Int),())))(h3:qgU n ()=some (nt,(pt,())))(h4:qgc n (nt,(pt,((1:Int),())))=some (d,(0,())))(h5:Ty.eqB (Ty.pr (Ty.i .i64) (Ty.i .i64)) d ((72:Int),(135:Int))=true):qbs n ()=some (true,()):=by
 rw[qpo,h1]
 simp only[Option.bind_some,h2,h3,h4,h5,show iEq (0:Int) 0=true from rfl,show iEq (2:Int) 2=true from rfl,cond_true]
theorem qAX(n:Nat)(hn:3000≤n):qbs n ()=some (true,()):=by
 obtain ⟨m,rfl⟩:∃m,n=m+2000:=⟨n-2000,by omega⟩
 exact qAW (m+2000) exO exP qtX qqC (72,135) (ex09 _) (qy8 m) (ex01 _) (qAV _ (by omega)) (by decide)
theorem qzt(n:Nat)(net:NetT)(hn:2000≤n):∃b,qiK n (net,())=some (b,())∧(b=false→qiN net):=by
 rw[qoa]
 by_cases h1:net.2.length≤26
 rotate_left
 ·rw[show iGt (net.2.length:Int) 26=true from decide_eq_true (by omega)]
  exact ⟨true,rfl,fun h=>by cases h⟩
 rw[show iGt (net.2.length:Int) 26=false from decide_eq_false (by omega)]
 simp only[cond_false]
 have l0:=qgZ (qhH n) net.2 (fun p=>!iGt (p.2.2.2.2.2.length:Int) 8) (fun k=>((k:Int),(net,()))) (some (Sum.inl (net,()))) (fun _=>some (Sum.inr (true,()))) (fun k hk rec=>by
  rw[qi9]
  simp only[iLtN hk,cond_true,qr net.2 hk,Option.bind_some,qQ (show k<9223372036854775807 by omega)]
  cases iGt (net.2[k].2.2.2.2.2.length:Int) 8<;>rfl) (fun rec=>by
   rw[qi9]
   simp only[qcu (Nat.le_refl net.2.length),cond_false]) n (by omega)
 rw[show ((0:Nat):Int)=0 from rfl] at l0
 rcases l0 with ⟨a0,b0⟩ | ⟨a0,k,_,b0⟩
 rotate_left
 ·rw[b0]
  exact ⟨true,rfl,fun h=>by cases h⟩
 have hs:qiN net:=by
  refine ⟨by omega,fun p hp=>?_⟩
  have:=List.all_eq_true.1 a0 p hp
  rw[Bool.not_eq_true'] at this
  have h5:¬((p.2.2.2.2.2.length:Int)>8):=of_decide_eq_false this
  omega
 rw[b0]
 simp only[Option.bind_some,Sum.elim_inl,qv3 n net hs (show 100≤n by omega)]
 cases iEq (netE net) 0 with
 | false=>exact ⟨false,rfl,fun _=>hs⟩
 | true =>
  cases iGt net.1 6 with
  | true=>exact ⟨true,rfl,fun _=>hs⟩
  | false=>exact ⟨_,rfl,fun _=>hs⟩
abbrev StaT:=Int×(Int×Int)
theorem qx2(n:Nat)(own sure:List Int)(f g:Int)(o:qz)(net:NetT)(x:StaT)(wk p:qc8)(hs:qiN net)(he:netE net=0)(hp:PartOk p)(hg:o.2.1≤p.1)(hn:2000≤n) :
  qg n (qet n) (own,(sure,(f,(g,((0:Int),(o,(net,(x,(wk,(p,()))))))))))=some (Sum.inl (own,(sure,(f,(g,(o,(net,(x,(wk,(p,())))))))))):=by
 have h24:=(qkX he).pa
 have:=forN (qet n) net.2.length (fun k=>(own,(sure,(f,(g,((k:Int),(o,(net,(x,(wk,(p,())))))))))))  (some (Sum.inl (own,(sure,(f,(g,(o,(net,(x,(wk,(p,()))))))))))) (fun k hk rec=>by
  obtain ⟨s,hw⟩:=qAt n net p k hk hs he hp (show 100≤n by omega)
  rw[qhl]
  simp only[iLtN hk,cond_true,hw,qr net.2 hk,Option.bind_some,qQ (show k<9223372036854775807 by omega)]
  by_cases h:net.2[k].2.2.1≤o.2.1
  ·rw[show iLe net.2[k].2.2.1 o.2.1=true from decide_eq_true h,decide_eq_true (show net.2[k].2.2.1≤p.1 by omega)]
   rfl
  ·rw[show iLe net.2[k].2.2.1 o.2.1=false from decide_eq_false h]
   rfl) (fun rec=>by
   rw[qhl]
   simp only[qcu (Nat.le_refl net.2.length),cond_false]) n (by omega)
 exact this
theorem qx3(n:Nat)(own sure all:List Int)(f g:Int)(o:qz)(net:NetT)(x:StaT)(wk:qc8)(N:Nat)(hN:net.1=N)(hN12:N≤12)(hsl:sure.length=N)(hal:all.length=N)(hc:∀i (h:i<sure.length) (h':i<all.length),0≤sure[i]→0≤all[i]∧all[i]≤sure[i])(hn:2000≤n) :
  qg n (qeu n) (own,(sure,(f,(g,(all,((0:Int),(o,(net,(x,(wk,()))))))))))=some (Sum.inl (own,(sure,(f,(g,(o,(net,(x,(wk,()))))))))):=by
 have:=forN (qeu n) N (fun k=>(own,(sure,(f,(g,(all,((k:Int),(o,(net,(x,(wk,())))))))))))  (some (Sum.inl (own,(sure,(f,(g,(o,(net,(x,(wk,())))))))))) (fun k hk rec=>by
  have h1:k<sure.length:=by omega
  have h2:k<all.length:=by omega
  rw[qhm]
  simp only[hN,iLtN hk,cond_true,qr sure h1,qr all h2,Option.bind_some,qQ (show k<9223372036854775807 by omega)]
  by_cases h:0≤sure[k]
  ·obtain ⟨a,b⟩:=hc k h1 h2 h
   rw[show iGe sure[k] 0=true from decide_eq_true h,show iLt all[k] 0=false from decide_eq_false (by omega),show iGt all[k] sure[k]=false from decide_eq_false (by omega)]
   rfl
  ·rw[show iGe sure[k] 0=false from decide_eq_false h]
   rfl) (fun rec=>by
   rw[qhm]
   simp only[hN,qcu (Nat.le_refl N),cond_false]) n (by omega)
 exact this
theorem qwI(n:Nat){net:NetT}{wk p:qc8}(hnk:NetOk net)(hwk:PartOk wk)(hp:PartOk p)(hq:p.2=wk.2)(hg:wk.1≤p.1)(from_ start:Int)(hf:0≤from_∧from_<net.1)(ht:0≤start∧start≤2880):∀i,i<net.1.toNat→tmA (qfP n net p from_ start) i≤tmA (qfP n net wk from_ start) i:=by
 have htt:ttH p=ttH wk:=by
  funext y a
  unfold ttH
  rw[hq]
 unfold qfP
 rw[← htt]
 refine qxT frW toW (ttH p) (M:=2880) (by decide) (fun y hy=>?_) (fun y hy=>qoe hnk hp hy) (qqe hnk.pl hf ht) (qod hnk.pl ht)
 obtain ⟨i,a,hi,b,c,d⟩:=(qjC n (net,wk) (-1) y _ (Nat.le_refl _)).1 hy
 refine (qjC n (net,p) (-1) y _ (Nat.le_refl _)).2 ⟨i,a,hi,b,c,?_⟩
 rw[qu9 n (net,wk) i hi,decide_eq_true_eq] at d
 rw[qu9 n (net,p) i hi,decide_eq_true_eq]
 exact Int.le_trans d hg
theorem qva{l:List Int}{i:Nat}(h:i<l.length)(h':i<(qc9 l).length):(qc9 l)[i]=if tmA l i=nev then -1 else tmA l i:=by
 have e:(qc9 l)[i]?=some (if tmA l i=nev then -1 else tmA l i):=by
  unfold qc9
  rw[List.getElem?_map,List.getElem?_eq_getElem h,(qkt h).2]
  rfl
 rw[List.getElem?_eq_getElem h'] at e
 injection e
theorem qvu(n:Nat)(o:qz)(net:NetT)(x:StaT)(own:List Int)(wk:qc8)(hs:qiN net)(he:netE net=0)(hwk:PartOk wk)(hwo:wk.1=o.2.1)(hf:0≤x.1∧x.1<net.1)(ht:0≤x.2.1∧x.2.1≤2880)(hol:own.length=o.2.2.2.1.length)(h4:o.2.2.2.1.length≤4)
  (hown:∀g (h:g<own.length) (h':g<o.2.2.2.1.length),0≤own[g]→o.2.1≤o.2.2.2.1[g].1∧o.2.2.2.1[g].1≤6) (hn:100000≤n) :
  qg n (qev n) (own,(qc9 (qfP n net wk x.1 x.2.1),((0:Int),((0:Int),(o,(net,(x,(wk,()))))))))=some (Sum.inl ()):=by
 have hnk:=qkX he
 have hpl:=hnk.pl
 have b2:∀i:Int,iNe i i=false:=fun i=>by unfold iNe;simp
 have okw:=qs1 n hnk hwk x.1 x.2.1 hf ht
 have hlw:(qc9 (qfP n net wk x.1 x.2.1)).length=net.1.toNat:=by unfold qc9;rw[List.length_map];exact okw.len
 have:=forN (qev n) own.length (fun g=>(own,(qc9 (qfP n net wk x.1 x.2.1),((0:Int),((g:Int),(o,(net,(x,(wk,())))))))))  (some (Sum.inl ())) (fun g hg rec=>by
  have hg':g<o.2.2.2.1.length:=by omega
  rw[qhn]
  simp only[iLtN hg,cond_true,qr own hg,Option.bind_some,qQ (show g<9223372036854775807 by omega)]
  by_cases h:own[g]<0
  ·rw[show iLt own[g] 0=true from decide_eq_true h]
   rfl
  ·obtain ⟨c1,c2⟩:=hown g hg hg' (by omega)
   have hp:PartOk (o.2.2.2.1[g].1,wk.2):=⟨by have:=hwk.g;show 1≤o.2.2.2.1[g].1∧o.2.2.2.1[g].1≤6;omega,hwk.l,hwk.lo⟩
   obtain ⟨best,hA⟩:=qtK n net (o.2.2.2.1[g].1,wk.2) x.1 x.2.1 hs he hp hf ht hn
   have okp:=qs1 n hnk hp x.1 x.2.1 hf ht
   have hlp:(qc9 (qfP n net (o.2.2.2.1[g].1,wk.2) x.1 x.2.1)).length=net.1.toNat:=by unfold qc9;rw[List.length_map];exact okp.len
   have hless:=qwI n hnk hwk hp rfl (by rw[hwo];exact c1) x.1 x.2.1 hf ht
   have hwalk:=qx2 n own (qc9 (qfP n net wk x.1 x.2.1)) 0 (g:Int) o net x wk (o.2.2.2.1[g].1,wk.2) hs he hp c1 (by omega)
   have hcmp:=qx3 n own (qc9 (qfP n net wk x.1 x.2.1)) (qc9 (qfP n net (o.2.2.2.1[g].1,wk.2) x.1 x.2.1)) 0 (g:Int) o net x wk net.1.toNat (by omega) (by omega) hlw hlp (fun i h1 h2 h3=>by
    have hi:i<net.1.toNat:=by omega
    have hnv:nev=1073741824:=rfl
    rw[qva (l:=qfP n net wk x.1 x.2.1) (by rw[okw.len];exact hi)] at h3 ⊢
    rw[qva (l:=qfP n net (o.2.2.2.1[g].1,wk.2) x.1 x.2.1) (by rw[okp.len];exact hi)]
    have q1:=hless i hi
    have q2:=okw.v i hi
    have q3:=okp.v i hi
    by_cases e:tmA (qfP n net wk x.1 x.2.1) i=nev
    ·rw[if_pos e] at h3;omega
    ·rw[if_neg e]
     rw[if_neg (by omega)]
     omega) (by omega)
   have hle:((net.1.toNat:Nat):Int)=net.1:=by omega
   rw[show iLt own[g] 0=false from decide_eq_false h]
   simp only[cond_false,qr o.2.2.2.1 hg',Option.bind_some,hwalk,Sum.elim_inl,hA,show iNe (0:Int) 0=false from rfl,hlw,hlp,hle,b2,hcmp,qQ (show g<9223372036854775807 by omega)]) (fun rec=>by
   rw[qhn]
   simp only[qcu (Nat.le_refl own.length),cond_false]) n (by omega)
 exact this
theorem qvb(n:Nat)(o:qz)(net:NetT)(x:StaT)(hn:200000≤n):qe0 n (o,(net,(x,())))=some (true,()):=by
 have hled:=qAX n (show 3000≤n by omega)
 rw[ql2]
 obtain ⟨b,hb,hbs⟩:=qAR n o (by omega)
 simp only[hb,hled,Option.bind_some]
 cases b with
 | true=>rfl
 | false =>
 have hso:=hbs rfl
 simp only[cond_false,qtD n o hso (show 100≤n by omega),Option.bind_some]
 by_cases hc:chkE o=0
 rotate_left
 ·rw[show iNe (chkE o) 0=true by unfold iNe;simp[hc]];rfl
 rw[hc]
 obtain ⟨c,hcf,hcs⟩:=qzt n net (by omega)
 simp only[show iNe (0:Int) 0=false from rfl,cond_false,hcf,Option.bind_some]
 cases c with
 | true=>rfl
 | false =>
 have hs:=hcs rfl
 simp only[cond_false,qv3 n net hs (show 100≤n by omega),Option.bind_some]
 by_cases he:netE net=0
 rotate_left
 ·rw[show iNe (netE net) 0=true by unfold iNe;simp[he]];rfl
 rw[he]
 have hnk:=qkX he
 have hpl:=hnk.pl
 have e1:iW (iSub net.1 1)=net.1-1:=qfF (by unfold iSub;omega) (by unfold iSub;omega)
 simp only[show iNe (0:Int) 0=false from rfl,cond_false,qig,qlz,qny,e1,Option.bind_some]
 cases hpb:qc x.1 0 (net.1-1) with
 | false=>rfl
 | true =>
 have hpl2:=qy.1 hpb
 simp only[Bool.not_true,cond_false]
 cases hmb:qc x.2.1 0 2880 with
 | false=>rfl
 | true =>
 have hm2:=qy.1 hmb
 simp only[Bool.not_true,cond_false]
 by_cases hp1:x.2.2<50
 ·rw[show iLt x.2.2 50=true from decide_eq_true hp1];rfl
 rw[show iLt x.2.2 50=false from decide_eq_false hp1]
 by_cases hp2:300<x.2.2
 ·rw[show iGt x.2.2 300=true from decide_eq_true hp2];rfl
 rw[show iGt x.2.2 300=false from decide_eq_false hp2]
 simp only[cond_false]
 have hk:=qp3 hc
 obtain ⟨_,_,o3,_⟩:=hk.oth'
 rcases qzm n o hso (by omega) with ⟨hc',_⟩ | ⟨_,hT,ht⟩ | ⟨_,e,hem,ht⟩
 ·exact absurd hc hc'
 ·simp only[ht,Option.bind_some]
  rfl
 ·obtain ⟨s1,s2⟩:=qp6 n o hk (by omega) e hem
  obtain ⟨d,hd1,hd2⟩:=qvt n o (nI e.1) e.2 hk (show 2000≤n by omega)
  have hdt:d=true:=hd2.2 ⟨e.1,rfl,s1,s2⟩
  subst hdt
  have hgr:1≤o.2.1∧o.2.1≤6:=by
   have h:=hk.oth
   unfold oOk at h
   simp only[Bool.and_eq_true,qy] at h
   exact h.2.1
  have hwk:PartOk (o.2.1,((0:Int),(x.2.2,x.2.2))):=⟨hgr,rfl,(by show 50≤x.2.2∧x.2.2≤x.2.2∧x.2.2≤300;omega)⟩
  obtain ⟨best,hA⟩:=qtK n net (o.2.1,((0:Int),(x.2.2,x.2.2))) x.1 x.2.1 hs he hwk (by omega) hm2 (by omega)
  have hown:∀g (h:g<e.2.length) (h':g<o.2.2.2.1.length),0≤e.2[g]→o.2.1≤o.2.2.2.1[g].1∧o.2.2.2.1[g].1≤6:=fun g h h' h0=>by
   have hok:o.2.2.2.1[g].1≤6:=by
    have hx:=hk.oth
    unfold oOk at hx
    simp only[Bool.and_eq_true,List.all_eq_true] at hx
    have:=hx.2.2.2.2.1 _ (List.getElem_mem h')
    unfold gOk at this
    simp only[Bool.and_eq_true,qy] at this
    omega
   refine ⟨?_,hok⟩
   have hbd:=(qlo e.1 g e.1.length).1
   have hpos:0<ldC e.1 g e.1.length:=by
    by_cases h1:0<ldC e.1 g e.1.length
    ·exact h1
    ·have a:=s2.no g h' (by rw[qga n o e.1 h'];omega)
     rw[List.getElem?_eq_getElem h] at a
     injection a with a
     omega
   obtain ⟨_,_,hl⟩:=(qrx (fun c hc=>by have h9:=hk.oth'.2.2.2.2.2.1 c hc;omega)).1 s1
   have hlead:=(hl g h' hpos).1
   rw[qsW n o h'] at hlead
   unfold ql1 at hlead
   rw[List.getElem?_eq_getElem h'] at hlead
   simp only[Bool.and_eq_true,decide_eq_true_eq] at hlead
   exact hlead.1
  have hloop:=qvu n o net x e.2 (o.2.1,((0:Int),(x.2.2,x.2.2))) hs he hwk rfl (by omega) hm2 s2.len o3 hown (by omega)
  simp only[ht,Option.bind_some,show iNe (0:Int) 0=false from rfl,cond_false,hd1,Bool.not_true,hA,hloop,Sum.elim_inl]
end Go.Proofs.YtfnflenkeljkiaaGreat
