/- Paths: times, arrivals, Arrive, Walk (printed by gen_dg3.py). -/
import Derived.Test.YtfnflenkeljkiaaGreatDg2
set_option linter.constructorNameAsVariable false
set_option linter.unusedSimpArgs false
set_option linter.unusedVariables false
set_option linter.unusedSectionVars false
namespace Go.Proofs.YtfnflenkeljkiaaGreat
open Go Go.Proofs Go.RowKit
set_option maxHeartbeats 1000000
theorem qv4(n:Nat)(w:qdD)(i:Nat):canD n w i=qhI n (w,((i:Int),())):=by unfold canD;rfl
theorem qsv(n:Nat)(w:qdD)(i:Nat)(hi:i<w.1.2.length):qhI n (w,((i:Int),()))=some (decide (w.1.2[i].2.2.1≤w.2.1),()):=by
 rw[qpn]
 simp only[qr w.1.2 hi,Option.bind_some]
 try rfl
theorem qu9(n:Nat)(w:qdD)(i:Nat)(hi:i<w.1.2.length):qhG n w i=decide (w.1.2[i].2.2.1≤w.2.1):=qu1 ((qv4 n w i).trans (qsv n w i hi))
theorem qv5(n:Nat)(w:qdD)(hl:w.1.2.length≤24):WaysOk n w:=⟨by omega,fun i hi=>⟨_,(qv4 n w i).trans (qsv n w i hi)⟩⟩
theorem qjC(n:Nat)(w:qdD)(but:Int)(y:Int×(qif×Unit)):∀k,k≤w.1.2.length→(y∈qdr n w but k↔∃i:Nat,i<k∧∃hi:i<w.1.2.length,y=((i:Int),(w.1.2[i],()))∧(i:Int)≠but∧qhG n w i=true)
 | 0,_=>by
  constructor
  ·intro h;cases h
  ·rintro ⟨i,h,_⟩;omega
 | k+1,hk=>by
  have ih:=qjC n w but y k (by omega)
  rw[qk8 n w but (show k<w.1.2.length by omega)]
  cases hb:decide ((k:Int)≠but)&&qhG n w k with
  | true =>
   rw[Bool.and_eq_true,decide_eq_true_eq] at hb
   simp only[cond_true,List.mem_append,List.mem_singleton,ih]
   constructor
   ·rintro (⟨i,a,b⟩ | h)
    ·exact ⟨i,by omega,b⟩
    ·exact ⟨k,by omega,by omega,h,hb.1,hb.2⟩
   ·rintro ⟨i,a,b,c,d⟩
    by_cases e:i=k
    ·subst e;exact .inr c
    ·exact .inl ⟨i,by omega,b,c,d⟩
  | false =>
   simp only[cond_false,ih]
   constructor
   ·rintro ⟨i,a,b⟩;exact ⟨i,by omega,b⟩
   ·rintro ⟨i,a,b,c,d,e⟩
    by_cases f:i=k
    ·subst f
     rw[decide_eq_true d,e] at hb
     cases hb
    ·exact ⟨i,by omega,b,c,d,e⟩
theorem qoc{net:NetT}{p:qc8}(hn:NetOk net)(hp:PartOk p){i:Nat}(hi:i<net.2.length):qsq (net,p) net.2[i]:=by
 obtain ⟨_,_,a,b,c,d,_⟩:=hn.ok _ (List.getElem_mem hi)
 obtain ⟨_,l,lo⟩:=hp
 exact ⟨a,b,c,d,(by show 0≤p.2.1∧p.2.1≤40;omega),(by show 0≤p.2.2.1∧p.2.2.1≤300;omega),(by show 0≤p.2.2.2∧p.2.2.2≤300;omega)⟩
theorem qqz(n:Nat){net:NetT}{p:qc8}(hn:NetOk net)(hp:PartOk p){i:Nat}(hi:i<net.2.length):qg1 n ((net,p),((i:Int),()))=some ((qdV net.2[i].2.2.2.1.1 p.2.2.1 net.2[i].2.2.2.2.1.1 p.2.1,qdV net.2[i].2.2.2.1.2 p.2.2.2 net.2[i].2.2.2.2.1.2 p.2.1),()):=qzq (w:=(net,p)) hi (qoc hn hp hi)
theorem qqA{t pace snow load:Int}(ht:0≤t∧t≤600)(hp:0≤pace∧pace≤300)(hs:0≤snow∧snow≤30)(hl:0≤load∧load≤40):0≤qdV t pace snow load∧qdV t pace snow load≤1000000:=by
 obtain ⟨_,a,b⟩:=qv0 ht hp hs hl
 unfold qdV
 omega
theorem qAr(a b:Int):iMax a b=max a b:=by
 unfold iMax
 split<;>omega
theorem qtJ(n:Nat)(net:NetT)(p:qc8)(i:Nat)(hi:i<net.2.length)(a time:Int)(ho:net.2[i].2.2.2.2.2.length≤6)(h0:0≤time∧time≤1000000)(ha:0≤a)(hn:100≤n):qgh n ((net,p),((i:Int),(a,(time,()))))=some (arrT 2880 net.2[i].2.2.2.2.2 time a,()):=by
 rw[qnw]
 simp only[qr net.2 hi,Option.bind_some]
 generalize net.2[i].2.2.2.2.2=l at *
 have:=forN (qft n) l.length (fun k=>(a,(time,(entV a (l.take k) nev,(l,((l.length:Int),((k:Int),()))))))) (some (time,(entV a l nev,()))) (fun k hk rec=>by
  rw[qiL]
  have e:entV a (l.take (k+1)) nev=ent1 a (entV a (l.take k) nev) l[k]:=by
   unfold entV
   rw[List.take_add_one,List.foldl_append,List.getElem?_eq_getElem hk]
   rfl
  rw[e]
  simp only[iLtN hk,cond_true,qr l hk,Option.bind_some,qQ (show k<9223372036854775807 by omega),qsV,qAr]
  unfold ent1
  by_cases h:a≤l[k].2
  ·rw[show iLe a l[k].2=true from decide_eq_true h,if_pos h]
   rfl
  ·rw[show iLe a l[k].2=false from decide_eq_false h,if_neg h]
   rfl) (fun rec=>by
   rw[qiL]
   simp only[qcu (Nat.le_refl l.length),cond_false,List.take_length]) n (by omega)
 have e0:qg n (qft n) (a,(time,((1073741824:Int),(l,((l.length:Int),((0:Int),()))))))=some (time,(entV a l nev,())):=this
 rw[e0]
 simp only[Option.bind_some]
 have hnv:nev=1073741824:=rfl
 have b1:=qxU a l nev
 have b2:=qu7 ha l nev (by decide)
 rw[show iW (iAdd (entV a l nev) time)=entV a l nev+time from qfF (by unfold iAdd;omega) (by unfold iAdd;omega)]
 unfold arrT
 by_cases h:entV a l nev+time>2880
 ·rw[show iGt (entV a l nev+time) 2880=true from decide_eq_true h,if_pos h];rfl
 ·rw[show iGt (entV a l nev+time) 2880=false from decide_eq_false h,if_neg h];rfl
abbrev WayT:=Int×(qif×Unit)
def frW(y:WayT):Nat:=y.2.1.1.toNat
def toW(y:WayT):Nat:=y.2.1.2.1.toNat
theorem qs0(x:Int):iEq x 1073741824=decide (x=nev):=by unfold iEq;rw[Bool.eq_iff_iff];simp
def atS(net:NetT)(from_ start:Int):List Int:=(List.replicate net.1.toNat nev).set from_.toNat start
theorem qAs(n:Nat)(N:Nat)(hN:1≤N∧N≤12):qS (n+12) (((1073741824:Int)::[]),((N:Int),()))=some (List.replicate N (1073741824:Int),()):=by
 rcases (by omega:N=1∨N=2∨N=3∨N=4∨N=5∨N=6∨N=7∨N=8∨N=9∨N=10∨N=11∨N=12) with rfl | rfl | rfl | rfl | rfl | rfl | rfl | rfl | rfl | rfl | rfl | rfl<;>kernel_rfl
theorem repN(n:Nat)(N:Int)(hN:1≤N∧N≤12)(hn:20≤n):qS n (((1073741824:Int)::[]),(N,()))=some (List.replicate N.toNat nev,()):=by
 obtain ⟨m,rfl⟩:∃m,n=m+12:=⟨n-12,by omega⟩
 have:=qAs m N.toNat (by omega)
 rwa [show ((N.toNat:Nat):Int)=N by omega] at this
theorem qqe{net:NetT}{from_ start:Int}(hp:1≤net.1∧net.1≤12)(hf:0≤from_∧from_<net.1)(ht:0≤start∧start≤2880):ArrOk 2880 net.1.toNat (atS net from_ start):=by
 refine ⟨by unfold atS;rw[List.length_set,List.length_replicate],fun x hx=>?_⟩
 unfold atS
 rw[qqy (by rw[List.length_replicate];omega)]
 by_cases e:x=from_.toNat
 ·rw[if_pos e];omega
 ·rw[if_neg e]
  unfold tmA
  rw[List.getElem?_replicate_of_lt hx]
  exact ⟨by decide,.inr rfl⟩
theorem qxX{B:Nat}:∀l:List Nat,(∀x,x∈l→x≤B)→l.sum≤l.length*B
 | [],_=>by simp
 | x::l,h=>by
  have:=qxX l fun y hy=>h y (List.mem_cons_of_mem _ hy)
  have:=h x List.mem_cons_self
  rw[List.sum_cons,List.length_cons,Nat.succ_mul]
  omega
theorem qod{net:NetT}{from_ start:Int}(hp:1≤net.1∧net.1≤12)(ht:0≤start∧start≤2880):msr 2880 (atS net from_ start)<50000:=by
 have hlen:(atS net from_ start).length=net.1.toNat:=by unfold atS;rw[List.length_set,List.length_replicate]
 unfold msr
 have:=qxX (B:=2881) ((atS net from_ start).map fun x=>(min x (2880+1)).toNat) fun x hx=>by
  obtain ⟨y,_,rfl⟩:=List.mem_map.1 hx
  omega
 rw[List.length_map,hlen] at this
 have h2:net.1.toNat*2881≤12*2881:=Nat.mul_le_mul_right _ (by omega)
 omega
def ttH(p:qc8)(y:WayT):Int→Int:=arrT 2880 y.2.1.2.2.2.2.2 (qdV y.2.1.2.2.2.1.2 p.2.2.2 y.2.1.2.2.2.2.1.2 p.2.1)
theorem qoe{n:Nat}{net:NetT}{p:qc8}(hn:NetOk net)(hp:PartOk p){y:WayT}(hy:y∈qb2 n (net,p) (-1)):WayOk frW toW (ttH p) 2880 net.1.toNat y:=by
 obtain ⟨i,_,hi,rfl,_⟩:=(qjC n (net,p) (-1) y _ (Nat.le_refl _)).1 hy
 have hi2:i<net.2.length:=hi
 have hs:=qoc hn hp hi2
 obtain ⟨a,b,_⟩:=hn.ok _ (List.getElem_mem hi2)
 obtain ⟨s1,s2,s3,s4,s5,s6,s7⟩:=hs
 refine qu8 (by decide) (?_) (?_) (?_) rfl
 ·show (net.2[i].1).toNat<net.1.toNat;omega
 ·show (net.2[i].2.1).toNat<net.1.toNat;omega
 ·exact (qqA s2 s7 s4 s5).1
theorem qAT(n:Nat){net:NetT}{p:qc8}(hnk:NetOk net)(hp:PartOk p){y:WayT}(hy:y∈qb2 n (net,p) (-1))(at_:List Int)(ch:Bool)(ha:ArrOk 2880 net.1.toNat at_)(hn:100≤n)(rec):qbh n rec ((-1:Int),((net,p),(at_,(ch,())))) y=rec ((-1:Int),((net,p),((rel1 frW toW (ttH p) (at_,ch) y).1,((rel1 frW toW (ttH p) (at_,ch) y).2,())))):=by
 have hw:=qoe hnk hp hy
 obtain ⟨i,_,hi,rfl,_⟩:=(qjC n (net,p) (-1) y _ (Nat.le_refl _)).1 hy
 have hi2:i<net.2.length:=hi
 have hs:=qoc hnk hp hi2
 obtain ⟨a,b,_,_,_,_,ol,_⟩:=hnk.ok _ (List.getElem_mem hi2)
 obtain ⟨s1,s2,s3,s4,s5,s6,s7⟩:=hs
 have hf:frW ((i:Int),(net.2[i],()))<at_.length:=by rw[ha.len];exact hw.f
 have ht:toW ((i:Int),(net.2[i],()))<at_.length:=by rw[ha.len];exact hw.t
 have ef:((frW ((i:Int),(net.2[i],())):Nat):Int)=net.2[i].1:=by show ((net.2[i].1.toNat:Nat):Int)=_;omega
 have et:((toW ((i:Int),(net.2[i],())):Nat):Int)=net.2[i].2.1:=by show ((net.2[i].2.1.toNat:Nat):Int)=_;omega
 have lf:lat at_ net.2[i].1=some (tmA at_ (frW ((i:Int),(net.2[i],())))):=by rw[← ef,qr at_ hf,(qkt hf).2]
 have lt_:lat at_ net.2[i].2.1=some (tmA at_ (toW ((i:Int),(net.2[i],())))):=by rw[← et,qr at_ ht,(qkt ht).2]
 have gf:at_[net.2[i].1.toNat]?=some (tmA at_ (frW ((i:Int),(net.2[i],())))):=(qkt hf).1
 have gt:at_[net.2[i].2.1.toNat]?=some (tmA at_ (toW ((i:Int),(net.2[i],())))):=(qkt ht).1
 have hnn:=(ha.v _ hw.f).1
 have htm:0≤qdV net.2[i].2.2.2.1.2 p.2.2.2 net.2[i].2.2.2.2.1.2 p.2.1∧qdV net.2[i].2.2.2.1.2 p.2.2.2 net.2[i].2.2.2.2.1.2 p.2.1≤1000000:=qqA s2 s7 s4 s5
 have har:=qtJ n net p i hi2 (tmA at_ (frW ((i:Int),(net.2[i],())))) _ ol htm hnn hn
 rw[qh3]
 simp only[lf,gf,Option.bind_some,qqz n hnk hp hi2,qst,har,lt_,gt,qs0]
 have ett:ttH p ((i:Int),(net.2[i],())) (tmA at_ (frW ((i:Int),(net.2[i],()))))=arrT 2880 net.2[i].2.2.2.2.2 (qdV net.2[i].2.2.2.1.2 p.2.2.2 net.2[i].2.2.2.2.1.2 p.2.1) (tmA at_ (frW ((i:Int),(net.2[i],())))):=rfl
 rw[← ett]
 have er:rel1 frW toW (ttH p) (at_,ch) ((i:Int),(net.2[i],()))=if tmA at_ (frW ((i:Int),(net.2[i],())))=nev then (at_,ch) else if ttH p ((i:Int),(net.2[i],())) (tmA at_ (frW ((i:Int),(net.2[i],()))))<tmA at_ (toW ((i:Int),(net.2[i],()))) then (at_.set (toW ((i:Int),(net.2[i],()))) (ttH p ((i:Int),(net.2[i],())) (tmA at_ (frW ((i:Int),(net.2[i],()))))),true) else (at_,ch):=rfl
 rw[er]
 by_cases h1:tmA at_ (frW ((i:Int),(net.2[i],())))=nev
 ·rw[decide_eq_true h1,if_pos h1]
  rfl
 ·rw[decide_eq_false h1,if_neg h1]
  simp only[cond_false]
  by_cases h2:ttH p ((i:Int),(net.2[i],())) (tmA at_ (frW ((i:Int),(net.2[i],()))))<tmA at_ (toW ((i:Int),(net.2[i],())))
  ·rw[show iLt (ttH p ((i:Int),(net.2[i],())) (tmA at_ (frW ((i:Int),(net.2[i],()))))) (tmA at_ (toW ((i:Int),(net.2[i],()))))=true from decide_eq_true h2,if_pos h2]
   rfl
  ·rw[show iLt (ttH p ((i:Int),(net.2[i],())) (tmA at_ (frW ((i:Int),(net.2[i],()))))) (tmA at_ (toW ((i:Int),(net.2[i],()))))=false from decide_eq_false h2,if_neg h2]
   rfl
theorem rgH(n:Nat){net:NetT}{p:qc8}(hnk:NetOk net)(hp:PartOk p)(hn:100≤n):∀(L:List WayT) (at_:List Int) (ch:Bool),(∀y,y∈L→y∈qb2 n (net,p) (-1))→ArrOk 2880 net.1.toNat at_ →
  rgF (qbh n) L ((-1:Int),((net,p),(at_,(ch,()))))=some (Sum.inl ((-1:Int),((net,p),((relL frW toW (ttH p) L (at_,ch)).1,((relL frW toW (ttH p) L (at_,ch)).2,())))))
 | [],at_,ch,_,_=>rfl
 | y::L,at_,ch,hL,ha=>by
  have hy:=hL y List.mem_cons_self
  have h1:=(qob frW toW (ttH p) (by decide) (qoe hnk hp hy) (s:=(at_,ch)) ha).1
  show qbh n (rgF (qbh n) L) ((-1:Int),((net,p),(at_,(ch,())))) y=_
  rw[qAT n hnk hp hy at_ ch ha hn]
  exact rgH n hnk hp hn L _ _ (fun z hz=>hL z (List.mem_cons_of_mem _ hz)) h1
theorem qxY(n:Nat){net:NetT}{p:qc8}(hnk:NetOk net)(hp:PartOk p)(hn:100≤n):∀(k:Nat) (at_:List Int) (m:Nat),msr 2880 at_<k→k<m→ArrOk 2880 net.1.toNat at_→qg m (qcv n) ((-1:Int),((net,p),(at_,(true,()))))=some (qdt frW toW (ttH p) (qb2 n (net,p) (-1)) k at_,())
 | 0,_,_,h,_,_=>by omega
 | k+1,at_,m,h,hm,ha=>by
  obtain ⟨m,rfl⟩:∃j,m=j+2:=⟨m-2,by omega⟩
  have hw:qsp n ((net,p),((-1:Int),()))=some (qb2 n (net,p) (-1)):=qu3 (-1) (qv5 n (net,p) hnk.pa)
  obtain ⟨a,_,c⟩:=qkW frW toW (ttH p) (M:=2880) (by decide) (qb2 n (net,p) (-1)) (at_,false) (fun y hy=>qoe hnk hp hy) ha
  rw[qU,qeJ]
  simp only[cond_true,qks,Option.bind_some]
  refine (qg0 hw).trans ?_
  refine (qg0 (rgH n hnk hp hn (qb2 n (net,p) (-1)) at_ false (fun y h=>h) ha)).trans ?_
  show qg (m+1) (qcv n) ((-1:Int),((net,p),((relL frW toW (ttH p) (qb2 n (net,p) (-1)) (at_,false)).1,((relL frW toW (ttH p) (qb2 n (net,p) (-1)) (at_,false)).2,()))))=_
  unfold qdt
  cases hb:(relL frW toW (ttH p) (qb2 n (net,p) (-1)) (at_,false)).2 with
  | false =>
   rw[qU,qeJ]
   rfl
  | true =>
   rcases c with c | ⟨_,c⟩
   ·rw[c] at hb;cases hb
   ·have hc:msr 2880 (relL frW toW (ttH p) (qb2 n (net,p) (-1)) (at_,false)).1+1≤msr 2880 at_:=c
    rw[cond_true]
    exact qxY n hnk hp hn k _ (m+1) (by omega) (by omega) a
theorem qxZ(n:Nat){net:NetT}{p:qc8}(hnk:NetOk net)(hp:PartOk p)(from_ start:Int)(hf:0≤from_∧from_<net.1)(ht:0≤start∧start≤2880)(hn:100000≤n):qcK n ((net,p),(from_,(start,((Int.negSucc 0),(((),()),())))))=some (qdt frW toW (ttH p) (qb2 n (net,p) (-1)) 50000 (atS net from_ start),()):=by
 rw[qiM]
 have hr:=repN n net.1 (by have:=hnk.pl;omega) (by omega)
 have hl:(List.replicate net.1.toNat nev).length=net.1.toNat:=List.length_replicate
 have e1:lat (List.replicate net.1.toNat nev) from_=some nev:=by
  rw[show from_=((from_.toNat:Nat):Int) by omega,qr _ (show from_.toNat<(List.replicate net.1.toNat nev).length by omega)]
  simp
 have e2:(List.replicate net.1.toNat nev)[from_.toNat]?=some nev:=by rw[List.getElem?_replicate_of_lt (by omega)]
 refine (qg0 hr).trans ?_
 refine (qg0 e1).trans ?_
 refine (qg0 e2).trans ?_
 have ha:=qqe hnk.pl hf ht
 have hm:=qod hnk.pl (from_:=from_) ht
 refine (qg0 (qxY n hnk hp (by omega) 50000 (atS net from_ start) n (by omega) (by omega) ha)).trans ?_
 rfl
def ttL(p:qc8)(y:WayT):Int→Int:=arrT 2880 y.2.1.2.2.2.2.2 (qdV y.2.1.2.2.2.1.1 p.2.2.1 y.2.1.2.2.2.2.1.1 p.2.1)
theorem qqB{n:Nat}{net:NetT}{p:qc8}(hn:NetOk net)(hp:PartOk p){y:WayT}(hy:y∈qb2 n (net,p) (-1)):WayOk frW toW (ttL p) 2880 net.1.toNat y:=by
 obtain ⟨i,_,hi,rfl,_⟩:=(qjC n (net,p) (-1) y _ (Nat.le_refl _)).1 hy
 have hi2:i<net.2.length:=hi
 have hs:=qoc hn hp hi2
 obtain ⟨a,b,_⟩:=hn.ok _ (List.getElem_mem hi2)
 obtain ⟨s1,s2,s3,s4,s5,s6,s7⟩:=hs
 refine qu8 (by decide) (?_) (?_) (?_) rfl
 ·show (net.2[i].1).toNat<net.1.toNat;omega
 ·show (net.2[i].2.1).toNat<net.1.toNat;omega
 ·exact (qqA s1 s6 s3 s5).1
theorem qAU(n:Nat){net:NetT}{p:qc8}(hnk:NetOk net)(hp:PartOk p){y:WayT}(hy:y∈qb2 n (net,p) (-1))(at_:List Int)(ch:Bool)(ha:ArrOk 2880 net.1.toNat at_)(hn:100≤n)(rec):qbk n rec ((-1:Int),((net,p),(at_,(ch,())))) y=rec ((-1:Int),((net,p),((rel1 frW toW (ttL p) (at_,ch) y).1,((rel1 frW toW (ttL p) (at_,ch) y).2,())))):=by
 have hw:=qqB hnk hp hy
 obtain ⟨i,_,hi,rfl,_⟩:=(qjC n (net,p) (-1) y _ (Nat.le_refl _)).1 hy
 have hi2:i<net.2.length:=hi
 have hs:=qoc hnk hp hi2
 obtain ⟨a,b,_,_,_,_,ol,_⟩:=hnk.ok _ (List.getElem_mem hi2)
 obtain ⟨s1,s2,s3,s4,s5,s6,s7⟩:=hs
 have hf:frW ((i:Int),(net.2[i],()))<at_.length:=by rw[ha.len];exact hw.f
 have ht:toW ((i:Int),(net.2[i],()))<at_.length:=by rw[ha.len];exact hw.t
 have ef:((frW ((i:Int),(net.2[i],())):Nat):Int)=net.2[i].1:=by show ((net.2[i].1.toNat:Nat):Int)=_;omega
 have et:((toW ((i:Int),(net.2[i],())):Nat):Int)=net.2[i].2.1:=by show ((net.2[i].2.1.toNat:Nat):Int)=_;omega
 have lf:lat at_ net.2[i].1=some (tmA at_ (frW ((i:Int),(net.2[i],())))):=by rw[← ef,qr at_ hf,(qkt hf).2]
 have lt_:lat at_ net.2[i].2.1=some (tmA at_ (toW ((i:Int),(net.2[i],())))):=by rw[← et,qr at_ ht,(qkt ht).2]
 have gf:at_[net.2[i].1.toNat]?=some (tmA at_ (frW ((i:Int),(net.2[i],())))):=(qkt hf).1
 have gt:at_[net.2[i].2.1.toNat]?=some (tmA at_ (toW ((i:Int),(net.2[i],())))):=(qkt ht).1
 have hnn:=(ha.v _ hw.f).1
 have htm:0≤qdV net.2[i].2.2.2.1.1 p.2.2.1 net.2[i].2.2.2.2.1.1 p.2.1∧qdV net.2[i].2.2.2.1.1 p.2.2.1 net.2[i].2.2.2.2.1.1 p.2.1≤1000000:=qqA s1 s6 s3 s5
 have har:=qtJ n net p i hi2 (tmA at_ (frW ((i:Int),(net.2[i],())))) _ ol htm hnn hn
 rw[qim]
 simp only[lf,gf,Option.bind_some,qqz n hnk hp hi2,qsZ,har,lt_,gt,qs0]
 have ett:ttL p ((i:Int),(net.2[i],())) (tmA at_ (frW ((i:Int),(net.2[i],()))))=arrT 2880 net.2[i].2.2.2.2.2 (qdV net.2[i].2.2.2.1.1 p.2.2.1 net.2[i].2.2.2.2.1.1 p.2.1) (tmA at_ (frW ((i:Int),(net.2[i],())))):=rfl
 rw[← ett]
 have er:rel1 frW toW (ttL p) (at_,ch) ((i:Int),(net.2[i],()))=if tmA at_ (frW ((i:Int),(net.2[i],())))=nev then (at_,ch) else if ttL p ((i:Int),(net.2[i],())) (tmA at_ (frW ((i:Int),(net.2[i],()))))<tmA at_ (toW ((i:Int),(net.2[i],()))) then (at_.set (toW ((i:Int),(net.2[i],()))) (ttL p ((i:Int),(net.2[i],())) (tmA at_ (frW ((i:Int),(net.2[i],()))))),true) else (at_,ch):=rfl
 rw[er]
 by_cases h1:tmA at_ (frW ((i:Int),(net.2[i],())))=nev
 ·rw[decide_eq_true h1,if_pos h1]
  rfl
 ·rw[decide_eq_false h1,if_neg h1]
  simp only[cond_false]
  by_cases h2:ttL p ((i:Int),(net.2[i],())) (tmA at_ (frW ((i:Int),(net.2[i],()))))<tmA at_ (toW ((i:Int),(net.2[i],())))
  ·rw[show iLt (ttL p ((i:Int),(net.2[i],())) (tmA at_ (frW ((i:Int),(net.2[i],()))))) (tmA at_ (toW ((i:Int),(net.2[i],()))))=true from decide_eq_true h2,if_pos h2]
   rfl
  ·rw[show iLt (ttL p ((i:Int),(net.2[i],())) (tmA at_ (frW ((i:Int),(net.2[i],()))))) (tmA at_ (toW ((i:Int),(net.2[i],()))))=false from decide_eq_false h2,if_neg h2]
   rfl
theorem rgL(n:Nat){net:NetT}{p:qc8}(hnk:NetOk net)(hp:PartOk p)(hn:100≤n):∀(L:List WayT) (at_:List Int) (ch:Bool),(∀y,y∈L→y∈qb2 n (net,p) (-1))→ArrOk 2880 net.1.toNat at_ →
  rgF (qbk n) L ((-1:Int),((net,p),(at_,(ch,()))))=some (Sum.inl ((-1:Int),((net,p),((relL frW toW (ttL p) L (at_,ch)).1,((relL frW toW (ttL p) L (at_,ch)).2,())))))
 | [],at_,ch,_,_=>rfl
 | y::L,at_,ch,hL,ha=>by
  have hy:=hL y List.mem_cons_self
  have h1:=(qob frW toW (ttL p) (by decide) (qqB hnk hp hy) (s:=(at_,ch)) ha).1
  show qbk n (rgF (qbk n) L) ((-1:Int),((net,p),(at_,(ch,())))) y=_
  rw[qAU n hnk hp hy at_ ch ha hn]
  exact rgL n hnk hp hn L _ _ (fun z hz=>hL z (List.mem_cons_of_mem _ hz)) h1
theorem qx0(n:Nat){net:NetT}{p:qc8}(hnk:NetOk net)(hp:PartOk p)(hn:100≤n):∀(k:Nat) (at_:List Int) (m:Nat),msr 2880 at_<k→k<m→ArrOk 2880 net.1.toNat at_→qg m (qcC n) ((-1:Int),((net,p),(at_,(true,()))))=some (qdt frW toW (ttL p) (qb2 n (net,p) (-1)) k at_,())
 | 0,_,_,h,_,_=>by omega
 | k+1,at_,m,h,hm,ha=>by
  obtain ⟨m,rfl⟩:∃j,m=j+2:=⟨m-2,by omega⟩
  have hw:qsp n ((net,p),((-1:Int),()))=some (qb2 n (net,p) (-1)):=qu3 (-1) (qv5 n (net,p) hnk.pa)
  obtain ⟨a,_,c⟩:=qkW frW toW (ttL p) (M:=2880) (by decide) (qb2 n (net,p) (-1)) (at_,false) (fun y hy=>qqB hnk hp hy) ha
  rw[qU,qeV]
  simp only[cond_true,qks,Option.bind_some]
  refine (qg0 hw).trans ?_
  refine (qg0 (rgL n hnk hp hn (qb2 n (net,p) (-1)) at_ false (fun y h=>h) ha)).trans ?_
  show qg (m+1) (qcC n) ((-1:Int),((net,p),((relL frW toW (ttL p) (qb2 n (net,p) (-1)) (at_,false)).1,((relL frW toW (ttL p) (qb2 n (net,p) (-1)) (at_,false)).2,()))))=_
  unfold qdt
  cases hb:(relL frW toW (ttL p) (qb2 n (net,p) (-1)) (at_,false)).2 with
  | false =>
   rw[qU,qeV]
   rfl
  | true =>
   rcases c with c | ⟨_,c⟩
   ·rw[c] at hb;cases hb
   ·have hc:msr 2880 (relL frW toW (ttL p) (qb2 n (net,p) (-1)) (at_,false)).1+1≤msr 2880 at_:=c
    rw[cond_true]
    exact qx0 n hnk hp hn k _ (m+1) (by omega) (by omega) a
theorem qx1(n:Nat){net:NetT}{p:qc8}(hnk:NetOk net)(hp:PartOk p)(from_ start:Int)(hf:0≤from_∧from_<net.1)(ht:0≤start∧start≤2880)(hn:100000≤n):qd3 n ((net,p),(from_,(start,((Int.negSucc 0),(((),()),())))))=some (qdt frW toW (ttL p) (qb2 n (net,p) (-1)) 50000 (atS net from_ start),()):=by
 rw[qiX]
 have hr:=repN n net.1 (by have:=hnk.pl;omega) (by omega)
 have hl:(List.replicate net.1.toNat nev).length=net.1.toNat:=List.length_replicate
 have e1:lat (List.replicate net.1.toNat nev) from_=some nev:=by
  rw[show from_=((from_.toNat:Nat):Int) by omega,qr _ (show from_.toNat<(List.replicate net.1.toNat nev).length by omega)]
  simp
 have e2:(List.replicate net.1.toNat nev)[from_.toNat]?=some nev:=by rw[List.getElem?_replicate_of_lt (by omega)]
 refine (qg0 hr).trans ?_
 refine (qg0 e1).trans ?_
 refine (qg0 e2).trans ?_
 have ha:=qqe hnk.pl hf ht
 have hm:=qod hnk.pl (from_:=from_) ht
 refine (qg0 (qx0 n hnk hp (by omega) 50000 (atS net from_ start) n (by omega) (by omega) ha)).trans ?_
 rfl
def qc9(l:List Int):List Int:=l.map fun t=>if t=nev then -1 else t
def qgG(l:List Int)(k:Nat):List Int:=qc9 (l.take k)++l.drop k
theorem qv6(n:Nat)(l:List Int)(hl:l.length≤50)(hn:100≤n):qjw n (l,())=some (qc9 l,(((0:Nat),l.length),())):=by
 rw[qrD]
 have hlen:∀k,k≤l.length→(qgG l k).length=l.length:=fun k hk=>by
  unfold qgG qc9
  rw[List.length_append,List.length_map,List.length_take,List.length_drop];omega
 have hat:∀k (hk:k<l.length),(qgG l k)[k]?=some l[k]:=fun k hk=>by
  unfold qgG qc9
  rw[List.getElem?_append_right (by rw[List.length_map,List.length_take];omega),List.length_map,List.length_take,show k-min k l.length=0 by omega,List.getElem?_drop,Nat.add_zero,List.getElem?_eq_getElem hk]
 have hset:∀k (hk:k<l.length) (v:Int),(qgG l k).set k v=qc9 (l.take k)++v::l.drop (k+1):=fun k hk v=>by
  unfold qgG
  have e:l.drop k=l[k]::l.drop (k+1):=List.drop_eq_getElem_cons hk
  have e2:(qc9 (l.take k)).length=k:=by unfold qc9;rw[List.length_map,List.length_take];omega
  rw[e,List.set_append_right _ _ (by omega),e2,Nat.sub_self]
  rfl
 have hsucc:∀k (hk:k<l.length),qgG l (k+1)=qc9 (l.take k)++(if l[k]=nev then -1 else l[k])::l.drop (k+1):=fun k hk=>by
  unfold qgG qc9
  rw[List.take_add_one,List.getElem?_eq_getElem hk,List.map_append,List.append_assoc]
  rfl
 have hsame:∀k (hk:k<l.length),qgG l k=qc9 (l.take k)++l[k]::l.drop (k+1):=fun k hk=>by
  unfold qgG
  rw[List.drop_eq_getElem_cons hk]
 have:=forN (qij n) l.length (fun k=>((l.length:Int),((k:Int),(qgG l k,(((0:Nat),l.length),()))))) (some (qc9 l,())) (fun k hk rec=>by
  have h1:=hlen k (by omega)
  have e1:lat (List.take l.length (List.drop 0 (qgG l k))) (k:Int)=some l[k]:=by
   rw[List.drop_zero,List.take_of_length_le (by omega),qnR,hat k hk]
  have e2:lat (qgG l k) (k:Int)=some l[k]:=by rw[qnR,hat k hk]
  rw[qls]
  simp only[iLtN hk,cond_true,e1,e2,Option.bind_some,show nAdd 0 k=k from Nat.zero_add k,Int.toNat_natCast,hat k hk,qs0,qQ (show k<9223372036854775807 by omega),hset k hk]
  rw[hsucc k hk]
  by_cases h:l[k]=nev
  ·rw[decide_eq_true h,if_pos h];rfl
  ·rw[decide_eq_false h,if_neg h,hsame k hk];rfl) (fun rec=>by
   rw[qls]
   simp only[qcu (Nat.le_refl l.length),cond_false]
   unfold qgG
   rw[List.take_length,List.drop_length,List.append_nil]) n (by omega)
 have e0:qg n (qij n) ((l.length:Int),((0:Int),(l,(((0:Nat),l.length),()))))=some (qc9 l,()):=this
 rw[e0]
 simp only[Option.bind_some]
 rw[show (qc9 l).length=l.length from List.length_map _]
noncomputable def qfP(n:Nat)(net:NetT)(p:qc8)(from_ start:Int):List Int:=qdt frW toW (ttH p) (qb2 n (net,p) (-1)) 50000 (atS net from_ start)
theorem qs1(n:Nat){net:NetT}{p:qc8}(hnk:NetOk net)(hp:PartOk p)(from_ start:Int)(hf:0≤from_∧from_<net.1)(ht:0≤start∧start≤2880):ArrOk 2880 net.1.toNat (qfP n net p from_ start):=(qni frW toW (ttH p) (by decide) _ (fun y hy=>qoe hnk hp hy) 50000 _ (qod hnk.pl ht) (qqe hnk.pl hf ht)).1
theorem qtK(n:Nat)(net:NetT)(p:qc8)(from_ start:Int)(hs:qiN net)(he:netE net=0)(hp:PartOk p)(hf:0≤from_∧from_<net.1)(ht:0≤start∧start≤2880)(hn:100000≤n):∃best,qiW n (net,(p,(from_,(start,()))))=some (qc9 (qfP n net p from_ start),(best,(0,()))):=by
 have hnk:=qkX he
 have hlH:(qfP n net p from_ start).length≤50:=by rw[(qs1 n hnk hp from_ start hf ht).len];have:=hnk.pl;omega
 have okL:=(qni frW toW (ttL p) (M:=2880) (by decide) _ (fun y hy=>qqB (n:=n) hnk hp hy) 50000 _ (qod hnk.pl (from_:=from_) ht) (qqe hnk.pl hf ht)).1
 have hlL:(qdt frW toW (ttL p) (qb2 n (net,p) (-1)) 50000 (atS net from_ start)).length≤50:=by rw[okL.len];have:=hnk.pl;omega
 have hH:qcK n ((net,p),(from_,(start,((Int.negSucc 0),(((),()),())))))=some (qfP n net p from_ start,()):=qxZ n hnk hp from_ start hf ht hn
 rw[qqR]
 simp only[qAq n net p from_ start hs he hp hf ht (show 100≤n by omega),Option.bind_some,show iNe (0:Int) 0=false from rfl,cond_false,hH,qv6 n _ hlH (show 100≤n by omega),qx1 n hnk hp from_ start hf ht hn,qv6 n _ hlL (show 100≤n by omega)]
 have e1:(qc9 (qfP n net p from_ start)).length=(qfP n net p from_ start).length:=List.length_map _
 have e2:(qc9 (qdt frW toW (ttL p) (qb2 n (net,p) (-1)) 50000 (atS net from_ start))).length=(qdt frW toW (ttL p) (qb2 n (net,p) (-1)) 50000 (atS net from_ start)).length:=List.length_map _
 rw[show Nat.beq 0 0=true from rfl,e1,e2,Nat.ble_eq_true_of_le (Nat.le_refl _),Nat.ble_eq_true_of_le (Nat.le_refl _),List.take_of_length_le (Nat.le_of_eq e1)]
 exact ⟨_,rfl⟩
theorem qAt(n:Nat)(net:NetT)(p:qc8)(i:Nat)(hi:i<net.2.length)(hs:qiN net)(he:netE net=0)(hp:PartOk p)(hn:100≤n):∃s,qgc n (net,(p,((i:Int),())))=some (s,(cond (decide (net.2[i].2.2.1≤p.1)) 0 3,())):=by
 have hnk:=qkX he
 have h24:=hnk.pa
 rw[qnh]
 have e:iW (iSub (net.2.length:Int) 1)=(net.2.length:Int)-1:=qfF (by unfold iSub;omega) (by unfold iSub;omega)
 simp only[qrE n net p hs he hp hn,Option.bind_some,show iNe (0:Int) 0=false from rfl,cond_false,e,qhJ,qy.2 (show 0≤(i:Int)∧(i:Int)≤(net.2.length:Int)-1 by omega),Bool.not_true]
 rw[qsv n (net,p) i hi]
 simp only[Option.bind_some]
 show ∃s,(cond (!decide (net.2[i].2.2.1≤p.1)) _ _)=_
 cases decide (net.2[i].2.2.1≤p.1) with
 | false=>exact ⟨_,rfl⟩
 | true =>
  simp only[Bool.not_true,cond_false,qqz n hnk hp hi,Option.bind_some]
  exact ⟨_,rfl⟩
end Go.Proofs.YtfnflenkeljkiaaGreat
