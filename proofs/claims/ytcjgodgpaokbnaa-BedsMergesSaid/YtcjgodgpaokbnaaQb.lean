/- Texts Ds5, Ds6, Ds7, Ds8, Ds9 in one. -/
import Derived.Test.YtcjgodgpaokbnaaQa
import Derived.Laws.BitsAllLaws
import Derived.Laws.Shifts
import Derived.Test.YtcjgodgpaokbnaaPb
/- Plain: the partial sort by insertion. -/
set_option linter.constructorNameAsVariable false
set_option linter.unusedSimpArgs false
set_option linter.unusedVariables false
set_option linter.unusedSectionVars false
namespace Go.Proofs.Ytcjgodgpaokbnaa
open Go Go.Proofs Go.RowKit
set_option maxHeartbeats 1000000
def AlmI(key:Msg→Int)(d:List Msg)(a i j:Int):Prop:=∀u v:Int,a≤u→u<v→v<i→v≠j→key (GI d u)≤key (GI d v)
theorem AlmI.step{key:Msg→Int}{d:List Msg}{a i j:Int}(h:AlmI key d a i j)(h0:0≤a)(haj:a<j)(hj:j<i)(hi:i≤d.length)(hk:key (GI d j)<key (GI d (j-1))):AlmI key (swp d j.toNat (j-1).toNat) a i (j-1):=fun u v k1 k2 k3 k4=>by
 by_cases c1:v=j
 ·subst c1
  rw[quH (by omega) (by omega)]
  by_cases c2:u=v-1
  ·subst c2
   rw[qzK (by omega) (by omega)]
   exact Int.le_of_lt hk
  ·rw[qjV (by omega) (by omega) (by omega) (by omega) c2]
   exact h u (v-1) k1 (by omega) (by omega) (by omega)
 ·rw[qjV (k:=v) (by omega) (by omega) (by omega) c1 k4]
  by_cases c2:u=j-1
  ·subst c2
   rw[qzK (by omega) (by omega)]
   exact h j v (by omega) (by omega) k3 c1
  ·by_cases c3:u=j
   ·subst c3
    rw[quH (by omega) (by omega)]
    exact h (u-1) v (by omega) (by omega) k3 c1
   ·rw[qjV (by omega) (by omega) (by omega) c3 c2]
    exact h u v k1 k2 k3 c1
theorem AlmI.stop{key:Msg→Int}{d:List Msg}{a i j:Int}(h:AlmI key d a i j)(hk:a<j→j<i→key (GI d (j-1))≤key (GI d j)):SortI key d a i:=fun u v k1 k2 k3=>by
 by_cases c:v=j
 ·subst c
  have:=hk (by omega) k3
  by_cases c2:u=v-1
  ·subst c2;exact this
  ·have:=h u (v-1) k1 (by omega) (by omega) (by omega)
   omega
 ·exact h u v k1 k2 k3 c
theorem qQk{key:Msg→Int}{n:Nat}(a b i c:Int)(d:List Msg)(hI:MInv key n d)(h0:0≤a)(hai:a<i)(hib:i≤b)(hb:b≤d.length)(hS:SortI key d a i) :
  Ok (qh n (qbw n) (a,(b,(((),()),(i,(c,(d,()))))))) fun r=>∃i',r=(a,(b,(((),()),(i',(c,(d,()))))))∧i≤i'∧i'≤b∧SortI key d a i'∧(i'<b→key (GI d i')<key (GI d (i'-1))):=by
 have hlen:=hI.len
 have hbig:=hI.big
 refine Ok.iter (step:=qbw n) (fun p:Int=>(a,(b,(((),()),(p,(c,(d,()))))))) (fun p=>i≤p∧p≤b∧SortI key d a p) (fun p=>(b-p).toNat) ?_ n i ⟨Int.le_refl _,hib,hS⟩ (by omega)
 rintro rec p ⟨h1,h2,hS⟩ ih
 rw[qjm]
 try dsimp only
 refine Ok.lt (fun h=>?_) (fun h=>Ok.ret ⟨p,rfl,h1,h2,hS,fun h'=>by omega⟩)
 try dsimp only at h
 simp (disch:=omega) only [qeY,qiS,iw,Option.bind_some,iAdd,iSub]
 refine Ok.cmpN hI (by omega) (by omega) (fun k=>?_) (fun k=>Ok.ret ⟨p,rfl,h1,h2,hS,fun _=>k⟩)
 refine ih (p+1) ⟨by omega,by omega,fun u v k1 k2 k3=>?_⟩ (by omega)
 by_cases e:v=p
 ·subst e
  have k:key (GI d (v-1))≤key (GI d v):=k
  by_cases e':u=v-1
  ·subst e';exact k
  ·have:=hS u (v-1) k1 (by omega) (by omega)
   omega
 ·exact hS u v k1 k2 (by omega)
theorem qQl{key:Msg→Int}{n:Nat}(a b i c:Int)(d:List Msg)(hI:MInv key n d)(h0:0≤a)(hai:a+2≤i)(hib:i<b)(hb:b≤d.length)(hA:AlmI key d a i (i-1))(hlow:0<a→∀k,a≤k→k<b→key (GI d (a-1))≤key (GI d k)) :
  Ok (qh n (qbx n) (a,(b,(((),()),(i,(c,(i-1,(d,())))))))) fun r=>∃e,r=(a,(b,(((),()),(i,(c,(e,()))))))∧PermR a.toNat i.toNat d e∧SortI key e a i:=by
 have hlen:=hI.len
 have hbig:=hI.big
 refine Ok.iter (step:=qbx n) (fun p:Int×List Msg=>(a,(b,(((),()),(i,(c,(p.1,(p.2,())))))))) (fun p=>a≤p.1∧p.1<i∧PermR a.toNat i.toNat d p.2∧AlmI key p.2 a i p.1) (fun p=>p.1.toNat) ?_ n (i-1,d) ⟨by dsimp only;omega,by dsimp only;omega,PermR.refl _ _ _,hA⟩ (by dsimp only;omega)
 rintro rec ⟨j,e⟩ ⟨h1,h2,hP,hA⟩ ih
 dsimp only at h1 h2 hP hA ih ⊢
 have hE:MInv key n e:=hI.perm hP.perm
 have hl:=hP.len
 rw[qjn]
 try dsimp only
 refine Ok.ge (fun h=>?_) (fun h=>Ok.ret ⟨e,rfl,hP,hA.stop fun k=>by omega⟩)
 try dsimp only at h
 simp (disch:=omega) only [qeY,qiS,iw,Option.bind_some,qjT,qjU,qiC,iSub]
 refine Ok.cmpN hE (by omega) (by omega) (fun k=>Ok.ret ⟨e,rfl,hP,hA.stop fun _ _=>k⟩) (fun k=>?_)
 have haj:a<j:=by
  rcases Int.lt_or_le a j with q | q
  ·exact q
  ·have e':j=a:=by omega
   subst e'
   exfalso
   have k:key (GI e j)<key (GI e (j-1)):=k
   rw[hP.outI (k:=j-1) (by omega) (Or.inl (by omega))] at k
   obtain ⟨q,q1,q2,q3⟩:=hP.insI h0 (Int.le_refl j) (by omega)
   rw[q3] at k
   have:=hlow (by omega) q q1 (by omega)
   omega
 exact ih (j-1,swp e j.toNat (j-1).toNat) ⟨by dsimp only;omega,by dsimp only;omega,hP.trans (PermR.swp (by omega) (by omega) (by omega)),hA.step h0 haj h2 (by omega) k⟩ (by dsimp only;omega)
theorem qQm{key:Msg→Int}{n:Nat}(a b i c j:Int)(d:List Msg)(hI:MInv key n d)(h0:0≤i)(hij:i<j)(hjb:j≤b)(hb:b≤d.length) :
  Ok (qh n (qI n) (a,(b,(((),()),(i,(c,(j,(d,())))))))) fun r=>∃e,r=(a,(b,(((),()),(i,(c,(e,()))))))∧PermR i.toNat b.toNat d e:=by
 have hlen:=hI.len
 have hbig:=hI.big
 refine Ok.iter (step:=qI n) (fun p:Int×List Msg=>(a,(b,(((),()),(i,(c,(p.1,(p.2,())))))))) (fun p=>i<p.1∧p.1≤b∧PermR i.toNat b.toNat d p.2) (fun p=>(b-p.1).toNat) ?_ n (j,d) ⟨hij,hjb,PermR.refl _ _ _⟩ (by dsimp only;omega)
 rintro rec ⟨j,e⟩ ⟨h1,h2,hP⟩ ih
 dsimp only at h1 h2 hP ih ⊢
 have hE:MInv key n e:=hI.perm hP.perm
 have hl:=hP.len
 rw[qjo]
 try dsimp only
 refine Ok.lt (fun h=>?_) (fun h=>Ok.ret ⟨e,rfl,hP⟩)
 try dsimp only at h
 simp (disch:=omega) only [qeY,qiS,iw,Option.bind_some,qjT,qjU,qiC,iSub,iAdd]
 refine Ok.cmpN hE (by omega) (by omega) (fun k=>Ok.ret ⟨e,rfl,hP⟩) (fun k=>?_)
 exact ih (j+1,swp e j.toNat (j-1).toNat) ⟨by dsimp only;omega,by dsimp only;omega,hP.trans (PermR.swp (by omega) (by omega) (by omega))⟩ (by dsimp only;omega)
theorem qPf{key:Msg→Int}{n:Nat}(a b:Int)(d:List Msg)(hI:MInv key n d)(h0:0≤a)(hab:a<b)(hb:b≤d.length)(hlow:0<a→∀k,a≤k→k<b→key (GI d (a-1))≤key (GI d k)) :
  Ok (qcQ n (a,(b,(((),()),(d,()))))) fun r=>∃t e,r=(t,(e,()))∧PermR a.toNat b.toNat d e∧(t=true→SortI key e a b):=by
 have hlen:=hI.len
 have hbig:=hI.big
 rw[qjE]
 refine Ok.bind (Q:=fun r=>∃t e,(r=Sum.inl (e,())∧t=false∨r=Sum.inr (t,(e,())))∧PermR a.toNat b.toNat d e∧(t=true→SortI key e a b)) ?_ ?_
 ·simp (disch:=omega) only [iw,iAdd]
  refine Ok.iter (step:=qcA n) (fun p:Int×(Int×List Msg)=>(a,(b,(((),()),(p.1,(p.2.1,(p.2.2,()))))))) (fun p=>a<p.1∧p.1≤b∧0≤p.2.1∧PermR a.toNat b.toNat d p.2.2∧SortI key p.2.2 a p.1) (fun p=>(5-p.2.1).toNat) ?_ n (a+1,(0,d)) ⟨by dsimp only;omega,by dsimp only;omega,by dsimp only;omega,PermR.refl _ _ _,fun u v k1 k2 k3=>by dsimp only at k3;omega⟩ (by dsimp only;omega)
  rintro rec ⟨i,c,e⟩ ⟨h1,h2,h3,hP,hS⟩ ih
  dsimp only at h1 h2 h3 hP hS ih ⊢
  have hE:MInv key n e:=hI.perm hP.perm
  have hl:=hP.len
  rw[qjp]
  try dsimp only
  refine Ok.lt (fun h=>?_) (fun h=>Ok.ret ⟨false,e,Or.inl ⟨rfl,rfl⟩,hP,fun h=>by cases h⟩)
  try dsimp only at h
  refine Ok.bind (qQk a b i c e hE h0 h1 h2 (by omega) hS) ?_
  rintro _ ⟨i',rfl,u1,u2,u3,u4⟩
  refine Ok.eq (fun h=>?_) (fun h=>?_)
  ·try dsimp only at h
   subst h
   exact Ok.ret ⟨true,e,Or.inr rfl,hP,fun _=>u3⟩
  ·try dsimp only at h ⊢
   simp (disch:=omega) only [iw,iSub]
   refine Ok.lt (fun _=>Ok.ret ⟨false,e,Or.inr rfl,hP,fun h=>by cases h⟩) (fun _=>?_)
   simp (disch:=omega) only [qeY,qiS,iw,Option.bind_some,qjT,qjU,qiC,iSub,iAdd]
   have hs:PermR a.toNat b.toNat e (swp e i'.toNat (i'-1).toNat):=PermR.swp (by omega) (by omega) (by omega)
   have hk:=u4 (by omega)
   have hA:AlmI key (swp e i'.toNat (i'-1).toNat) a i' (i'-1):=fun u v k1 k2 k3 k4=>by
    rw[qjV (by omega) (by omega) (by omega) (by omega) (by omega),qjV (by omega) (by omega) (by omega) (by omega) (by omega)]
    exact u3 u v k1 k2 k3
   have hls:=hs.len
   have hPs:=hP.trans hs
   generalize swp e i'.toNat (i'-1).toNat=g at hs hA hls hPs ⊢
   have hG:MInv key n g:=hE.perm hs.perm
   have hlowg:0<a→∀k,a≤k→k<b→key (GI g (a-1))≤key (GI g k):=fun q k k1 k2=>by
    rw[hPs.outI (by omega) (Or.inl (by omega))]
    obtain ⟨m,m1,m2,m3⟩:=hPs.insI h0 k1 k2
    rw[m3]
    exact hlow q m m1 m2
   have last:∀f,PermR a.toNat b.toNat d f→SortI key f a i'→Ok (rec (a,(b,(((),()),(i',(c+1,(f,()))))))) _:=fun f f1 f2=>ih (i',(c+1,f)) ⟨by dsimp only;omega,by dsimp only;omega,by dsimp only;omega,f1,f2⟩ (by dsimp only;omega)
   have right:∀f,PermR a.toNat b.toNat d f→SortI key f a i'→Ok (Option.bind (qh n (qI n) (a,(b,(((),()),(i',(c,(i'+1,(f,())))))))) fun y10=>rec (y10.1,(y10.2.1,(((),()),(y10.2.2.2.1,((iW (iAdd y10.2.2.2.2.1 (1:Int))),y10.2.2.2.2.2)))))) _:=fun f f1 f2=>by
    have:=f1.len
    refine Ok.bind (qQm a b i' c (i'+1) f (hI.perm f1.perm) (by omega) (by omega) (by omega) (by omega)) ?_
    rintro _ ⟨f',rfl,g1⟩
    simp (disch:=omega) only [iw,iAdd]
    refine last f' (f1.trans (g1.wide (by omega) (Nat.le_refl _))) fun u v k1 k2 k3=>?_
    rw[g1.outI (by omega) (Or.inl (by omega)),g1.outI (by omega) (Or.inl (by omega))]
    exact f2 u v k1 k2 k3
   refine Ok.ge (fun h4=>?_) (fun h4=>?_)
   ·refine Ok.bind (qQl a b i' c g hG h0 (by omega) (by omega) (by omega) hA hlowg) ?_
    rintro _ ⟨f,rfl,f1,f2⟩
    have f3:=hPs.trans (f1.wide (Nat.le_refl _) (by omega))
    simp (disch:=omega) only [iw,iSub,iAdd]
    refine Ok.ge (fun h5=>?_) (fun h5=>?_)
    ·exact right f f3 f2
    ·exact last f f3 f2
   ·have f2:SortI key g a i':=fun u v k1 k2 k3=>by omega
    refine Ok.ge (fun h5=>?_) (fun h5=>?_)
    ·exact right g hPs f2
    ·exact last g hPs f2
 ·rintro _ ⟨t,e,⟨rfl,rfl⟩ | rfl,h1,h2⟩
  ·exact Ok.ret ⟨false,e,rfl,h1,h2⟩
  ·exact Ok.ret ⟨t,e,rfl,h1,h2⟩
end Go.Proofs.Ytcjgodgpaokbnaa
/- Plain: patterns broken. -/
namespace Go.Proofs.Ytcjgodgpaokbnaa
open Go Go.Proofs Go.RowKit
set_option maxHeartbeats 1000000
def U64(x:Int):Prop:=0≤x∧x<18446744073709551616
theorem qLC(z:Int):U64 (IntKind.wrap .u64 z):=by
 unfold U64
 simp[IntKind.wrap,IntKind.bits,IntKind.signed]
 omega
theorem qJ0{z:Int}(h:U64 z):IntKind.wrap .u64 z=z:=by
 unfold U64 at h
 simp[IntKind.wrap,IntKind.bits,IntKind.signed]
 omega
theorem xorU{x y:Int}(hx:U64 x)(hy:U64 y):U64 (bits .xor .u64 x y):=by
 rw[u64_xor x y hx.1 hx.2 hy.1 hy.2]
 have h1:=hx.1
 have h2:=hx.2
 have h3:=hy.1
 have h4:=hy.2
 have:=Nat.xor_lt_two_pow (x:=x.toNat) (y:=y.toNat) (n:=64) (by omega) (by omega)
 exact ⟨by omega,by omega⟩
theorem andU{x y:Int}(hx:U64 x)(hy:U64 y):0≤bits .and .u64 x y∧bits .and .u64 x y≤y:=by
 rw[u64_and x y hx.1 hx.2 hy.1 hy.2]
 have h3:=hy.1
 have:=Nat.and_le_right (n:=x.toNat) (m:=y.toNat)
 exact ⟨by omega,by omega⟩
theorem shrU{x:Int}(hx:U64 x)(k:Nat):U64 (x/2 ^ k):=by
 have hp:(0:Int)<2 ^ k:=Int.pow_pos (by decide)
 have h1:(0:Int)≤x/2 ^ k:=Int.ediv_nonneg hx.1 (Int.le_of_lt hp)
 have h2:x/2 ^ k≤x:=Int.ediv_le_self _ hx.1
 exact ⟨h1,by have:=hx.2;omega⟩
theorem qPg(n:Nat)(x:Int)(hx:U64 x):Ok (qos n (x,())) fun r=>U64 r.1∧∃q,r.2=(q,())∧U64 q:=by
 rw[qxz]
 rw[show q7 (iSh .u64 (13:Int))=some () from rfl,show q7 (iSh .u64 (7:Int))=some () from rfl,show q7 (iSh .u64 (17:Int))=some () from rfl]
 simp only[Option.bind_some]
 have h1:U64 (bits .xor .u64 x (IntKind.wrap .u64 (iShl x (13:Int)))):=xorU hx (qLC _)
 have h2:=xorU h1 (shrU h1 7)
 have h3:=xorU h2 (qLC (iShl (bits .xor .u64 (bits .xor .u64 x (IntKind.wrap .u64 (iShl x (13:Int)))) (iShr (bits .xor .u64 x (IntKind.wrap .u64 (iShl x (13:Int)))) (7:Int))) (17:Int)))
 exact Ok.ret ⟨h3,_,rfl,h3⟩
noncomputable def qMI(n k:Nat):Bool:=match qbr n ((IntKind.wrap .u64 (k:Int)),()) with
 | some r=>decide (0≤r.1)&&(decide (r.1≤8)&&(decide (k=0)||decide (2 ^ r.1.toNat≤2*k)))
 | none=>false
theorem qLD(n:Nat):(List.range 129).all (qMI n)=true:=by kernel_rfl
theorem qMJ(n k:Nat)(hk:k≤128):∃r:Int,qbr n ((IntKind.wrap .u64 (k:Int)),())=some (r,())∧0≤r∧r≤8∧(1≤k→2 ^ r.toNat≤2*k):=by
 have:=List.all_eq_true.1 (qLD n) k (List.mem_range.2 (by omega))
 unfold qMI at this
 cases h:qbr n ((IntKind.wrap .u64 (k:Int)),()) with
 | none=>rw[h] at this;cases this
 | some r =>
  rw[h] at this
  obtain ⟨r,u⟩:=r
  simp only[Bool.and_eq_true,Bool.or_eq_true,decide_eq_true_eq] at this
  exact ⟨r,rfl,this.1,this.2.1,fun h=>by
   rcases this.2.2 with q | q
   ·omega
   ·exact q⟩
theorem qPh(n:Nat)(l:Int)(h1:1≤l)(h2:l≤128):Ok (qoZ n (l,())) fun r=>1≤r.1∧r.1≤2*l:=by
 obtain ⟨k,rfl⟩:=Int.eq_ofNat_of_zero_le (show 0≤l by omega)
 obtain ⟨r,e,r0,r8,rp⟩:=qMJ n k (by omega)
 rw[qx2,qmp,e]
 simp only[Option.bind_some]
 rw[show q7 (iSh .u64 r)=some () by
  unfold q7 iSh
  rw[show (decide (0≤r)&&decide (r≤(IntKind.bits .u64:Int)))=true by rw[show ((IntKind.bits .u64:Nat):Int)=64 from rfl,decide_eq_true r0,decide_eq_true (show r≤64 by omega)];rfl]
  rfl,Option.bind_some]
 have rp:=rp (by omega)
 have hpos:0<2 ^ r.toNat:=Nat.pow_pos (by decide)
 have hw:iShl (1:Int) r=((2 ^ r.toNat:Nat):Int):=by
  unfold iShl
  rw[Int.one_mul]
  exact (Int.natCast_pow 2 r.toNat).symm
 refine Ok.ret ?_
 generalize 2 ^ r.toNat=q at rp hpos hw
 try dsimp only
 rw[hw,qJ0 ⟨by omega,by omega⟩]
 omega
theorem qPR{key:Msg→Int}{n:Nat}(a b:Int)(d:List Msg)(hI:MInv key n d)(h0:0≤a)(hab:a≤b)(hb:b≤d.length)(hl:d.length≤128) :
  Ok (qdT n (a,(b,(((),()),(d,()))))) fun r=>∃e,r=(e,())∧PermR a.toNat b.toNat d e:=by
 have hlen:=hI.len
 have hbig:=hI.big
 rw[qlb]
 simp (disch:=omega) only [iw,iSub]
 refine Ok.ge (fun h=>?_) (fun h=>Ok.ret ⟨d,rfl,PermR.refl _ _ _⟩)
 refine Ok.bind (qPh n (b-a) (by omega) (by omega)) ?_
 rintro ⟨md,u⟩ ⟨m1,m2⟩
 try dsimp only at m1 m2 ⊢
 rw[show q7 (iNe (4:Int) (0:Int))=some () from rfl,Option.bind_some]
 rw[Int.tdiv_eq_ediv_of_nonneg (by omega)]
 simp (disch:=omega) only [iw,iAdd,iMul]
 refine Ok.bind (Q:=fun r=>∃e,r=(e,())∧PermR a.toNat b.toNat d e) ?_ fun r hr=>Ok.ret hr
 refine Ok.iter (step:=qdj n) (fun p:Int×(List Msg×Int)=>(a,(b-a,(md,(p.1,(p.2.1,(p.2.2,()))))))) (fun p=>a+(b-a)/4*2-1≤p.1∧p.1≤b∧PermR a.toNat b.toNat d p.2.1∧U64 p.2.2) (fun p=>(b+1-p.1).toNat) ?_ n (a+(b-a)/4*2-1,(d,IntKind.wrap .u64 (b-a))) ⟨Int.le_refl _,by dsimp only;omega,PermR.refl _ _ _,qLC _⟩ (by dsimp only;omega)
 rintro rec ⟨i,e,x⟩ ⟨h1,h2,hP,hx⟩ ih
 dsimp only at h1 h2 hP hx ih ⊢
 have hle:=hP.len
 rw[qkA]
 try dsimp only
 rw[show q7 (iNe (4:Int) (0:Int))=some () from rfl,Option.bind_some]
 try dsimp only
 rw[Int.tdiv_eq_ediv_of_nonneg (by omega)]
 simp (disch:=omega) only [iw,iAdd,iMul]
 refine Ok.le (fun h3=>?_) (fun h3=>Ok.ret ⟨e,rfl,hP⟩)
 refine Ok.bind (qPg n x hx) ?_
 rintro ⟨y,q⟩ ⟨hy,q',rfl,hq⟩
 try dsimp only at hy ⊢
 have hm:U64 (md-1):=⟨by omega,by omega⟩
 have ha:=andU hy hm
 rw[show IntKind.wrap .u64 (iSub md 1)=md-1 from qJ0 hm]
 generalize bits .and .u64 y (md-1)=o at ha ⊢
 simp (disch:=omega) only [iw]
 refine Ok.ge (fun h4=>?_) (fun h4=>?_)
 ·simp (disch:=omega) only [qeY,qiS,iw,Option.bind_some,qjT,qjU,qiC,iSub,iAdd]
  exact ih (i+1,(swp e i.toNat (a+(o-(b-a))).toNat,q')) ⟨by dsimp only;omega,by dsimp only;omega,hP.trans (PermR.swp (by omega) (by omega) (by omega)),hq⟩ (by dsimp only;omega)
 ·simp (disch:=omega) only [qeY,qiS,iw,Option.bind_some,qjT,qjU,qiC,iSub,iAdd]
  exact ih (i+1,(swp e i.toNat (a+o).toNat,q')) ⟨by dsimp only;omega,by dsimp only;omega,hP.trans (PermR.swp (by omega) (by omega) (by omega)),hq⟩ (by dsimp only;omega)
end Go.Proofs.Ytcjgodgpaokbnaa
/- Plain: the comparison of messages puts them in a line; the rank of one among some. -/
namespace Go.Proofs.Ytcjgodgpaokbnaa
open Go Go.Proofs Go.RowKit
set_option maxHeartbeats 1000000
structure WO {α:Type} (c:α→α→Int):Prop where
 anti:∀x y,c x y<0↔0<c y x
 tr:∀x y z,c x y≤0→c y z≤0→c x z≤0
theorem WO.sym{α:Type}{c:α→α→Int}(h:WO c){x y:α}:c x y=0↔c y x=0:=by
 have h1:=h.anti x y
 have h2:=h.anti y x
 omega
theorem WO.lt{α:Type}{c:α→α→Int}(h:WO c){x y z:α}(h1:c x y<0)(h2:c y z≤0):c x z<0:=by
 rcases Int.lt_or_le (c x z) 0 with k | k
 ·exact k
 ·exfalso
  have a1:=h.anti x y
  have a3:=h.anti x z
  have:=h.tr y z x h2 (by omega)
  omega
theorem WO.lt'{α:Type}{c:α→α→Int}(h:WO c){x y z:α}(h1:c x y≤0)(h2:c y z<0):c x z<0:=by
 rcases Int.lt_or_le (c x z) 0 with k | k
 ·exact k
 ·exfalso
  have a1:=h.anti y z
  have a3:=h.anti x z
  have:=h.tr z x y (by omega) h1
  omega
theorem WO.eq0{α:Type}{c:α→α→Int}(h:WO c){x y z:α}(h1:c x y=0)(h2:c y z=0):c x z=0:=by
 have s1:=h.sym.1 h1
 have s2:=h.sym.1 h2
 have a:=h.tr x y z (by omega) (by omega)
 have b:=h.tr z y x (by omega) (by omega)
 have a3:=h.anti x z
 omega
theorem WO.lex{α:Type}{a b:α→α→Int}(ha:WO a)(hb:WO b):WO fun x y=>if a x y=0 then b x y else a x y:=by
 constructor
 ·intro x y
  try dsimp only
  have h:=ha.sym (x:=x) (y:=y)
  by_cases e:a x y=0
  ·rw[if_pos e,if_pos (h.1 e)];exact hb.anti x y
  ·rw[if_neg e,if_neg fun q=>e (h.2 q)];exact ha.anti x y
 ·intro x y z
  try dsimp only
  intro h1 h2
  by_cases e1:a x y=0
  ·rw[if_pos e1] at h1
   by_cases e2:a y z=0
   ·rw[if_pos e2] at h2
    rw[if_pos (ha.eq0 e1 e2)]
    exact hb.tr x y z h1 h2
   ·rw[if_neg e2] at h2
    have:=ha.lt' (x:=x) (y:=y) (z:=z) (by omega) (by omega)
    rw[if_neg (by omega)];omega
  ·rw[if_neg e1] at h1
   by_cases e2:a y z=0
   ·have:=ha.lt (x:=x) (y:=y) (z:=z) (by omega) (by omega)
    rw[if_neg (by omega)];omega
   ·rw[if_neg e2] at h2
    have:=ha.lt (x:=x) (y:=y) (z:=z) (by omega) (by omega)
    rw[if_neg (by omega)];omega
theorem WO.by{α β:Type}{c:β→β→Int}(h:WO c)(f:α→β):WO fun x y=>c (f x) (f y):=⟨fun x y=>h.anti (f x) (f y),fun x y z=>h.tr (f x) (f y) (f z)⟩
theorem WO.zero{α:Type}:WO fun _ _:α=>0:=⟨fun _ _=>Iff.rfl,fun _ _ _ _ _=>Int.le_refl _⟩
theorem cmpI_wo:WO cmpI:=by
 constructor
 ·intro x y
  rcases qrC x y with h | h | h<;>rcases qrC y x with k | k | k<;>omega
 ·intro x y z
  rcases qrC x y with h | h | h<;>rcases qrC y z with k | k | k<;>rcases qrC x z with m | m | m<;>omega
theorem cmpS_wo:WO cmpS:=by
 have:=(cmpI_wo.by (fun x:Stay=>x.1)).lex ((cmpI_wo.by (fun x:Stay=>x.2.1)).lex ((cmpI_wo.by (fun x:Stay=>x.2.2)).lex WO.zero))
 exact this
theorem qIm:∀x y:List Stay,cmpL x y<0↔0<cmpL y x
 | [],[]=>by simp[cmpL]
 | [],_::_=>by simp[cmpL]
 | _::_,[]=>by simp[cmpL]
 | x::a,y::b=>by
  unfold cmpL
  have h:=cmpS_wo.sym (x:=x) (y:=y)
  by_cases e:cmpS x y=0
  ·rw[if_pos e,if_pos (h.1 e)];exact qIm a b
  ·rw[if_neg e,if_neg fun q=>e (h.2 q)];exact cmpS_wo.anti x y
theorem qK1:∀x y z:List Stay,cmpL x y≤0→cmpL y z≤0→cmpL x z≤0
 | [],_,[]=>fun _ _=>by simp[cmpL]
 | [],_,_::_=>fun _ _=>by simp[cmpL]
 | _::_,[],_=>fun h=>by simp[cmpL] at h
 | _::_,_::_,[]=>fun _ h=>by simp[cmpL] at h
 | x::a,y::b,z::c=>fun h1 h2=>by
  unfold cmpL at h1 h2 ⊢
  by_cases e1:cmpS x y=0
  ·rw[if_pos e1] at h1
   by_cases e2:cmpS y z=0
   ·rw[if_pos e2] at h2
    rw[if_pos (cmpS_wo.eq0 e1 e2)]
    exact qK1 a b c h1 h2
   ·rw[if_neg e2] at h2
    have:=cmpS_wo.lt' (x:=x) (y:=y) (z:=z) (by omega) (by omega)
    rw[if_neg (by omega)];omega
  ·rw[if_neg e1] at h1
   by_cases e2:cmpS y z=0
   ·have:=cmpS_wo.lt (x:=x) (y:=y) (z:=z) (by omega) (by omega)
    rw[if_neg (by omega)];omega
   ·rw[if_neg e2] at h2
    have:=cmpS_wo.lt (x:=x) (y:=y) (z:=z) (by omega) (by omega)
    rw[if_neg (by omega)];omega
theorem cmpL_wo:WO cmpL:=⟨qIm,qK1⟩
theorem cmpM_wo:WO cmpM:=by
 have:=(cmpI_wo.by (fun x:Msg=>x.2.1)).lex ((cmpI_wo.by (fun x:Msg=>x.1)).lex ((cmpI_wo.by (fun x:Msg=>x.2.2.1)).lex ((cmpI_wo.by (fun x:Msg=>x.2.2.2.1)).lex ((cmpL_wo.by (fun x:Msg=>x.2.2.2.2)).lex WO.zero))))
 exact this
section
variable {α:Type}
theorem qIn{p q:α→Bool}:∀{l:List α} {x:α},(∀y,p y=true→q y=true)→x∈l→q x=true→p x=false→l.countP p<l.countP q
 | [],_,_,hx,_,_=>by cases hx
 | y::l,x,h,hx,h1,h2=>by
  have hle:l.countP p≤l.countP q:=List.countP_mono_left fun z _ hz=>h z hz
  rw[List.countP_cons,List.countP_cons]
  rcases List.mem_cons.1 hx with rfl | hx
  ·rw[h1,h2];simp;omega
  ·have:=qIn h hx h1 h2
   cases hp:p y with
   | true=>rw[h y hp];simp;omega
   | false=>cases q y<;>simp<;>omega
def rank(c:α→α→Int)(l:List α)(x:α):Int:=(l.countP fun y=>decide (c y x<0):Nat)
theorem qtq{c:α→α→Int}(h:WO c){l:List α}{x y:α}(hx:x∈l):c x y<0↔rank c l x<rank c l y:=by
 have up:∀{x y:α},x∈l→c x y<0→rank c l x<rank c l y:=fun {x y} hx hxy=>by
  unfold rank
  have:=qIn (p:=fun z=>decide (c z x<0)) (q:=fun z=>decide (c z y<0)) (l:=l) (x:=x) (fun z hz=>decide_eq_true (h.lt (of_decide_eq_true hz) (by omega))) hx (decide_eq_true hxy) (decide_eq_false (by have:=h.anti x x;omega))
  omega
 constructor
 ·exact up hx
 ·intro k
  rcases Int.lt_or_le (c x y) 0 with q | q
  ·exact q
  ·exfalso
   have a:=h.anti x y
   have le:rank c l y≤rank c l x:=by
    unfold rank
    have:=List.countP_mono_left (l:=l) (p:=fun z=>decide (c z y<0)) (q:=fun z=>decide (c z x<0)) fun z _ hz=>decide_eq_true (h.lt (of_decide_eq_true hz) (by omega))
    omega
   omega
theorem qFw(key:α→Int):∀(l m:List α),l.Pairwise (fun a b=>key a≤key b)→m.Pairwise (fun a b=>key a≤key b)→l.Perm m→(∀x y,x∈l→y∈l→key x=key y→x=y)→l=m
 | [],m,_,_,h,_=>by rw[List.nil_perm.1 h]
 | x::l,[],_,_,h,_=>by have:=h.length_eq;simp at this
 | x::l,y::m,hl,hm,h,hi=>by
  rw[List.pairwise_cons] at hl hm
  have hxy:x=y:=by
   rcases List.mem_cons.1 (h.mem_iff.1 List.mem_cons_self) with e | hx
   ·exact e
   ·rcases List.mem_cons.1 (h.mem_iff.2 List.mem_cons_self) with e | hy
    ·exact e.symm
    ·have h1:=hl.1 y hy
     have h2:=hm.1 x hx
     exact hi x y List.mem_cons_self (List.mem_cons_of_mem _ hy) (by omega)
  subst hxy
  rw[qFw key l m hl.2 hm.2 (List.perm_cons x |>.1 h) fun a b ha hb=>hi a b (List.mem_cons_of_mem _ ha) (List.mem_cons_of_mem _ hb)]
end
theorem qOb{l e:List Msg}(hp:e.Perm l)(hs:e.Pairwise fun a b=>rank cmpM l a≤rank cmpM l b):e=qnM (fun x y=>decide (cmpM x y<0)) l:=by
 refine qFw (rank cmpM l) _ _ hs (qv0 _ _ l fun x y hx hy=>⟨fun h=>?_,fun h=>?_⟩) (hp.trans (qpq _ l).symm) fun x y hx hy h=>?_
 ·exact Int.le_of_lt ((qtq cmpM_wo hx).1 (of_decide_eq_true h))
 ·have:=qtq cmpM_wo (l:=l) (x:=x) (y:=y) hx
  have:=of_decide_eq_false h
  omega
 ·have h1:=qtq cmpM_wo (l:=l) (x:=x) (y:=y) (hp.mem_iff.1 hx)
  have h2:=qtq cmpM_wo (l:=l) (x:=y) (y:=x) (hp.mem_iff.1 hy)
  have h3:=cmpM_wo.anti y x
  exact qAN.1 (by omega)
end Go.Proofs.Ytcjgodgpaokbnaa
/- printed by gen_ds8.py. Plain: the sort by parts. -/
namespace Go.Proofs.Ytcjgodgpaokbnaa
open Go Go.Proofs Go.RowKit
set_option maxHeartbeats 1000000
structure LInv (key:Msg→Int) (d e:List Msg) (a0 b0 a b:Int):Prop where
 perm:PermR a0.toNat b0.toNat d e
 h0:0≤a0
 ha:a0≤a
 hab:a≤b
 hb:b≤b0
 hlen:b0≤d.length
 sl:SortI key e a0 a
 sr:SortI key e b b0
 lo:∀x y,a0≤x→x<a→a≤y→y<b0→key (GI e x)≤key (GI e y)
 hi:∀x y,a0≤x→x<b→b≤y→y<b0→key (GI e x)≤key (GI e y)
theorem LInv.perm'{key:Msg→Int}{d e f:List Msg}{a0 b0 a b:Int}(h:LInv key d e a0 b0 a b)(p:PermR a.toNat b.toNat e f):LInv key d f a0 b0 a b:=by
 have h0:=h.h0;have ha:=h.ha;have hab:=h.hab;have hb:=h.hb
 have out:∀k,0≤k→(k<a∨b≤k)→GI f k=GI e k:=fun k k0 k1=>p.outI k0 k1
 refine ⟨h.perm.trans (p.wide (by omega) (by omega)),h0,ha,hab,hb,h.hlen,fun i j k1 k2 k3=>?_,fun i j k1 k2 k3=>?_,fun x y k1 k2 k3 k4=>?_,fun x y k1 k2 k3 k4=>?_⟩
 ·rw[out i (by omega) (by omega),out j (by omega) (by omega)];exact h.sl i j k1 k2 k3
 ·rw[out i (by omega) (by omega),out j (by omega) (by omega)];exact h.sr i j k1 k2 k3
 ·rw[out x (by omega) (by omega)]
  rcases Int.lt_or_le y b with q | q
  ·obtain ⟨m,m1,m2,m3⟩:=p.insI (by omega) k3 q
   rw[m3];exact h.lo x m k1 k2 m1 (by omega)
  ·rw[out y (by omega) (by omega)];exact h.lo x y k1 k2 k3 k4
 ·rw[out y (by omega) (by omega)]
  rcases Int.lt_or_le x a with q | q
  ·rw[out x (by omega) (by omega)];exact h.hi x y k1 k2 k3 k4
  ·obtain ⟨m,m1,m2,m3⟩:=p.insI (by omega) q k2
   rw[m3];exact h.hi m y (by omega) m2 k3 k4
theorem LInv.done{key:Msg→Int}{d e f:List Msg}{a0 b0 a b:Int}(h:LInv key d e a0 b0 a b)(p:PermR a.toNat b.toNat e f)(s:SortI key f a b):PermR a0.toNat b0.toNat d f∧SortI key f a0 b0:=by
 have h':=h.perm' p
 refine ⟨h'.perm,fun i j k1 k2 k3=>?_⟩
 rcases Int.lt_or_le j a with q | q
 ·exact h'.sl i j k1 k2 q
 ·rcases Int.lt_or_le i a with q' | q'
  ·exact h'.lo i j k1 q' q k3
  ·rcases Int.lt_or_le j b with r | r
   ·exact s i j q' k2 r
   ·rcases Int.lt_or_le i b with r' | r'
    ·exact h'.hi i j k1 r' r k3
    ·exact h'.sr i j r' k2 k3
theorem LInv.left{key:Msg→Int}{d e:List Msg}{a0 b0 a b m:Int}(h:LInv key d e a0 b0 a b)(h1:a≤m)(h2:m≤b)(s:SortI key e a m)(k:∀x y,a≤x→x<m→m≤y→y<b→key (GI e x)≤key (GI e y)):LInv key d e a0 b0 m b:=by
 have ha:=h.ha;have hb:=h.hb
 refine ⟨h.perm,h.h0,by omega,h2,h.hb,h.hlen,fun i j k1 k2 k3=>?_,h.sr,fun x y k1 k2 k3 k4=>?_,h.hi⟩
 ·rcases Int.lt_or_le j a with q | q
  ·exact h.sl i j k1 k2 q
  ·rcases Int.lt_or_le i a with q' | q'
   ·exact h.lo i j k1 q' q (by omega)
   ·exact s i j q' k2 k3
 ·rcases Int.lt_or_le x a with q | q
  ·exact h.lo x y k1 q (by omega) k4
  ·rcases Int.lt_or_le y b with r | r
   ·exact k x y q k2 k3 r
   ·exact h.hi x y k1 (by omega) r k4
theorem LInv.right{key:Msg→Int}{d e:List Msg}{a0 b0 a b m:Int}(h:LInv key d e a0 b0 a b)(h1:a≤m)(h2:m≤b)(s:SortI key e m b)(k:∀x y,a≤x→x<m→m≤y→y<b→key (GI e x)≤key (GI e y)):LInv key d e a0 b0 a m:=by
 have ha:=h.ha;have hb:=h.hb
 refine ⟨h.perm,h.h0,h.ha,h1,by omega,h.hlen,h.sl,fun i j k1 k2 k3=>?_,h.lo,fun x y k1 k2 k3 k4=>?_⟩
 ·rcases Int.lt_or_le j b with q | q
  ·exact s i j k1 k2 q
  ·rcases Int.lt_or_le i b with q' | q'
   ·exact h.hi i j (by omega) q' q k3
   ·exact h.sr i j q' k2 k3
 ·rcases Int.lt_or_le x a with q | q
  ·exact h.lo x y k1 q (by omega) k4
  ·rcases Int.lt_or_le y b with r | r
   ·exact k x y q k2 k3 r
   ·exact h.hi x y k1 (by omega) r k4
theorem qPS{key:Msg→Int}{n:Nat}(g)(a b lim len:Int)(bal par t:Bool)(d:List Msg)(hI:MInv key n d)(h0:0≤a)(hab:a≤b)(hb:b≤d.length)(hl:d.length≤128) :
  Ok (qeb n g (a,(b,(lim,(((),()),(bal,(par,(len,(t,(d,())))))))))) fun r=>∃lim' e,r=(a,(b,(lim',(((),()),(bal,(par,(len,(e,()))))))))∧PermR a.toNat b.toNat d e:=by
 rw[qlW]
 cases t with
 | false=>exact Ok.ret ⟨lim,d,rfl,PermR.refl _ _ _⟩
 | true =>
  simp only[cond_true]
  refine Ok.bind (qPR a b d hI h0 hab hb hl) ?_
  rintro _ ⟨e,rfl,h⟩
  exact Ok.ret ⟨_,e,rfl,h⟩
theorem qPT{key:Msg→Int}{n:Nat}(g)(a b lim len pv hint:Int)(bal par t:Bool)(d:List Msg)(hI:MInv key n d)(h0:0≤a)(hab:a≤b)(hb:b≤d.length)(hp:a≤pv∧pv<b) :
  Ok (qec n g (a,(b,(lim,(((),()),(bal,(par,(len,(pv,(hint,(t,(d,())))))))))))) fun r=>∃pv' hint' e,r=(a,(b,(lim,(((),()),(bal,(par,(len,(pv',(hint',(e,()))))))))))∧a≤pv'∧pv'<b∧PermR a.toNat b.toNat d e:=by
 have hlen:=hI.len
 rw[qlX]
 cases t with
 | false=>exact Ok.ret ⟨pv,hint,d,rfl,hp.1,hp.2,PermR.refl _ _ _⟩
 | true =>
  simp only[cond_true]
  refine Ok.bind (qPP a b d hI h0 hab hb) ?_
  rintro _ ⟨e,rfl,h⟩
  refine Ok.ret ⟨_,_,e,rfl,?_,?_,h⟩
  ·simp (disch:=omega) only [iw,iSub];omega
  ·simp (disch:=omega) only [iw,iSub];omega
theorem qPU{key:Msg→Int}{n:Nat}(g)(a b lim len pv:Int)(bal par t:Bool)(d:List Msg)(hI:MInv key n d)(h0:0≤a)(hab:a<b)(hb:b≤d.length)(hlow:0<a→∀k,a≤k→k<b→key (GI d (a-1))≤key (GI d k)) :
  Ok (q6 n g (a,(b,(lim,(((),()),(bal,(par,(len,(pv,(t,(d,()))))))))))) fun r=>∃e,PermR a.toNat b.toNat d e∧(r=Sum.inl (a,(b,(lim,(((),()),(bal,(par,(len,(pv,(e,())))))))))∨r=Sum.inr (e,())∧SortI key e a b):=by
 rw[qlY]
 cases t with
 | false=>exact Ok.ret ⟨d,PermR.refl _ _ _,Or.inl rfl⟩
 | true =>
  simp only[cond_true]
  refine Ok.bind (qPf a b d hI h0 hab hb hlow) ?_
  rintro _ ⟨t,e,rfl,h,k⟩
  cases t with
  | false=>exact Ok.ret ⟨e,h,Or.inl rfl⟩
  | true=>exact Ok.ret ⟨e,h,Or.inr ⟨rfl,k rfl⟩⟩
def Below(key:Msg→Int)(n:Nat)(k:Nat)(g:qb):Prop:=∀(a b lim:Int) (d:List Msg),MInv key n d→d.length≤128→0≤a→a≤b→b≤d.length→b-a<k→(0<a→∀i,a≤i→i<b→key (GI d (a-1))≤key (GI d i)) →
 Ok (qbd g (a,(b,(lim,(((),()),(d,())))))) fun r=>∃e,r=(e,())∧PermR a.toNat b.toNat d e∧SortI key e a b
theorem qPi{key:Msg→Int}{n k:Nat}(g)(hg:Below key n k g)(a b lim m l r bl:Int)(par t:Bool)(d0 d:List Msg)(a0 b0:Int)(hI:MInv key n d)(hl:d.length≤128)(hk:b-a≤k)(hL:LInv key d0 d a0 b0 a b)(hm:a≤m∧m<b)(hD:DivI key d a m b)(hlow:0<a→∀k,a≤k→k<b→key (GI d (a-1))≤key (GI d k)) :
  Ok (qp n g (a,(b,(lim,(((),()),(par,(m,(l,(r,(bl,(t,(d,())))))))))))) fun r=>∃a' b' bal e,r=(a',(b',(lim,(((),()),(bal,(par,(e,())))))))∧LInv key d0 e a0 b0 a' b'∧e.length=d.length∧b'-a'<b-a∧PermR a.toNat b.toNat d e∧(a'=a∧b'=m∨a'=m+1∧b'=b):=by
 have hlen:=hI.len
 have h0:=hL.h0;have ha:=hL.ha;have hb:=hL.hb;have hbl:=hL.hlen;have hpl:=hL.perm.len
 rw[qlw]
 cases t with
 | true =>
  simp only[cond_true]
  refine Ok.bind (hg a m lim d hI hl (by omega) hm.1 (by omega) (by omega) fun q i k1 k2=>hlow q i k1 (by omega)) ?_
  rintro _ ⟨e,rfl,p,s⟩
  simp (disch:=omega) only [iw,iAdd]
  have p':PermR a.toNat b.toNat d e:=p.wide (Nat.le_refl _) (by omega)
  have gm:GI e m=GI d m:=p.outI (by omega) (Or.inr (Int.le_refl _))
  have le:∀x,a≤x→x<m→key (GI e x)≤key (GI e m):=fun x k1 k2=>by
   obtain ⟨q,q1,q2,q3⟩:=p.insI (by omega) k1 k2
   rw[gm,q3];exact hD.1 q q1 q2
  have ge:∀y,m<y→y<b→key (GI e m)≤key (GI e y):=fun y k1 k2=>by
   rw[gm,p.outI (by omega) (Or.inr (by omega))];exact hD.2 y k1 k2
  refine Ok.ret ⟨_,_,_,e,rfl,(hL.perm' p').left (by omega) (by omega) (fun i j k1 k2 k3=>?_) (fun x y k1 k2 k3 k4=>?_),p.len,by omega,p',Or.inr ⟨rfl,rfl⟩⟩
  ·rcases Int.lt_or_le j m with q | q
   ·exact s i j k1 k2 q
   ·have:j=m:=by omega
    subst this
    exact le i k1 k2
  ·have h2:=ge y (by omega) k4
   rcases Int.lt_or_le x m with q | q
   ·have h1:=le x k1 q;omega
   ·have:x=m:=by omega
    subst this
    exact h2
 | false =>
  simp only[cond_false]
  refine Ok.bind (Q:=fun r=>∃e,r=(e,())∧PermR (m+1).toNat b.toNat d e∧SortI key e (m+1) b) ?_ ?_
  ·simp (disch:=omega) only [iw,iAdd]
   refine hg (m+1) b lim d hI hl (by omega) (by omega) (by omega) (by omega) fun q i k1 k2=>?_
   rw[show m+1-1=m by omega]
   exact hD.2 i (by omega) k2
  rintro _ ⟨e,rfl,p,s⟩
  have p':PermR a.toNat b.toNat d e:=p.wide (by omega) (Nat.le_refl _)
  have gm:GI e m=GI d m:=p.outI (by omega) (Or.inl (by omega))
  have le:∀x,a≤x→x<m→key (GI e x)≤key (GI e m):=fun x k1 k2=>by
   rw[gm,p.outI (by omega) (Or.inl (by omega))];exact hD.1 x k1 k2
  have ge:∀y,m<y→y<b→key (GI e m)≤key (GI e y):=fun y k1 k2=>by
   obtain ⟨q,q1,q2,q3⟩:=p.insI (by omega) (show m+1≤y by omega) k2
   rw[gm,q3];exact hD.2 q (by omega) q2
  refine Ok.ret ⟨_,_,_,e,rfl,(hL.perm' p').right (m:=m) (by omega) (by omega) (fun i j k1 k2 k3=>?_) (fun x y k1 k2 k3 k4=>?_),p.len,by omega,p',Or.inl ⟨rfl,rfl⟩⟩
  ·rcases Int.lt_or_le m i with q | q
   ·exact s i j (by omega) k2 k3
   ·have:i=m:=by omega
    subst this
    exact ge j k2 k3
  ·have h1:=le x k1 k2
   rcases Int.lt_or_le m y with q | q
   ·have h2:=ge y q k4;omega
   ·have:y=m:=by omega
    subst this
    exact h1
theorem LInv.low{key:Msg→Int}{d e:List Msg}{a0 b0 a b:Int}(h:LInv key d e a0 b0 a b)(hlow:0<a0→∀i,a0≤i→i<b0→key (GI d (a0-1))≤key (GI d i)):0<a→∀i,a≤i→i<b→key (GI e (a-1))≤key (GI e i):=fun q i k1 k2=>by
 have h0:=h.h0;have ha:=h.ha;have hb:=h.hb
 rcases Int.lt_or_le a0 a with r | r
 ·exact h.lo (a-1) i (by omega) (by omega) k1 (by omega)
 ·have:a0=a:=by omega
  subst this
  rw[h.perm.outI (by omega) (Or.inl (by omega))]
  obtain ⟨m,m1,m2,m3⟩:=h.perm.insI h0 k1 (show i<b0 by omega)
  rw[m3];exact hlow q m m1 m2
theorem qMK{key:Msg→Int}{n:Nat}:∀k,Below key n k (qB n k)
 | 0=>fun a b lim d hI hl h0 hab hb hk=>by omega
 | k+1=>fun a0 b0 lim0 d hI hl h0 hab hb hk hlow=>by
  have hlen:=hI.len
  have hbig:=hI.big
  have hg:=qMK (key:=key) (n:=n) k
  rw[qha,qhq]
  generalize qB n k=g at hg ⊢
  refine Ok.bind (Q:=fun r=>∃e,r=(e,())∧PermR a0.toNat b0.toNat d e∧SortI key e a0 b0) ?_ fun r hr=>Ok.ret hr
  refine Ok.iter (step:=qeD n g) (fun p:Int×(Int×(Int×(Bool×(Bool×List Msg))))=>(p.1,(p.2.1,(p.2.2.1,(((),()),(p.2.2.2.1,(p.2.2.2.2.1,(p.2.2.2.2.2,())))))))) (fun p=>LInv key d p.2.2.2.2.2 a0 b0 p.1 p.2.1) (fun p=>(p.2.1-p.1).toNat) ?_ n (a0,(b0,(lim0,(true,(true,d))))) ⟨PermR.refl _ _ _,h0,Int.le_refl _,hab,Int.le_refl _,hb,fun i j k1 k2 k3=>by dsimp only at k3;omega,fun i j k1 k2 k3=>by dsimp only at k1;omega,fun x y k1 k2 k3 k4=>by dsimp only at k2;omega,fun x y k1 k2 k3 k4=>by dsimp only at k3;omega⟩ (by dsimp only;omega)
  rintro rec ⟨a,b,lim,bal,par,e⟩ hL ih
  dsimp only at hL ih ⊢
  have ha:=hL.ha;have hab':=hL.hab;have hb':=hL.hb;have hpl:=hL.perm.len
  have hE:MInv key n e:=hI.perm hL.perm.perm
  rw[qg9]
  try dsimp only
  simp (disch:=omega) only [iw,iSub]
  refine Ok.le (fun h=>?_) (fun h=>?_)
  ·refine Ok.bind (qPO a b e hE (by omega) hab' (by omega)) ?_
   rintro _ ⟨f,rfl,f1,f2⟩
   exact Ok.ret ⟨f,rfl,hL.done f1 (SortI.ofR (by omega) f2)⟩
  refine Ok.eq (fun _=>?_) (fun _=>?_)
  ·refine Ok.bind (qPd a b e hE (by omega) (by omega) (by omega)) ?_
   rintro _ ⟨f,rfl,f1,f2⟩
   exact Ok.ret ⟨f,rfl,hL.done f1 f2⟩
  have tail:∀(lim:Int) (bal par:Bool) (len pv:Int) (t:Bool) (e:List Msg),LInv key d e a0 b0 a b→a≤pv→pv<b→(t=true→∀i,a≤i→i<b→key (GI e pv)≤key (GI e i)) →
    Ok (Option.bind (qu n g (a,(b,(lim,(((),()),(bal,(par,(len,(pv,(t,(e,()))))))))))) fun y9=>(Sum.elim (fun a1=>(Option.bind (qr n (a1.1,(a1.2.1,(a1.2.2.2.2.2.1,(((),()),a1.2.2.2.2.2.2))))) fun y10=>(Option.bind (q7 (iNe (8:Int) (0:Int))) fun _=>(Option.bind (qp n g (a1.1,(a1.2.1,(a1.2.2.1,(((),()),(y10.2.1,(y10.1,((iW (iSub y10.1 a1.1)),((iW (iSub a1.2.1 y10.1)),((iW (Int.tdiv a1.2.2.2.2.1 (8:Int))),((iLt (iW (iSub y10.1 a1.1)) (iW (iSub a1.2.1 y10.1))),y10.2.2))))))))))) fun y12=>(rec (y12.1,(y12.2.1,(y12.2.2.1,(((),()),y12.2.2.2.2))))))))) (fun b=>(rec (b.1,(b.2.1,(b.2.2.1,(((),()),b.2.2.2.2)))))) y9)) (fun r=>∃e,r=(e,())∧PermR a0.toNat b0.toNat d e∧SortI key e a0 b0):=fun lim bal par len pv t e hL p1 p2 ht=>by
   have hpl:=hL.perm.len
   have hE:MInv key n e:=hI.perm hL.perm.perm
   rw[qlZ]
   cases t with
   | true =>
    try dsimp only
    simp only[cond_true]
    refine Ok.bind (Q:=fun r=>∃m f,r=Sum.inr (m,(b,(lim,(((),()),(bal,(par,(f,())))))))∧a<m∧m≤b∧PermR a.toNat b.toNat e f∧SortI key f a m∧∀x y,a≤x→x<m→m≤y→y<b→key (GI f x)≤key (GI f y)) ?_ ?_
    ·refine Ok.bind (qPQ a b pv e hE (by omega) p1 p2 (by omega) (ht rfl)) ?_
     rintro _ ⟨m,f,rfl,h⟩
     exact Ok.ret ⟨m,f,rfl,h⟩
    ·rintro _ ⟨m,f,rfl,m1,m2,f1,f2,f3⟩
     exact ih (m,(b,(lim,(bal,(par,f))))) ((hL.perm' f1).left (by omega) m2 f2 f3) (by dsimp only;omega)
   | false =>
    try dsimp only
    simp only[cond_false,Option.bind_some,Sum.elim_inl]
    try dsimp only
    refine Ok.bind (qPe a b pv e hE (by omega) p1 p2 (by omega)) ?_
    rintro _ ⟨m,t,f,rfl,m1,m2,f1,f2⟩
    try dsimp only
    rw[show q7 (iNe (8:Int) (0:Int))=some () from rfl,Option.bind_some]
    have hL':=hL.perm' f1
    refine Ok.bind (qPi g hg a b lim m _ _ _ t _ d f a0 b0 (hE.perm f1.perm) (by have:=f1.len;omega) (by omega) hL' ⟨m1,m2⟩ f2 (hL'.low hlow)) ?_
    rintro _ ⟨a',b',bal',f',rfl,q1,q2,q3,q4⟩
    exact ih (a',(b',(lim,(bal',(t,f'))))) q1 (by dsimp only;omega)
  have mid:∀(lim:Int) (bal par:Bool) (len pv:Int) (t:Bool) (e:List Msg),LInv key d e a0 b0 a b→a≤pv→pv<b →
    Ok (Option.bind (q6 n g (a,(b,(lim,(((),()),(bal,(par,(len,(pv,(t,(e,()))))))))))) fun y3=>(Sum.elim (fun a=>(cond (iGt a.1 (0:Int)) (Option.bind (lat a.2.2.2.2.2.2.2.2.1 (iW (iSub a.1 (1:Int)))) fun _=>(Option.bind (a.2.2.2.2.2.2.2.2.1[(Int.toNat (iW (iSub a.1 (1:Int))))]?) fun y5=>(Option.bind (lat a.2.2.2.2.2.2.2.2.1 a.2.2.2.2.2.2.2.1) fun _=>(Option.bind (a.2.2.2.2.2.2.2.2.1[(Int.toNat a.2.2.2.2.2.2.2.1)]?) fun y7=>(Option.bind (qZ n (y5,(y7,()))) fun y8=>(Option.bind (qu n g (a.1,(a.2.1,(a.2.2.1,(((),()),(a.2.2.2.2.1,(a.2.2.2.2.2.1,(a.2.2.2.2.2.2.1,(a.2.2.2.2.2.2.2.1,((!(iLt y8.1 (0:Int))),a.2.2.2.2.2.2.2.2)))))))))) fun y9=>(Sum.elim (fun a1=>(Option.bind (qr n (a1.1,(a1.2.1,(a1.2.2.2.2.2.1,(((),()),a1.2.2.2.2.2.2))))) fun y10=>(Option.bind (q7 (iNe (8:Int) (0:Int))) fun _=>(Option.bind (qp n g (a1.1,(a1.2.1,(a1.2.2.1,(((),()),(y10.2.1,(y10.1,((iW (iSub y10.1 a1.1)),((iW (iSub a1.2.1 y10.1)),((iW (Int.tdiv a1.2.2.2.2.1 (8:Int))),((iLt (iW (iSub y10.1 a1.1)) (iW (iSub a1.2.1 y10.1))),y10.2.2))))))))))) fun y12=>(rec (y12.1,(y12.2.1,(y12.2.2.1,(((),()),y12.2.2.2.2))))))))) (fun b=>(rec (b.1,(b.2.1,(b.2.2.1,(((),()),b.2.2.2.2)))))) y9))))))) (Option.bind (qu n g (a.1,(a.2.1,(a.2.2.1,(((),()),(a.2.2.2.2.1,(a.2.2.2.2.2.1,(a.2.2.2.2.2.2.1,(a.2.2.2.2.2.2.2.1,(false,a.2.2.2.2.2.2.2.2)))))))))) fun y9=>(Sum.elim (fun a1=>(Option.bind (qr n (a1.1,(a1.2.1,(a1.2.2.2.2.2.1,(((),()),a1.2.2.2.2.2.2))))) fun y10=>(Option.bind (q7 (iNe (8:Int) (0:Int))) fun _=>(Option.bind (qp n g (a1.1,(a1.2.1,(a1.2.2.1,(((),()),(y10.2.1,(y10.1,((iW (iSub y10.1 a1.1)),((iW (iSub a1.2.1 y10.1)),((iW (Int.tdiv a1.2.2.2.2.1 (8:Int))),((iLt (iW (iSub y10.1 a1.1)) (iW (iSub a1.2.1 y10.1))),y10.2.2))))))))))) fun y12=>(rec (y12.1,(y12.2.1,(y12.2.2.1,(((),()),y12.2.2.2.2))))))))) (fun b=>(rec (b.1,(b.2.1,(b.2.2.1,(((),()),b.2.2.2.2)))))) y9)))) (fun b=>(some b)) y3)) (fun r=>∃e,r=(e,())∧PermR a0.toNat b0.toNat d e∧SortI key e a0 b0):=fun lim bal par len pv t e hL p1 p2=>by
   have hpl:=hL.perm.len
   have hE:MInv key n e:=hI.perm hL.perm.perm
   refine Ok.bind (qPU g a b lim len pv bal par t e hE (by omega) (by omega) (by omega) (hL.low hlow)) ?_
   rintro _ ⟨f,f1,rfl | ⟨rfl,f2⟩⟩
   ·have hL':=hL.perm' f1
    have hlf:=f1.len
    have hF:MInv key n f:=hE.perm f1.perm
    have lw:=hL'.low hlow
    simp only[Sum.elim_inl]
    try dsimp only
    refine Ok.gt (fun h=>?_) (fun h=>?_)
    ·simp (disch:=omega) only [qeY,qiS,iw,Option.bind_some,iSub]
     rw[qEP n _ _ (hF.fit _ (qES (by omega))) (by omega),Option.bind_some]
     refine tail lim bal par len pv _ f hL' p1 p2 fun ht i k1 k2=>?_
     have hc:=hF.cmp _ _ (qES (d:=f) (k:=(a-1).toNat) (by omega)) (qES (d:=f) (k:=pv.toNat) (by omega))
     have hn:¬cmpM (G f (a-1).toNat) (G f pv.toNat)<0:=by
      intro q
      rw[show iLt (cmpM (G f (a-1).toNat) (G f pv.toNat)) 0=true from decide_eq_true q] at ht
      cases ht
     have h1:=lw h i k1 k2
     have h2:¬key (GI f (a-1))<key (GI f pv):=fun q=>hn (hc.2 q)
     omega
    ·exact tail lim bal par len pv false f hL' p1 p2 fun h=>by cases h
   ·exact Ok.ret ⟨f,rfl,hL.done f1 f2⟩
  refine Ok.bind (qPS g a b lim _ bal par _ e hE (by omega) hab' (by omega) (by omega)) ?_
  rintro _ ⟨lim',e1,rfl,e1p⟩
  have hE1:=hE.perm e1p.perm
  have hl1:=e1p.len
  try dsimp only
  refine Ok.bind (qN9 a b e1 hE1 (by omega) (by omega) (by omega)) ?_
  rintro ⟨pv,hint,_⟩ ⟨p1,p2⟩
  try dsimp only at p1 p2 ⊢
  refine Ok.bind (qPT g a b lim' _ pv hint bal par _ e1 hE1 (by omega) hab' (by omega) ⟨p1,p2⟩) ?_
  rintro _ ⟨pv',hint',e2,rfl,p3,p4,e2p⟩
  have hL2:=(hL.perm' e1p).perm' e2p
  try dsimp only
  cases bal with
  | false=>exact mid lim' false par _ pv' false e2 hL2 p3 p4
  | true =>
   cases par with
   | false=>exact mid lim' true false _ pv' false e2 hL2 p3 p4
   | true=>exact mid lim' true true _ pv' _ e2 hL2 p3 p4
end Go.Proofs.Ytcjgodgpaokbnaa
/- Beds, plain: all messages, each once, of lists of whatever length up to 128. -/
namespace Go.Proofs.Ytcjgodgpaokbnaa
open Go Go.Proofs Go.RowKit
set_option maxHeartbeats 1000000
theorem qOc(n:Nat)(l:List Msg)(hs:∀x,x∈l→x.2.2.2.2.length≤1000)(hl:l.length≤128)(hn:5000≤n):qd4 n (((),()),(l,()))=some (qnM (fun x y=>decide (cmpM x y<0)) l,()):=by
 rw[qjc,qmp]
 obtain ⟨rr,hrr,_⟩:=qMJ n l.length hl
 simp only[hrr,Option.bind_some]
 rw[qhF]
 obtain ⟨_,h,e,rfl,p,s⟩:=qMK (key:=rank cmpM l) (n:=n) n 0 l.length rr l ⟨by omega,hs,fun x y hx _=>qtq cmpM_wo hx,hn⟩ hl (Int.le_refl _) (by omega) (Int.le_refl _) (by omega) (fun h=>by omega)
 have s':SortedR (rank cmpM l) e 0 e.length:=by
  have:=s.toR
  rw[p.len]
  exact this
 rw[← qOb p.perm s'.all]
 show Option.bind (qbd _ ((0:Int),((l.length:Int),(rr,(((),()),(l,())))))) _=_
 rw[h]
 rfl
noncomputable def qK2(n k:Nat):Bool:=match qz n (Value.slice none 0 0,((k:Int),())) with
 | some ([],_)=>true
 | _=>false
theorem qKo(n:Nat):(List.range 129).all (qK2 n)=true:=by kernel_rfl
theorem qOd(n:Nat)(k:Nat)(hk:k≤128):qfR n (Value.slice none 0 0,((k:Int),()))=some ([],()):=by
 have:=List.all_eq_true.1 (qKo n) k (List.mem_range.2 (by omega))
 unfold qK2 at this
 unfold qfR
 split at this
 ·rename_i e;exact e
 ·cases this
theorem qLE(n:Nat)(ls:List (List Msg))(hk:ls.length≤100)(hl:ls.flatten.length≤128)(hn:2000≤n):qjb n (ls,())=some (ls.flatten,()):=by
 rw[qpn]
 have sub:∀k,(ls.take k).flatten.length≤ls.flatten.length:=fun k=>by
  conv=>rhs;rw[← List.take_append_drop k ls]
  rw[List.flatten_append,List.length_append];omega
 have nxt:∀k (hk:k<ls.length),(ls.take (k+1)).flatten=(ls.take k).flatten++ls[k]:=fun k hk=>by
  rw[List.take_succ_eq_append_getElem hk,List.flatten_append];simp
 have f0:∀(l:List (List Msg)) (b:Int),l.foldl (fun(b:Int) (x:List Msg)=>b+(x.length:Int)) b=b+(l.flatten.length:Int):=by
  intro l
  induction l with
  | nil=>intro b;simp
  | cons x l ih=>intro b;rw[List.foldl_cons,ih];simp;omega
 have h0:=qpp (step:=qkT n) ls (fun k (b:Int)=>(ls,(b,(ls,((ls.length:Int),((k:Int),())))))) (fun b x=>b+(x.length:Int)) 0 (fun b=>(ls,(b,()))) (fun rec k b hk hb=>by
  have e1:=sub (k+1)
  rw[f0] at hb
  rw[nxt k hk,List.length_append] at e1
  rw[qg2]
  have ew:iW (iAdd b (ls[k].length:Int))=b+(ls[k].length:Int):=by rw[qto (by unfold iAdd;omega) (by unfold iAdd;omega)]
  simp only[qcY hk,cond_true,qeH ls hk,Option.bind_some,ew,show iLt (b+(ls[k].length:Int)) 0=false from decide_eq_false (by omega),cond_false,qbE (show k<9223372036854775807 by omega)]) (fun rec b=>by
  rw[qg2]
  simp only[qdk,cond_false]) (n:=n) (by omega)
 show Option.bind (qh n _ (ls,((0:Int),(ls,((ls.length:Int),(((0:Nat):Int),())))))) _=_
 rw[h0,f0,Int.zero_add]
 simp only[Option.bind_some,qOd n _ hl]
 have f1:∀(l:List (List Msg)) (b:List Msg),l.foldl (fun(b:List Msg) (x:List Msg)=>b++x) b=b++l.flatten:=by
  intro l
  induction l with
  | nil=>intro b;simp
  | cons x l ih=>intro b;rw[List.foldl_cons,ih];simp
 have h1:=qpp (step:=qkU n) ls (fun k (b:List Msg)=>(ls,((ls.length:Int),((k:Int),(b,()))))) (fun b x=>b++x) [] (fun b=>(b,())) (fun rec k b hk hb=>by
  have e1:=sub (k+1)
  rw[f1] at hb
  rw[nxt k hk,List.length_append] at e1
  rw[qg3]
  simp only[qcY hk,cond_true,qeH ls hk,Option.bind_some]
  rw[qi1 (by rw[Nat.ble_eq,hb,List.nil_append];unfold nAdd;omega)]
  simp only[Option.bind_some,qbE (show k<9223372036854775807 by omega)]
  rfl) (fun rec b=>by
  rw[qg3]
  simp only[qdk,cond_false]) (n:=n) (by omega)
 show Option.bind (qh n _ (ls,((ls.length:Int),(((0:Nat):Int),([],()))))) _=_
 rw[h1,f1]
 rfl
theorem qEq(n:Nat)(ls:List (List Msg))(hk:ls.length≤100)(hl:ls.flatten.length≤128)(hs:∀z,z∈ls.flatten→z.2.2.2.2.length≤1000)(hn:5000≤n):qiz n (ls,())=some (qc5 ls.flatten,()):=by
 rw[qwh,qLE n ls hk hl (by omega)]
 simp only[Option.bind_some]
 rw[qOc n _ hs hl hn]
 simp only[Option.bind_some]
 have hp:=qpq (fun x y=>decide (cmpM x y<0)) ls.flatten
 obtain ⟨l2,w,h1,h2,h3⟩:=qGV n _ (by rw[hp.length_eq];omega) (fun z hz=>hs z (hp.mem_iff.1 hz)) (by omega)
 rw[h1]
 simp only[Option.bind_some,show Nat.beq 0 0=true from rfl,cond_true]
 rw[show Nat.ble w l2.length=true by rw[Nat.ble_eq];exact h2,h3]
 rfl
theorem qJ1(n:Nat)(l:List Msg)(hl:l.length≤128)(hs:∀z,z∈l→z.2.2.2.2.length≤1000)(hn:5000≤n):qiz n ([l],())=some (qc5 l,()):=by
 have h:=qEq n [l] (by simp) (by simpa using hl) (by simpa using hs) hn
 simpa using h
theorem qJ2(n:Nat)(a b:List Msg)(hl:a.length+b.length≤128)(hs:∀z,z∈a++b→z.2.2.2.2.length≤1000)(hn:5000≤n):qiz n ([a,b],())=some (qc5 (a++b),()):=by
 have h:=qEq n [a,b] (by simp) (by simpa using hl) (by simpa using hs) hn
 simpa using h
end Go.Proofs.Ytcjgodgpaokbnaa
