/- Clubs: Fewest and Settle, the laws. -/
import Derived.Test.YtcjcacbhkoainaaGreatDoorDv19
set_option linter.constructorNameAsVariable false
set_option linter.unusedSimpArgs false
set_option linter.unusedVariables false
set_option linter.unusedSectionVars false
namespace Go.Proofs.YtcjcacbhkoainaaGreatDoor
open Go Go.Proofs Go.RowKit
set_option maxHeartbeats 1000000
theorem qpg(n:Nat)(l:List Int){us:List Stay}{e:Int}(h:qei n (l,())=some (us,(e,()))):qej n (l,())=some ((us.length:Int),(e,())):=by
 rw[qpJ,h];rfl
theorem SetOk.settles{n:Nat}{l:List Int}{us:List Stay}{r:Nat}(S:SetOk l us r)(h:balB l=true)(hn:2000≤n):qbC n (l,(us,()))=some (true,()):=by
 obtain ⟨B,hs⟩:=qnn h
 have h8:=B.ln
 have h9:=S.n8
 rw[qod n l us (by omega) (by omega) B.bd hn,S.ok]
 have:((us.foldl pay1 l).all fun x=>decide (x=0))=true:=List.all_eq_true.2 fun x hx=>decide_eq_true (S.zr x hx)
 rw[this];rfl
theorem qvk(n:Nat)(l:List Int)(hn:2000≤n):qdl n (l,())=some (true,()):=by
 have hw:=quB n (by omega)
 rw[qjE]
 by_cases h20:l.length≤20
 ·simp only[show iGt (l.length:Int) 20=false from decide_eq_false (by omega),cond_false]
  rw[qil (show Nat.ble (nAdd 0 l.length) 17592186044416=true by rw[Nat.ble_eq];unfold nAdd;omega)]
  simp only[Option.bind_some,show List.append [] l=l from rfl,hw]
  cases h:balB l with
  | true =>
   obtain ⟨us,r,h1,S⟩:=qsr n l hn h
   have h9:=S.n8
   simp only[qpg n l h1,qtM n l hn h S,h1,Option.bind_some,qiy rfl,cond_false,show iGt (us.length:Int) 20=false from decide_eq_false (by omega),qpv rfl,cond_true,S.settles h hn]
  | false =>
   have h1:=qvi n l hn h
   simp only[qpg n l h1,qsA n l hn h,h1,Option.bind_some]
   rfl
 ·simp only[show iGt (l.length:Int) 20=true from decide_eq_true (by omega),cond_true,hw,Option.bind_some]
theorem qwD(x:Int):(x=0∧iNe x 0=false)∨(x≠0∧iNe x 0=true):=by
 by_cases h:x=0
 ·exact .inl ⟨h,qiy h⟩
 ·exact .inr ⟨h,qkw h⟩
theorem qxM(n:Nat)(l:List Int)(hl:l.length≤20)(ts us:List Stay)(a b c:Int):∀(j k n':Nat),k+j=l.length→j<n' →
  qg n' (qcJ n) (l,(ts,(us,(a,(b,(c,((cntT l k:Int),((k:Int),()))))))))=some (l,(ts,(us,(a,(b,(c,((qbU l:Int),()))))))):=by
 intro j
 induction j with
 | zero =>
  intro k n' hk hn
  obtain ⟨n',rfl⟩:∃j,n'=j+1:=⟨n'-1,by omega⟩
  rw[qw,qfS,show k=l.length by omega]
  simp only[qg3,cond_false]
  rfl
 | succ j ih =>
  intro k n' hk hn
  obtain ⟨n',rfl⟩:∃j,n'=j+1:=⟨n'-1,by omega⟩
  have hlt:k<l.length:=by omega
  have hget:(l[k]?).getD 0=l[k]:=by rw[List.getElem?_eq_getElem hlt];rfl
  have hcl:cntT l k≤k:=by unfold cntT;exact Nat.le_trans (List.length_filter_le _ _) (by rw[List.length_range];exact Nat.le_refl _)
  have:=ih (k+1) n' (by omega) (by omega)
  rw[qpf,hget] at this
  rw[qw,qfS]
  simp only[qg2 hlt,cond_true,qjG l hlt,Option.bind_some,qcH (show k<9223372036854775807 by omega)]
  rcases qwD l[k] with ⟨e,h⟩ | ⟨e,h⟩
  ·rw[h];rw[if_pos e] at this;exact this
  ·rw[h,qcH (show cntT l k<9223372036854775807 by omega)];rw[if_neg e] at this;exact this
theorem SetOk.r1{l:List Int}{us:List Stay}{r:Nat}(S:SetOk l us r)(h:balB l=true):(qbU l=0→r=0)∧(0<qbU l→1≤r∧1≤us.length):=by
 obtain ⟨B,hs⟩:=qnn h
 constructor
 ·intro h0;have:=S.ln;omega
 ·intro h0
  constructor
  ·refine Nat.le_of_not_lt fun hr=>?_
   have hr0:r=0:=by omega
   have hm0:qcf l≠0:=fun e=>by
    have:=quE l
    rw[e] at this
    unfold card at this
    rw[List.filter_eq_nil_iff.2 fun i _=>by rw[Nat.zero_testBit];decide] at this
    simp at this
    omega
   have:=S.mx.2 [qcf l] ⟨hm0,Nat.and_self _,(by show sm l (qcf l)=0;rw[qtI,hs]),by show qcf l ^^^ qcf l=0;exact Nat.xor_self _⟩
   simp at this
   omega
  ·refine Nat.le_of_not_lt fun hu=>?_
   have:us=[]:=List.eq_nil_of_length_eq_zero (by omega)
   have hz:=S.zr
   rw[this] at hz
   have hz:∀x,x∈l→x=0:=hz
   have:qbU l=0:=by
    unfold qbU
    rw[List.filter_eq_nil_iff.2 fun i hi=>by
     have hi:=List.mem_range.1 hi
     rw[List.getElem?_eq_getElem hi]
     have:=hz _ (List.getElem_mem hi)
     show ¬(!decide (l[i]=0))=true
     rw[this];decide]
    rfl
   omega
theorem qvl(n:Nat)(l:List Int)(ts:List Stay)(hn:2000≤n):qdm n (l,(ts,()))=some (true,()):=by
 have hw:=quB n (by omega)
 rw[qjF]
 by_cases h20:l.length≤20
 ·simp only[show iGt (l.length:Int) 20=false from decide_eq_false (by omega),cond_false]
  by_cases h60:ts.length≤60
  ·simp only[show iGt (ts.length:Int) 60=false from decide_eq_false (by omega),cond_false,qpd n l hn,Option.bind_some,hw]
   cases h:balB l with
   | false=>rfl
   | true =>
    obtain ⟨us,r,h1,S⟩:=qsr n l hn h
    obtain ⟨B,hs⟩:=qnn h
    have h9:=S.n8
    have hln:=S.ln
    have hr1:=S.r1 h
    have hlp:=qxM n l (by omega) ts us 0 (us.length:Int) 0 l.length 0 n (by omega) (by omega)
    have hlp':qg n (qcJ n) (l,(ts,(us,((0:Int),((us.length:Int),((0:Int),((0:Int),((0:Int),()))))))))=_:=hlp
    have hts:=qod n l ts (by omega) (by omega) B.bd hn
    have hfin:(cond (!(ts.all (trOk l.length)&&(ts.foldl pay1 l).all fun x=>decide (x=0))) (some ((true,()):Bool×Unit)) (cond (iGe (ts.length:Int) (us.length:Int)) (some (true,())) (some (false,()))))=some (true,()):=by
     cases hb:(ts.all (trOk l.length)&&(ts.foldl pay1 l).all fun x=>decide (x=0)) with
     | false=>rfl
     | true =>
      rw[Bool.and_eq_true,List.all_eq_true,List.all_eq_true] at hb
      have hlow:=qvb (l:=l) (ts:=ts) (fun t ht=>by
       have:=hb.1 t ht
       unfold trOk at this
       simp only[Bool.and_eq_true,qjf] at this
       omega) (fun x hx=>of_decide_eq_true (hb.2 x hx)) S.mx
      rw[show iGe (ts.length:Int) (us.length:Int)=true from decide_eq_true (show (ts.length:Int)≥us.length by omega)]
      rfl
    simp only[Bool.not_true,cond_false,h1,qpg n l h1,Option.bind_some,hlp',show iNe (0:Int) 0=false from rfl,qiy rfl,hts,S.settles h hn]
    have hmx:iGt (us.length:Int) (iMax (0:Int) (iW (iSub (qbU l:Int) 1)))=false:=by
     have hc:qbU l≤20:=by have:=qqw l;omega
     rw[show iW (iSub (qbU l:Int) 1)=(qbU l:Int)-1 from qgM (n:=iSub (qbU l:Int) 1) (by unfold iSub;omega) (by unfold iSub;omega)]
     refine decide_eq_false ?_
     unfold iMax
     split<;>omega
    rw[hmx]
    simp only[cond_false]
    by_cases h0:0<qbU l
    ·rw[show iGt (qbU l:Int) 0=true from decide_eq_true (by omega),show iLt (us.length:Int) 1=false from decide_eq_false (by have:=hr1.2 h0;omega)]
     simp only[cond_true,cond_false]
     exact hfin
    ·rw[show iGt (qbU l:Int) 0=false from decide_eq_false (by omega)]
     simp only[cond_false]
     exact hfin
  ·simp only[show iGt (ts.length:Int) 60=true from decide_eq_true (by omega),cond_true,hw,Option.bind_some]
 ·simp only[show iGt (l.length:Int) 20=true from decide_eq_true (by omega),cond_true,hw,Option.bind_some]
end Go.Proofs.YtcjcacbhkoainaaGreatDoor
