/- Texts Dl5, Dl6, Dl7 in one. -/
import Derived.Test.YtbdockhccdkdiaaGreatDl3
import Derived.Test.YtbdockhccdkdiaaGreatLb
/- Ropes: what posts are valid: the program and the reference alike. -/
set_option linter.constructorNameAsVariable false
set_option linter.unusedSimpArgs false
set_option linter.unusedVariables false
set_option linter.unusedSectionVars false
namespace Go.Proofs.YtbdockhccdkdiaaGreat
open Go Go.Proofs Go.RowKit
set_option maxHeartbeats 1000000
abbrev qtG:=Int×(Int×Int)
def pO(t:qtG):Post:=⟨t.1,t.2.1,t.2.2⟩
theorem qnB(n:Nat)(x lo hi:Int):qeL n (x,(lo,(hi,())))=some (qbN x lo hi,()):=by
 rw[qn5]
 unfold qbN
 show cond (decide (lo≤x)) _ _=_
 cases decide (lo≤x)<;>rfl
theorem qtH(n:Nat)(s:Int×Int)(lo hi:Int):qix n (s,(lo,(hi,())))=some (qja s.1 s.2 lo hi,()):=by
 rw[qnv]
 unfold qja
 show cond (decide (lo≤s.1)) (cond (decide (s.1≤s.2)) _ _) _=_
 cases decide (lo≤s.1)<;>cases decide (s.1≤s.2)<;>rfl
theorem qtI(n:Nat)(x lo hi:Int):qfW n (x,(lo,(hi,())))=some (qbN x lo hi,()):=by
 rw[qkB]
 unfold qbN
 show cond (decide (x≥lo)) _ _=_
 by_cases h:lo≤x<;>simp[h]
theorem qv5(n:Nat)(s:Int×Int)(lo hi:Int):qfX n (s,(lo,(hi,())))=some (qja s.1 s.2 lo hi,()):=by
 rw[qkC]
 unfold qja
 show cond (decide (s.1≥lo)) (cond (decide (s.1≤s.2)) _ _) _=_
 by_cases h:lo≤s.1<;>by_cases h2:s.1≤s.2<;>simp[h,h2]
def PBd(l:List qtG):Prop:=∀t,t∈l→(0≤t.1∧t.1≤100000)∧(0≤t.2.1∧t.2.1≤100)∧(0≤t.2.2∧t.2.2≤100)
theorem qw7(a b:Int):iMax a b=max a b:=by
 unfold iMax
 split<;>omega
def selT{α:Type}(l:List α)(p:Nat→Bool):Nat→List α
 | 0=>[]
 | k+1=>selT l p k++(if p k=true then (l[k]?).toList else [])
theorem qcc{α:Type}(l:List α)(p:Nat→Bool)(k:Nat):selT l p (k+1)=selT l p k++(if p k=true then (l[k]?).toList else []):=rfl
theorem qg8{α:Type}(l:List α)(p:Nat→Bool):∀k,(selT l p k).length≤k
 | 0=>Nat.le_refl _
 | k+1=>by
  have:=qg8 l p k
  unfold selT
  rw[List.length_append]
  split
  ·cases l[k]?<;>simp<;>omega
  ·simp;omega
theorem qoR{α:Type}{l:List α}{p:Nat→Bool}{x:α}:∀{k:Nat},x∈selT l p k→x∈l
 | 0,h=>by cases h
 | k+1,h=>by
  unfold selT at h
  rcases List.mem_append.1 h with h | h
  ·exact qoR h
  ·split at h
   ·cases hx:l[k]? with
    | none=>rw[hx] at h;cases h
    | some y =>
     rw[hx] at h
     have:x=y:=by simpa using h
     subst this
     exact List.mem_of_getElem? hx
   ·cases h
theorem qxw:∀s:Nat,s<512→∀k:Nat,k<8→iEq (bits .and .i64 (iShr ((s:Int)-256) (k:Int)) (1:Int)) (1:Int)=bitB ((s:Int)-256) k:=by
 have h:(List.range 512).all (fun s=>(List.range 8).all fun k=>iEq (bits .and .i64 (iShr ((s:Int)-256) (k:Int)) (1:Int)) (1:Int)==bitB ((s:Int)-256) k)=true:=by decide +kernel
 intro s hs k hk
 rw[List.all_eq_true] at h
 have h1:=h s (List.mem_range.2 hs)
 rw[List.all_eq_true] at h1
 exact eq_of_beq (h1 k (List.mem_range.2 hk))
theorem qs0(x:Int)(hx:-256≤x∧x<256)(k:Nat)(hk:k<8):iEq (bits .and .i64 (iShr x (k:Int)) (1:Int)) (1:Int)=bitB x k:=by
 have h:=qxw (x+256).toNat (by omega) k hk
 rwa [show (((x+256).toNat:Int)-256)=x by omega] at h
theorem shk(k:Nat)(hk:k<60):qH (iSh .i64 (k:Int))=some ():=by
 have:iSh .i64 (k:Int)=true:=by
  unfold iSh
  rw[Bool.and_eq_true,decide_eq_true_eq,decide_eq_true_eq]
  refine ⟨by omega,?_⟩
  show (k:Int)≤((64:Nat):Int)
  omega
 rw[this];rfl
theorem bleM(a b:Nat)(h:a≤b):qH (Nat.ble a b)=some ():=by
 rw[Nat.ble_eq_true_of_le h];rfl
theorem qr0(n:Nat)(l:List Int)(s:Int)(hs:-256≤s∧s<256)(hL:l.length≤8):∀(j k:Nat) (m:Nat),k+j=l.length→j<m →
  qn m (qeC n) (s,(l,((l.length:Int),((k:Int),(selT l (bitB s) k,())))))=some (selT l (bitB s) l.length,()):=by
 intro j
 induction j with
 | zero =>
  intro k m hk hm
  obtain ⟨m,rfl⟩:∃j,m=j+1:=⟨m-1,by omega⟩
  rw[qC,qhp]
  simp only[show iLt (k:Int) (l.length:Int)=false from decide_eq_false (by omega),cond_false]
  rw[show l.length=k by omega]
 | succ j ih =>
  intro k m hk hm
  obtain ⟨m,rfl⟩:∃j,m=j+1:=⟨m-1,by omega⟩
  have hkl:k<l.length:=by omega
  have hlen:=qg8 l (bitB s) k
  have:=ih (k+1) m (by omega) (by omega)
  rw[qcc] at this
  rw[qC,qhp]
  simp only[show iLt (k:Int) (l.length:Int)=true from decide_eq_true (by omega),cond_true,qfQ l hkl,Option.bind_some,shk k (by omega),qs0 s hs k (by omega),qcm (show k<9223372036854775807 by omega),bleM (nAdd (selT l (bitB s) k).length 1) 17592186044416 (by show (selT l (bitB s) k).length+1≤_;omega)]
  rw[List.getElem?_eq_getElem hkl] at this
  cases hb:bitB s k with
  | true =>
   rw[hb] at this
   exact this
  | false =>
   rw[hb] at this
   simp only[cond_false]
   rw[show selT l (bitB s) k=selT l (bitB s) k++[] from (List.append_nil _).symm]
   exact this
theorem qpD(n:Nat)(l:List Int)(s:Int)(hs:-256≤s∧s<256)(hL:l.length≤8)(hn:100≤n):qfh n (l,(s,()))=some (selT l (bitB s) l.length,()):=by
 have h:=qr0 n l s hs hL l.length 0 n (by omega) (by omega)
 rw[show ((0:Nat):Int)=0 from rfl] at h
 rw[qlP]
 show Option.bind (qn n (qeC n) (s,(l,((l.length:Int),((0:Int),(selT l (bitB s) 0,())))))) _=_
 rw[h]
 rfl
end Go.Proofs.YtbdockhccdkdiaaGreat
