/- Texts Dp6, Dp7, Dp8, Dp9, Dp10, Dp11 in one. -/
import Derived.Test.YtcjcacbhkoainaaGreatDoorPa
/- Beds, plain: distinct. -/
set_option linter.constructorNameAsVariable false
set_option linter.unusedSimpArgs false
set_option linter.unusedVariables false
set_option linter.unusedSectionVars false
namespace Go.Proofs.YtcjcacbhkoainaaGreatDoor
open Go Go.Proofs Go.RowKit
set_option maxHeartbeats 1000000
section
variable {α:Type} [DecidableEq α]
def goC(p:α):List α→List α
 | []=>[]
 | y::l=>if y=p then goC y l else y::goC y l
def qgj:List α→List α
 | []=>[]
 | x::l=>x::goC x l
theorem qzp(B:List α)(q:α):∀(A:List α) (p:α),goC p (A++q::B)=goC p (A++[q])++goC q B
 | [],p=>by
  simp only[List.nil_append,goC]
  split<;>simp
 | x::A,p=>by
  simp only[List.cons_append,goC]
  split
  ·exact qzp B q A x
  ·rw[qzp B q A x,List.cons_append]
theorem qwb(A:List α)(p:α)(B:List α):qgj (A++p::B)=qgj (A++[p])++goC p B:=by
 cases A with
 | nil=>simp[qgj,goC]
 | cons x A=>simp only[List.cons_append,qgj,qzp B p A x]
def adjP:List α→Prop
 | x::y::l=>x≠y∧adjP (y::l)
 | _=>True
theorem qzq:∀(l:List α) (p:α),adjP (p::goC p l)
 | [],_=>trivial
 | y::l,p=>by
  unfold goC
  split
  ·rename_i h;rw[← h];exact qzq l y
  ·rename_i h;exact ⟨fun e=>h e.symm,qzq l y⟩
theorem qwc(l:List α):adjP (qgj l):=by
 cases l with
 | nil=>exact trivial
 | cons x l=>exact qzq l x
theorem qzr:∀(l:List α),adjP l→∀i (h:i+1<l.length),l[i+1]≠l[i]
 | x::y::l,hp,0,_=>fun e=>hp.1 e.symm
 | x::y::l,hp,i+1,h=>qzr (y::l) hp.2 i (by simpa using h)
 | [],_,i,h=>by simp at h
 | [x],_,i,h=>by simp at h
theorem qzs:∀(l:List α) (p x:α),x∈goC p l→x∈l
 | y::l,p,x,h=>by
  unfold goC at h
  split at h
  ·exact List.mem_cons_of_mem _ (qzs l y x h)
  ·rcases List.mem_cons.1 h with rfl | h
   ·exact List.mem_cons_self
   ·exact List.mem_cons_of_mem _ (qzs l y x h)
theorem qBH{l:List α}{x:α}(h:x∈qgj l):x∈l:=by
 cases l with
 | nil=>cases h
 | cons y l =>
  rcases List.mem_cons.1 h with rfl | h
  ·exact List.mem_cons_self
  ·exact List.mem_cons_of_mem _ (qzs l y x h)
theorem qzt:∀(l:List α) (p x:α),x∈l→x=p∨x∈goC p l
 | y::l,p,x,h=>by
  unfold goC
  split
  ·rename_i hy
   rcases List.mem_cons.1 h with rfl | h
   ·exact .inl hy
   ·rw[← hy];exact qzt l y x h
  ·rcases List.mem_cons.1 h with rfl | h
   ·exact .inr List.mem_cons_self
   ·rcases qzt l y x h with rfl | h
    ·exact .inr List.mem_cons_self
    ·exact .inr (List.mem_cons_of_mem _ h)
theorem qBI{l:List α}{x:α}(h:x∈l):x∈qgj l:=by
 cases l with
 | nil=>cases h
 | cons y l =>
  rcases List.mem_cons.1 h with rfl | h
  ·exact List.mem_cons_self
  ·rcases qzt l y x h with rfl | h
   ·exact List.mem_cons_self
   ·exact List.mem_cons_of_mem _ h
theorem qC5:∀(l:List α) (p:α),(goC p l).length≤l.length
 | [],_=>Nat.le_refl _
 | y::l,p=>by
  unfold goC
  have:=qC5 l y
  split<;>simp<;>omega
theorem qBJ(l:List α):(qgj l).length≤l.length:=by
 cases l with
 | nil=>exact Nat.le_refl _
 | cons x l=>have:=qC5 l x;simp[qgj];exact this
end
theorem qrE{len k:Nat}(h:k≤len):cutO len (k:Int)=some k:=by
 unfold cutO;rw[if_pos ⟨by omega,by omega⟩];simp
theorem qcC{p:Bool}(h:p=true):qbb p=some ():=by rw[h];rfl
theorem qH6{α:Type}(d:List α){k m j:Nat}(h:j<m):lat (List.take m (List.drop k d)) (j:Int)=d[k+j]?:=by
 rw[qi8,List.getElem?_take,if_pos h,List.getElem?_drop]
theorem qBK(n:Nat)(x y:Msg)(hx:x.2.2.2.2.length≤1000)(hn:2000≤n):qkN n (x,(y,()))=some (decide (x=y),()):=by
 rw[quM,qC4 n x y hx hn]
 simp only[Option.bind_some]
 by_cases h:x=y
 ·rw[qb4 (qAi.2 h)];simp[h]
 ·rw[qfS (fun e=>h (qAi.1 e))];simp[h]
theorem qIM(n k len:Nat)(hn:2000≤n)(hlen:len≤1000):∀(rest C G:List Msg) (prev:Msg) (k2 n':Nat),k+k2=C.length+G.length+1→C.length+G.length+1+rest.length=len→1≤k2→rest.length<n'→(∀z,z∈rest→z.2.2.2.2.length≤1000) →
  ∃E:List Msg,qb n' (qcz n) (((),()),((C.length:Int),((k2:Int),((C++(G++prev::rest)),((k,len-k),())))))=some (((C++goC prev rest).length:Int),((C++goC prev rest)++E,()))∧((C++goC prev rest)++E).length=len:=by
 intro rest
 induction rest with
 | nil =>
  intro C G prev k2 n' hk hlen2 h1 hn' hs
  obtain ⟨n',rfl⟩:∃m,n'=m+1:=⟨n'-1,by omega⟩
  rw[qc,qei]
  simp only[List.length_nil] at hlen2
  have:iLt (k2:Int) ((len-k:Nat):Int)=false:=by unfold iLt;exact decide_eq_false (by omega)
  simp only[this,cond_false,goC,List.append_nil]
  exact ⟨G++[prev],rfl,by simp;omega⟩
 | cons y rest ih =>
  intro C G prev k2 n' hk hlen2 h1 hn' hs
  obtain ⟨n',rfl⟩:∃m,n'=m+1:=⟨n'-1,by omega⟩
  simp only[List.length_cons] at hlen2 hn'
  obtain ⟨k3,rfl⟩:∃m,k2=m+1:=⟨k2-1,by omega⟩
  have hA:(C++G).length=k+k3:=by simp;omega
  have e1:(C++(G++prev::y::rest))[k+(k3+1)]?=some y:=by
   rw[← List.append_assoc,← Nat.add_assoc,← hA];exact app1 _ _ _ _
  have e0:(C++(G++prev::y::rest))[k+k3]?=some prev:=by
   rw[← List.append_assoc,← hA];exact app0 _ _ _ _
  have eC:∃z,(C++(G++prev::y::rest))[C.length]?=some z:=by
   rw[List.getElem?_append_right (Nat.le_refl _),Nat.sub_self]
   cases G with
   | nil=>exact ⟨_,rfl⟩
   | cons g G=>exact ⟨_,rfl⟩
  obtain ⟨z,eC⟩:=eC
  rw[qc,qei]
  have hy:=hs y List.mem_cons_self
  have hs':∀z,z∈rest→z.2.2.2.2.length≤1000:=fun z hz=>hs z (List.mem_cons_of_mem _ hz)
  have c1:iLt ((k3+1:Nat):Int) ((len-k:Nat):Int)=true:=by unfold iLt;exact decide_eq_true (by omega)
  simp only[c1,cond_true,qH6 _ (show k3+1<len-k by omega),qk8 (show k3<9223372036854775807 by omega),qH6 _ (show k3<len-k by omega),qlR,nAdd,e1,e0,Option.bind_some,qBK n y prev hy hn,qi8,eC,qi (show C.length<9223372036854775807 by omega),qi (show k3+1<9223372036854775807 by omega)]
  by_cases h:y=prev
  ·simp only[h,decide_true,Bool.not_true,cond_false]
   obtain ⟨E,h2,h3⟩:=ih C (G++[prev]) prev (k3+1+1) n' (by simp;omega) (by simp;omega) (by omega) (by omega) hs'
   rw[goC,if_pos rfl]
   simp only[List.append_assoc,List.cons_append,List.nil_append] at h2 h3 ⊢
   exact ⟨E,h2,h3⟩
  ·simp only[h,decide_false,Bool.not_false,cond_true]
   rw[goC,if_neg h]
   cases G with
   | nil =>
    simp only[List.nil_append,List.length_nil] at *
    obtain ⟨E,h2,h3⟩:=ih (C++[y]) [] y (k3+1+1) n' (by simp;omega) (by simp;omega) (by omega) (by omega) hs'
    simp only[List.nil_append,List.length_append,List.length_cons,List.length_nil,Nat.zero_add,List.append_assoc,List.cons_append] at h2 h3 ⊢
    refine ⟨E,?_,by simpa using h3⟩
    rw[show (C++prev::y::rest).set C.length y=C++y::y::rest by simp]
    rw[h2]
   | cons g G =>
    obtain ⟨E,h2,h3⟩:=ih (C++[y]) (G++[prev]) y (k3+1+1) n' (by simp at *;omega) (by simp at *;omega) (by omega) (by omega) hs'
    simp only[List.length_append,List.length_cons,List.length_nil,Nat.zero_add,List.append_assoc,List.cons_append,List.nil_append] at h2 h3 ⊢
    refine ⟨E,?_,by simpa using h3⟩
    rw[show (C++g::(G++prev::y::rest)).set C.length y=C++y::(G++prev::y::rest) by simp]
    rw[h2]
theorem qHh(n len:Nat)(hn:2000≤n)(hlen:len≤1000):∀(rest A:List Msg) (p:Msg) (n':Nat),A.length+1+rest.length=len→qgj (A++[p])=A++[p]→rest.length<n'→(∀z,z∈rest→z.2.2.2.2.length≤1000) →
  ∃(l2:List Msg) (w:Nat),(Option.bind (qb n' (qcA n) (((),()),(((A.length+1:Nat):Int),((A++p::rest),())))) fun y=>(Sum.elim (fun a=>(some (a.1,(((0:Nat),(List.length a.1)),())))) (fun b=>(some b)) y))=some (l2,((0,w),()))∧w≤l2.length∧l2.take w=qgj (A++p::rest):=by
 intro rest
 induction rest with
 | nil =>
  intro A p n' hl hc hn' hs
  obtain ⟨n',rfl⟩:∃m,n'=m+1:=⟨n'-1,by omega⟩
  rw[qc,qej]
  have:iLt ((A.length+1:Nat):Int) ((List.length (A++[p]):Nat):Int)=false:=by simp[iLt]
  simp only[this,cond_false,Option.bind_some,Sum.elim_inl]
  exact ⟨_,_,rfl,Nat.le_refl _,by rw[List.take_length,hc]⟩
 | cons y rest ih =>
  intro A p n' hl hc hn' hs
  obtain ⟨n',rfl⟩:∃m,n'=m+1:=⟨n'-1,by omega⟩
  simp only[List.length_cons] at hl hn'
  rw[qc,qej]
  have hy:=hs y List.mem_cons_self
  have hs':∀z,z∈rest→z.2.2.2.2.length≤1000:=fun z hz=>hs z (List.mem_cons_of_mem _ hz)
  have c1:iLt ((A.length+1:Nat):Int) ((List.length (A++p::y::rest):Nat):Int)=true:=by unfold iLt;exact decide_eq_true (by simp;omega)
  have hL:(A++p::y::rest).length=len:=by simp;omega
  simp only[c1,cond_true,qi8,qlR,app1,app0,qk8 (show A.length<9223372036854775807 by omega),Option.bind_some,qBK n y p hy hn]
  by_cases h:y=p
  ·subst h
   simp only[decide_true,cond_true,hL,qrE (show A.length+1≤len by omega),Option.bind_some]
   obtain ⟨E,h2,h3⟩:=qIM n (A.length+1) len hn hlen rest (A++[y]) [] y 1 n (by simp) (by simp;omega) (by omega) (by omega) hs'
   simp only[List.nil_append,List.append_assoc,List.cons_append,List.length_append,List.length_cons,List.length_nil,Nat.zero_add] at h2 h3
   have e:(A++y::y::rest)=A++y::(y::rest):=rfl
   rw[show (((1:Int),((A++y::y::rest),((A.length+1,len-(A.length+1)),()))))=(((1:Nat):Int),((A++y::y::rest),((A.length+1,len-(A.length+1)),()))) from rfl,h2]
   obtain ⟨D,hD⟩:∃D,D=A++y::goC y rest:=⟨_,rfl⟩
   have hDl:D.length=A.length+(goC y rest).length+1:=by rw[hD];simp;omega
   have hDE:A++(y::(goC y rest++E))=D++E:=by rw[hD];simp
   have hc2:qgj (A++y::y::rest)=D:=by rw[qwb A y (y::rest),hc,goC,if_pos rfl,hD];simp
   simp only[Option.bind_some]
   rw[hDE,show A.length+((goC y rest).length+1)=D.length by omega]
   have hEl:(D++E).length=len:=by rw[← hDE];simp at h3 ⊢;omega
   rw[qrE (by simp)]
   simp only[Option.bind_some]
   have hDle:D.length≤len:=by rw[← hEl];simp
   rw[qcC (by rw[Nat.ble_eq,hEl];omega)]
   simp only[Option.bind_some]
   rw[qrE (by first | (simp[List.append_eq];done) | (simp[List.append_eq];omega))]
   simp only[Option.bind_some,Sum.elim_inr]
   refine ⟨_,_,rfl,by first | (simp[List.append_eq];done) | (simp[List.append_eq];omega),?_⟩
   rw[hc2]
   simp[List.append_eq]
  ·simp only[h,decide_false,cond_false,qi (show A.length+1<9223372036854775807 by omega)]
   obtain ⟨l2,w,h2,h3,h4⟩:=ih (A++[p]) y n' (by simp;omega) (by
    rw[List.append_assoc,List.cons_append,List.nil_append,qwb A p [y],hc,goC,if_neg h]
    simp[goC]) (by omega) hs'
   simp only[List.append_assoc,List.cons_append,List.nil_append,List.length_append,List.length_cons,List.length_nil,Nat.zero_add] at h2 h4
   exact ⟨l2,w,h2,h3,h4⟩
theorem qD4(n:Nat)(l:List Msg)(hl:l.length≤1000)(hs:∀z,z∈l→z.2.2.2.2.length≤1000)(hn:2000≤n):∃(l2:List Msg) (w:Nat),qcT n (((),()),(l,()))=some (l2,((0,w),()))∧w≤l2.length∧l2.take w=qgj l:=by
 rw[qiE]
 match l,hl,hs with
 | [],_,_=>exact ⟨[],0,rfl,Nat.le_refl _,rfl⟩
 | [x],_,_=>exact ⟨[x],1,rfl,Nat.le_refl _,rfl⟩
 | x::y::l,hl,hs =>
  have c:iLt ((List.length (x::y::l):Nat):Int) 2=false:=by unfold iLt;exact decide_eq_false (by simp;omega)
  simp only[c,cond_false]
  exact qHh n (x::y::l).length hn hl (y::l) [] x n (by simp;omega) rfl (by simp at hl ⊢;omega) (fun z hz=>hs z (List.mem_cons_of_mem _ hz))
theorem qJE(n:Nat):qk n (Value.slice none 0 0,((0:Int),()))=some ([],()):=by kernel_rfl
theorem qJF(n:Nat):qk n (Value.slice none 0 0,((1:Int),()))=some ([],()):=by kernel_rfl
theorem qJG(n:Nat):qk n (Value.slice none 0 0,((2:Int),()))=some ([],()):=by kernel_rfl
theorem qJH(n:Nat):qk n (Value.slice none 0 0,((3:Int),()))=some ([],()):=by kernel_rfl
theorem qJI(n:Nat):qk n (Value.slice none 0 0,((4:Int),()))=some ([],()):=by kernel_rfl
theorem qJJ(n:Nat):qk n (Value.slice none 0 0,((5:Int),()))=some ([],()):=by kernel_rfl
theorem qJK(n:Nat):qk n (Value.slice none 0 0,((6:Int),()))=some ([],()):=by kernel_rfl
theorem qJL(n:Nat):qk n (Value.slice none 0 0,((7:Int),()))=some ([],()):=by kernel_rfl
theorem qJM(n:Nat):qk n (Value.slice none 0 0,((8:Int),()))=some ([],()):=by kernel_rfl
theorem qJN(n:Nat):qk n (Value.slice none 0 0,((9:Int),()))=some ([],()):=by kernel_rfl
theorem qIN(n:Nat):qk n (Value.slice none 0 0,((10:Int),()))=some ([],()):=by kernel_rfl
theorem qIO(n:Nat):qk n (Value.slice none 0 0,((11:Int),()))=some ([],()):=by kernel_rfl
theorem qIP(n:Nat):qk n (Value.slice none 0 0,((12:Int),()))=some ([],()):=by kernel_rfl
theorem qIQ(n:Nat):∀k:Nat,k≤12→qg9 n (Value.slice none 0 0,((k:Int),()))=some ([],()):=by
 intro k hk
 unfold qg9
 match k,hk with
 | 0,_=>exact qJE n
 | 1,_=>exact qJF n
 | 2,_=>exact qJG n
 | 3,_=>exact qJH n
 | 4,_=>exact qJI n
 | 5,_=>exact qJJ n
 | 6,_=>exact qJK n
 | 7,_=>exact qJL n
 | 8,_=>exact qJM n
 | 9,_=>exact qJN n
 | 10,_=>exact qIN n
 | 11,_=>exact qIO n
 | 12,_=>exact qIP n
theorem qFl(n:Nat)(l:List Msg)(hl:l.length≤12)(hn:2000≤n):qhU n ([l],())=some (l,()):=by
 rw[qo9]
 obtain ⟨n',rfl⟩:∃m,n=m+2:=⟨n-2,by omega⟩
 have e1:iW (iAdd (0:Int) (l.length:Int))=(l.length:Int):=by rw[qM (by unfold iAdd;omega) (by unfold iAdd;omega)];unfold iAdd;omega
 have e2:iLt (l.length:Int) 0=false:=by unfold iLt;exact decide_eq_false (by omega)
 rw[qc,qjq]
 simp only[show iLt (0:Int) (([l]:List (List Msg)).length:Int)=true from rfl,cond_true,qxP,Option.bind_some,e1,e2,cond_false]
 rw[qc,qjq]
 simp only[show iLt (iW (iAdd (0:Int) 1)) (([l]:List (List Msg)).length:Int)=false from rfl,cond_false,Option.bind_some,qIQ _ _ hl]
 rw[qc,qjr]
 simp only[show iLt (0:Int) (([l]:List (List Msg)).length:Int)=true from rfl,cond_true,qxP,Option.bind_some]
 rw[qcC (by rw[Nat.ble_eq];unfold nAdd;simp;omega)]
 simp only[Option.bind_some]
 rw[qc,qjr]
 simp only[show iLt (iW (iAdd (0:Int) 1)) (([l]:List (List Msg)).length:Int)=false from rfl,cond_false,Option.bind_some]
 rfl
def qfT(l:List Msg):List Msg:=qgj (qkQ (fun x y=>decide (cmpM x y<0)) l)
theorem qkj{l:List Msg}{x:Msg}:x∈qfT l↔x∈l:=⟨fun h=>(qki _ l).mem_iff.1 (qBH h),fun h=>qBI ((qki _ l).mem_iff.2 h)⟩
theorem qsY(l:List Msg):(qfT l).length≤l.length:=Nat.le_trans (qBJ _) (Nat.le_of_eq (qki _ l).length_eq)
theorem qtj(n:Nat)(l:List Msg)(hl:l.length≤12)(hs:∀z,z∈l→z.2.2.2.2.length≤1000)(hn:2000≤n):qlI n ([l],())=some (qfT l,()):=by
 rw[qvl,qFl n l hl hn]
 simp only[Option.bind_some]
 rw[qIJ n l hs hl hn]
 simp only[Option.bind_some]
 have hp:=qki (fun x y=>decide (cmpM x y<0)) l
 obtain ⟨l2,w,h1,h2,h3⟩:=qD4 n _ (by rw[hp.length_eq];omega) (fun z hz=>hs z (hp.mem_iff.1 hz)) hn
 rw[h1]
 simp only[Option.bind_some,show Nat.beq 0 0=true from rfl,cond_true]
 rw[show Nat.ble w l2.length=true by rw[Nat.ble_eq];exact h2,h3]
 rfl
theorem qFm(n:Nat)(l:List Msg)(hl:l.length≤1000)(ha:adjP l)(hc:∀x y,x∈l→y∈l→x.2.1=y.2.1→x.1=y.1→x=y)(hn:2000≤n):qo7 n (l,())=some (false,()):=by
 rw[qsS]
 have h1:=qm8 (step:=qnk n) l (fun k=>(l,(l,((l.length:Int),((k:Int),()))))) (fun _=>false) (.inr (true,())) (.inl ()) (fun rec k hk=>by
  rw[qg2]
  simp only[qv hk,cond_true,qw l hk,Option.bind_some,qi (show k<9223372036854775807 by omega),cond_false]
  cases k with
  | zero=>rfl
  | succ k =>
   have hk':k<l.length:=by omega
   simp only[qsc,cond_true,qk8 (show k<9223372036854775807 by omega),qw l hk',Option.bind_some]
   by_cases h1:l[k+1].2.1=l[k].2.1
   ·rw[qb4 h1]
    by_cases h2:l[k+1].1=l[k].1
    ·exact (qzr l ha k hk (hc _ _ (List.getElem_mem _) (List.getElem_mem _) h1 h2)).elim
    ·rw[qfS h2];rfl
   ·rw[qfS h1];rfl) (fun rec=>by
  rw[qg2]
  simp only[qB,cond_false]) (n:=n) (by omega)
 show Option.bind (qb n _ (l,(l,((l.length:Int),(((0:Nat):Int),()))))) _=_
 rw[h1,show (l.any fun _=>false)=false by rw[List.any_eq_false];intro x hx;simp]
 rfl
theorem qsZ{c:Chn}(h:qdr c=true):1≤c.1.length∧c.1.length≤6∧1≤c.2∧c.2≤20:=by
 unfold qdr at h
 simp only[Bool.and_eq_true,q7] at h
 omega
theorem qFn(n:Nat)(c:Chn)(l:List Msg)(V:Vld c l)(hl:l.length≤12)(hn:2000≤n):qk2 n (c,(l,()))=some (0,()):=by
 obtain ⟨h1,h2,h3,h4⟩:=qsZ V.ch
 have hs:∀z,z∈l→z.2.2.2.2.length≤1000:=fun z hz=>by have:=V.st z hz;omega
 obtain ⟨u,hu⟩:=qt4 n c l (by omega) (by omega) (by omega) (by omega) hs hn
 rw[show (l.any fun m=>!mesB c m)=false by rw[List.any_eq_false];intro m hm;rw[V.ms m hm];simp] at hu
 rw[qsT,qH5 n c (by omega) hn,V.ch]
 simp only[Option.bind_some,Bool.not_true,cond_false]
 rw[qm4]
 have c1:iGt (l.length:Int) 40=false:=by unfold iGt;exact decide_eq_false (by omega)
 simp only[c1,cond_false,hu,Option.bind_some,qtj n l hl hs hn]
 rw[qFm n (qfT l) (by have:=qsY l;omega) (qwc _) (fun x y hx hy=>qpe V.cl x y (qkj.1 hx) (qkj.1 hy)) hn]
 rfl
theorem qD5(n:Nat)(a:Ty.den T77)(l:List (Ty.den T77)):qf5 n (a::l,())=Option.bind (qbb (Nat.ble (nAdd (0:Nat) (List.length (a::l))) 2513169434916)) fun _=>(some ((List.append [] (a::l)),())):=by kernel_rfl
theorem qHi(n:Nat):qf8 n ([],())=some ([],()):=by kernel_rfl
theorem qHj(n:Nat)(a:Msg)(l:List Msg):qf8 n (a::l,())=qf5 n (a::l,()):=by kernel_rfl
theorem qHk(n:Nat)(l:List Msg)(hl:l.length≤1000):qf8 n (l,())=some (l,()):=by
 cases l with
 | nil=>exact qHi n
 | cons a l =>
  rw[qHj]
  refine (qD5 n a l).trans ?_
  rw[qcC (by rw[Nat.ble_eq];exact Nat.le_trans (Nat.le_of_eq (Nat.zero_add _)) (Nat.le_trans hl (by decide)))]
  rfl
def canc(all:List Msg)(m:Msg):Bool:=all.any fun x=>decide (x.1=2)&&decide (x.2.1=m.2.1)
def gone(all:List Msg)(m:Msg):Bool:=decide (m.1=2)||canc all m
theorem qIR(n:Nat)(all:List Msg)(m:Msg)(hl:all.length≤1000)(hn:2000≤n):∃u,qcS n (all,(m,()))=some (canc all m,u):=by
 rw[qiB,qjp]
 have h3:=qeI (step:=qcZ n) all (fun k=>(all,((all.length:Int),((k:Int),(m,()))))) (fun x=>decide (x.1=2)&&decide (x.2.1=m.2.1)) (fun k=>.inr ((k:Int),(m,()))) (.inl (m,())) (fun rec k hk=>by
  rw[qeH]
  simp only[qv hk,cond_true,qw all hk,Option.bind_some,quK,qi (show k<9223372036854775807 by omega)]
  by_cases h1:all[k].1=2
  ·rw[qb4 h1]
   by_cases h2:all[k].2.1=m.2.1
   ·rw[qb4 h2];simp[h1,h2]
   ·rw[qfS h2];simp[h2]
  ·rw[qfS h1];simp[h1]) (fun rec=>by
  rw[qeH]
  simp only[qB,cond_false]) (n:=n) (by omega)
 show ∃u,Option.bind (Option.bind (qb n _ (all,((all.length:Int),(((0:Nat):Int),(m,()))))) _) _=_
 unfold canc
 rcases h3 with ⟨h4,h5⟩ | ⟨k,hk,h4,_,h5⟩
 ·rw[h5,h4];exact ⟨_,rfl⟩
 ·rw[h5,show (all.any fun x=>decide (x.1=2)&&decide (x.2.1=m.2.1))=true from List.any_eq_true.2 ⟨_,List.getElem_mem hk,h4⟩]
  refine ⟨(m,()),?_⟩
  show some (iGe (k:Int) 0,(m,()))=_
  simp[iGe]
theorem qC6(n:Nat)(all:List Msg)(m:Msg)(hl:all.length≤1000)(hn:2000≤n):qmt n (m,(all,()))=some (gone all m,(all,())):=by
 rw[qv6]
 unfold gone
 obtain ⟨u,hu⟩:=qIR n all m hl hn
 by_cases h:m.1=2
 ·rw[qb4 h];simp[h]
 ·rw[qfS h]
  simp only[cond_false,hu,Option.bind_some,h,decide_false,Bool.false_or]
theorem qCt(n:Nat)(all l:List Msg)(hl:l.length≤1000)(ha:all.length≤1000)(hn:2000≤n) :
  (l.any (gone all)=false∧qbJ n (l,(all,()))=some (-1,(l,(all,()))))∨(∃k,∃hk:k<l.length,gone all l[k]=true∧(l.take k).any (gone all)=false∧qbJ n (l,(all,()))=some ((k:Int),(l,(all,())))):=by
 rw[qiR]
 have h3:=qeI (step:=qcM n) l (fun k=>((l.length:Int),((k:Int),(l,(all,()))))) (gone all) (fun k=>.inr ((k:Int),(l,(all,())))) (.inl (l,(all,()))) (fun rec k hk=>by
  rw[qes]
  simp only[qv hk,cond_true,qw l hk,qlR,List.getElem?_eq_getElem hk,Option.bind_some,qC6 n all _ ha hn,qi (show k<9223372036854775807 by omega)]) (fun rec=>by
  rw[qes]
  simp only[qB,cond_false]) (n:=n) (by omega)
 rcases h3 with ⟨h4,h5⟩ | ⟨k,hk,h4,h6,h5⟩
 ·refine .inl ⟨h4,?_⟩
  show Option.bind (qb n _ ((l.length:Int),(((0:Nat):Int),(l,(all,()))))) _=_
  rw[h5];rfl
 ·refine .inr ⟨k,hk,h4,h6,?_⟩
  show Option.bind (qb n _ ((l.length:Int),(((0:Nat):Int),(l,(all,()))))) _=_
  rw[h5];rfl
theorem qJO(n len:Nat)(all:List Msg)(ha:all.length≤1000)(hn:2000≤n)(hlen:len≤1000):∀(rest C G:List Msg) (g:Msg) (n':Nat),C.length+G.length+1+rest.length=len→rest.length<n' →
  ∃E:List Msg,qb n' (qc0 n) ((C.length:Int),(((C.length+(G.length+1):Nat):Int),((C++(g::(G++rest))),(all,()))))=some (((C++rest.filter fun m=>!gone all m).length:Int),((C++rest.filter fun m=>!gone all m)++E,(all,())))∧((C++rest.filter fun m=>!gone all m)++E).length=len:=by
 intro rest
 induction rest with
 | nil =>
  intro C G g n' hl hn'
  obtain ⟨n',rfl⟩:∃m,n'=m+1:=⟨n'-1,by omega⟩
  rw[qc,qeW]
  have:iLt ((C.length+(G.length+1):Nat):Int) ((List.length (C++g::G):Nat):Int)=false:=by unfold iLt;exact decide_eq_false (by simp)
  simp only[this,cond_false,List.append_nil,List.filter_nil]
  exact ⟨g::G,rfl,by simp at hl ⊢;omega⟩
 | cons y rest ih =>
  intro C G g n' hl hn'
  obtain ⟨n',rfl⟩:∃m,n'=m+1:=⟨n'-1,by omega⟩
  simp only[List.length_cons] at hl hn'
  have e1:(C++g::(G++y::rest))[C.length+(G.length+1)]?=some y:=by
   rw[List.getElem?_append_right (by omega),show C.length+(G.length+1)-C.length=G.length+1 by omega,List.getElem?_cons_succ,List.getElem?_append_right (Nat.le_refl _),Nat.sub_self];rfl
  have e0:(C++g::(G++y::rest))[C.length]?=some g:=by simp
  have c1:iLt ((C.length+(G.length+1):Nat):Int) ((List.length (C++g::(G++y::rest)):Nat):Int)=true:=by unfold iLt;exact decide_eq_true (by simp;omega)
  rw[qc,qeW]
  simp only[c1,cond_true,qi8,qlR,e1,e0,Option.bind_some,qC6 n all y ha hn,qi (show C.length<9223372036854775807 by omega),qi (show C.length+(G.length+1)<9223372036854775807 by omega)]
  cases hg:gone all y with
  | true =>
   simp only[Bool.not_true,cond_false]
   obtain ⟨E,h2,h3⟩:=ih C (G++[y]) g n' (by simp;omega) (by omega)
   rw[List.filter_cons_of_neg (by simp[hg])]
   simp only[List.append_assoc,List.cons_append,List.nil_append,List.length_append,List.length_cons,List.length_nil,Nat.zero_add] at h2 h3 ⊢
   exact ⟨E,h2,h3⟩
  | false =>
   simp only[Bool.not_false,cond_true]
   rw[List.filter_cons_of_pos (by simp[hg]),show (C++g::(G++y::rest)).set C.length y=C++y::(G++y::rest) by simp]
   cases G with
   | nil =>
    obtain ⟨E,h2,h3⟩:=ih (C++[y]) [] y n' (by simp at hl ⊢;omega) (by omega)
    simp only[List.append_assoc,List.cons_append,List.nil_append,List.length_append,List.length_cons,List.length_nil,Nat.zero_add] at h2 h3 ⊢
    exact ⟨E,h2,h3⟩
   | cons g2 G =>
    obtain ⟨E,h2,h3⟩:=ih (C++[y]) (G++[y]) g2 n' (by simp at hl ⊢;omega) (by omega)
    simp only[List.append_assoc,List.cons_append,List.nil_append,List.length_append,List.length_cons,List.length_nil,Nat.zero_add] at h2 h3 ⊢
    refine ⟨E,?_,h3⟩
    rw[← h2,show C.length+(G.length+1+1)+1=C.length+1+(G.length+1+1) by omega]
theorem qCu{l:List Msg}{k:Nat}{p:Msg→Bool}(hk:k<l.length)(h1:p l[k]=true)(h2:(l.take k).any p=false):l.filter (fun m=>!p m)=l.take k++(l.drop (k+1)).filter fun m=>!p m:=by
 have e:l=l.take k++l[k]::l.drop (k+1):=by simp
 conv=>lhs;rw[e]
 rw[List.filter_append,List.filter_cons_of_neg (by simp[h1])]
 congr 1
 rw[List.filter_eq_self]
 intro x hx
 rw[List.any_eq_false] at h2
 have:=h2 x hx
 simpa using this
theorem qFo(n:Nat)(all l:List Msg)(hl:l.length≤1000)(ha:all.length≤1000)(hn:2000≤n):∃(l2:List Msg) (w:Nat),qdj n (l,(all,()))=some (l2,(all,((0,w),())))∧w≤l2.length∧l2.take w=l.filter fun m=>!gone all m:=by
 rw[qjI]
 rcases qCt n all l hl ha hn with ⟨h1,h2⟩ | ⟨k,hk,h1,h3,h2⟩
 ·rw[h2]
  refine ⟨l,l.length,rfl,Nat.le_refl _,?_⟩
  rw[List.take_length,eq_comm,List.filter_eq_self]
  intro x hx
  rw[List.any_eq_false] at h1
  simpa using h1 x hx
 ·rw[h2]
  simp only[Option.bind_some]
  rw[show iEq (k:Int) (Int.negSucc 0)=false from qfS (by omega)]
  simp only[cond_false,qi (show k<9223372036854775807 by omega)]
  obtain ⟨E,h4,h5⟩:=qJO n l.length all ha hn hl (l.drop (k+1)) (l.take k) [] l[k] n (by simp;omega) (by simp;omega)
  rw[List.nil_append] at h4
  rw[show l.take k++l[k]::l.drop (k+1)=l by simp,List.length_take,Nat.min_eq_left (Nat.le_of_lt hk)] at h4
  rw[← qCu hk h1 h3] at h4 h5
  rw[show k+(([]:List Msg).length+1)=k+1 by rfl] at h4
  rw[h4]
  simp only[Option.bind_some]
  obtain ⟨D,hD⟩:∃D,D=l.filter fun m=>!gone all m:=⟨_,rfl⟩
  rw[← hD] at h5 ⊢
  rw[qrE (by simp)]
  simp only[Option.bind_some]
  have hDle:D.length≤l.length:=by rw[← h5];simp
  rw[qcC (by rw[Nat.ble_eq,h5];omega)]
  simp only[Option.bind_some]
  rw[qrE (by first | (simp[List.append_eq];done) | (simp[List.append_eq];omega))]
  simp only[Option.bind_some]
  refine ⟨_,_,rfl,by first | (simp[List.append_eq];done) | (simp[List.append_eq];omega),?_⟩
  simp[List.append_eq]
def qlt(x y:Msg):Bool:=decide (cmpQ x y<0)
def qwF(l:List Msg):List Msg:=(qfT l).filter fun m=>!gone (qfT l) m
def qkk(l:List Msg):List Msg:=qkQ qlt (qwF l)
theorem qrx{l:List Msg}{x:Msg}:x∈qkk l↔x∈l∧gone (qfT l) x=false:=by
 unfold qkk qwF
 rw[(qki _ _).mem_iff,List.mem_filter,qkj]
 simp
theorem qyK(l:List Msg):(qkk l).length≤l.length:=by
 unfold qkk qwF
 rw[(qki _ _).length_eq]
 exact Nat.le_trans (List.length_filter_le _ _) (qsY l)
theorem qHl(n:Nat)(l:List Msg)(hl:l.length≤12)(hs:∀z,z∈l→z.2.2.2.2.length≤1000)(hn:2000≤n):qr1 n (l,())=some (qkk l,()):=by
 have hd:=qsY l
 rw[qyG]
 simp only[qtj n l hl hs hn,Option.bind_some,qHk n (qfT l) (by omega)]
 obtain ⟨l2,w,h1,h2,h3⟩:=qFo n (qfT l) (qfT l) (by omega) (by omega) hn
 rw[h1]
 simp only[Option.bind_some,show Nat.beq 0 0=true from rfl,cond_true]
 rw[show Nat.ble w l2.length=true by rw[Nat.ble_eq];exact h2,h3]
 simp only[cond_true]
 show Option.bind (qcm n (((),()),(qwF l,()))) _=_
 rw[qIK n (qwF l) (by unfold qwF;exact Nat.le_trans (List.length_filter_le _ _) (by omega)) hn]
 rfl
abbrev Spot:=Int×Int
abbrev Used:=List (Spot×Int)
def valL(x:Spot):Used→Int
 | []=>0
 | p::l=>if x=p.1 then p.2 else valL x l
def putL(x:Spot)(v:Int):Used→Used
 | []=>[(x,v)]
 | p::l=>if x=p.1 then (p.1,v)::l else p::putL x v l
def hasU(x:Spot):Used→Bool
 | []=>false
 | p::l=>if x=p.1 then true else hasU x l
def ixL(x:Spot):Used→Nat
 | []=>0
 | p::l=>if x=p.1 then 0 else ixL x l+1
theorem qJP(a b:Spot):Ty.eqB T150 a b=decide (a=b):=by
 obtain ⟨a1,a2⟩:=a
 obtain ⟨b1,b2⟩:=b
 show ((a1==b1)&&(a2==b2))=_
 by_cases h1:a1=b1<;>by_cases h2:a2=b2<;>simp[h1,h2]
theorem qAM(x:Spot):∀(l:Used) (i:Nat),mpAt T150 x l i=if hasU x l then some (i+ixL x l,valL x l) else none
 | [],_=>rfl
 | p::l,i=>by
  unfold hasU ixL valL
  show (match T150.eqB x p.1 with
   | true=>some (i,p.2)
   | false=>mpAt T150 x l (i+1))=_
  rw[show T150.eqB x p.1=decide (x=p.1) from qJP x p.1]
  by_cases h:x=p.1
  ·rw[if_pos h,if_pos h,if_pos h,show decide (x=p.1)=true from decide_eq_true h]
   rfl
  ·rw[if_neg h,if_neg h,if_neg h,show decide (x=p.1)=false from decide_eq_false h]
   show mpAt T150 x l (i+1)=_
   rw[qAM x l (i+1)]
   congr 2
   rw[show i+1+ixL x l=i+(ixL x l+1) by omega]
theorem qyL{x:Spot}{v:Int}:∀{l:Used},hasU x l=false→valL x l=0∧putL x v l=l++[(x,v)]∧ixL x l=l.length
 | [],_=>⟨rfl,rfl,rfl⟩
 | p::l,h=>by
  unfold hasU at h
  split at h
  ·cases h
  ·rename_i hx
   obtain ⟨h1,h2,h3⟩:=qyL (v:=v) h
   unfold valL putL ixL
   rw[if_neg hx,if_neg hx,if_neg hx,h1,h2,h3]
   exact ⟨rfl,rfl,rfl⟩
theorem qC7{x:Spot}{v:Int}:∀{l:Used},hasU x l=true→qj0 (ixL x l) v l=putL x v l∧ixL x l<l.length
 | [],h=>by cases h
 | p::l,h=>by
  unfold hasU at h
  unfold ixL putL
  split at h
  ·rename_i hx
   rw[if_pos hx,if_pos hx]
   exact ⟨rfl,by simp⟩
  ·rename_i hx
   rw[if_neg hx,if_neg hx]
   obtain ⟨h1,h2⟩:=qC7 (v:=v) h
   refine ⟨?_,by simp;omega⟩
   rw[← h1]
   simp[qj0]
theorem qBL(x:Spot)(l:Used):qeu T150 (0:Int) x l=valL x l:=by
 unfold qeu
 rw[qAM x l 0]
 cases h:hasU x l with
 | true=>rfl
 | false=>exact (qyL (v:=0) h).1.symm
theorem qIS(x:Spot)(l:Used):mpIx T150 x l=ixL x l:=by
 unfold mpIx
 rw[qAM x l 0]
 cases h:hasU x l with
 | true=>show 0+ixL x l=_;omega
 | false=>exact (qyL (v:=0) h).2.2.symm
theorem qHm(x:Spot)(l:Used):qjC T150 (0:Int) x l=if hasU x l then l else l++[(x,0)]:=by
 unfold qjC
 rw[qAM x l 0]
 cases h:hasU x l with
 | true=>rfl
 | false=>rfl
theorem qC8{α:Type}(a:α)(f:α→α):∀l:List α,List.modify (l++[a]) l.length f=l++[f a]
 | []=>rfl
 | b::l=>by
  have:=qC8 a f l
  simp only[List.cons_append,List.length_cons,List.modify_succ_cons,this]
theorem qIT{α:Type}(a:α)(l:List α):l.length<(l++[a]).length:=by simp
theorem qJQ(x:Spot)(v:Int)(l:Used):qj0 (ixL x l) v (qjC T150 (0:Int) x l)=putL x v l∧ixL x l<(qjC T150 (0:Int) x l).length:=by
 rw[qHm]
 cases h:hasU x l with
 | true=>exact qC7 h
 | false =>
  obtain ⟨_,h2,h3⟩:=qyL (v:=v) h
  rw[h2,h3]
  exact ⟨qC8 (x,(0:Int)) (fun p=>(p.1,v)) l,qIT (x,(0:Int)) l⟩
theorem qxS(x z:Spot)(v:Int):∀(l:Used),valL z (putL x v l)=if z=x then v else valL z l
 | []=>by simp[putL,valL]
 | p::l=>by
  unfold putL
  split
  ·rename_i hx
   unfold valL
   by_cases h:z=x
   ·rw[if_pos h,if_pos (by rw[h,hx])]
   ·rw[if_neg h,if_neg (by rw[← hx];exact h),if_neg (by rw[← hx];exact h)]
  ·rename_i hx
   unfold valL
   by_cases h:z=p.1
   ·rw[if_pos h,if_pos h,if_neg (fun e=>hx (by rw[← e,h]))]
   ·rw[if_neg h,if_neg h,qxS x z v l]
def addU(p:Int)(sps:List Spot)(u:Used):Used:=sps.foldl (fun u s=>putL s (valL s u+p) u) u
theorem qBM(p:Int)(z:Spot):∀(sps:List Spot) (u:Used),sps.Nodup→valL z (addU p sps u)=if z∈sps then valL z u+p else valL z u
 | [],u,_=>by simp[addU]
 | s::sps,u,hn=>by
  rw[List.nodup_cons] at hn
  have ih:=qBM p z sps (putL s (valL s u+p) u) hn.2
  show valL z (addU p sps (putL s (valL s u+p) u))=_
  rw[ih,qxS]
  by_cases h:z=s
  ·subst h
   rw[if_neg hn.1]
   simp
  ·simp[h]
theorem qtk(h:Int):∀(n:Nat) (lo:Int) (s:Spot),s∈ql5 h lo n→s.1=h∧lo≤s.2∧s.2<lo+n
 | n+1,lo,s,hs=>by
  rcases List.mem_cons.1 hs with rfl | hs
  ·exact ⟨rfl,by simp,by simp;omega⟩
  ·obtain ⟨h1,h2,h3⟩:=qtk h n (lo+1) s hs
   exact ⟨h1,by omega,by omega⟩
theorem qu8(h:Int):∀(n:Nat) (lo:Int),(ql5 h lo n).Nodup
 | 0,_=>List.nodup_nil
 | n+1,lo=>by
  rw[ql5,List.nodup_cons]
  refine ⟨fun hm=>?_,qu8 h n (lo+1)⟩
  have:=(qtk h n (lo+1) _ hm).2.1
  simp at this
  omega
theorem qAj(nh nn:Int):∀(ss:List Stay) (last:Int),qhX nh nn last ss=true→(∀s,s∈qc4 ss→(0≤s.1∧s.1≤nh-1)∧last<s.2∧s.2<nn)∧(qc4 ss).Nodup∧(∀s,s∈ss→last<s.2.1∧s.2.2<nn)
 | [],_,_=>⟨fun s hs=>(by cases hs),List.nodup_nil,fun s hs=>(by cases hs)⟩
 | s::ss,last,h=>by
  unfold qhX at h
  simp only[Bool.and_eq_true,decide_eq_true_eq,q7] at h
  obtain ⟨⟨h1,h2,h3,h4⟩,h5⟩:=h
  obtain ⟨i1,i2,i3⟩:=qAj nh nn ss s.2.2 h5
  have hm:∀z,z∈qtG s→z.1=s.1∧s.2.1≤z.2∧z.2≤s.2.2:=fun z hz=>by
   obtain ⟨a,b,c⟩:=qtk _ _ _ _ hz
   exact ⟨a,b,by omega⟩
  refine ⟨fun z hz=>?_,?_,fun z hz=>?_⟩
  ·rcases List.mem_append.1 hz with hz | hz
   ·obtain ⟨a,b,c⟩:=hm z hz
    exact ⟨by rw[a];exact h1,by omega,by omega⟩
   ·obtain ⟨a,b,c⟩:=i1 z hz
    exact ⟨a,by omega,c⟩
  ·show (qtG s++qc4 ss).Nodup
   rw[List.nodup_append]
   refine ⟨qu8 _ _ _,i2,fun x hx y hy e=>?_⟩
   subst e
   have:=hm x hx
   have:=i1 x hy
   omega
  ·rcases List.mem_cons.1 hz with rfl | hz
   ·exact ⟨h2,h4⟩
   ·have:=i3 z hz
    exact ⟨by omega,this.2⟩
def qyM(c:Chn)(h:Int):Int:=match lat c.1 h with
 | some y=>y.1
 | none=>0
def okS(c:Chn)(s:Spot):Prop:=0≤s.1∧s.1≤(c.1.length:Int)-1
theorem qyN{c:Chn}(hc:qdr c=true){s:Spot}(h:okS c s):∃y,lat c.1 s.1=some y∧hutB y=true∧qyM c s.1=y.1:=by
 unfold okS at h
 obtain ⟨k,hk⟩:∃k:Nat,s.1=k:=⟨s.1.toNat,by omega⟩
 have hlt:k<c.1.length:=by omega
 have e:lat c.1 s.1=some (c.1[k]):=by rw[hk,qw c.1 hlt]
 refine ⟨_,e,?_,by unfold qyM;rw[e]⟩
 unfold qdr at hc
 simp only[Bool.and_eq_true,List.all_eq_true] at hc
 exact hc.1 _ (List.getElem_mem hlt)
def lft(c:Chn)(u:Used)(s:Spot):Int:=qyM c s.1-valL s u
theorem qIU(n:Nat)(c:Chn)(hc:qdr c=true)(a w:List Msg)(u:Used)(s:Spot)(hs:okS c s)(h1:-1000≤valL s u)(h2:valL s u≤1000):qlJ n (s,((c,()),(a,(w,(u,())))))=some (lft c u s,((c,()),(a,(w,(u,()))))):=by
 obtain ⟨y,e1,e2,e3⟩:=qyN hc hs
 unfold hutB at e2
 simp only[Bool.and_eq_true,q7] at e2
 rw[qsr]
 simp only[e1,Option.bind_some,qBL]
 rw[qM (by unfold iSub;omega) (by unfold iSub;omega)]
 unfold lft iSub
 rw[e3]
def qt5(c:Chn)(u:Used)(m:Msg):Bool:=(qc4 m.2.2.2.2).any fun s=>decide (m.2.2.2.1-lft c u s>0)
theorem qBN(n:Nat)(c:Chn)(hc:qdr c=true)(a w:List Msg)(u:Used)(m:Msg)(hp:0≤m.2.2.2.1∧m.2.2.2.1≤1000):∀(sps:List Spot),(∀s,s∈sps→okS c s∧-1000≤valL s u∧valL s u≤1000) →
  ((sps.any fun s=>decide (m.2.2.2.1-lft c u s>0))=false∧rgF (qhh n) (sps.map fun y=>(y,())) ((c,()),(a,(w,(u,(m,(((0:Int),(0:Int)),((0:Int),())))))))=some (.inl ((c,()),(a,(w,(u,(m,(((0:Int),(0:Int)),((0:Int),())))))))))
  ∨ (∃(sp:Spot) (k:Int),(sps.any fun s=>decide (m.2.2.2.1-lft c u s>0))=true∧0<k∧rgF (qhh n) (sps.map fun y=>(y,())) ((c,()),(a,(w,(u,(m,(((0:Int),(0:Int)),((0:Int),())))))))=some (.inr ((c,()),(a,(w,(u,(sp,(k,()))))))))
 | [],_=>.inl ⟨rfl,rfl⟩
 | s::sps,h=>by
  obtain ⟨h1,h2,h3⟩:=h s List.mem_cons_self
  have ih:=qBN n c hc a w u m hp sps fun z hz=>h z (List.mem_cons_of_mem _ hz)
  obtain ⟨y,e1,e2,e3⟩:=qyN hc h1
  unfold hutB at e2
  simp only[Bool.and_eq_true,q7] at e2
  have hl:-2000≤lft c u s∧lft c u s≤2000:=by unfold lft;rw[e3];omega
  rw[List.map_cons,rgF,qqY]
  simp only[qIU n c hc a w u s h1 h2 h3,Option.bind_some]
  rw[qM (n:=iSub m.2.2.2.1 (lft c u s)) (by unfold iSub;omega) (by unfold iSub;omega)]
  by_cases h4:m.2.2.2.1-lft c u s>0
  ·refine .inr ⟨s,iSub m.2.2.2.1 (lft c u s),by rw[List.any_cons,decide_eq_true h4];rfl,h4,?_⟩
   rw[show iGt (iSub m.2.2.2.1 (lft c u s)) 0=true from decide_eq_true h4]
   rfl
  ·rw[show iGt (iSub m.2.2.2.1 (lft c u s)) 0=false from decide_eq_false h4,List.any_cons,decide_eq_false h4,Bool.false_or]
   exact ih
structure MsgOk (c:Chn) (m:Msg):Prop where
 p1:1≤m.2.2.2.1
 p2:m.2.2.2.1≤20
 sp:∀s,s∈qc4 m.2.2.2.2→okS c s
 nd:(qc4 m.2.2.2.2).Nodup
 sd:qrV m.2.2.2.2=some ((qc4 m.2.2.2.2).map qyA)
theorem qHn{c:Chn}{m:Msg}(hc:qdr c=true)(h:mesB c m=true)(hk:m.1≠2):MsgOk c m:=by
 obtain ⟨c1,c2,c3,c4⟩:=qsZ hc
 unfold mesB canB reqB at h
 rw[show decide (m.1=2)=false from decide_eq_false hk] at h
 simp only[Bool.false_and,Bool.false_or,Bool.and_eq_true,decide_eq_true_eq,q7] at h
 obtain ⟨h0,h1,h2,h3,h4,h5⟩:=h
 obtain ⟨i1,i2,i3⟩:=qAj _ _ _ _ h5
 refine ⟨h3.1,h3.2,fun s hs=>(i1 s hs).1,i2,?_⟩
 unfold qrV
 rw[show qvX m.2.2.2.2=true from ?_]
 ·rfl
 ·unfold qvX
  simp only[Bool.and_eq_true,Nat.ble_eq,List.all_eq_true,decide_eq_true_eq]
  exact ⟨by omega,fun s hs=>by have:=i3 s hs;omega⟩
def Inv(c:Chn)(u:Used):Prop:=∀s,okS c s→0≤valL s u∧valL s u≤qyM c s.1
theorem Inv.b{c:Chn}{u:Used}(h:Inv c u)(hc:qdr c=true){s:Spot}(hs:okS c s):0≤valL s u∧valL s u≤20:=by
 obtain ⟨y,e1,e2,e3⟩:=qyN hc hs
 unfold hutB at e2
 simp only[Bool.and_eq_true,q7] at e2
 have:=h s hs
 rw[e3] at this
 omega
theorem qHo(n:Nat)(c:Chn)(hc:qdr c=true)(a w:List Msg)(u:Used)(m:Msg)(hm:MsgOk c m)(hu:Inv c u):∃(sp:Spot) (k:Int),qk3 n (m,((c,()),(a,(w,(u,())))))=some (sp,(k,((c,()),(a,(w,(u,()))))))∧iGt k 0=qt5 c u m:=by
 rw[qr5,qsU]
 simp only[Option.bind_some,hm.sd]
 have hp:=hm.p1
 have hp2:=hm.p2
 have:=qBN n c hc a w u m (by omega) (qc4 m.2.2.2.2) (fun s hs=>by have:=hu.b hc (hm.sp s hs);exact ⟨hm.sp s hs,by omega,by omega⟩)
 rcases this with ⟨h1,h2⟩ | ⟨sp,k,h1,h2,h3⟩
 ·refine ⟨(0,0),0,?_,?_⟩
  ·refine (congrArg (fun o=>Option.bind o _) h2).trans ?_
   rfl
  ·unfold qt5;rw[h1];rfl
 ·refine ⟨sp,k,?_,?_⟩
  ·refine (congrArg (fun o=>Option.bind o _) h3).trans ?_
   rfl
  ·unfold qt5;rw[h1];exact decide_eq_true h2
theorem qFp(n:Nat)(q:List Msg)(ln i:Int)(c:Chn)(a w:List Msg)(m:Msg)(hp:0≤m.2.2.2.1∧m.2.2.2.1≤1000):∀(sps:List Spot) (u:Used),sps.Nodup→(∀s,s∈sps→-1000≤valL s u∧valL s u≤1000) →
  rgF (qiQ n) (sps.map fun y=>(y,())) (q,(ln,(i,((c,()),(a,(w,(u,(m,()))))))))=some (.inl (q,(ln,(i,((c,()),(a,(w,(addU m.2.2.2.1 sps u,(m,()))))))))) 
 | [],u,_,_=>rfl
 | s::sps,u,hn,h=>by
  obtain ⟨h1,h2⟩:=h s List.mem_cons_self
  rw[List.nodup_cons] at hn
  obtain ⟨p1,p2⟩:=qJQ s (valL s u+m.2.2.2.1) u
  rw[List.map_cons,rgF,qss]
  simp only[qIS,qBL]
  rw[qrE (by omega)]
  simp only[Option.bind_some]
  rw[qcC (by rw[Nat.ble_eq];unfold nAdd;omega)]
  simp only[Option.bind_some]
  rw[qM (n:=iAdd (valL s u) m.2.2.2.1) (by unfold iAdd;omega) (by unfold iAdd;omega)]
  refine Eq.trans (congrArg (fun z:Used=>rgF (qiQ n) (sps.map fun y=>(y,())) (q,(ln,(i,((c,()),(a,(w,(z,(m,()))))))))) p1) ?_
  exact qFp n q ln i c a w m hp sps _ hn.2 fun z hz=>by
   have:z≠s:=fun e=>hn.1 (by rw[← e];exact hz)
   rw[qxS,if_neg this]
   exact h z (List.mem_cons_of_mem _ hz)
abbrev DecS:=List Msg×(List Msg×Used)
def dcF(c:Chn)(d:DecS)(m:Msg):DecS:=if qt5 c d.2.2 m then (d.1,(d.2.1++[m],d.2.2)) else (d.1++[m],(d.2.1,addU m.2.2.2.1 (qc4 m.2.2.2.2) d.2.2))
theorem qHp{c:Chn}{d:DecS}{m:Msg}(hm:MsgOk c m)(h:Inv c d.2.2):Inv c (dcF c d m).2.2:=by
 unfold dcF
 split
 ·exact h
 ·rename_i hs
  intro s hsp
  show 0≤valL s (addU m.2.2.2.1 (qc4 m.2.2.2.2) d.2.2)∧valL s (addU m.2.2.2.1 (qc4 m.2.2.2.2) d.2.2)≤_
  rw[qBM _ _ _ _ hm.nd]
  have h1:=h s hsp
  have:=hm.p1
  split
  ·rename_i hmem
   simp only[qt5,List.any_eq_true,decide_eq_true_eq,not_exists,not_and] at hs
   have:=hs s hmem
   unfold lft at this
   omega
  ·exact h1
theorem qJR(n:Nat)(c:Chn)(hc:qdr c=true)(q:List Msg)(hq:∀m,m∈q→MsgOk c m)(hl:q.length≤1000):∀(j k:Nat) (d:DecS) (n':Nat),k+j=q.length→j<n'→Inv c d.2.2→d.1.length+d.2.1.length≤k →
  qb n' (qlK n) (q,((q.length:Int),((k:Int),((c,()),(d.1,(d.2.1,(d.2.2,())))))))=some ((c,()),(((q.drop k).foldl (dcF c) d).1,(((q.drop k).foldl (dcF c) d).2.1,(((q.drop k).foldl (dcF c) d).2.2,())))):=by
 intro j
 induction j with
 | zero =>
  intro k d n' hk hn' hi hd
  obtain ⟨n',rfl⟩:∃m,n'=m+1:=⟨n'-1,by omega⟩
  have:k=q.length:=by omega
  subst this
  rw[qc,qny,List.drop_length]
  simp only[qB,cond_false]
  rfl
 | succ j ih =>
  intro k d n' hk hn' hi hd
  obtain ⟨n',rfl⟩:∃m,n'=m+1:=⟨n'-1,by omega⟩
  have hlt:k<q.length:=by omega
  have hm:=hq _ (List.getElem_mem hlt)
  obtain ⟨sp,kk,h1,h2⟩:=qHo n c hc d.1 d.2.1 d.2.2 q[k] hm hi
  have hinv:=qHp hm hi
  have hfold:(q.drop k).foldl (dcF c) d=(q.drop (k+1)).foldl (dcF c) (dcF c d q[k]):=by rw[List.drop_eq_getElem_cons hlt];rfl
  rw[hfold]
  have ih':=ih (k+1) (dcF c d q[k]) n' (by omega) (by omega) hinv (by unfold dcF;split<;>simp<;>omega)
  rw[qc,qny]
  simp only[qv hlt,cond_true,qw q hlt,Option.bind_some,h1,qi (show k<9223372036854775807 by omega)]
  rw[h2]
  cases hs:qt5 c d.2.2 q[k] with
  | true =>
   have hdf:dcF c d q[k]=(d.1,(d.2.1++[q[k]],d.2.2)):=by unfold dcF;rw[if_pos hs]
   simp only[cond_true]
   rw[qcC (by rw[Nat.ble_eq];unfold nAdd;omega)]
   simp only[Option.bind_some]
   rw[hdf] at ih' ⊢
   exact ih'
  | false =>
   have hdf:dcF c d q[k]=(d.1++[q[k]],(d.2.1,addU q[k].2.2.2.1 (qc4 q[k].2.2.2.2) d.2.2)):=by unfold dcF;rw[if_neg (by rw[hs];simp)]
   simp only[cond_false]
   rw[qcC (by rw[Nat.ble_eq];unfold nAdd;omega)]
   simp only[Option.bind_some,qsU,hm.sd]
   have hp1:=hm.p1
   have hp2:=hm.p2
   have ha:=qFp n q q.length k c (d.1++[q[k]]) d.2.1 q[k] (by omega) (qc4 q[k].2.2.2.2) d.2.2 hm.nd (fun s hs=>by have:=hi.b hc (hm.sp s hs);omega)
   refine (congrArg (fun o=>Option.bind o _) ha).trans ?_
   simp only[Option.bind_some,Sum.elim_inl,qi (show k<9223372036854775807 by omega)]
   rw[hdf] at ih' ⊢
   exact ih'
def dcL(c:Chn)(q:List Msg):DecS:=q.foldl (dcF c) ([],([],[]))
theorem qFq(n:Nat)(c:Chn)(hc:qdr c=true)(q:List Msg)(hq:∀m,m∈q→MsgOk c m)(hl:q.length≤1000)(hn:2000≤n):qm2 n ((c,()),(q,()))=some ((c,()),((dcL c q).1,((dcL c q).2.1,((dcL c q).2.2,())))):=by
 rw[qt0]
 have h:=qJR n c hc q hq hl q.length 0 ([],([],[])) n (by omega) (by omega) (fun s hs=>by
  obtain ⟨y,e1,e2,e3⟩:=qyN hc hs
  unfold hutB at e2
  simp only[Bool.and_eq_true,q7] at e2
  show 0≤(0:Int)∧(0:Int)≤_
  rw[e3]
  omega) (by simp)
 rw[List.drop_zero] at h
 show Option.bind (qb n _ (q,((q.length:Int),(((0:Nat):Int),((c,()),([],([],([],())))))))) _=_
 rw[h]
 rfl
theorem qHq{c:Chn}{l:List Msg}(V:Vld c l):∀m,m∈qkk l→MsgOk c m:=fun m hm=>by
 obtain ⟨h1,h2⟩:=qrx.1 hm
 refine qHn V.ch (V.ms m h1) fun e=>?_
 unfold gone at h2
 rw[decide_eq_true e] at h2
 cases h2
def badS(c:Chn)(s:Spot):Bool:=!(wi s.1 0 (c.1.length-1)&&wi s.2 0 (c.2-1))
theorem qHr(n:Nat)(c:Chn)(s:Spot)(hc:qdr c=true):qp9 n (s,((c,()),()))=some (badS c s,((c,()),())):=by
 obtain ⟨h1,h2,h3,h4⟩:=qsZ hc
 rw[qwW]
 simp only[qFk n c _ (by omega),qBE n c _ (by omega) (by omega),Option.bind_some]
 unfold badS
 cases wi s.1 0 ((c.1.length:Int)-1)<;>cases wi s.2 0 (c.2-1)<;>rfl
theorem qHs(n:Nat)(c:Chn)(ps:List Spot)(hc:qdr c=true)(hl:ps.length≤100)(hn:2000≤n):qdv n (ps,((c,()),()))=some (ps.any (badS c),((c,()),())):=by
 rw[qjT,qkK]
 have h3:=qeI (step:=qdO n) ps (fun k=>(ps,((ps.length:Int),((k:Int),((c,()),()))))) (badS c) (fun k=>.inr ((k:Int),((c,()),()))) (.inl ((c,()),())) (fun rec k hk=>by
  rw[qfP]
  simp only[qv hk,cond_true,qw ps hk,Option.bind_some,qHr n c _ hc,qi (show k<9223372036854775807 by omega)]) (fun rec=>by
  rw[qfP]
  simp only[qB,cond_false]) (n:=n) (by omega)
 show Option.bind (Option.bind (qb n _ (ps,((ps.length:Int),(((0:Nat):Int),((c,()),()))))) _) _=_
 rcases h3 with ⟨h4,h5⟩ | ⟨k,hk,h4,_,h5⟩
 ·rw[h5,h4];rfl
 ·rw[h5,show ps.any (badS c)=true from List.any_eq_true.2 ⟨_,List.getElem_mem hk,h4⟩]
  show some (iGe (k:Int) 0,((c,()),()))=_
  simp[iGe]
def offL(c:Chn)(l:List Msg):DecS:=dcL c (qkk l)
theorem qIV(n:Nat)(c:Chn)(l:List Msg)(V:Vld c l)(ps:List Spot)(hl:l.length≤12)(hp:ps.length≤100)(hn:2000≤n) :
  qr2 n (c,(l,(ps,())))=some (cond (ps.any (badS c)) (.inr (1,())) (.inl (0,((c,()),((offL c l).1,((offL c l).2.1,((offL c l).2.2,()))))))):=by
 rw[qyH,qFn n c l V hl hn]
 simp only[Option.bind_some,qev rfl,cond_false,qHs n c ps V.ch hp hn]
 cases ps.any (badS c) with
 | true=>rfl
 | false =>
  have hs:∀z,z∈l→z.2.2.2.2.length≤1000:=fun z hz=>by have:=V.st z hz;omega
  simp only[cond_false,qHl n l hl hs hn,Option.bind_some,qFq n c V.ch (qkk l) (qHq V) (by have:=qyK l;omega) hn]
  rfl
theorem qJS(n:Nat)(l:List Msg)(hl:l.length≤1000)(hn:2000≤n):qtg n (l,())=some (l.map (·.2.1),()):=by
 rw[qzm]
 have h:=qrw (step:=qqX n) l (fun k b=>(l,((l.length:Int),((k:Int),(b,()))))) (fun b m=>b++[m.2.1]) ([]:List Int) (fun b=>(b,())) (fun rec k b hk hb=>by
  have hbl:b.length=k:=by
   rw[hb]
   have:∀(l:List Msg) (b:List Int),(l.foldl (fun b m=>b++[m.2.1]) b).length=b.length+l.length:=by
    intro l
    induction l with
    | nil=>intro b;rfl
    | cons x l ih=>intro b;rw[List.foldl_cons,ih];simp;omega
   rw[this];simp;omega
  rw[qr4]
  simp only[qv hk,cond_true,qw l hk,Option.bind_some,qi (show k<9223372036854775807 by omega)]
  rw[qcC (by rw[Nat.ble_eq];unfold nAdd;omega)]
  rfl) (fun rec b=>by
  rw[qr4]
  simp only[qB,cond_false]) (n:=n) (by omega)
 show Option.bind (qb n _ (l,((l.length:Int),(((0:Nat):Int),([],()))))) _=_
 rw[h]
 have:∀(l:List Msg) (b:List Int),l.foldl (fun b m=>b++[m.2.1]) b=b++l.map (·.2.1):=by
  intro l
  induction l with
  | nil=>intro b;simp
  | cons x l ih=>intro b;rw[List.foldl_cons,ih];simp
 rw[this]
 rfl
theorem qC9(c:Chn):∀(q:List Msg) (d:DecS),(q.foldl (dcF c) d).1.length+(q.foldl (dcF c) d).2.1.length=d.1.length+d.2.1.length+q.length
 | [],d=>rfl
 | m::q,d=>by
  rw[List.foldl_cons,qC9 c q]
  unfold dcF
  split<;>simp<;>omega
theorem qBO(c:Chn)(l:List Msg):(offL c l).1.length+(offL c l).2.1.length≤l.length:=by
 have:=qC9 c (qkk l) ([],([],[]))
 have h2:=qyK l
 unfold offL dcL
 simp at this
 omega
def accL(c:Chn)(l:List Msg):List Int:=qkQ (fun x y=>decide (x<y)) ((offL c l).1.map (·.2.1))
theorem qxf(n:Nat)(c:Chn)(l:List Msg)(V:Vld c l)(hl:l.length≤12)(hn:2000≤n):qmu n (c,(l,()))=some (accL c l,(0,())):=by
 have:=qBO c l
 rw[qv8]
 simp only[qIV n c l V [] hl (by simp) hn,List.any_nil,cond_false,Option.bind_some,Sum.elim_inl,qev rfl,qJS n (offL c l).1 (by omega) hn]
 rw[qIL n ((offL c l).1.map (·.2.1)) (by simp;omega) hn]
 rfl
def exC:Chn:=([(3,2),(2,0)],4)
def exL:List Msg:=[(1,(5,(10,(2,[(0,(0,1)),(1,(2,2))])))),(1,(3,(20,(2,[(0,(1,2))])))),(1,(8,(20,(1,[(0,(1,1)),(1,(2,3))])))),(1,(9,(30,(1,[(0,(1,3))]))))]
theorem qKB(n:Nat):qkt n ()=some (exC,(exL,())):=by
 rw[qrt]
 rfl
theorem qJT:Vld exC exL:=⟨by decide +kernel,by decide +kernel,by decide +kernel,by decide +kernel,by decide +kernel,by decide +kernel⟩
theorem qJU:accL exC exL=[5,9]:=by decide +kernel
section
variable {α:Type}
theorem qxg(lt:α→α→Bool)(key:α→Int)(x:α):∀(r:List α),(∀y,y∈r→(lt x y=true→key x≤key y)∧(lt x y=false→key y≤key x))→r.Pairwise (fun a b=>key b≤key a)→(insL lt x r).Pairwise (fun a b=>key b≤key a)
 | [],_,_=>by simp[insL]
 | y::r,h,hr=>by
  rw[List.pairwise_cons] at hr
  unfold insL
  cases hl:lt x y with
  | true =>
   simp only[cond_true]
   rw[List.pairwise_cons]
   refine ⟨fun z hz=>?_,qxg lt key x r (fun z hz=>h z (List.mem_cons_of_mem _ hz)) hr.2⟩
   rcases List.mem_cons.1 ((qsX lt x r).mem_iff.1 hz) with rfl | hz
   ·exact (h y List.mem_cons_self).1 hl
   ·exact hr.1 z hz
  | false =>
   simp only[cond_false]
   rw[List.pairwise_cons,List.pairwise_cons]
   have hy:=(h y List.mem_cons_self).2 hl
   exact ⟨fun z hz=>(by rcases List.mem_cons.1 hz with rfl | hz;exact hy;exact Int.le_trans (hr.1 z hz) hy),hr⟩
theorem qu9(lt:α→α→Bool)(key:α→Int):∀(l r:List α),(∀x y,x∈r++l→y∈r++l→(lt x y=true→key x≤key y)∧(lt x y=false→key y≤key x))→r.Pairwise (fun a b=>key b≤key a)→(qiH lt r l).Pairwise (fun a b=>key b≤key a)
 | [],r,_,hr=>hr
 | x::l,r,h,hr=>by
  rw[qiH]
  have hm:∀a,a∈insL lt x r++l→a∈r++x::l:=fun a ha=>by
   rcases List.mem_append.1 ha with ha | ha
   ·rcases List.mem_cons.1 ((qsX lt x r).mem_iff.1 ha) with rfl | ha<;>simp[*]
   ·simp[ha]
  exact qu9 lt key l _ (fun a b ha hb=>h a b (hm a ha) (hm b hb)) (qxg lt key x r (fun y hy=>h x y (by simp) (by simp[hy])) hr)
theorem qBP(lt:α→α→Bool)(key:α→Int)(l:List α)(h:∀x y,x∈l→y∈l→(lt x y=true→key x≤key y)∧(lt x y=false→key y≤key x)):(qkQ lt l).Pairwise (fun a b=>key a≤key b):=by
 unfold qkQ
 rw[List.pairwise_reverse]
 exact qu9 lt key l [] (by simpa using h) List.Pairwise.nil
end
section
variable {α:Type} [DecidableEq α]
theorem qzu:∀(l:List α) (p:α),(goC p l).Sublist l
 | [],_=>List.Sublist.refl _
 | y::l,p=>by
  unfold goC
  split
  ·exact (qzu l y).cons y
  ·exact (qzu l y).cons_cons y
theorem qBQ(l:List α):(qgj l).Sublist l:=by
 cases l with
 | nil=>exact List.Sublist.refl _
 | cons x l=>exact (qzu l x).cons_cons x
end
theorem quO(a b:Int):(cmpI a b = -1∧a<b)∨(cmpI a b=0∧a=b)∨(cmpI a b=1∧b<a):=by
 unfold cmpI
 by_cases h:a<b
 ·simp[h]
 ·by_cases h':a>b
  ·rw[if_neg h,if_pos h'];omega
  ·rw[if_neg h,if_neg h'];omega
def key1(m:Msg):Int:=4*m.2.1+m.1
theorem qBR(a:Int)(l:List Int):orI (a::l)=if a=0 then orI l else a:=by
 rfl
theorem qHt{x y:Msg}(hx:x.1=1∨x.1=2)(hy:y.1=1∨y.1=2):(cmpM x y<0→key1 x≤key1 y)∧(¬cmpM x y<0→key1 y≤key1 x):=by
 unfold cmpM key1
 rw[qBR,qBR]
 rcases quO x.2.1 y.2.1 with ⟨e,h⟩ | ⟨e,h⟩ | ⟨e,h⟩
 ·rw[e];simp;omega
 ·rw[e,if_pos rfl]
  rcases quO x.1 y.1 with ⟨e',h'⟩ | ⟨e',h'⟩ | ⟨e',h'⟩
  ·rw[e'];simp;omega
  ·constructor<;>intro _<;>omega
  ·rw[e'];simp;omega
 ·rw[e];simp;omega
structure Msgs (l:List Msg):Prop where
 kd:∀m,m∈l→m.1=1∨m.1=2
 id:∀m,m∈l→0≤m.2.1∧m.2.1≤99
 cl:∀x y,x∈l→y∈l→x.2.1=y.2.1→x.1=y.1→x=y
theorem qzv{c:Chn}{m:Msg}(h:mesB c m=true):(m.1=1∨m.1=2)∧0≤m.2.1∧m.2.1≤99:=by
 unfold mesB canB reqB at h
 simp only[Bool.and_eq_true,Bool.or_eq_true,q7,decide_eq_true_eq] at h
 exact ⟨by rcases h.2 with h | h;exact .inr h.1;exact .inl h.1,h.1⟩
theorem Vld.msgs{c:Chn}{l:List Msg}(V:Vld c l):Msgs l:=⟨fun m hm=>(qzv (V.ms m hm)).1,fun m hm=>(qzv (V.ms m hm)).2,qpe V.cl⟩
theorem qIW{l:List Msg}{m:Msg}:gone (qfT l) m=true↔m.1=2∨∃x,x∈l∧x.1=2∧x.2.1=m.2.1:=by
 unfold gone canc
 simp only[Bool.or_eq_true,decide_eq_true_eq,List.any_eq_true,Bool.and_eq_true,qkj]
def Live(l:List Msg)(m:Msg):Prop:=m∈l∧m.1≠2∧∀x,x∈l→x.1=2→x.2.1≠m.2.1
theorem qtl{l:List Msg}{m:Msg}:m∈qkk l↔Live l m:=by
 rw[qrx]
 unfold Live
 refine and_congr_right fun _=>?_
 rw[← Bool.not_eq_true,qIW]
 constructor
 ·exact fun h=>⟨fun e=>h (.inl e),fun x hx h1 h2=>h (.inr ⟨x,hx,h1,h2⟩)⟩
 ·rintro ⟨h1,h2⟩ (h | ⟨x,hx,h3,h4⟩)
  ·exact h1 h
  ·exact h2 x hx h3 h4
theorem qAk{l:List Msg}(h:∀x y,x∈l→y∈l→x.2.1=y.2.1→x.1=y.1→x=y):qjA l=false:=by
 unfold qjA
 rw[List.any_eq_false]
 intro i hi
 rw[Bool.not_eq_true,List.any_eq_false]
 intro k hk
 rw[Bool.not_eq_true]
 cases h1:l[i]? with
 | none=>rfl
 | some x=>cases h2:l[k]? with
  | none=>rfl
  | some y =>
   show claB x y=false
   unfold claB
   by_cases e1:x.2.1=y.2.1
   ·by_cases e2:x.1=y.1
    ·simp[h x y (List.mem_of_getElem? h1) (List.mem_of_getElem? h2) e1 e2]
    ·simp[e2]
   ·simp[e1]
theorem qDa(c:Chn)(x:Msg):∀(q:List Msg) (d:DecS),(x∈(q.foldl (dcF c) d).1∨x∈(q.foldl (dcF c) d).2.1)↔(x∈d.1∨x∈d.2.1)∨x∈q
 | [],d=>by simp
 | m::q,d=>by
  rw[List.foldl_cons,qDa c x q]
  unfold dcF
  split<;>simp[or_assoc,or_left_comm,or_comm]
theorem qHu{c:Chn}{l:List Msg}{x:Msg}:(x∈(offL c l).1∨x∈(offL c l).2.1)↔Live l x:=by
 unfold offL dcL
 rw[qDa,qtl]
 simp
theorem Vld.sub{c:Chn}{l m:List Msg}(V:Vld c l)(h:∀x,x∈m→x∈l)(hl:m.length≤40):Vld c m :=
 ⟨V.ch,fun x hx=>V.ms x (h x hx),hl,qAk fun x y hx hy h1 h2=>qpe V.cl x y (h x hx) (h y hy) h1 h2,fun x hx=>V.st x (h x hx),V.hu⟩
theorem qHv{c:Chn}{l:List Msg}{i:Int}:i∈accL c l↔∃m,m∈(offL c l).1∧m.2.1=i:=by
 unfold accL
 rw[(qki _ _).mem_iff,List.mem_map]
end Go.Proofs.YtcjcacbhkoainaaGreatDoor
