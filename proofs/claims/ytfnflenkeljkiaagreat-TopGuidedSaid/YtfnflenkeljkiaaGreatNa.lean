/- Texts Dn0, De1, De2, De3, Dn1, Dn2, Dn3, Dn4, Dn5, Dm0 in one. -/
import Derived.Test.YtfnflenkeljkiaaGreatKc
import Derived.Laws.StructEq
import Derived.Laws.Cover3
import Derived.MapKept
import Derived.WideKeyRuns
/- Reading code by computing: plain types. Nothing here speaks of the program. -/
set_option linter.constructorNameAsVariable false
set_option linter.unusedSimpArgs false
set_option linter.unusedVariables false
set_option linter.unusedSectionVars false
namespace Go.Proofs.YtfnflenkeljkiaaGreat
open Go Go.Proofs Go.RowKit
inductive Ty where
 | i (k:IntKind)
 | b
 | s
 | u
 | sl (t:Ty)
 | pr (x y:Ty)
 | pt (t:Ty)
def Ty.den:Ty→Type
 | .i _=>Int
 | .b=>Bool
 | .s=>ByteArray
 | .u=>Unit
 | .sl t=>List t.den
 | .pr x y=>x.den×y.den
 | .pt t=>t.den
def Ty.sz:Ty→Nat
 | .i _=>1
 | .b=>1
 | .s=>1
 | .u=>0
 | .sl _=>1
 | .pr x y=>x.sz+y.sz
 | .pt _=>1
def Ty.enc:(t:Ty)→t.den→List AV
 | .i k,n=>[.val (.int k n)]
 | .b,c=>[.val (.bool c)]
 | .s,c=>[.val (.string c)]
 | .u,_=>[]
 | .sl t,l=>[.sl t.sz (l.map t.enc)]
 | .pr x y,p=>x.enc p.1++y.enc p.2
 | .pt t,x=>[.rp (t.enc x)]
def Ty.argA:(t:Ty)→t.den→AV
 | .i k,n=>.val (.int k n)
 | .b,c=>.val (.bool c)
 | .s,c=>.val (.string c)
 | .u,_=>.agg []
 | .sl t,l=>.sl t.sz (l.map t.enc)
 | .pr x y,p=>.agg (Ty.enc (.pr x y) p)
 | .pt t,x=>.rp (t.enc x)
def Ty.isAgg:Ty→Bool
 | .u=>true
 | .pr _ _=>true
 | _=>false
def Ty.dec2:(x y:Ty)→Decidable (x=y)
 | .i k,.i k'=>if h:k=k' then .isTrue (by rw[h]) else .isFalse fun e=>h (by injection e)
 | .b,.b=>.isTrue rfl
 | .s,.s=>.isTrue rfl
 | .u,.u=>.isTrue rfl
 | .sl x,.sl y=>match Ty.dec2 x y with
  | .isTrue h=>.isTrue (by rw[h])
  | .isFalse h=>.isFalse fun e=>h (by injection e)
 | .pr x y,.pr x' y'=>match Ty.dec2 x x' with
  | .isTrue h=>match Ty.dec2 y y' with
   | .isTrue h'=>.isTrue (by rw[h,h'])
   | .isFalse h'=>.isFalse fun e=>h' (by injection e)
  | .isFalse h=>.isFalse fun e=>h (by injection e)
 | .i _,.b=>.isFalse nofun
 | .i _,.s=>.isFalse nofun
 | .i _,.u=>.isFalse nofun
 | .i _,.sl _=>.isFalse nofun
 | .i _,.pr _ _=>.isFalse nofun
 | .b,.i _=>.isFalse nofun
 | .b,.s=>.isFalse nofun
 | .b,.u=>.isFalse nofun
 | .b,.sl _=>.isFalse nofun
 | .b,.pr _ _=>.isFalse nofun
 | .s,.i _=>.isFalse nofun
 | .s,.b=>.isFalse nofun
 | .s,.u=>.isFalse nofun
 | .s,.sl _=>.isFalse nofun
 | .s,.pr _ _=>.isFalse nofun
 | .u,.i _=>.isFalse nofun
 | .u,.b=>.isFalse nofun
 | .u,.s=>.isFalse nofun
 | .u,.sl _=>.isFalse nofun
 | .u,.pr _ _=>.isFalse nofun
 | .sl _,.i _=>.isFalse nofun
 | .sl _,.b=>.isFalse nofun
 | .sl _,.s=>.isFalse nofun
 | .sl _,.u=>.isFalse nofun
 | .sl _,.pr _ _=>.isFalse nofun
 | .pr _ _,.i _=>.isFalse nofun
 | .pr _ _,.b=>.isFalse nofun
 | .pr _ _,.s=>.isFalse nofun
 | .pr _ _,.u=>.isFalse nofun
 | .pr _ _,.sl _=>.isFalse nofun
 | .pt x,.pt y=>match Ty.dec2 x y with
  | .isTrue h=>.isTrue (by rw[h])
  | .isFalse h=>.isFalse fun e=>h (by injection e)
 | .i _,.pt _=>.isFalse nofun
 | .pt _,.i _=>.isFalse nofun
 | .b,.pt _=>.isFalse nofun
 | .pt _,.b=>.isFalse nofun
 | .s,.pt _=>.isFalse nofun
 | .pt _,.s=>.isFalse nofun
 | .u,.pt _=>.isFalse nofun
 | .pt _,.u=>.isFalse nofun
 | .sl _,.pt _=>.isFalse nofun
 | .pt _,.sl _=>.isFalse nofun
 | .pr _ _,.pt _=>.isFalse nofun
 | .pt _,.pr _ _=>.isFalse nofun
def asT(t:Ty)(t':Ty)(l:List t'.den):Option (List t.den) :=
 match Ty.dec2 t' t with
 | .isTrue h=>some (h ▸ l)
 | .isFalse _=>none
theorem qyb(t:Ty)(l:List t.den):asT t t l=some l:=by
 unfold asT
 split
 ·rename_i h _;rfl
 ·rename_i h _;exact absurd rfl h
theorem qem{t t':Ty}{l:List t'.den}{l':List t.den}(h:asT t t' l=some l'):∃e:t'=t,l'=e ▸ l:=by
 unfold asT at h
 split at h
 ·rename_i e _;injection h with h;exact ⟨e,h.symm⟩
 ·cases h
set_option maxHeartbeats 1000000
def Ty.encV:(t:Ty)→t.den→List Value
 | .i k,n=>[.int k n]
 | .b,c=>[.bool c]
 | .s,c=>[.string c]
 | .u,_=>[]
 | .sl _,_=>[]
 | .pr x y,p=>x.encV p.1++y.encV p.2
 | .pt _,_=>[]
def Ty.aggB:Ty→Bool
 | .u=>true
 | .pr _ _=>true
 | _=>false
def Ty.val1:(t:Ty)→t.den→Value
 | .i k,n=>.int k n
 | .b,c=>.bool c
 | .s,c=>.string c
 | .u,_=>.agg #[]
 | .sl _,_=>undef
 | .pr x y,p=>.agg (Ty.encV (.pr x y) p).toArray
 | .pt _,_=>undef
def Ty.eqB:(t:Ty)→t.den→t.den→Bool
 | .i _,m,n=>@BEq.beq Int _ m n
 | .b,m,n=>@BEq.beq Bool _ m n
 | .s,m,n=>(ByteArray.toList m)==(ByteArray.toList n)
 | .u,_,_=>true
 | .sl _,_,_=>false
 | .pr x y,m,n=>x.eqB m.1 n.1&&y.eqB m.2 n.2
 | .pt _,_,_=>false
theorem qrd:∀(t:Ty) (x:t.den),t.encV x=[]∨(t.encV x).length≤t.sz
 | .i _,_=>.inr (Nat.le_refl _)
 | .b,_=>.inr (Nat.le_refl _)
 | .s,_=>.inr (Nat.le_refl _)
 | .u,_=>.inl rfl
 | .sl _,_=>.inl rfl
 | .pt _,_=>.inl rfl
 | .pr a b,x=>.inr (by
  have h1:(a.encV x.1).length≤a.sz:=by
   rcases qrd a x.1 with h | h
   ·rw[h];exact Nat.zero_le _
   ·exact h
  have h2:(b.encV x.2).length≤b.sz:=by
   rcases qrd b x.2 with h | h
   ·rw[h];exact Nat.zero_le _
   ·exact h
  simp only[Ty.encV,List.length_append,Ty.sz];omega)
def Ty.plain:Ty→Bool
 | .sl _=>false
 | .pt _=>false
 | .pr x y=>x.plain&&y.plain
 | _=>true
theorem qsA:∀(t:Ty) (x:t.den),t.plain=true→(t.encV x).length=t.sz
 | .i _,_,_=>rfl
 | .b,_,_=>rfl
 | .s,_,_=>rfl
 | .u,_,_=>rfl
 | .sl _,_,h=>by cases h
 | .pt _,_,h=>by cases h
 | .pr a b,x,h=>by
  simp only[Ty.plain,Bool.and_eq_true] at h
  simp only[Ty.encV,List.length_append,Ty.sz,qsA a x.1 h.1,qsA b x.2 h.2]
def EqC(P:Program)(dd:Nat)(t:TypeId)(ty:Ty):Prop:=∀(x y:ty.den) (w:World),(Op.equalIn dd t (ty.val1 x) (ty.val1 y)).run P w = .ok (ty.eqB x y) w
def qv8(P:Program)(t:TypeId)(ty:Ty):Bool:=(match P.info? t with | some i=>i.size==ty.sz&&i.zero.isSome | none=>false)&&(match P.underlying t with | some d=>qrF d==ty.aggB | none=>false)
def qin(rec:TypeId→Ty→Bool)(P:Program)(f:Field)(off:Nat)(ty:Ty):Bool:=f.name != "_" && f.offset==off&&ty.plain&&qv8 P f.type ty&&rec f.type ty
def eqFB(rec:TypeId→Ty→Bool)(P:Program):List Field→Nat→Ty→Bool
 | [],_,.u=>true
 | f::g::fs,off,.pr a b=>qin rec P f off a&&eqFB rec P (g::fs) (off+a.sz) b
 | [f],off,.pr a .u=>qin rec P f off a
 | [f],off,t=>qin rec P f off t
 | _,_,_=>false
def qok(P:Program):Nat→TypeId→Ty→Bool
 | 0,_,_=>false
 | _+1,t,.i k=>match P.underlying t with
  | some (.int k')=>k==k'
  | _=>false
 | _+1,t,.b=>match P.underlying t with
  | some .bool=>true
  | _=>false
 | _+1,t,.s=>match P.underlying t with
  | some .string=>true
  | _=>false
 | d+1,t,.pr a b=>match P.underlying t with
  | some (.struct fs)=>!P.stoodInHeld t&&eqFB (qok P d) P fs.toList 0 (.pr a b)
  | _=>false
 | _+1,_,_=>false
section
variable {P:Program}
theorem qyc{t:TypeId}{ty:Ty}(h:qv8 P t ty=true):∃z,TyAt P t ty.sz ty.aggB z:=by
 unfold qv8 at h
 simp only[Bool.and_eq_true] at h
 obtain ⟨h3,h4⟩:=h
 split at h3
 ·next i hi =>
  split at h4
  ·next d hd =>
   simp only[Bool.and_eq_true,beq_iff_eq] at h3
   obtain ⟨z,hz⟩:=Option.isSome_iff_exists.1 h3.2
   exact ⟨z,⟨by rw[hi];simp[h3.1,hz],by rw[hd];simpa using h4⟩⟩
  ·cases h4
 ·cases h3
theorem qt7{t:TypeId}{ty:Ty}{z:Value}(h:TyAt P t ty.sz ty.aggB z)(hp:ty.plain=true)(x:ty.den){vs:List Value}{off:Nat}(hv:(vs.drop off).take ty.sz=ty.encV x)(w:World):(part t vs.toArray off).run P w = .ok (ty.val1 x) w:=by
 unfold part
 simp only[Sem.run_bind,h.isAgg w,Result.andThen_ok]
 cases hag:ty.aggB with
 | true =>
  simp only[if_true,Sem.run_bind,h.size w,Result.andThen_ok,Sem.run_pure]
  have e:vs.toArray.extract off (off+ty.sz)=(ty.encV x).toArray:=by
   apply Array.ext'
   rw[Array.toList_extract]
   simp[List.extract,hv]
  rw[e]
  cases ty with
  | pr a b=>rfl
  | u=>rfl
  | _=>cases hag
 | false =>
  have key:∀v,ty.encV x=[v]→ty.sz=1→vs.toArray[off]?=some v:=fun v h1 h2=>by
   rw[h1,h2] at hv
   have:=congrArg (·[0]?) hv
   simpa[List.getElem?_take,List.getElem?_drop] using this
  cases ty with
  | i k=>simp[key _ rfl rfl,Ty.val1]
  | b=>simp[key _ rfl rfl,Ty.val1]
  | s=>simp[key _ rfl rfl,Ty.val1]
  | sl t=>cases hp
  | pt t=>cases hp
  | pr a b=>cases hag
  | u=>cases hag
theorem qpw{rec:TypeId→Ty→Bool}{dd:Nat}(hrec:∀t ty,rec t ty=true→EqC P dd t ty){f:Field}{off:Nat}{ty:Ty}(h:qin rec P f off ty=true){xs ys:List Value}{a b:ty.den}(hx:(xs.drop off).take ty.sz=ty.encV a)(hy:(ys.drop off).take ty.sz=ty.encV b)(fs:List Field)(w:World) :
  (Op.eqFields dd xs.toArray ys.toArray (f::fs)).run P w=if ty.eqB a b=true then (Op.eqFields dd xs.toArray ys.toArray fs).run P w else .ok false w:=by
 unfold qin at h
 simp only[Bool.and_eq_true,bne_iff_ne,ne_eq,beq_iff_eq] at h
 obtain ⟨⟨⟨⟨h1,h2⟩,h3⟩,h4⟩,h5⟩:=h
 obtain ⟨z,hz⟩:=qyc h4
 have hE:=hrec _ _ h5
 simp only[Op.eqFields,ne_eq,h1,not_false_eq_true,if_true,h2,Sem.run_bind,qt7 hz h3 a hx,qt7 hz h3 b hy,Result.andThen_ok,hE a b w]
 cases ty.eqB a b<;>simp
theorem qvz{rec:TypeId→Ty→Bool}{dd:Nat}(hrec:∀t ty,rec t ty=true→EqC P dd t ty):∀(fs:List Field) (off:Nat) (ty:Ty),eqFB rec P fs off ty=true→∀(xs ys:List Value) (a b:ty.den),(xs.drop off).take ty.sz=ty.encV a→(ys.drop off).take ty.sz=ty.encV b→∀w,
  (Op.eqFields dd xs.toArray ys.toArray fs).run P w = .ok (ty.eqB a b) w
 | [],off,.u,h,xs,ys,a,b,hx,hy,w=>by simp[Op.eqFields,Ty.eqB]
 | f::g::fs,off,.pr p q,h,xs,ys,a,b,hx,hy,w=>by
  unfold eqFB at h
  rw[Bool.and_eq_true] at h
  have hp:p.plain=true:=by
   have:=h.1
   unfold qin at this
   simp only[Bool.and_eq_true] at this
   exact this.1.1.2
  have cut:∀(l:List Value) (c:(Ty.pr p q).den),(l.drop off).take (Ty.pr p q).sz=(Ty.pr p q).encV c→(l.drop off).take p.sz=p.encV c.1∧(l.drop (off+p.sz)).take q.sz=q.encV c.2:=fun l c hc=>by
   simp only[Ty.sz,Ty.encV] at hc
   have hl:=qsA p c.1 hp
   refine ⟨?_,?_⟩
   ·have:=congrArg (List.take p.sz) hc
    rw[List.take_take,Nat.min_eq_left (Nat.le_add_right _ _),List.take_left' hl] at this
    exact this
   ·have:=congrArg (List.drop p.sz) hc
    rw[List.drop_take,List.drop_drop,List.drop_left' hl,Nat.add_sub_cancel_left] at this
    exact this
  obtain ⟨hx1,hx2⟩:=cut xs a hx
  obtain ⟨hy1,hy2⟩:=cut ys b hy
  rw[qpw hrec h.1 hx1 hy1 (g::fs) w,qvz hrec (g::fs) (off+p.sz) q h.2 xs ys a.2 b.2 hx2 hy2 w]
  simp only[Ty.eqB]
  cases p.eqB a.1 b.1<;>simp
 | [f],off,t,h,xs,ys,a,b,hx,hy,w=>by
  have one:qin rec P f off t=true→(Op.eqFields dd xs.toArray ys.toArray [f]).run P w = .ok (t.eqB a b) w:=fun h=>by
   rw[qpw hrec h hx hy [] w]
   cases t.eqB a b<;>simp[Op.eqFields]
  cases t with
  | pr p q =>
   cases q with
   | u =>
    have h':qin rec P f off p=true:=h
    have hz:(Ty.pr p .u).sz=p.sz:=rfl
    have hx':(xs.drop off).take p.sz=p.encV a.1:=by rw[← hz,hx];simp[Ty.encV]
    have hy':(ys.drop off).take p.sz=p.encV b.1:=by rw[← hz,hy];simp[Ty.encV]
    rw[qpw hrec h' hx' hy' [] w]
    simp only[Ty.eqB,Bool.and_true]
    cases p.eqB a.1 b.1<;>simp[Op.eqFields]
   | _=>exact one h
  | _=>exact one h
 | [],off,.i _,h,_,_,_,_,_,_,_=>by cases h
 | [],off,.b,h,_,_,_,_,_,_,_=>by cases h
 | [],off,.s,h,_,_,_,_,_,_,_=>by cases h
 | [],off,.sl _,h,_,_,_,_,_,_,_=>by cases h
 | [],off,.pt _,h,_,_,_,_,_,_,_=>by cases h
 | [],off,.pr _ _,h,_,_,_,_,_,_,_=>by cases h
 | f::g::fs,off,.i _,h,_,_,_,_,_,_,_=>by cases h
 | f::g::fs,off,.b,h,_,_,_,_,_,_,_=>by cases h
 | f::g::fs,off,.s,h,_,_,_,_,_,_,_=>by cases h
 | f::g::fs,off,.sl _,h,_,_,_,_,_,_,_=>by cases h
 | f::g::fs,off,.pt _,h,_,_,_,_,_,_,_=>by cases h
 | f::g::fs,off,.u,h,_,_,_,_,_,_,_=>by cases h
theorem qt8:∀(d dd:Nat) (t:TypeId) (ty:Ty),d≤dd→qok P d t ty=true→EqC P dd t ty
 | 0,dd,t,ty,_,h=>by cases h
 | d+1,dd,t,ty,hd,h=>by
  obtain ⟨e,rfl⟩:∃e,dd=e+1:=⟨dd-1,by omega⟩
  intro x y w
  cases ty with
  | i k =>
   simp only[qok] at h
   split at h
   ·rename_i k' hu
    have:k=k':=by simpa using h
    subst this
    simp only[Ty.val1,Ty.eqB,run_equalIn_int w e t k k x y hu]
   ·cases h
  | b =>
   simp only[qok] at h
   split at h
   ·rename_i hu
    simp only[Ty.val1,Ty.eqB,run_equalIn_bool' w e t x y hu]
   ·cases h
  | s =>
   simp only[qok] at h
   split at h
   ·rename_i hu
    simp only[Ty.val1,Ty.eqB,run_equalIn_string w e t x y hu]
   ·cases h
  | u=>cases h
  | sl t=>cases h
  | pt t=>cases h
  | pr a b =>
   simp only[qok] at h
   split at h
   ·rename_i fs hu
    rw[Bool.and_eq_true,Bool.not_eq_true'] at h
    have hfs:P.fieldsOf t=fs:=by simp[Program.fieldsOf,hu]
    simp only[Ty.val1]
    rw[run_equalIn_struct w e t _ _ (by rw[hfs];exact hu) h.1,hfs]
    have hall:∀c:(Ty.pr a b).den,(((Ty.pr a b).encV c).drop 0).take (Ty.pr a b).sz=(Ty.pr a b).encV c:=fun c=>by
     rw[List.drop_zero,List.take_of_length_le]
     rcases qrd (.pr a b) c with h1 | h1
     ·rw[h1];exact Nat.zero_le _
     ·exact h1
    exact qvz (fun t ty ht=>qt8 d e t ty (by omega) ht) fs.toList 0 (.pr a b) h.2 _ _ x y (hall x) (hall y) w
   ·cases h
structure EqE (P:Program) (t:TypeId) where
 ty:Ty
 ag:(match ty with | .pr _ _=>true | _=>false)=true
 g:P.eqGuardType P.depth t=false
 ok:EqC P 10000 t ty
def EqE.mk'{P:Program}{t:TypeId}(ty:Ty)(ag:(match ty with | .pr _ _=>true | _=>false)=true)(g:P.eqGuardType P.depth t=false)(h:qok P 20 t ty=true):EqE P t:=⟨ty,ag,g,qt8 20 10000 t ty (by decide) h⟩
theorem qwO{t:TypeId}(e:EqE P t){p q:Ty}(he:e.ty = .pr p q)(op:BinOp)(x y:Operand)(a b:e.ty.den)(w:World)(v:Bool)(hop:(op = .eql∧v=e.ty.eqB a b)∨(op = .neq∧v = !e.ty.eqB a b)):(do eqGuard op t x y (.agg (e.ty.encV a).toArray) (.agg (e.ty.encV b).toArray);binOp op t (.agg (e.ty.encV a).toArray) (.agg (e.ty.encV b).toArray):Sem Value).run P w = .ok (.bool v) w:=by
 have hok:=e.ok a b w
 have hval:∀c:e.ty.den,e.ty.val1 c = .agg (e.ty.encV c).toArray:=by
  rw[he];intro c;rfl
 rw[hval,hval] at hok
 simp only[Sem.run_bind,run_eqGuard_agg w op t x y _ _ e.g,Result.andThen_ok]
 rcases hop with ⟨rfl,rfl⟩ | ⟨rfl,rfl⟩
 ·rw[run_eql_struct,hok];rfl
 ·rw[run_neq_struct,hok];rfl
end
def FuncTy(P:Program)(t:TypeId):Prop:=∃a b c,P.underlying t=some (.func a b c)
def qvA(P:Program)(t:TypeId):Bool:=match P.underlying t with
 | some (.func _ _ _)=>true
 | _=>false
theorem FuncTy.mk'{P:Program}{t:TypeId}(h:qvA P t=true):FuncTy P t:=by
 unfold qvA at h
 split at h
 ·rename_i a b c hu;exact ⟨_,_,_,hu⟩
 ·cases h
section
variable {P:Program}
theorem qzP{t:TypeId}(h:FuncTy P t)(d:Nat)(f:Fn)(p q:Array Value)(w:World):(Op.equalIn (d+1) t (.func f p q) .nilFunc).run P w = .ok false w:=by
 obtain ⟨a,b,c,hu⟩:=h
 simp[Op.equalIn,run_underlying hu]
theorem qv9{t:TypeId}(h:FuncTy P t)(d:Nat)(w:World):(Op.equalIn (d+1) t .nilFunc .nilFunc).run P w = .ok true w:=by
 obtain ⟨a,b,c,hu⟩:=h
 simp[Op.equalIn,run_underlying hu]
theorem qzx{t:TypeId}(h:FuncTy P t)(f:Fn)(p q:Array Value)(w:World):(Op.equal t (.func f p q) .nilFunc).run P w = .ok false w:=qzP h 9999 f p q w
theorem qt9{t:TypeId}(h:FuncTy P t)(w:World):(Op.equal t .nilFunc .nilFunc).run P w = .ok true w:=qv9 h 9999 w
theorem qyd(op:BinOp)(t:TypeId)(x y:Operand)(f:Fn)(p q:Array Value)(w:World):(eqGuard op t x y (.func f p q) .nilFunc).run P w = .ok () w:=by cases op<;>rfl
theorem qwP(op:BinOp)(t:TypeId)(x y:Operand)(w:World):(eqGuard op t x y .nilFunc .nilFunc).run P w = .ok () w:=by cases op<;>rfl
theorem qye(op:BinOp)(t:TypeId)(x y:Operand)(A B:Option Addr)(n c n' c':Nat)(w:World):(eqGuard op t x y (.slice A n c) (.slice B n' c')).run P w = .ok () w:=by cases op<;>rfl
theorem qwQ{t:TypeId}(h:FuncTy P t)(op:BinOp)(x y:Operand)(f:Fn)(p q:Array Value)(v:Bool)(w:World)(hop:(op = .eql∧v=false)∨(op = .neq∧v=true)):(do eqGuard op t x y (.func f p q) .nilFunc;binOp op t (.func f p q) .nilFunc:Sem Value).run P w = .ok (.bool v) w:=by
 simp only[Sem.run_bind,qyd,Result.andThen_ok]
 rcases hop with ⟨rfl,rfl⟩ | ⟨rfl,rfl⟩
 ·simp only[binOp];simp[qzx h f p q w]
 ·simp only[binOp];simp[qzx h f p q w]
theorem qwa{t:TypeId}(h:FuncTy P t)(op:BinOp)(x y:Operand)(v:Bool)(w:World)(hop:(op = .eql∧v=true)∨(op = .neq∧v=false)):(do eqGuard op t x y .nilFunc .nilFunc;binOp op t .nilFunc .nilFunc:Sem Value).run P w = .ok (.bool v) w:=by
 simp only[Sem.run_bind,qwP,Result.andThen_ok]
 rcases hop with ⟨rfl,rfl⟩ | ⟨rfl,rfl⟩
 ·simp only[binOp];simp[qt9 h w]
 ·simp only[binOp];simp[qt9 h w]
theorem qs4{t e:TypeId}(hu:P.underlying t=some (.slice e))(op:BinOp)(x y:Operand)(A:Option Addr)(n c:Nat)(v:Bool)(w:World)(hop:(op = .eql∧v=A.isNone)∨(op = .neq∧v = !A.isNone)):(do eqGuard op t x y (.slice A n c) (.slice none 0 0);binOp op t (.slice A n c) (.slice none 0 0):Sem Value).run P w = .ok (.bool v) w:=by
 simp only[Sem.run_bind,qye,Result.andThen_ok]
 rcases hop with ⟨rfl,rfl⟩ | ⟨rfl,rfl⟩
 ·simp only[binOp];simp[run_equal_slice_nil w t e A n c hu]
 ·simp only[binOp];simp[run_equal_slice_nil w t e A n c hu]
end
def Ty.keyB:Ty→Bool
 | .i _=>true
 | .b=>true
 | .u=>true
 | .pr x y=>x.keyB&&y.keyB
 | _=>false
theorem qrJ:∀{t:Ty} {x y:t.den},t.keyB=true→t.eqB x y=true→x=y
 | .i _,x,y,_,h=>by
  exact @eq_of_beq Int _ _ x y h
 | .b,x,y,_,h=>by
  exact @eq_of_beq Bool _ _ x y h
 | .u,_,_,_,_=>rfl
 | .s,_,_,hk,_=>by cases hk
 | .sl _,_,_,hk,_=>by cases hk
 | .pt _,_,_,hk,_=>by cases hk
 | .pr a b,x,y,hk,h=>by
  simp only[Ty.keyB,Bool.and_eq_true] at hk
  simp only[Ty.eqB,Bool.and_eq_true] at h
  exact Prod.ext (qrJ hk.1 h.1) (qrJ hk.2 h.2)
def mpAt(kt:Ty){α:Type}(x:kt.den):List (kt.den×α)→Nat→Option (Nat×α)
 | [],_=>none
 | p::l,i=>match kt.eqB x p.1 with
  | true=>some (i,p.2)
  | false=>mpAt kt x l (i+1)
def qh4(kt:Ty){α:Type}(z:α)(x:kt.den)(l:List (kt.den×α)):α:=match mpAt kt x l 0 with
 | some q=>q.2
 | none=>z
def qqi(kt:Ty){α:Type}(x:kt.den)(l:List (kt.den×α)):Bool:=(mpAt kt x l 0).isSome
def mpIx(kt:Ty){α:Type}(x:kt.den)(l:List (kt.den×α)):Nat:=match mpAt kt x l 0 with
 | some q=>q.1
 | none=>l.length
def qj8(kt:Ty){α:Type}(z:α)(x:kt.den)(l:List (kt.den×α)):List (kt.den×α):=match mpAt kt x l 0 with
 | some _=>l
 | none=>l++[(x,z)]
def qk0{κ α:Type}(i:Nat)(v:α)(l:List (κ×α)):List (κ×α):=l.modify i fun p=>(p.1,v)
def qqj(kt:Ty){α:Type}(v:α)(x:kt.den)(l:List (kt.den×α)):List (kt.den×α):=match mpAt kt x l 0 with
 | some q=>qk0 q.1 v l
 | none=>l++[(x,v)]
theorem qs5(kt:Ty){α:Type}(x:kt.den):∀(l:List (kt.den×α)) (i:Nat) (p:kt.den×α),mpAt kt x (l++[p]) i=match mpAt kt x l i with
  | some q=>some q
  | none=>cond (kt.eqB x p.1) (some (i+l.length,p.2)) none
 | [],i,p=>by
  simp only[List.nil_append,mpAt,List.length_nil,Nat.add_zero]
  cases kt.eqB x p.1<;>rfl
 | q::l,i,p=>by
  simp only[List.cons_append,mpAt]
  cases kt.eqB x q.1 with
  | true=>rfl
  | false =>
   simp only
   rw[qs5 kt x l (i+1) p,List.length_cons,show i+1+l.length=i+(l.length+1) by omega]
theorem qwR(kt:Ty){α:Type}(z:α)(x y:kt.den)(l:List (kt.den×α)):qh4 kt z x (qj8 kt z y l)=qh4 kt z x l:=by
 unfold qj8
 cases hy:mpAt kt y l 0 with
 | some q=>rfl
 | none =>
  simp only[qh4]
  rw[qs5]
  cases mpAt kt x l 0 with
  | some q=>rfl
  | none=>simp only;cases kt.eqB x y<;>rfl
def mpEs(kt:Ty):Nat→List (kt.den×Value)→List MapEntry
 | _,[]=>[]
 | i,p::l=>{key:=kt.val1 p.1,val:=p.2,born:=i}::mpEs kt (i+1) l
section
variable {P:Program} {kt et:Ty}
theorem qkI:∀(l:List (kt.den×Value)) (i j:Nat),(mpEs kt i l)[j]?=l[j]?.map fun p=>{key:=kt.val1 p.1,val:=p.2,born:=i+j}
 | [],i,j=>rfl
 | p::l,i,0=>rfl
 | p::l,i,j+1=>by
  simp only[mpEs,List.getElem?_cons_succ,qkI l (i+1) j]
  rw[show i+1+j=i+(j+1) by omega]
theorem qjx:∀(l:List (kt.den×Value)) (i:Nat),(mpEs kt i l).length=l.length
 | [],i=>rfl
 | p::l,i=>by simp only[mpEs,List.length_cons,qjx l]
theorem qs6(l:List (kt.den×Value))(p:kt.den×Value):(mpEs kt 0 l).toArray.push {key:=kt.val1 p.1,val:=p.2,born:=l.length}=(mpEs kt 0 (l++[p])).toArray:=by
 apply Array.ext'
 rw[Array.toList_push]
 apply List.ext_getElem?
 intro j
 simp only[qkI,Nat.zero_add]
 rcases Nat.lt_trichotomy j l.length with h | h | h
 ·rw[List.getElem?_append_left (by rw[qjx];exact h),qkI,List.getElem?_append_left h,Nat.zero_add]
 ·subst h
  rw[List.getElem?_append_right (by rw[qjx];exact Nat.le_refl _),qjx,List.getElem?_append_right (Nat.le_refl _)]
  simp
 ·rw[List.getElem?_eq_none (by simp[qjx];omega),List.getElem?_eq_none (by simp;omega)]
  rfl
theorem qua(l:List (kt.den×Value))(i:Nat)(v:Value):((mpEs kt 0 l).toArray.modify i fun e=>{e with val:=v})=(mpEs kt 0 (qk0 i v l)).toArray:=by
 apply Array.ext'
 rw[Array.toList_modify]
 apply List.ext_getElem?
 intro j
 simp only[List.getElem?_modify,qkI,qk0,Nat.zero_add]
 by_cases h:i=j
 ·subst h
  cases l[i]?<;>simp
 ·cases l[j]?<;>simp[h]
theorem qsB:∀{x:kt.den} {l:List (kt.den×Value)} {i:Nat} {q:Nat×Value},mpAt kt x l i=some q→∃p,i≤q.1∧l[q.1-i]?=some p∧kt.eqB x p.1=true∧q.2=p.2
 | x,[],i,q,h=>by cases h
 | x,p::l,i,q,h=>by
  unfold mpAt at h
  split at h
  ·rename_i he
   injection h with h
   subst h
   exact ⟨p,Nat.le_refl _,by simp,he,rfl⟩
  ·obtain ⟨p',h1,h2,h3,h4⟩:=qsB h
   refine ⟨p',by omega,?_,h3,h4⟩
   rw[show q.1-i=(q.1-(i+1))+1 by omega]
   exact h2
def CkC(P:Program)(dd:Nat)(t:TypeId)(ty:Ty):Prop:=∀(x:ty.den) (em:Bool) (w:World),(Instr.checkKey em dd t (ty.val1 x)).run P w = .ok () w
theorem qwS(k:IntKind)(x:Int)(n:Nat):Instr.sameBits n (.int k x) (.int k x)=true:=by unfold Instr.sameBits;simp
theorem qvB(x:Bool)(n:Nat):Instr.sameBits n (.bool x) (.bool x)=true:=by unfold Instr.sameBits;simp
theorem qlt:∀(t:Ty) (x:t.den),t.keyB=true→∀v,v∈t.encV x→∀n,Instr.sameBits n v v=true
 | .i _,x,_,v,hv,n=>by simp only[Ty.encV,List.mem_singleton] at hv;subst hv;exact qwS _ x n
 | .b,x,_,v,hv,n=>by simp only[Ty.encV,List.mem_singleton] at hv;subst hv;exact qvB x n
 | .s,x,h,v,hv,n=>by cases h
 | .u,x,_,v,hv,n=>by simp[Ty.encV] at hv
 | .sl _,x,h,v,hv,n=>by cases h
 | .pt _,x,h,v,hv,n=>by cases h
 | .pr a b,x,h,v,hv,n=>by
  simp only[Ty.keyB,Bool.and_eq_true] at h
  simp only[Ty.encV,List.mem_append] at hv
  rcases hv with hv | hv
  ·exact qlt a x.1 h.1 v hv n
  ·exact qlt b x.2 h.2 v hv n
theorem qs7{t:Ty}(ht:t.keyB=true)(x:t.den)(w:World):(Instr.keyThatStays (t.val1 x) (t.val1 x)).run P w = .ok (t.val1 x) w:=by
 have key:Instr.sameBits 10000 (t.val1 x) (t.val1 x)=true:=by
  cases t with
  | i k=>exact qwS _ x _
  | b=>exact qvB x _
  | s=>cases ht
  | u=>simp[Ty.val1,Instr.sameBits]
  | sl t=>cases ht
  | pt t=>cases ht
  | pr a b =>
   simp only[Ty.val1,Instr.sameBits,beq_self_eq_true,Bool.true_and,List.all_eq_true]
   rintro ⟨p,q⟩ hpq
   have hz:∀(l:List Value) (p q:Value),(p,q)∈l.zip l→p=q∧p∈l:=fun l=>by
    induction l with
    | nil=>intro p q h;simp at h
    | cons v l ih =>
     intro p q h
     rw[List.zip_cons_cons,List.mem_cons] at h
     rcases h with h | h
     ·injection h with h1 h2;subst h1 h2;exact ⟨rfl,List.mem_cons_self⟩
     ·obtain ⟨h1,h2⟩:=ih p q h;exact ⟨h1,List.mem_cons_of_mem _ h2⟩
   obtain ⟨rfl,hp⟩:=hz _ p q hpq
   exact qlt (.pr a b) x ht p hp _
 unfold Instr.keyThatStays
 rw[if_pos key]
 rfl
def FkC(P:Program)(k:TypeId)(kt:Ty):Prop:=∀(x:kt.den) (l:List (kt.den×Value)) (w:World),(Instr.findKey k (kt.val1 x) (mpEs kt 0 l)).run P w = .ok ((mpAt kt x l 0).map fun q=>(q.1,q.2)) w
structure MpE (P:Program) (t:TypeId) where
 k:TypeId
 e:TypeId
 kt:Ty
 et:Ty
 zero:et.den
 zv:Value
 hk:kt.keyB=true
 hz:∀(w:World) (A:Nat→Prop),Enc w A zv (et.argA zero)
 under:P.underlying t=some (.map k e)
 zrun:∀w,(zeroValue e).run P w = .ok zv w
 check:CkC P 10000 k kt
 find:FkC P k kt
theorem qol:∀(t:Ty) (x:t.den),t.plain=true→t.enc x=(t.encV x).map AV.val
 | .i _,_,_=>rfl
 | .b,_,_=>rfl
 | .s,_,_=>rfl
 | .u,_,_=>rfl
 | .sl _,_,h=>by cases h
 | .pt _,_,h=>by cases h
 | .pr a b,x,h=>by
  simp only[Ty.plain,Bool.and_eq_true] at h
  simp only[Ty.enc,Ty.encV,List.map_append,qol a x.1 h.1,qol b x.2 h.2]
theorem qwT{t:Ty}(h:t.plain=true){x:t.den}{w:World}{A:Nat→Prop}{v:Value}(hv:Enc w A v (t.argA x)):v=t.val1 x:=by
 have agg:∀(vs:List Value) (v:Value),Enc w A v (.agg (vs.map AV.val))→v = .agg vs.toArray:=fun vs v hv=>by
  cases hv with
  | agg xs ds hn hd =>
   congr 1
   apply Array.ext'
   apply List.ext_getElem?
   intro i
   simp only[List.length_map] at hn
   rcases Nat.lt_or_ge i vs.length with hi | hi
   ·have h2:=(hd i (.val vs[i]) (by rw[List.getElem?_map,List.getElem?_eq_getElem hi];rfl)).val_eq
    rw[Array.getD_eq_getD_getElem?] at h2
    have h3:xs[i]?=some xs[i]:=Array.getElem?_eq_getElem (by omega)
    rw[h3] at h2
    rw[Array.getElem?_toList,h3,List.getElem?_eq_getElem hi]
    simpa using h2
   ·rw[Array.getElem?_toList,Array.getElem?_eq_none (by omega),List.getElem?_eq_none hi]
 cases t with
 | i k=>exact hv.val_eq
 | b=>exact hv.val_eq
 | s=>exact hv.val_eq
 | u=>exact agg [] v hv
 | sl t=>cases h
 | pt t=>cases h
 | pr a b =>
  have hv':Enc w A v (.agg ((Ty.pr a b).enc x)):=hv
  rw[qol _ x h] at hv'
  exact agg _ v hv'
def qfd(kt:Ty)(l:List (kt.den×Value)):Obj:=.map (mpEs kt 0 l).toArray l.length
variable {t:TypeId} {w:World} {b:Nat}
theorem MpE.lookup_run(M:MpE P t){l:List (M.kt.den×Value)}(hb:w.heap[b]?=some (qfd M.kt l))(x:M.kt.den)(ok:Bool) :
  (Instr.lookup t (.map (some b)) (M.kt.val1 x) ok).run P w = .ok (if ok then .tuple #[qh4 M.kt M.zv x l,.bool (qqi M.kt x l)] else qh4 M.kt M.zv x l) w:=by
 have hf:=M.find x l w
 simp only[Instr.lookup,Sem.run_bind,run_underlying M.under,Result.andThen_ok,MapKept.run_getObj_map hb,Sem.run_pure,M.check x _ w,hf,qh4,qqi]
 cases hm:mpAt M.kt x l 0 with
 | none=>simp[M.zrun w,Result.andThen]
 | some q=>simp[Result.andThen]
theorem MpE.entry_run(M:MpE P t){l:List (M.kt.den×Value)}(hb:w.heap[b]?=some (qfd M.kt l))(x:M.kt.den) :
  (Instr.mapEntry t (.map (some b)) (M.kt.val1 x)).run P w = .ok (.tuple #[qh4 M.kt M.zv x l,.int .i64 (mpIx M.kt x l)]) {w with heap:=w.heap.setIfInBounds b (qfd M.kt (qj8 M.kt M.zv x l))}:=by
 have hf:=M.find x l w
 simp only[Instr.mapEntry,Sem.run_bind,run_underlying M.under,Result.andThen_ok,MapKept.run_getObj_map hb,M.check x _ w,hf,qh4,mpIx,qj8]
 cases hm:mpAt M.kt x l 0 with
 | none =>
  simp only[Option.map_none,Sem.run_bind,M.zrun w,Result.andThen_ok,MapKept.run_setObj_map _ hb,Sem.run_pure]
  have:=qs6 l (x,M.zv)
  simp only at this
  rw[this]
  unfold qfd
  simp[goInt]
 | some q =>
  obtain ⟨p,_,h2,h3,h4⟩:=qsB hm
  have hx:=qrJ M.hk h3
  have hq:(mpEs M.kt 0 l).toArray[q.1]?=some {key:=M.kt.val1 x,val:=q.2,born:=q.1}:=by
   rw[List.getElem?_toArray,qkI]
   simp only[Nat.sub_zero] at h2
   rw[h2,hx,h4]
   simp
  simp only[Option.map_some,Sem.run_bind,hq,Option.getD_some,qs7 M.hk x w,Result.andThen_ok,MapKept.run_setObj_map _ hb,Sem.run_pure]
  have hmod:((mpEs M.kt 0 l).toArray.modify q.1 fun e=>{e with key:=M.kt.val1 x})=(mpEs M.kt 0 l).toArray:=by
   apply Array.ext'
   rw[Array.toList_modify]
   apply List.ext_getElem?
   intro j
   rw[List.getElem?_modify]
   by_cases h:q.1=j
   ·subst h
    rw[List.getElem?_toArray] at hq
    simp[hq]
   ·simp[h]
  rw[hmod]
  unfold qfd
  simp[goInt]
theorem qub(l:List (kt.den×Value)){n:Nat}(hn:n<l.length):(mpEs kt 0 l).toArray.findIdx? (fun e=>(e.born:Int)==(n:Int))=some n:=by
 rw[List.findIdx?_toArray,List.findIdx?_eq_some_iff_getElem]
 have at':∀j (h:j<(mpEs kt 0 l).length),((mpEs kt 0 l)[j]).born=j:=fun j h=>by
  have h1:=qkI l 0 j
  rw[List.getElem?_eq_getElem h] at h1
  have h2:j<l.length:=by rw[qjx] at h;exact h
  rw[List.getElem?_eq_getElem h2] at h1
  injection h1 with h1
  rw[h1]
  simp
 refine ⟨by rw[qjx];exact hn,by rw[at'];simp,fun j hj=>?_⟩
 rw[at']
 simp
 omega
theorem MpE.store_run(M:MpE P t){l:List (M.kt.den×Value)}(hb:w.heap[b]?=some (qfd M.kt l)){k:IntKind}{n:Nat}(hn:n<l.length)(v:Value) :
  (Instr.entryStore t (.map (some b)) (.int k n) v).run P w = .ok () {w with heap:=w.heap.setIfInBounds b (qfd M.kt (qk0 n v l))}:=by
 have hi:(asInt (.int k (n:Int))).run P w = .ok (n:Int) w:=by simp[asInt,asIntOf]
 simp only[Instr.entryStore,Sem.run_bind,MapKept.run_getObj_map hb,Result.andThen_ok,hi,qub l hn,MapKept.run_setObj_map _ hb]
 rw[qua]
 unfold qfd
 simp[qk0]
theorem MpE.update_run(M:MpE P t){l:List (M.kt.den×Value)}(hb:w.heap[b]?=some (qfd M.kt l))(x:M.kt.den)(v:Value) :
  (Instr.mapUpdate t (.map (some b)) (M.kt.val1 x) v).run P w = .ok () {w with heap:=w.heap.setIfInBounds b (qfd M.kt (qqj M.kt v x l))}:=by
 have hf:=M.find x l w
 simp only[Instr.mapUpdate,Sem.run_bind,run_underlying M.under,Result.andThen_ok,MapKept.run_getObj_map hb,M.check x _ w,hf,qqj]
 cases hm:mpAt M.kt x l 0 with
 | none =>
  simp only[Option.map_none,MapKept.run_setObj_map _ hb]
  have:=qs6 l (x,v)
  simp only at this
  rw[this]
  unfold qfd
  simp
 | some q =>
  obtain ⟨p,_,h2,h3,h4⟩:=qsB hm
  have hx:=qrJ M.hk h3
  have hq:(mpEs M.kt 0 l).toArray[q.1]?=some {key:=M.kt.val1 x,val:=q.2,born:=q.1}:=by
   rw[List.getElem?_toArray,qkI]
   simp only[Nat.sub_zero] at h2
   rw[h2,hx,h4]
   simp
  simp only[Option.map_some,Sem.run_bind,hq,Option.getD_some,qs7 M.hk x w,Result.andThen_ok,MapKept.run_setObj_map _ hb]
  have hmod:((mpEs M.kt 0 l).toArray.modify q.1 fun e=>{e with key:=M.kt.val1 x,val:=v})=(mpEs M.kt 0 (qk0 q.1 v l)).toArray:=by
   rw[← qua]
   apply Array.ext'
   rw[Array.toList_modify,Array.toList_modify]
   apply List.ext_getElem?
   intro j
   rw[List.getElem?_modify,List.getElem?_modify]
   by_cases h:q.1=j
   ·subst h
    rw[List.getElem?_toArray] at hq
    simp[hq]
   ·simp[h]
  rw[hmod]
  unfold qfd
  simp[qk0]
end
inductive DV where
 | any
 | val (v:Value)
 | agg (l:List DV)
 | tup (l:List DV)
 | sl (t:Ty) (l:List t.den)
 | rp (l:List DV)
 | fn (f:FuncId) (first caps:List DV)
 | ref (k:Nat)
 | sub (k lo n:Nat)
 | ptr (k off:Nat)
 | ep (k i off:Nat)
 | mp (k:Nat)
instance:Inhabited DV:=⟨.any⟩
inductive DO where
 | new
 | dead (sz:Nat)
 | blk (z:Bool) (t:TypeId) (cells:List DV)
 | row (z:Bool) (t:Ty) (e:TypeId) (l:List t.den)
 | frz (t:Ty) (l:List t.den)
 | map (z:Bool) (kt et:Ty) (l:List (kt.den×et.den))
def Ty.encD:(t:Ty)→t.den→List DV
 | .i k,n=>[.val (.int k n)]
 | .b,c=>[.val (.bool c)]
 | .s,c=>[.val (.string c)]
 | .u,_=>[]
 | .sl t,l=>[.sl t l]
 | .pr x y,p=>x.encD p.1++y.encD p.2
 | .pt t,x=>[.rp (t.encD x)]
def decP:(t:Ty)→List DV→Option t.den
 | .i k,l=>match l with
  | [.val (.int k' n)]=>if k=k' then some n else none
  | _=>none
 | .b,l=>match l with
  | [.val (.bool c)]=>some c
  | _=>none
 | .s,l=>match l with
  | [.val (.string c)]=>some c
  | _=>none
 | .u,l=>match l with
  | []=>some ()
  | _=>none
 | .sl _,_=>none
 | .pt _,_=>none
 | .pr x y,l=>match decP x (l.take x.sz),decP y (l.drop x.sz) with
  | some a,some b=>some (a,b)
  | _,_=>none
theorem ql4:∀{t:Ty} {l:List DV} {x:t.den},decP t l=some x→l=(t.encV x).map DV.val
 | .i k,l,x,h=>by
  unfold decP at h
  split at h
  ·split at h
   ·rename_i hk;injection h with h;subst hk h;rfl
   ·cases h
  ·cases h
 | .b,l,x,h=>by
  unfold decP at h
  split at h
  ·injection h with h;subst h;rfl
  ·cases h
 | .s,l,x,h=>by
  unfold decP at h
  split at h
  ·injection h with h;subst h;rfl
  ·cases h
 | .u,l,x,h=>by
  unfold decP at h
  split at h
  ·rfl
  ·cases h
 | .sl _,l,x,h=>by cases h
 | .pt _,l,x,h=>by cases h
 | .pr a b,l,x,h=>by
  unfold decP at h
  split at h
  ·rename_i p q h1 h2
   injection h with h
   subst h
   have e1:=ql4 h1
   have e2:=ql4 h2
   simp only[Ty.encV,List.map_append]
   rw[← e1,← e2,List.take_append_drop]
  ·cases h
inductive PT (σ:Type):Type 1 where
 | ret (s:σ)
 | fail
 | bind (Y:Type) (o:Option Y) (f:Y→PT σ)
 | br (c:Bool) (x y:PT σ)
 | case (X Y:Type) (x:X⊕Y) (f:X→PT σ) (g:Y→PT σ)
def PT.seq{σ τ:Type}:PT σ→(σ→PT τ)→PT τ
 | .ret s,k=>k s
 | .fail,_=>.fail
 | .bind Y o f,k=>.bind Y o fun y=>(f y).seq k
 | .br c x y,k=>.br c (x.seq k) (y.seq k)
 | .case X Y x f g,k=>.case X Y x (fun a=>(f a).seq k) (fun b=>(g b).seq k)
def PT.run{σ R:Type}:PT σ→(σ→Option R)→Option R
 | .ret s,k=>k s
 | .fail,_=>none
 | .bind _ o f,k=>o.bind fun y=>(f y).run k
 | .br c x y,k=>cond c (x.run k) (y.run k)
 | .case _ _ x f g,k=>Sum.elim (fun a=>(f a).run k) (fun b=>(g b).run k) x
def PT.Is{σ:Type}:PT σ→σ→Prop
 | .ret s,r=>s=r
 | .fail,_=>False
 | .bind _ o f,r=>∃y,o=some y∧(f y).Is r
 | .br c x y,r=>(c=true∧x.Is r)∨(c=false∧y.Is r)
 | .case _ _ x f g,r=>(∃a,x = .inl a∧(f a).Is r)∨(∃b,x = .inr b∧(g b).Is r)
theorem PT.run_is{σ R:Type}:∀(p:PT σ) {k:σ→Option R} {r:R},p.run k=some r→∃s,p.Is s∧k s=some r
 | .ret s,_,_,h=>⟨s,rfl,h⟩
 | .fail,_,_,h=>by cases h
 | .bind _ o f,k,r,h=>by
  unfold PT.run at h
  cases o with
  | none=>cases h
  | some y =>
   obtain ⟨s,h1,h2⟩:=PT.run_is (f y) (k:=k) (r:=r) h
   exact ⟨s,⟨y,rfl,h1⟩,h2⟩
 | .br c x y,k,r,h=>by
  unfold PT.run at h
  cases c with
  | true=>obtain ⟨s,h1,h2⟩:=PT.run_is x (k:=k) (r:=r) h;exact ⟨s,.inl ⟨rfl,h1⟩,h2⟩
  | false=>obtain ⟨s,h1,h2⟩:=PT.run_is y (k:=k) (r:=r) h;exact ⟨s,.inr ⟨rfl,h1⟩,h2⟩
 | .case X Y x f g,k,r,h=>by
  unfold PT.run at h
  cases x with
  | inl a=>obtain ⟨s,h1,h2⟩:=PT.run_is (f a) (k:=k) (r:=r) h;exact ⟨s,.inl ⟨a,rfl,h1⟩,h2⟩
  | inr b=>obtain ⟨s,h1,h2⟩:=PT.run_is (g b) (k:=k) (r:=r) h;exact ⟨s,.inr ⟨b,rfl,h1⟩,h2⟩
theorem PT.seq_is{σ τ:Type}:∀(p:PT σ) {k:σ→PT τ} {r:τ},(p.seq k).Is r→∃s,p.Is s∧(k s).Is r
 | .ret s,_,_,h=>⟨s,rfl,h⟩
 | .fail,_,_,h=>h.elim
 | .bind _ o f,k,r,⟨y,h1,h2⟩=>by
  obtain ⟨s,h3,h4⟩:=PT.seq_is (f y) h2
  exact ⟨s,⟨y,h1,h3⟩,h4⟩
 | .br c x y,k,r,h=>by
  rcases h with ⟨h1,h2⟩ | ⟨h1,h2⟩
  ·obtain ⟨s,h3,h4⟩:=PT.seq_is x h2;exact ⟨s,.inl ⟨h1,h3⟩,h4⟩
  ·obtain ⟨s,h3,h4⟩:=PT.seq_is y h2;exact ⟨s,.inr ⟨h1,h3⟩,h4⟩
 | .case X Y x f g,k,r,h=>by
  rcases h with ⟨a,h1,h2⟩ | ⟨b,h1,h2⟩
  ·obtain ⟨s,h3,h4⟩:=PT.seq_is (f a) h2;exact ⟨s,.inl ⟨a,h1,h3⟩,h4⟩
  ·obtain ⟨s,h3,h4⟩:=PT.seq_is (g b) h2;exact ⟨s,.inr ⟨b,h1,h3⟩,h4⟩
structure TyE (P:Program) (t:TypeId) where
 sz:Nat
 ag:Bool
 z:Value
 ok:TyAt P t sz ag z
structure FdE (P:Program) (t:TypeId) (f:Nat) where
 off:Nat
 sz:Nat
 ag:Bool
 ok:FieldAt P t f off sz ag
structure SlE (P:Program) (t:TypeId) where
 e:TypeId
 sz:Nat
 ag:Bool
 bytes:Nat
 z:Value
 ty:Ty
 zero:ty.den
 ok:SliceTy P t e sz ag bytes z
 hs:ty.sz=sz
 hb:bytes≤100000000
 hn:sz≤50
 hz:∀(w:World) (S:Nat→Prop) (i:Nat) (d:AV),(ty.enc zero)[i]?=some d→Enc w S (z.cells.getD i undef) d
 cap:Nat
 hc:cap*bytes≤140737488355328∧cap≤140737488355328
structure Tab (P:Program) where
 ty:(t:TypeId)→Option (TyE P t)
 fd:(t:TypeId)→(f:Nat)→Option (FdE P t f)
 sl:(t:TypeId)→Option (SlE P t)
 it:(t:TypeId)→Option {k:IntKind // IntTy P t k}
 bt:(t:TypeId)→Option (PLift (BoolTy P t))
 st:(t:TypeId)→Option (PLift (StructTy P t))
 eq:(t:TypeId)→Option (EqE P t)
 ft:(t:TypeId)→Option (PLift (FuncTy P t))
 mp:(t:TypeId)→Option (MpE P t)
 str:(t:TypeId)→Option (PLift (P.underlying t=some .string))
 mixed:P.follows .mixedOrders=true
def lget:List DV→Nat→DV
 | [],_=>.any
 | a::_,0=>a
 | _::l,n+1=>lget l n
def lput:List DV→Nat→DV→List DV
 | [],_,_=>[]
 | _::l,0,v=>v::l
 | a::l,n+1,v=>a::lput l n v
def qt(l:List DV):Option Tmp→DV→List DV
 | none,_=>l
 | some d,v=>lput l d v
def hget:List DO→Nat→DO
 | [],_=>.new
 | a::_,0=>a
 | _::l,n+1=>hget l n
def hput:List DO→Nat→DO→List DO
 | [],_,_=>[]
 | _::l,0,v=>v::l
 | a::l,n+1,v=>a::hput l n v
def qcI(H:List DO)(k:Nat):Bool:=match hget H k with
 | .new=>Nat.blt k H.length
 | _=>false
structure St where
 T:List DV
 H:List DO
def qdo(p:Bool):Option Unit:=cond p (some ()) none
theorem qd5{p:Bool}{u:Unit}(h:qdo p=some u):p=true:=by cases p with | true=>rfl | false=>cases h
def lat{α:Type}(l:List α)(n:Int):Option α:=if 0≤n then l[n.toNat]? else none
theorem qAx{α:Type}{l:List α}{n:Int}{x:α}(h:lat l n=some x):0≤n∧l[n.toNat]?=some x:=by
 unfold lat at h
 split at h
 ·rename_i h0;exact ⟨h0,h⟩
 ·cases h
def cutO(len:Nat)(n:Int):Option Nat:=if 0≤n∧n≤len then some n.toNat else none
theorem qeK{len:Nat}{n:Int}{k:Nat}(h:cutO len n=some k):n=(k:Int)∧k≤len:=by
 unfold cutO at h
 split at h
 ·injection h with h;omega
 ·cases h
def qma:DV→Option (List DV)
 | .agg l=>some l
 | .val (.agg vs)=>some (vs.toList.map .val)
 | .val (.tuple _)=>none
 | .any=>none
 | .tup _=>none
 | d=>some [d]
def oneD:DV→Bool
 | .val v=>v.oneCell'
 | .any=>false
 | .agg _=>false
 | .tup _=>false
 | _=>true
def qqk(sz:Nat)(ag:Bool)(cells:List DV):Option DV :=
 match ag with
 | true=>match Nat.ble sz cells.length&&Nat.blt 0 sz with
  | true=>some (.agg (cells.take sz))
  | false=>none
 | false=>match sz,cells with
  | 1,d::_=>some d
  | _,_=>none
def optP{σ:Type}:Option σ→PT σ
 | some d=>.ret d
 | none=>.fail
theorem qfe{σ:Type}{o:Option σ}{r:σ}(h:(optP o).Is r):o=some r:=by
 cases o with
 | none=>exact h.elim
 | some d=>exact congrArg some h
def decI(k:IntKind):List DV→Option Int
 | [.val (.int k' n)]=>if k=k' then some n else none
 | _=>none
def decB:List DV→Option Bool
 | [.val (.bool c)]=>some c
 | _=>none
def decS:List DV→Option ByteArray
 | [.val (.string c)]=>some c
 | _=>none
def decU:List DV→Option Unit
 | []=>some ()
 | _=>none
def decR(t:Ty)(H:List DO)(k:Nat):Option (List t.den×List DO×List Nat) :=
 match hget H k with
 | .row false t' _ l=>(asT t t' l).map fun x=>(x,hput H k (.frz t' l),[k])
 | .frz t' l=>(asT t t' l).map fun x=>(x,H,[k])
 | _=>none
def qwb(t:Ty)(H:List DO):List DV→Option (List t.den×List DO×List Nat)
 | [.sl t' l]=>(asT t t' l).map fun l=>(l,H,[])
 | [.val (.slice none 0 0)]=>some ([],H,[])
 | [.ref k]=>decR t H k
 | _=>none
def purF:(t:Ty)→List DV→Option t.den
 | .i k,cs=>decI k cs
 | .b,cs=>decB cs
 | .s,cs=>decS cs
 | .u,cs=>decU cs
 | .sl t,cs=>match cs with
  | [.sl t' l]=>asT t t' l
  | _=>none
 | .pr x y,cs=>match purF x (cs.take x.sz),purF y (cs.drop x.sz) with
  | some a,some c=>some (a,c)
  | _,_=>none
 | .pt t,cs=>match cs with
  | [.rp l]=>purF t l
  | _=>none
def decF:(t:Ty)→List DO→List DV→Option (t.den×List DO×List Nat)
 | .i k,H,cs=>(decI k cs).map fun n=>(n,H,[])
 | .b,H,cs=>(decB cs).map fun n=>(n,H,[])
 | .s,H,cs=>(decS cs).map fun n=>(n,H,[])
 | .u,H,cs=>(decU cs).map fun n=>(n,H,[])
 | .sl t,H,cs=>qwb t H cs
 | .pr x y,H,cs=>match decF x H (cs.take x.sz) with
  | some (a,H1,F1)=>match decF y H1 (cs.drop x.sz) with
   | some (c,H2,F2)=>some ((a,c),H2,F1++F2)
   | none=>none
  | none=>none
 | .pt t,H,cs=>(purF (.pt t) cs).map fun x=>(x,H,[])
def qk1(t:Ty)(H:List DO):DV→PT (List t.den×List Nat)
 | .sl t' l=>(optP (asT t t' l)).seq fun l=>.ret (l,[])
 | .val (.slice _ 0 _)=>.ret ([],[])
 | .ref k=>match hget H k with
  | .row _ t' _ l=>(optP (asT t t' l)).seq fun l=>.ret (l,[k])
  | .frz t' l=>(optP (asT t t' l)).seq fun l=>.ret (l,[k])
  | _=>.fail
 | .sub k lo n=>match hget H k with
  | .row _ t' _ l=>.bind Unit (qdo (Nat.ble (lo+n) l.length)) fun _=>(optP (asT t t' l)).seq fun l=>.ret ((l.drop lo).take n,[k])
  | _=>.fail
 | _=>.fail
structure SR where
 v:DV
 H:List DO
 F:List Nat
def binI(k:IntKind)(a b:Int):BinOp→PT DV
 | .add=>.ret (.val (.int k (k.wrap (a+b))))
 | .sub=>.ret (.val (.int k (k.wrap (a-b))))
 | .mul=>.ret (.val (.int k (k.wrap (a*b))))
 | .quo=>.bind Unit (qdo (b != 0)) fun _=>.ret (.val (.int k (k.wrap (a.tdiv b))))
 | .rem=>.bind Unit (qdo (b != 0)) fun _=>.ret (.val (.int k (a.tmod b)))
 | .and=>.ret (.val (.int k (bits .and k a b)))
 | .or=>.ret (.val (.int k (bits .or k a b)))
 | .xor=>.ret (.val (.int k (bits .xor k a b)))
 | .andNot=>.ret (.val (.int k (bits .andNot k a b)))
 | .lss=>.ret (.val (.bool (decide (a<b))))
 | .leq=>.ret (.val (.bool (decide (a≤b))))
 | .gtr=>.ret (.val (.bool (decide (a>b))))
 | .geq=>.ret (.val (.bool (decide (a≥b))))
 | .eql=>.ret (.val (.bool (a==b)))
 | .neq=>.ret (.val (.bool (a != b)))
 | _=>.fail
def shI(k:IntKind)(a b:Int):BinOp→PT DV
 | .shr=>.bind Unit (qdo (decide (0≤b)&&decide (b≤k.bits))) fun _=>.ret (.val (.int k (a/2 ^ b.toNat)))
 | .shl=>.bind Unit (qdo (decide (0≤b)&&decide (b≤k.bits))) fun _=>.ret (.val (.int k (k.wrap (a*2 ^ b.toNat))))
 | _=>.fail
def isSh:BinOp→Bool
 | .shl=>true
 | .shr=>true
 | _=>false
def nilD(b:Bool):BinOp→PT DV
 | .eql=>.ret (.val (.bool b))
 | .neq=>.ret (.val (.bool (!b)))
 | _=>.fail
def binD{P:Program}(B:Tab P)(op:BinOp)(ty:TypeId):DV→DV→PT DV
 | .val (.int k a),.val (.int k' b)=>match isSh op with
  | true=>shI k a b op
  | false=>if k=k' then binI k a b op else .fail
 | .val (.bool a),.val (.bool b)=>match B.bt ty,op with
  | some _,.eql=>.ret (.val (.bool (a==b)))
  | some _,.neq=>.ret (.val (.bool (a != b)))
  | _,_=>.fail
 | .agg a,.agg b=>match B.eq ty with
  | some e=>match decP e.ty a,decP e.ty b with
   | some x,some y=>match op with
    | .eql=>.ret (.val (.bool (e.ty.eqB x y)))
    | .neq=>.ret (.val (.bool (!e.ty.eqB x y)))
    | _=>.fail
   | _,_=>.fail
  | none=>.fail
 | .fn _ _ _,.val .nilFunc=>match B.ft ty with
  | some _=>nilD false op
  | none=>.fail
 | .val .nilFunc,.val .nilFunc=>match B.ft ty with
  | some _=>nilD true op
  | none=>.fail
 | .sl _ (_::_),.val (.slice none 0 0)=>match B.sl ty with
  | some _=>nilD false op
  | none=>.fail
 | .val (.slice A _ _),.val (.slice none 0 0)=>match B.sl ty with
  | some _=>nilD A.isNone op
  | none=>.fail
 | _,_=>.fail
def unD(op:UnOp):DV→PT DV
 | .val (.bool a)=>match op with
  | .not=>.ret (.val (.bool (!a)))
  | _=>.fail
 | .val (.int k a)=>match op with
  | .neg=>.ret (.val (.int k (k.wrap (0-a))))
  | .xor=>.ret (.val (.int k (bits .xor k (if k.signed then -1 else k.max) a)))
  | _=>.fail
 | _=>.fail
def qzy(c:Bool):DV→DV→PT DV
 | .val (.bool u),.val (.bool v)=>.ret (.val (.bool (cond c u v)))
 | x,y=>.br c (.ret x) (.ret y)
def qzz{P:Program}(B:Tab P)(src dst:TypeId):DV→PT DV
 | .val (.int k a)=>match B.it src,B.it dst with
  | some k1,some k2=>if k1.1=k then .ret (.val (.int k2.1 (k2.1.wrap a))) else .fail
  | _,_=>.fail
 | _=>.fail
def qrK{P:Program}(B:Tab P)(ty:TypeId)(f:Nat)(d:DV):PT DV :=
 match B.fd ty f with
 | none=>.fail
 | some e=>match d with
  | .rp cells=>.ret (.rp (cells.drop e.off))
  | .ptr k o=>.ret (.ptr k (o+e.off))
  | .ep k i o=>.ret (.ep k i (o+e.off))
  | _=>.fail
def qwU{P:Program}(B:Tab P)(ty:TypeId)(f:Nat)(d:DV):PT DV :=
 match B.fd ty f with
 | none=>.fail
 | some e=>match d with
  | .agg cells=>optP (qqk e.sz e.ag (cells.drop e.off))
  | _=>.fail
def qs8:DV→PT DV
 | .rp l=>.ret (.rp l)
 | .ptr k o=>.ret (.ptr k o)
 | .ep k i o=>.ret (.ep k i o)
 | .fn f a c=>.ret (.fn f a c)
 | _=>.fail
def qzA(f:FuncId)(n:Nat)(ds:List DV):PT DV :=
 match n,ds with
 | 0,ds=>.ret (.fn f [] ds)
 | 1,d::ds=>.ret (.fn f [d] ds)
 | _,_=>.fail
def quc(i:Nat):DV→PT DV
 | .tup ds=>optP (ds[i]?)
 | _=>.fail
def minD:DV→DV→PT DV
 | .val (.int k a),.val (.int k' b)=>if k=k' then .ret (.val (.int k (if b<a then b else a))) else .fail
 | _,_=>.fail
def maxD:DV→DV→PT DV
 | .val (.int k a),.val (.int k' b)=>if k=k' then .ret (.val (.int k (if b>a then b else a))) else .fail
 | _,_=>.fail
def qtQ:List (Nat×Nat)→List DV→List DV→Option (List DV)
 | [],[],cells=>some cells
 | (off,sz)::rest,d::ds,cells=>match qma d with
  | some cs=>match Nat.beq cs.length sz&&Nat.ble (off+sz) cells.length with
   | true=>qtQ rest ds (qk cells off cs)
   | false=>none
  | none=>none
 | _,_,_=>none
def qql{P:Program}(B:Tab P)(ty:TypeId):List Nat→Option (List (Nat×Nat))
 | []=>some []
 | f::fs=>match B.fd ty f,qql B ty fs with
  | some e,some ps=>some ((e.off,e.sz)::ps)
  | _,_=>none
def qwV{P:Program}(B:Tab P)(ty:TypeId)(fs:List Nat)(ds:List DV):PT DV :=
 match B.ty ty,B.st ty,qql B ty fs with
 | some e,some _,some ps=>match e.ag,e.z with
  | true,.agg zs=>(optP (qtQ ps ds (zs.toList.map .val))).seq fun cs=>.ret (.agg cs)
  | _,_=>.fail
 | _,_,_=>.fail
def qzB(s:ByteArray)(n:Int):Option Nat:=if 0≤n then (s[n.toNat]?).map UInt8.toNat else none
def qvC{P:Program}(B:Tab P)(ty:TypeId)(s:ByteArray)(n:Int):PT DV :=
 match B.str ty with
 | some _=>.bind Nat (qzB s n) fun b=>.ret (.val (.int .u8 b))
 | none=>.fail
def qwc{P:Program}(B:Tab P):Op→List DV→PT DV
 | .move _,[d]=>.ret d
 | .assign _,[d]=>.ret d
 | .pick _ _ _,[.val (.bool c),x,y]=>qzy c x y
 | .fieldAddr ty _ f,[d]=>qrK B ty f d
 | .field ty _ f,[d]=>qwU B ty f d
 | .nilCheck _,[d]=>qs8 d
 | .binOp op ty _ _ _,[x,y]=>binD B op ty x y
 | .unOp op _ _,[d]=>unD op d
 | .convert src dst _,[d]=>qzz B src dst d
 | .extract _ i,[d]=>quc i d
 | .makeFunc (.func f) first _,ds=>qzA f first.size ds
 | .call ⟨.builtin .min,_,_⟩,[x,y]=>minD x y
 | .call ⟨.builtin .max,_,_⟩,[x,y]=>maxD x y
 | .build ty ps,ds=>qwV B ty (ps.toList.map (·.1)) ds
 | .index ty _ _,[.val (.string s),.val (.int _ n)]=>qvC B ty s n
 | _,_=>.fail
def qom{P:Program}(B:Tab P)(H:List DO)(ty:TypeId)(d:DV):PT SR :=
 match B.ty ty with
 | none=>.fail
 | some e=>match d with
  | .rp cells=>(optP (qqk e.sz e.ag cells)).seq fun d=>.ret ⟨d,H,[]⟩
  | .ptr k off=>match hget H k with
   | .blk _ _ cells=>(optP (qqk e.sz e.ag (cells.drop off))).seq fun d=>.ret ⟨d,H,[k]⟩
   | _=>.fail
  | .ep k i off=>match hget H k with
   | .row _ t _ l=>.bind t.den l[i]? fun x=>(optP (qqk e.sz e.ag ((t.encD x).drop off))).seq fun d=>.ret ⟨d,H,[k]⟩
   | _=>.fail
  | _=>.fail
def qmb{P:Program}(B:Tab P)(H:List DO)(ty:TypeId)(d:DV)(n:Int):PT SR :=
 match B.sl ty with
 | none=>.fail
 | some e=>match d with
  | .sl t l=>match Nat.beq t.sz e.sz with
   | true=>.bind t.den (lat l n) fun x=>.ret ⟨.rp (t.encD x),H,[]⟩
   | false=>.fail
  | .ref k=>match hget H k with
   | .row _ t _ l=>match Nat.beq t.sz e.sz with
    | true=>.bind t.den (lat l n) fun _=>.ret ⟨.ep k n.toNat 0,H,[k]⟩
    | false=>.fail
   | .frz t l=>match Nat.beq t.sz e.sz with
    | true=>.bind t.den (lat l n) fun x=>.ret ⟨.rp (t.encD x),H,[k]⟩
    | false=>.fail
   | _=>.fail
  | .sub k lo m=>match hget H k with
   | .row _ t _ l=>match Nat.beq t.sz e.sz with
    | true=>.bind t.den (lat ((l.drop lo).take m) n) fun _=>.ret ⟨.ep k (lo+n.toNat) 0,H,[k]⟩
    | false=>.fail
   | _=>.fail
  | _=>.fail
def lenD{P:Program}(B:Tab P)(H:List DO)(ty:TypeId)(d:DV):PT SR :=
 match B.sl ty with
 | none=>.fail
 | some _=>match d with
  | .sl _ l=>.ret ⟨.val (.int .i64 l.length),H,[]⟩
  | .val (.slice _ n _)=>.ret ⟨.val (.int .i64 n),H,[]⟩
  | .ref k=>match hget H k with
   | .row _ _ _ l=>.ret ⟨.val (.int .i64 l.length),H,[k]⟩
   | .frz _ l=>.ret ⟨.val (.int .i64 l.length),H,[k]⟩
   | _=>.fail
  | .sub k _ n=>match hget H k with
   | .row _ _ _ _=>.ret ⟨.val (.int .i64 n),H,[k]⟩
   | _=>.fail
  | _=>.fail
def qon{P:Program}(B:Tab P)(H:List DO)(ty:TypeId)(n:Int)(d:DV):PT SR :=
 match B.sl ty with
 | none=>.fail
 | some e=>match d with
  | .sl t l=>match Nat.beq t.sz e.sz with
   | true=>.bind Nat (cutO l.length n) fun k=>.ret ⟨.sl t (l.take k),H,[]⟩
   | false=>.fail
  | .ref k=>match hget H k with
   | .row _ t _ l=>match Nat.beq t.sz e.sz with
    | true=>.bind Nat (cutO l.length n) fun m=>.ret ⟨.sub k 0 m,H,[k]⟩
    | false=>.fail
   | .frz t l=>match Nat.beq t.sz e.sz with
    | true=>.bind Nat (cutO l.length n) fun m=>.ret ⟨.sl t (l.take m),H,[k]⟩
    | false=>.fail
   | _=>.fail
  | .val (.slice A _ c)=>.bind Nat (cutO c n) fun k=>.ret ⟨.val (.slice A k c),H,[]⟩
  | _=>.fail
def qoo{P:Program}(B:Tab P)(H:List DO)(ty:TypeId)(n:Int)(d:DV):PT SR :=
 match B.sl ty with
 | none=>.fail
 | some e=>match d with
  | .sl t l=>match Nat.beq t.sz e.sz with
   | true=>.bind Nat (cutO l.length n) fun k=>.ret ⟨.sl t (l.drop k),H,[]⟩
   | false=>.fail
  | .ref k=>match hget H k with
   | .row _ t _ l=>match Nat.beq t.sz e.sz with
    | true=>.bind Nat (cutO l.length n) fun m=>.ret ⟨.sub k m (l.length-m),H,[k]⟩
    | false=>.fail
   | .frz t l=>match Nat.beq t.sz e.sz with
    | true=>.bind Nat (cutO l.length n) fun m=>.ret ⟨.sl t (l.drop m),H,[k]⟩
    | false=>.fail
   | _=>.fail
  | _=>.fail
def cutD{P:Program}(B:Tab P)(H:List DO)(ty:TypeId)(lo hi:Int)(d:DV):PT SR :=
 match B.sl ty with
 | none=>.fail
 | some e=>match d with
  | .sl t l=>match Nat.beq t.sz e.sz with
   | true=>.bind Nat (cutO l.length hi) fun m=>.bind Nat (cutO m lo) fun k=>.ret ⟨.sl t ((l.take m).drop k),H,[]⟩
   | false=>.fail
  | .ref k=>match hget H k with
   | .row _ t _ l=>match Nat.beq t.sz e.sz with
    | true=>.bind Nat (cutO l.length hi) fun m=>.bind Nat (cutO m lo) fun j=>.ret ⟨.sub k j (m-j),H,[k]⟩
    | false=>.fail
   | .frz t l=>match Nat.beq t.sz e.sz with
    | true=>.bind Nat (cutO l.length hi) fun m=>.bind Nat (cutO m lo) fun j=>.ret ⟨.sl t ((l.take m).drop j),H,[k]⟩
    | false=>.fail
   | _=>.fail
  | _=>.fail
def qnF{P:Program}(B:Tab P)(H:List DO)(ty:TypeId)(p d:DV):PT SR :=
 match B.ty ty,qma d with
 | some e,some cs=>match Nat.beq cs.length e.sz&&cs.all oneD with
  | true=>match p with
   | .ptr k off=>match hget H k with
    | .blk z tt cells=>match Nat.ble (off+cs.length) cells.length with
     | true=>.ret ⟨.val undef,hput H k (.blk z tt (qk cells off cs)),[k]⟩
     | false=>.fail
    | _=>.fail
   | .ep k i off=>match hget H k with
    | .row z t te l=>.bind t.den l[i]? fun x=>match Nat.ble (off+cs.length) t.sz with
     | true=>match decF t H (qk (t.encD x) off cs) with
      | some (x',H',F)=>match hget H' k with
       | .row _ _ _ _=>.ret ⟨.val undef,hput H' k (.row z t te (l.set i x')),k::F⟩
       | _=>.fail
      | none=>.fail
     | false=>.fail
    | _=>.fail
   | _=>.fail
  | false=>.fail
 | _,_=>.fail
def qnG{P:Program}(B:Tab P)(id:Nat)(H:List DO)(ty:TypeId):PT SR :=
 match B.ty ty,qcI H id with
 | some e,true=>.ret ⟨.ptr id 0,hput H id (.blk false ty (e.z.cells.toList.map .val)),[id]⟩
 | _,_=>.fail
def boxD(id:Nat)(H:List DO)(ty:TypeId)(d:DV):PT SR :=
 match qma d,qcI H id with
 | some cs,true=>.ret ⟨.ptr id 0,hput H id (.blk false ty cs),[id]⟩
 | _,_=>.fail
def qqm{P:Program}(B:Tab P)(id:Nat)(H:List DO)(ty:TypeId)(n m:Int):PT SR :=
 match B.sl ty,qcI H id with
 | some e,true=>.bind Unit (qdo (decide (0≤n)&&decide (n≤10000))) fun _=>.bind Unit (qdo (n==m)) fun _=>.ret ⟨.ref id,hput H id (.row false e.ty e.e (List.replicate n.toNat e.zero)),[id]⟩
 | _,_=>.fail
def decL(t:Ty):List DO→List DV→Option (List t.den×List DO×List Nat)
 | H,[]=>some ([],H,[])
 | H,d::ds=>match qma d with
  | some cs=>match decF t H cs with
   | some (x,H1,F1)=>match decL t H1 ds with
    | some (l,H2,F2)=>some (x::l,H2,F1++F2)
    | none=>none
   | none=>none
  | none=>none
def ql5{P:Program}(B:Tab P)(id:Nat)(H:List DO)(ty:TypeId)(n:Nat)(is:List Nat)(ds:List DV):PT SR :=
 match B.sl ty with
 | some e=>match decL e.ty H ds with
  | some (l,H',F)=>match qcI H' id with
   | true=>match Nat.ble n 20&&decide (is=List.range n) with
    | true=>.ret ⟨.ref id,hput H' id (.row false e.ty e.e l),id::F⟩
    | false=>.fail
   | false=>.fail
  | none=>.fail
 | none=>.fail
def qmU(t:Ty)(e:TypeId)(H:List DO):DV→PT (List t.den×List DO×List Nat)
 | .val (.slice none 0 0)=>.ret ([],H,[])
 | .ref k=>match hget H k with
  | .row false t' e' l=>match Nat.beq e' e with
   | true=>(optP (asT t t' l)).seq fun l=>.ret (l,hput H k (.dead t'.sz),[k])
   | false=>.fail
  | _=>.fail
 | .sub k 0 m=>match hget H k with
  | .row false t' e' l=>match Nat.beq e' e with
   | true=>.bind Unit (qdo (Nat.ble m l.length)) fun _=>(optP (asT t t' l)).seq fun l=>.ret (l.take m,hput H k (.dead t'.sz),[k])
   | false=>.fail
  | _=>.fail
 | _=>.fail
def qkJ{P:Program}(B:Tab P)(id:Nat)(H:List DO)(ty:TypeId)(x y:DV):PT SR :=
 match B.sl ty,qcI H id with
 | some e,true=>(qk1 e.ty H y).seq fun l2=>(qmU e.ty e.e H x).seq fun l1=>.bind Unit (qdo (Nat.ble (l1.1.length+l2.1.length) e.cap)) fun _=>.ret ⟨.ref id,hput l1.2.1 id (.row false e.ty e.e (l1.1++l2.1)),id::(l1.2.2++l2.2)⟩
 | _,_=>.fail
def Ty.argD:(t:Ty)→t.den→DV
 | .i k,n=>.val (.int k n)
 | .b,c=>.val (.bool c)
 | .s,c=>.val (.string c)
 | .u,_=>.agg []
 | .sl t,l=>.sl t l
 | .pr x y,p=>.agg (Ty.encD (.pr x y) p)
 | .pt t,x=>.rp (t.encD x)
def cellsOf(ag:Bool)(d:DV):Option (List DV) :=
 match ag with
 | true=>match d with
  | .agg cs=>some cs
  | _=>none
 | false=>some [d]
def decV(t:Ty)(H:List DO)(d:DV):Option (t.den×List DO×List Nat) :=
 match cellsOf t.isAgg d with
 | some cs=>decF t H cs
 | none=>none
def decK(t:Ty):DV→Option t.den
 | .agg l=>match t.aggB with
  | true=>decP t l
  | false=>none
 | .val v=>match t.aggB with
  | true=>none
  | false=>decP t [.val v]
 | _=>none
def asM(kt et kt' et':Ty)(l:List (kt'.den×et'.den)):Option (List (kt.den×et.den)):=asT (.pr kt et) (.pr kt' et') l
def qio{P:Program}(B:Tab P)(id:Nat)(H:List DO)(ty:TypeId):PT SR :=
 match B.mp ty,qcI H id with
 | some e,true=>.ret ⟨.mp id,hput H id (.map false e.kt e.et []),[id]⟩
 | _,_=>.fail
def getM{P:Program}{ty:TypeId}(e:MpE P ty)(H:List DO):DV→Option (Nat×Bool×List (e.kt.den×e.et.den))
 | .mp k=>match hget H k with
  | .map z kt et l=>(asM e.kt e.et kt et l).map fun l=>(k,z,l)
  | _=>none
 | _=>none
def qgn{P:Program}(B:Tab P)(H:List DO)(ty:TypeId)(ok:Bool)(d x:DV):PT SR :=
 match B.mp ty with
 | some e=>match getM e H d,decK e.kt x with
  | some (k,_,l),some x=>.ret ⟨cond ok (.tup [e.et.argD (qh4 e.kt e.zero x l),.val (.bool (qqi e.kt x l))]) (e.et.argD (qh4 e.kt e.zero x l)),H,[k]⟩
  | _,_=>.fail
 | none=>.fail
def qj9{P:Program}(B:Tab P)(H:List DO)(ty:TypeId)(d x:DV):PT SR :=
 match B.mp ty with
 | some e=>match getM e H d,decK e.kt x,e.et.plain with
  | some (k,z,l),some x,true=>.ret ⟨.tup [.val (e.et.val1 (qh4 e.kt e.zero x l)),.val (.int .i64 (mpIx e.kt x l))],hput H k (.map z e.kt e.et (qj8 e.kt e.zero x l)),[k]⟩
  | _,_,_=>.fail
 | none=>.fail
def qnH{P:Program}(B:Tab P)(H:List DO)(ty:TypeId)(d:DV)(n:Int)(v:DV):PT SR :=
 match B.mp ty with
 | some e=>match decV e.et H v with
  | some (v,H1,F)=>match getM e H1 d with
   | some (k,z,l)=>.bind Nat (cutO (l.length-1) n) fun n=>.bind Unit (qdo (Nat.blt n l.length)) fun _=>.ret ⟨.val undef,hput H1 k (.map z e.kt e.et (qk0 n v l)),k::F⟩
   | none=>.fail
  | none=>.fail
 | none=>.fail
def qla{P:Program}(B:Tab P)(H:List DO)(ty:TypeId)(d x v:DV):PT SR :=
 match B.mp ty with
 | some e=>match decV e.et H v with
  | some (v,H1,F)=>match getM e H1 d,decK e.kt x with
   | some (k,z,l),some x=>.ret ⟨.val undef,hput H1 k (.map z e.kt e.et (qqj e.kt v x l)),k::F⟩
   | _,_=>.fail
  | none=>.fail
 | none=>.fail
def capD{P:Program}(B:Tab P)(H:List DO)(ty:TypeId)(d:DV):PT SR :=
 match B.sl ty with
 | some _=>match d with
  | .val (.slice _ _ c)=>.ret ⟨.val (.int .i64 c),H,[]⟩
  | _=>.fail
 | none=>.fail
def qnI{P:Program}(B:Tab P)(H:List DO)(ty:TypeId)(d:DV):PT SR :=
 match B.sl ty with
 | some e=>match d with
  | .sub k lo n=>match hget H k with
   | .row z t te l=>match asT t e.ty (List.replicate n e.zero),Nat.beq te e.e with
    | some zs,true=>.bind Unit (qdo (Nat.ble (lo+n) l.length)) fun _=>.ret ⟨.val (.tuple #[]),hput H k (.row z t te (l.take lo++zs++l.drop (lo+n))),[k]⟩
    | _,_=>.fail
   | _=>.fail
  | _=>.fail
 | none=>.fail
def qop{P:Program}(B:Tab P)(id:Nat)(H:List DO)(ty tn:TypeId)(x y:DV):PT SR :=
 match B.sl ty,B.it tn,qcI H id with
 | some e,some _,true=>match x,y with
  | .val (.slice none 0 0),.val (.int _ n)=>.bind Nat (cutO 10000 n) fun k=>.bind Unit (qdo (Nat.blt 0 k)) fun _=>.ret ⟨.ref id,hput H id (.row false e.ty e.e (List.replicate k e.zero)),[id]⟩
  | _,_=>.fail
 | _,_,_=>.fail
def cpL{α:Type}(l:List α)(lo n:Nat)(vs:List α):List α:=l.take lo++vs.take n++l.drop (lo+min vs.length n)
def cpN{α:Type}(vs:List α)(n:Nat):Nat:=min vs.length n
def qqn{P:Program}(B:Tab P)(H:List DO)(ty:TypeId)(d s:DV):PT SR :=
 match B.sl ty with
 | some e=>match Nat.beq e.ty.sz 1 with
  | true=>(qk1 e.ty H s).seq fun v=>match d with
   | .ref k=>match hget H k with
    | .row z t te l=>(optP (asT t e.ty v.1)).seq fun vs=>.ret ⟨.val (.int .i64 (cpN vs l.length)),hput H k (.row z t te (cpL l 0 l.length vs)),k::v.2⟩
    | _=>.fail
   | .sub k lo n=>match hget H k with
    | .row z t te l=>(optP (asT t e.ty v.1)).seq fun vs=>.bind Unit (qdo (Nat.ble (lo+n) l.length)) fun _=>.ret ⟨.val (.int .i64 (cpN vs n)),hput H k (.row z t te (cpL l lo n vs)),k::v.2⟩
    | _=>.fail
   | _=>.fail
  | false=>.fail
 | none=>.fail
def optH(H:List DO)(p:PT DV):PT SR:=p.seq fun d=>.ret ⟨d,H,[]⟩
def sop{P:Program}(B:Tab P)(id:Nat)(H:List DO):Op→List DV→PT SR
 | .load ty _,[d]=>qom B H ty d
 | .indexAddr ty _ _,[d,.val (.int _ n)]=>qmb B H ty d n
 | .store ty _ _,[p,d]=>qnF B H ty p d
 | .alloc ty,[]=>qnG B id H ty
 | .box ty _,[d]=>boxD id H ty d
 | .makeSlice ty _ _,[.val (.int _ n),.val (.int _ m)]=>qqm B id H ty n m
 | .buildSlice ty n ps,ds=>ql5 B id H ty n (ps.toList.map (·.1)) ds
 | .slice ty _ none (some _) none,[d,.val (.int _ n)]=>qon B H ty n d
 | .slice ty _ (some _) none none,[d,.val (.int _ n)]=>qoo B H ty n d
 | .slice ty _ (some _) (some _) none,[d,.val (.int _ n),.val (.int _ m)]=>cutD B H ty n m d
 | .call ⟨.builtin .len,ar,tys⟩,[d]=>match ar.toList,tys.toList with
  | [_],[ty]=>lenD B H ty d
  | _,_=>.fail
 | .call ⟨.builtin .append,ar,tys⟩,[x,y]=>match ar.toList,tys.toList with
  | [_,_],[ty,ty']=>match Nat.beq ty ty' with
   | true=>qkJ B id H ty x y
   | false=>qop B id H ty ty' x y
  | _,_=>.fail
 | .makeMap ty none,[]=>qio B id H ty
 | .makeMap ty (some _),[.val (.int _ _)]=>qio B id H ty
 | .lookup ty _ _ ok,[d,x]=>qgn B H ty ok d x
 | .mapEntry ty _ _,[d,x]=>qj9 B H ty d x
 | .entryStore ty _ _ _,[d,.val (.int _ n),v]=>qnH B H ty d n v
 | .mapUpdate ty _ _ _,[d,x,v]=>qla B H ty d x v
 | .insert ty _ _ _,[d,x,v]=>qla B H ty d x v
 | .call ⟨.builtin .clear,ar,tys⟩,[d]=>match ar.toList,tys.toList with
  | [_],[ty]=>qnI B H ty d
  | _,_=>.fail
 | .call ⟨.builtin .cap,ar,tys⟩,[d]=>match ar.toList,tys.toList with
  | [_],[ty]=>capD B H ty d
  | _,_=>.fail
 | .call ⟨.builtin .copy,ar,tys⟩,[d,s]=>match ar.toList,tys.toList with
  | [_,_],[ty,_]=>qqn B H ty d s
  | _,_=>.fail
 | op,ds=>optH H (qwc B op ds)
def evD(T:List DV):Operand→DV
 | .tmp i=>lget T i
 | .const v=>.val v
 | .func f=>.val (.func (.func f) #[] #[])
 | .global g=>.val (.pointer (some ⟨g,0,none⟩))
def botA:AV:=.sl 0 [[.any]]
theorem qka{w:World}{S:Nat→Prop}{v:Value}(h:Enc w S v botA):False:=by
 unfold botA at h
 cases h with
 | sl b off n c sz rows cv hn hc hm hS hb hr hcell h=>have:=hr 0 [.any] rfl;simp at this
structure Cn where
 v:Value
 sz:Nat
 ro:Option AV
def refA:Option Cn→AV
 | none=>botA
 | some c=>c.ro.getD (.val c.v)
def subA(lo n:Nat):Option Cn→AV
 | none=>botA
 | some c=>match c.v with
  | .slice (some ⟨b,o,sp⟩) _ cap=>.val (.slice (some (if cap=lo then ⟨b,o,sp⟩ else ⟨b,o+lo*c.sz,none⟩)) n (cap-lo))
  | .slice none _ cap=>.val (.slice none n (cap-lo))
  | _=>botA
def ptrA(off:Nat):Option Cn→AV
 | none=>botA
 | some c=>match c.v with
  | .pointer (some ⟨b,o,_⟩)=>.val (.pointer (some ⟨b,o+off,none⟩))
  | _=>botA
def epA(i off:Nat):Option Cn→AV
 | none=>botA
 | some c=>match c.v with
  | .slice (some ⟨b,o,_⟩) _ _=>.val (.pointer (some ⟨b,o+i*c.sz+off,none⟩))
  | _=>botA
def mpA:Option Cn→AV
 | none=>botA
 | some c=>match c.v with
  | .pointer (some ⟨b,_,_⟩)=>.val (.map (some b))
  | _=>botA
theorem qwW(c:Option Cn):mpA c=botA∨∃b,mpA c = .val (.map (some b)):=by
 unfold mpA
 split
 ·exact .inl rfl
 ·split
  ·exact .inr ⟨_,rfl⟩
  ·exact .inl rfl
theorem qlK(lo n:Nat)(c:Option Cn):subA lo n c=botA∨∃A k,subA lo n c = .val (.slice A n k):=by
 unfold subA
 split
 ·exact .inl rfl
 ·split
  ·exact .inr ⟨_,_,rfl⟩
  ·exact .inr ⟨_,_,rfl⟩
  ·exact .inl rfl
theorem qoq(off:Nat)(c:Option Cn):(∀off,ptrA off c=botA)∨∃b o,∀off,ptrA off c = .val (.pointer (some ⟨b,o+off,none⟩)):=by
 unfold ptrA
 split
 ·exact .inl fun _=>rfl
 ·split
  ·exact .inr ⟨_,_,fun _=>rfl⟩
  ·exact .inl fun _=>rfl
theorem qpx(c:Option Cn):(∀i off,epA i off c=botA)∨∃b o sz,∀i off,epA i off c = .val (.pointer (some ⟨b,o+i*sz+off,none⟩)):=by
 unfold epA
 split
 ·exact .inl fun _ _=>rfl
 ·split
  ·exact .inr ⟨_,_,_,fun _ _=>rfl⟩
  ·exact .inl fun _ _=>rfl
mutual
def conc(g:Nat→Option Cn):DV→AV
 | .any=>.any
 | .val v=>.val v
 | .agg l=>.agg (qa g l)
 | .tup l=>.tup (qa g l)
 | .sl t l=>.sl t.sz (l.map t.enc)
 | .rp l=>.rp (qa g l)
 | .fn f a c=>.fn f (qa g a) (qa g c)
 | .ref k=>refA (g k)
 | .sub k lo n=>subA lo n (g k)
 | .ptr k off=>ptrA off (g k)
 | .ep k i off=>epA i off (g k)
 | .mp k=>mpA (g k)
def qa(g:Nat→Option Cn):List DV→List AV
 | []=>[]
 | d::l=>conc g d::qa g l
end
section
variable {g:Nat→Option Cn}
theorem qb4(l:List DV):qa g l=l.map (conc g):=by
 induction l with
 | nil=>rfl
 | cons d l ih=>simp[qa,ih]
theorem qe(l:List DV):(qa g l).length=l.length:=by rw[qb4];simp
theorem qdX(l:List DV)(i:Nat):(qa g l)[i]?=l[i]?.map (conc g):=by rw[qb4];simp
theorem qgr(l:List DV)(n:Nat):qa g (l.drop n)=(qa g l).drop n:=by rw[qb4,qb4,List.map_drop]
theorem qgs(l:List DV)(n:Nat):qa g (l.take n)=(qa g l).take n:=by rw[qb4,qb4,List.map_take]
theorem qcP(l m:List DV):qa g (l++m)=qa g l++qa g m:=by rw[qb4,qb4,qb4,List.map_append]
theorem qip(l us:List DV)(o:Nat):qa g (qk l o us)=qk (qa g l) o (qa g us):=by
 unfold qk
 rw[qcP,qcP,qgs,qgr,qe]
theorem qcN(l:List DV)(i:Nat):AV.get (qa g l) i=conc g (lget l i):=by
 induction l generalizing i with
 | nil=>simp[qa,AV.get,lget,conc]
 | cons d l ih=>cases i with
  | zero=>simp[qa,AV.get,lget]
  | succ i=>simp[qa,AV.get,lget,ih]
theorem qkK(l:List DV)(i:Nat)(d:DV):qa g (lput l i d)=AV.put (qa g l) i (conc g d):=by
 induction l generalizing i with
 | nil=>simp[qa,AV.put,lput]
 | cons x l ih=>cases i with
  | zero=>simp[qa,AV.put,lput]
  | succ i=>simp[qa,AV.put,lput,ih]
theorem qcX(l:List DV)(i:Option Tmp)(d:DV):qa g (qt l i d)=AV.putO (qa g l) i (conc g d):=by
 cases i with
 | none=>rfl
 | some i=>exact qkK l i d
theorem qfU(T:List DV)(x:Operand):evO (qa g T) x=conc g (evD T x):=by
 cases x with
 | tmp i=>exact qcN T i
 | const v=>simp[evO,evD,conc]
 | func f=>simp[evO,evD,conc]
 | global k=>simp[evO,evD,conc]
theorem qc2:∀(t:Ty) (x:t.den),qa g (t.encD x)=t.enc x
 | .i _,_=>by simp[Ty.encD,Ty.enc,qa,conc]
 | .b,_=>by simp[Ty.encD,Ty.enc,qa,conc]
 | .s,_=>by simp[Ty.encD,Ty.enc,qa,conc]
 | .u,_=>by simp[Ty.encD,Ty.enc,qa]
 | .sl _,_=>by simp[Ty.encD,Ty.enc,qa,conc]
 | .pr x y,p=>by simp only[Ty.encD,Ty.enc,qcP,qc2 x,qc2 y]
 | .pt t,x=>congrArg (fun l=>[AV.rp l]) (qc2 t x)
theorem Ty.enc_len:∀(t:Ty) (x:t.den),(t.enc x).length=t.sz
 | .i _,_=>rfl
 | .b,_=>rfl
 | .s,_=>rfl
 | .u,_=>rfl
 | .sl _,_=>rfl
 | .pt _,_=>rfl
 | .pr x y,p=>by simp only[Ty.enc,List.length_append,Ty.enc_len x,Ty.enc_len y,Ty.sz]
theorem Ty.encD_len(t:Ty)(x:t.den):(t.encD x).length=t.sz:=by
 have:=qc2 (g:=fun _=>none) t x
 rw[← qe (g:=fun _=>none),this,Ty.enc_len]
theorem Ty.one_enc:∀(t:Ty) (x:t.den),(t.enc x).all AV.one=true
 | .i _,_=>rfl
 | .b,_=>rfl
 | .s,_=>rfl
 | .u,_=>rfl
 | .sl _,_=>rfl
 | .pt _,_=>rfl
 | .pr x y,p=>by simp only[Ty.enc,List.all_append,Ty.one_enc x,Ty.one_enc y,Bool.and_self]
def Cn.ok(c:Cn):Prop:=((∃A n k,c.v = .slice A n k)∨∃b,c.v = .pointer (some ⟨b,0,none⟩))∧(c.ro=none∨∃sz rows,c.ro=some (.sl sz rows))
def Gok(g:Nat→Option Cn):Prop:=∀k c,g k=some c→c.ok
theorem qk2{d:AV}(h:(∃A n k,d = .val (.slice A n k))∨(∃b,d = .val (.pointer b))∨∃sz rows,d = .sl sz rows):qb3 d=some [d]:=by
 rcases h with ⟨A,n,k,rfl⟩ | ⟨b,rfl⟩ | ⟨sz,rows,rfl⟩<;>rfl
theorem qrL(hg:Gok g)(k:Nat):(∃A n j,refA (g k) = .val (.slice A n j))∨(∃b,refA (g k) = .val (.pointer b))∨∃sz rows,refA (g k) = .sl sz rows:=by
 cases h:g k with
 | none=>exact .inr (.inr ⟨_,_,rfl⟩)
 | some c =>
  obtain ⟨h1,h2⟩:=hg k c h
  rcases h2 with h2 | ⟨sz,rows,h2⟩
  ·rcases h1 with ⟨A,n,j,h1⟩ | ⟨b,h1⟩
   ·exact .inl ⟨A,n,j,by simp[refA,h2,h1]⟩
   ·exact .inr (.inl ⟨_,by simp[refA,h2,h1];rfl⟩)
  ·exact .inr (.inr ⟨sz,rows,by simp[refA,h2]⟩)
theorem qrM(k lo n:Nat):(∃A n' j,subA lo n (g k) = .val (.slice A n' j))∨(∃b,subA lo n (g k) = .val (.pointer b))∨∃sz rows,subA lo n (g k) = .sl sz rows:=by
 rcases qlK lo n (g k) with h | ⟨A,j,h⟩
 ·exact .inr (.inr ⟨_,_,h⟩)
 ·exact .inl ⟨_,_,_,h⟩
theorem qrN(k off:Nat):(∃A n j,ptrA off (g k) = .val (.slice A n j))∨(∃b,ptrA off (g k) = .val (.pointer b))∨∃sz rows,ptrA off (g k) = .sl sz rows:=by
 rcases qoq off (g k) with h | ⟨b,o,h⟩
 ·exact .inr (.inr ⟨_,_,h off⟩)
 ·exact .inr (.inl ⟨_,h off⟩)
theorem qs9(k i off:Nat):(∃A n j,epA i off (g k) = .val (.slice A n j))∨(∃b,epA i off (g k) = .val (.pointer b))∨∃sz rows,epA i off (g k) = .sl sz rows:=by
 rcases qpx (g k) with h | ⟨b,o,sz,h⟩
 ·exact .inr (.inr ⟨_,_,h i off⟩)
 ·exact .inr (.inl ⟨_,h i off⟩)
theorem qta(k:Nat):qb3 (mpA (g k))=some [mpA (g k)]∧(mpA (g k)).one=true:=by
 rcases qwW (g k) with h | ⟨b,h⟩<;>rw[h]<;>exact ⟨rfl,rfl⟩
theorem qkb(hg:Gok g){d:DV}{cs:List DV}(h:qma d=some cs):qb3 (conc g d)=some (qa g cs):=by
 cases d with
 | any=>cases h
 | agg l=>injection h with h;subst h;simp[conc,qb3]
 | tup l=>cases h
 | sl t l=>injection h with h;subst h;simp[conc,qa,qb3]
 | rp l=>injection h with h;subst h;simp[conc,qa,qb3]
 | fn f a c=>injection h with h;subst h;simp[conc,qa,qb3]
 | ref k=>injection h with h;subst h;simpa only[conc,qa] using qk2 (qrL hg k)
 | sub k lo n=>injection h with h;subst h;simpa only[conc,qa] using qk2 (qrM k lo n)
 | ptr k off=>injection h with h;subst h;simpa only[conc,qa] using qk2 (qrN k off)
 | ep k i off=>injection h with h;subst h;simpa only[conc,qa] using qk2 (qs9 k i off)
 | mp k=>injection h with h;subst h;simpa only[conc,qa] using (qta k).1
 | val v=>cases v<;>first | (injection h with h;subst h;simp[conc,qa,qb3,qb4];done) | (cases h;done)
theorem qtR{d:AV}(h:(∃A n k,d = .val (.slice A n k))∨(∃b,d = .val (.pointer b))∨∃sz rows,d = .sl sz rows):d.one=true:=by
 rcases h with ⟨A,n,k,rfl⟩ | ⟨b,rfl⟩ | ⟨sz,rows,rfl⟩<;>rfl
theorem qyf(hg:Gok g){d:DV}(h:oneD d=true):(conc g d).one=true:=by
 cases d with
 | any=>cases h
 | agg l=>cases h
 | tup l=>cases h
 | sl t l=>rfl
 | rp l=>rfl
 | fn f a c=>rfl
 | ref k=>exact qtR (qrL hg k)
 | sub k lo n=>exact qtR (qrM k lo n)
 | ptr k off=>exact qtR (qrN k off)
 | ep k i off=>exact qtR (qs9 k i off)
 | mp k=>exact (qta k).2
 | val v=>exact h
theorem qtb(hg:Gok g){l:List DV}(h:l.all oneD=true):(qa g l).all AV.one=true:=by
 rw[List.all_eq_true] at h ⊢
 intro d hd
 rw[qb4] at hd
 obtain ⟨x,hx,rfl⟩:=List.mem_map.1 hd
 exact qyf hg (h x hx)
end
def Gle(w:World)(A:Nat→Prop)(g g':Nat→Option Cn):Prop :=
 ∀k,g k=none∨g' k=g k∨∃c r,g k=some c∧c.ro=none∧g' k=some {c with ro:=some r}∧Enc w A c.v r
mutual
theorem qhh{w:World}{A A':Nat→Prop}{g g':Nat→Option Cn}(hA:∀b,b<w.heap.size→A b→A' b)(hg:Gle w A' g g'):∀(d:DV) (u:Value),Enc w A u (conc g d)→Enc w A' u (conc g' d)
 | .any,u,_=>.any u
 | .val v,u,h=>h.mono hA
 | .agg l,u,h=>by
  simp only[conc] at h ⊢
  cases h with
  | agg vs ds hn h=>exact .agg vs _ (by simp only[hn,qe]) fun i d hi=>(by
    obtain ⟨d0,h0,h1⟩:=qgt hA hg l i d hi
    exact h1 _ (h i d0 h0))
 | .tup l,u,h=>by
  simp only[conc] at h ⊢
  cases h with
  | tup vs ds hn h=>exact .tup vs _ (by simp only[hn,qe]) fun i d hi=>(by
    obtain ⟨d0,h0,h1⟩:=qgt hA hg l i d hi
    exact h1 _ (h i d0 h0))
 | .sl t l,u,h=>h.mono hA
 | .rp l,u,h=>by
  simp only[conc] at h ⊢
  cases h with
  | rp b off cells cv hS hb hcell h=>exact .rp b off _ cv (hA b hb hS) hb (fun j hj=>hcell j (by rw[qe] at hj ⊢;exact hj)) fun j d hj=>(by
    obtain ⟨d0,h0,h1⟩:=qgt hA hg l j d hj
    exact h1 _ (h j d0 h0))
 | .fn f a c,u,h=>by
  simp only[conc] at h ⊢
  cases h with
  | fn f first caps df dc hn hm h h'=>exact .fn f first caps _ _ (by simp only[hn,qe]) (by simp only[hm,qe]) (fun j d hj=>by obtain ⟨d0,h0,h1⟩:=qgt hA hg a j d hj;exact h1 _ (h j d0 h0)) (fun j d hj=>by obtain ⟨d0,h0,h1⟩:=qgt hA hg c j d hj;exact h1 _ (h' j d0 h0))
 | .ref k,u,h=>by
  simp only[conc] at h ⊢
  rcases hg k with h1 | h1 | ⟨c,r,h1,h2,h3,h4⟩
  ·rw[h1] at h;exact (qka h).elim
  ·rw[h1];exact h.mono hA
  ·rw[h1] at h;rw[h3]
   simp only[refA,h2,Option.getD_none,Option.getD_some] at h ⊢
   rw[h.val_eq];exact h4
 | .sub k lo n,u,h=>by
  simp only[conc] at h ⊢
  rcases hg k with h1 | h1 | ⟨c,r,h1,h2,h3,h4⟩
  ·rw[h1] at h;exact (qka h).elim
  ·rw[h1];exact h.mono hA
  ·rw[h1] at h;rw[h3];exact h.mono hA
 | .ptr k off,u,h=>by
  simp only[conc] at h ⊢
  rcases hg k with h1 | h1 | ⟨c,r,h1,h2,h3,h4⟩
  ·rw[h1] at h;exact (qka h).elim
  ·rw[h1];exact h.mono hA
  ·rw[h1] at h;rw[h3];exact h.mono hA
 | .ep k i off,u,h=>by
  simp only[conc] at h ⊢
  rcases hg k with h1 | h1 | ⟨c,r,h1,h2,h3,h4⟩
  ·rw[h1] at h;exact (qka h).elim
  ·rw[h1];exact h.mono hA
  ·rw[h1] at h;rw[h3];exact h.mono hA
 | .mp k,u,h=>by
  simp only[conc] at h ⊢
  rcases hg k with h1 | h1 | ⟨c,r,h1,h2,h3,h4⟩
  ·rw[h1] at h;exact (qka h).elim
  ·rw[h1];exact h.mono hA
  ·rw[h1] at h;rw[h3];exact h.mono hA
theorem qgt{w:World}{A A':Nat→Prop}{g g':Nat→Option Cn}(hA:∀b,b<w.heap.size→A b→A' b)(hg:Gle w A' g g'):∀(l:List DV) (i:Nat) (d:AV),(qa g' l)[i]?=some d→∃d0,(qa g l)[i]?=some d0∧∀u,Enc w A u d0→Enc w A' u d
 | [],i,d,h=>by simp[qa] at h
 | x::l,0,d,h=>by
  simp only[qa,List.getElem?_cons_zero,Option.some.injEq] at h
  subst h
  exact ⟨_,by simp[qa],fun u hu=>qhh hA hg x u hu⟩
 | x::l,i+1,d,h=>by
  simp only[qa,List.getElem?_cons_succ] at h ⊢
  exact qgt hA hg l i d h
end
theorem qq(H:List DO)(i j:Nat)(o:DO):hget (hput H i o) j=if i=j∧i<H.length then o else hget H j:=by
 induction H generalizing i j with
 | nil=>simp[hput,hget]
 | cons x H ih =>
  cases i with
  | zero=>cases j with
   | zero=>simp[hput,hget]
   | succ j=>simp[hput,hget]
  | succ i=>cases j with
   | zero=>simp[hput,hget]
   | succ j=>simp[hput,hget,ih]
theorem qcD(H:List DO)(i:Nat)(o:DO):(hput H i o).length=H.length:=by
 induction H generalizing i with
 | nil=>simp[hput]
 | cons x H ih=>cases i<;>simp[hput,ih]
theorem qbN{H:List DO}{k:Nat}(h:hget H k≠.new):k<H.length:=by
 induction H generalizing k with
 | nil=>exact absurd rfl h
 | cons x H ih=>cases k with
  | zero=>simp
  | succ k=>simp only[hget] at h;have:=ih h;simp;omega
theorem qho(T:List DV)(i:Nat)(d:DV):(lput T i d).length=T.length:=by
 induction T generalizing i with
 | nil=>simp[lput]
 | cons x H ih=>cases i<;>simp[lput,ih]
def DO.cn(v:Value):DO→Option Cn
 | .new=>none
 | .dead s=>some ⟨v,s,none⟩
 | .blk _ _ _=>some ⟨v,0,none⟩
 | .row _ t _ _=>some ⟨v,t.sz,none⟩
 | .frz t l=>some ⟨v,t.sz,some (.sl t.sz (l.map t.enc))⟩
 | .map _ _ _ _=>some ⟨v,0,none⟩
def gOf(m:Nat→Value)(H:List DO)(k:Nat):Option Cn:=(hget H k).cn (m k)
def he0:HE:=.own (.slice none 0 0) 0 0 0 []
def heB(v:Value)(t:TypeId)(cs:List AV):HE:=match v with
 | .pointer (some ⟨b,0,none⟩)=>.blk b t cs
 | _=>.obj 0 fun _ _ _=>False
def MpR(w:World)(A:Nat→Prop)(kt et:Ty):List (kt.den×et.den)→List (kt.den×Value)→Prop
 | [],[]=>True
 | p::l,q::m=>(q.1=p.1∧Enc w A q.2 (et.argA p.2))∧MpR w A kt et l m
 | _,_=>False
def MpIs(kt et:Ty)(l:List (kt.den×et.den))(w:World)(A:Nat→Prop)(o:Obj):Prop:=∃lv,MpR w A kt et l lv∧o=qfd kt lv
theorem MpR.imp{w w':World}{A A':Nat→Prop}{kt et:Ty}(h:∀v d,Enc w A v d→Enc w' A' v d):∀{l:List (kt.den×et.den)} {m:List (kt.den×Value)},MpR w A kt et l m→MpR w' A' kt et l m
 | [],[],_=>trivial
 | p::l,q::m,hr=>⟨⟨hr.1.1,h _ _ hr.1.2⟩,MpR.imp h hr.2⟩
 | [],_::_,hr=>hr.elim
 | _::_,[],hr=>hr.elim
theorem qtc{kt et:Ty}{l:List (kt.den×et.den)}:∀(w1 w2:World) (S1 S2:Nat→Prop) (o:Obj),MpIs kt et l w1 S1 o→w1.heap.size≤w2.heap.size→(∀c,S1 c→c<w1.heap.size→(∀o' u,w1.cell? ⟨c,o',none⟩=some u→w2.cell? ⟨c,o',none⟩=some u)∧S2 c)→MpIs kt et l w2 S2 o :=
 fun _ _ _ _ _ ⟨lv,h1,h2⟩ hs hk=>⟨lv,h1.imp fun _ _ hv=>hv.moveC hs hk,h2⟩
def heM(v:Value)(kt et:Ty)(l:List (kt.den×et.den)):HE:=match v with
 | .pointer (some ⟨b,0,none⟩)=>.obj b (MpIs kt et l)
 | _=>.obj 0 fun _ _ _=>False
def heOf(g:Nat→Option Cn)(v:Value):DO→HE
 | .blk _ t cells=>heB v t (qa g cells)
 | .row _ t e l=>.own v e t.sz l.length (l.map t.enc).flatten
 | .map _ kt et l=>heM v kt et l
 | _=>he0
def hesF(m:Nat→Value)(g:Nat→Option Cn):Nat→List DO→List HE
 | _,[]=>[]
 | k,o::H=>heOf g (m k) o::hesF m g (k+1) H
def hes(m:Nat→Value)(H:List DO):List HE:=hesF m (gOf m H) 0 H
theorem qvD(m:Nat→Value)(g:Nat→Option Cn):∀(H:List DO) (k i:Nat),(hesF m g k H)[i]?=if i<H.length then some (heOf g (m (k+i)) (hget H i)) else none
 | [],k,i=>by simp[hesF]
 | o::H,k,0=>by simp[hesF,hget]
 | o::H,k,i+1=>by
  simp only[hesF,List.getElem?_cons_succ,qvD m g H (k+1) i,hget,List.length_cons]
  rw[show k+1+i=k+(i+1) by omega]
  by_cases h:i<H.length
  ·rw[if_pos h,if_pos (by omega)]
  ·rw[if_neg h,if_neg (by omega)]
theorem q8(m:Nat→Value)(H:List DO)(i:Nat):(hes m H)[i]?=if i<H.length then some (heOf (gOf m H) (m i) (hget H i)) else none:=by
 have:=qvD m (gOf m H) H 0 i
 rw[Nat.zero_add] at this
 exact this
theorem qj(m:Nat→Value)(H:List DO):(hes m H).length=H.length:=by
 have:∀(g:Nat→Option Cn) (H:List DO) (k:Nat),(hesF m g k H).length=H.length:=fun g H=>by
  induction H with
  | nil=>intro k;rfl
  | cons o H ih=>intro k;simp[hesF,ih]
 exact this _ _ _
theorem qg3{m:Nat→Value}{H:List DO}{k:Nat}{o:DO}(h:hget H k=o)(hn:o≠.new):(hes m H)[k]?=some (heOf (gOf m H) (m k) o):=by
 rw[q8,if_pos (qbN (by rw[h];exact hn)),h]
def Sane(m:Nat→Value)(H:List DO):Prop:=∀k,hget H k≠.new→(∃A n c,m k = .slice A n c)∨∃b,m k = .pointer (some ⟨b,0,none⟩)
def qef:DO→Bool
 | .blk z _ _=>z
 | .row z _ _ _=>z
 | .map z _ _ _=>z
 | _=>false
def Lent(w0:Bs)(m:Nat→Value)(H:List DO):Prop:=∀b,w0.M b→∃k,qef (hget H k)=true∧(heOf (gOf m H) (m k) (hget H k)).owns b
def Kl(H H':List DO):Prop:=∀k,qef (hget H k)=true→qef (hget H' k)=true∧∀(g g':Nat→Option Cn) (v:Value) (b:Nat),(heOf g v (hget H k)).owns b→(heOf g' v (hget H' k)).owns b
def DR(w0:Bs)(S:Nat→Prop)(m:Nat→Value)(st:St)(a:Act)(w:World):Prop :=
 Lent w0 m st.H∧Sane m st.H∧SRel w0 S (qa (gOf m st.H) st.T) (hes m st.H) a w
theorem Sane.gok{m:Nat→Value}{H:List DO}(h:Sane m H):Gok (gOf m H):=by
 intro k c hc
 unfold gOf at hc
 cases ho:hget H k with
 | new=>rw[ho] at hc;cases hc
 | dead s=>rw[ho] at hc;injection hc with hc;subst hc;exact ⟨h k (by rw[ho];exact nofun),.inl rfl⟩
 | blk z t cs=>rw[ho] at hc;injection hc with hc;subst hc;exact ⟨h k (by rw[ho];exact nofun),.inl rfl⟩
 | row z t e l=>rw[ho] at hc;injection hc with hc;subst hc;exact ⟨h k (by rw[ho];exact nofun),.inl rfl⟩
 | map z kt et l=>rw[ho] at hc;injection hc with hc;subst hc;exact ⟨h k (by rw[ho];exact nofun),.inl rfl⟩
 | frz t l=>rw[ho] at hc;injection hc with hc;subst hc;exact ⟨h k (by rw[ho];exact nofun),.inr ⟨_,_,rfl⟩⟩
def mle(m m':Nat→Value)(H:List DO):Prop:=∀k,hget H k≠.new→m' k=m k
theorem mle.refl(m:Nat→Value)(H:List DO):mle m m H:=fun _ _=>rfl
section
variable {P:Program} {w0:Bs} {S:Nat→Prop} {t t':List AV} {H H':List HE} {a:Act} {w:World}
theorem qpy:he0.ok w w0 S:=⟨fun b hb=>(by cases hb),[],World.ownsRow_nil _ _ _ _,rfl,fun i d h=>by simp at h⟩
theorem qeL(b:Nat):¬he0.owns b:=fun h=>by cases h
theorem SRel.conv(hr:SRel w0 S t H a w)(hl:t'.length=t.length)(hHl:H'.length=H.length)
  (hh:∀(k:Nat) (e e':HE),H[k]?=some e→H'[k]?=some e'→e'.proper∧((∀b,¬e'.owns b)∨(e.proper∧∀b,e'.owns b→e.owns b))∧(e.ok w w0 (Al w0 S H)→e'.ok w w0 (Al w0 S H')))
  (ht:(∀b,Al w0 S H b→Al w0 S H' b)→∀i,Enc w (Al w0 S H) (a.tmps.getD i undef) (AV.get t i)→Enc w (Al w0 S H') (a.tmps.getD i undef) (AV.get t' i)):SRel w0 S t' H' a w:=by
 have hex:∀e',e'∈H'→∃k e,H[k]?=some e∧H'[k]?=some e':=fun e' he=>by
  obtain ⟨k,hk,rfl⟩:=List.mem_iff_getElem.1 he
  exact ⟨k,H[k]'(by omega),List.getElem?_eq_getElem (by omega),List.getElem?_eq_getElem hk⟩
 have hA:∀b,Al w0 S H b→Al w0 S H' b:=fun b hb=>⟨hb.1,hb.2.1,fun e' he' hb'=>by
  obtain ⟨k,e,h1,h2⟩:=hex e' he'
  rcases (hh k e e' h1 h2).2.1 with h3 | h3
  ·exact h3 b hb'
  ·exact hb.2.2 e (List.mem_of_getElem? h1) (h3.2 b hb')⟩
 refine hr.next (D:=fun _=>False) a.tmps (Kp.refl _ w) (fun _ h=>h.elim) (by rw[hl];exact hr.sz) (fun i=>ht hA i (hr.tm i)) ?_ (fun e' he'=>?_) (fun e' he' b hb=>?_) (fun e' he' _ b hb=>?_) fun e' he' hp=>?_
 ·rw[List.pairwise_iff_getElem]
  intro i j hi hj hij b h1 h2
  have hi':i<H.length:=by omega
  have hj':j<H.length:=by omega
  rcases (hh i _ _ (List.getElem?_eq_getElem hi') (List.getElem?_eq_getElem hi)).2.1 with h3 | h3
  ·exact h3 b h1
  rcases (hh j _ _ (List.getElem?_eq_getElem hj') (List.getElem?_eq_getElem hj)).2.1 with h4 | h4
  ·exact h4 b h2
  exact List.pairwise_iff_getElem.1 hr.ap i j hi' hj' hij b (h3.2 b h1) (h4.2 b h2)
 ·obtain ⟨k,e,h1,h2⟩:=hex e' he'
  exact (hh k e e' h1 h2).2.2 (hr.hs e (List.mem_of_getElem? h1))
 ·obtain ⟨k,e,h1,h2⟩:=hex e' he'
  rcases (hh k e e' h1 h2).2.1 with h3 | h3
  ·exact absurd hb (h3 b)
  ·exact .inl ⟨e,List.mem_of_getElem? h1,h3.2 b hb⟩
 ·obtain ⟨k,e,h1,h2⟩:=hex e' he'
  rcases (hh k e e' h1 h2).2.1 with h3 | h3
  ·exact absurd hb (h3 b)
  ·exact .inl ⟨e,List.mem_of_getElem? h1,h3.1,h3.2 b hb⟩
 ·obtain ⟨k,e,h1,h2⟩:=hex e' he'
  exact absurd (hh k e e' h1 h2).1 hp
theorem SRel.place{e:HE}(hr:SRel w0 S t (e::H) a w)(k:Nat)(hk:k<H.length):SRel w0 S t (H.set k e) a w:=by
 have h1:H=H.take k++H[k]::H.drop (k+1):=by rw[List.getElem_cons_drop,List.take_append_drop]
 have h2:H.set k e=H.take k++e::H.drop (k+1):=by rw[List.set_eq_take_append_cons_drop,if_pos hk]
 have h3:(e::(H.take k++H.drop (k+1))).Sublist (e::H):=by
  refine List.Sublist.cons_cons e ?_
  conv=>rhs;rw[h1]
  exact List.Sublist.append_left (List.sublist_cons_self _ _) _
 rw[h2]
 exact (hr.sub h3).perm List.perm_middle.symm
theorem qjE(v:Value)(tt:TypeId):(∃b,v = .pointer (some ⟨b,0,none⟩)∧∀cs,heB v tt cs = .blk b tt cs)∨∀cs,heB v tt cs = .obj 0 fun _ _ _=>False:=by
 by_cases h:∃b,v = .pointer (some ⟨b,0,none⟩)
 ·obtain ⟨b,rfl⟩:=h;exact .inl ⟨b,rfl,fun _=>rfl⟩
 ·right
  intro cs
  unfold heB
  split
  ·exact absurd ⟨_,rfl⟩ h
  ·rfl
theorem qmV(v:Value)(kt et:Ty):(∃b,v = .pointer (some ⟨b,0,none⟩)∧∀l,heM v kt et l = .obj b (MpIs kt et l))∨∀l,heM v kt et l = .obj 0 fun _ _ _=>False:=by
 by_cases h:∃b,v = .pointer (some ⟨b,0,none⟩)
 ·obtain ⟨b,rfl⟩:=h;exact .inl ⟨b,rfl,fun _=>rfl⟩
 ·right
  intro l
  unfold heM
  split
  ·exact absurd ⟨_,rfl⟩ h
  ·rfl
theorem qyg{v:Value}{kt et:Ty}{l l':List (kt.den×et.den)}{b:Nat}(h:(heM v kt et l).owns b):(heM v kt et l').owns b:=by
 rcases qmV v kt et with ⟨c,_,q⟩ | q
 ·rw[q] at h ⊢;exact h
 ·rw[q] at h ⊢;exact h
theorem qud{v:Value}{kt et:Ty}{l:List (kt.den×et.den)}{A A':Nat→Prop}(hA:∀b,A b→A' b)(h:(heM v kt et l).ok w w0 A):(heM v kt et l).ok w w0 A':=by
 rcases qmV v kt et with ⟨c,_,q⟩ | q
 ·rw[q] at h ⊢
  obtain ⟨h1,⟨o,h2,lv,h3,h4⟩,h5⟩:=h
  exact ⟨h1,⟨o,h2,lv,h3.imp fun _ _ hv=>hv.mono fun b _ hb=>hA b hb,h4⟩,h5⟩
 ·rw[q] at h
  obtain ⟨_,⟨_,_,h⟩,_⟩:=h
  exact h.elim
theorem qbm{g:Nat→Option Cn}{v:Value}(o:DO):(heOf g v o).proper:=by
 cases o with
 | blk z tt cells=>show (heB v tt (qa g cells)).proper;rcases qjE v tt with ⟨b,_,h⟩ | h<;>rw[h]<;>exact trivial
 | map z kt et l=>show (heM v kt et l).proper;rcases qmV v kt et with ⟨b,_,h⟩ | h<;>rw[h]<;>exact trivial
 | _=>exact trivial
theorem que{v:Value}{tt:TypeId}{cs cs':List AV}{A A':Nat→Prop}(hA:∀b,A b→A' b)(hl:cs'.length=cs.length)(hc:∀(i:Nat) (d':AV),cs'[i]?=some d'→∃d,cs[i]?=some d∧∀u,Enc w A u d→Enc w A' u d') :
  (∀b,(heB v tt cs').owns b→(heB v tt cs).owns b)∧((heB v tt cs).ok w w0 A→(heB v tt cs').ok w w0 A'):=by
 rcases qjE v tt with ⟨b,_,h⟩ | h
 ·rw[h,h]
  refine ⟨fun _ h=>h,fun⟨h1,vs,h2,h3,h4⟩=>⟨h1,vs,h2,by omega,fun i d hi=>?_⟩⟩
  obtain ⟨d0,h5,h6⟩:=hc i d hi
  exact h6 _ (h4 i d0 h5)
 ·rw[h,h]
  exact ⟨fun _ h=>h,fun h=>(by obtain ⟨_,⟨_,_,h⟩,_⟩:=h;exact h.elim)⟩
theorem qlb{g g':Nat→Option Cn}{A A':Nat→Prop}(hA:∀b,A b→A' b)(hg:Gle w A' g g')(v:Value)(o:DO) :
  (∀b,(heOf g' v o).owns b→(heOf g v o).owns b)∧((heOf g v o).ok w w0 A→(heOf g' v o).ok w w0 A'):=by
 cases o with
 | blk z tt cells=>exact que hA (by simp only[qe]) (fun i d' hi=>qgt (fun b _=>hA b) hg cells i d' hi)
 | row z t e l=>exact ⟨fun _ h=>h,fun h=>HE.ok_mono h fun b _ hb=>hA b hb⟩
 | new=>exact ⟨fun _ h=>h,fun _=>qpy⟩
 | dead s=>exact ⟨fun _ h=>h,fun _=>qpy⟩
 | frz t l=>exact ⟨fun _ h=>h,fun _=>qpy⟩
 | map z kt et l=>exact ⟨fun _ h=>h,fun h=>qud hA h⟩
theorem DR.regle{m m':Nat→Value}{HO HO':List DO}{T:List DV}{H:List HE}(hr:SRel w0 S (qa (gOf m HO) T) H a w)(hl:HO'.length=H.length)
  (hg:Gle w (Al w0 S (hes m' HO')) (gOf m HO) (gOf m' HO')) (hh:∀k e,H[k]?=some e→k<HO'.length →
   ((∀b,¬(heOf (gOf m' HO') (m' k) (hget HO' k)).owns b)∨(e.proper∧∀b,(heOf (gOf m' HO') (m' k) (hget HO' k)).owns b→e.owns b))∧((∀b,Al w0 S H b→Al w0 S (hes m' HO') b)→e.ok w w0 (Al w0 S H)→(heOf (gOf m' HO') (m' k) (hget HO' k)).ok w w0 (Al w0 S (hes m' HO')))) :
  SRel w0 S (qa (gOf m' HO') T) (hes m' HO') a w:=by
 have hA:∀b,Al w0 S H b→Al w0 S (hes m' HO') b:=fun b hb=>⟨hb.1,hb.2.1,fun e' he' hb'=>by
  obtain ⟨k,hk,rfl⟩:=List.mem_iff_getElem.1 he'
  have hk':k<HO'.length:=by rw[qj] at hk;exact hk
  have h1:=q8 m' HO' k
  rw[if_pos hk',List.getElem?_eq_getElem hk] at h1
  injection h1 with h1
  rw[h1] at hb'
  have hkH:k<H.length:=by omega
  rcases (hh k H[k] (List.getElem?_eq_getElem hkH) hk').1 with h3 | h3
  ·exact h3 b hb'
  ·exact hb.2.2 _ (List.getElem_mem hkH) (h3.2 b hb')⟩
 refine hr.conv (by simp only[qe]) (by rw[qj,hl]) (fun k e e' h1 h2=>?_) (fun _ i hi=>?_)
 ·have hk:k<HO'.length:=by rw[hl];exact (List.getElem?_eq_some_iff.1 h1).1
  rw[q8,if_pos hk] at h2
  injection h2 with h2
  subst h2
  obtain ⟨h3,h4⟩:=hh k e h1 hk
  exact ⟨qbm _,h3,h4 hA⟩
 ·rw[qcN] at hi ⊢
  exact qhh (fun b _=>hA b) hg _ _ hi
end
section
variable {P:Program} {w0:Bs} {S:Nat→Prop} {a:Act} {w:World}
theorem qbx{g g':Nat→Option Cn}{v:Value}{o:DO}{b:Nat}(h:(heOf g v o).owns b):(heOf g' v o).owns b:=by
 cases o with
 | blk z tt cells =>
  have h':(heB v tt (qa g cells)).owns b:=h
  show (heB v tt (qa g' cells)).owns b
  rcases qjE v tt with ⟨c,_,h1⟩ | h1
  ·rw[h1] at h' ⊢;exact h'
  ·rw[h1] at h' ⊢;exact h'
 | _=>exact h
theorem Kl.refl(H:List DO):Kl H H:=fun _ h=>⟨h,fun _ _ _ _ hb=>qbx hb⟩
theorem Kl.trans{A B C:List DO}(h:Kl A B)(k:Kl B C):Kl A C:=fun j hj=>⟨(k j (h j hj).1).1,fun g g' v b hb=>(k j (h j hj).1).2 g g' v b ((h j hj).2 g g v b hb)⟩
theorem Kl.put{H:List DO}{k:Nat}{o:DO}(h:qef (hget H k)=false):Kl H (hput H k o):=fun j hj=>by
 rw[qq]
 split
 ·rename_i h1;rw[← h1.1,h] at hj;cases hj
 ·exact ⟨hj,fun _ _ _ _ hb=>qbx hb⟩
theorem Kl.row{H:List DO}{k:Nat}{z:Bool}{t:Ty}{e:TypeId}{l l':List t.den}(h:hget H k = .row z t e l):Kl H (hput H k (.row z t e l')):=fun j hj=>by
 rw[qq]
 split
 ·rename_i h1
  rw[← h1.1,h] at hj ⊢
  exact ⟨hj,fun _ _ _ _ hb=>hb⟩
 ·exact ⟨hj,fun _ _ _ _ hb=>qbx hb⟩
theorem Kl.blk{H:List DO}{k:Nat}{z:Bool}{t:TypeId}{l l':List DV}(h:hget H k = .blk z t l):Kl H (hput H k (.blk z t l')):=fun j hj=>by
 rw[qq]
 split
 ·rename_i h1
  rw[← h1.1,h] at hj ⊢
  refine ⟨hj,fun g g' v b hb=>?_⟩
  have hb':(heB v t (qa g l)).owns b:=hb
  show (heB v t (qa g' l')).owns b
  rcases qjE v t with ⟨c,_,q⟩ | q
  ·rw[q] at hb' ⊢;exact hb'
  ·rw[q] at hb' ⊢;exact hb'
 ·exact ⟨hj,fun _ _ _ _ hb=>qbx hb⟩
theorem Kl.map{H:List DO}{k:Nat}{z:Bool}{kt et:Ty}{l l':List (kt.den×et.den)}(h:hget H k = .map z kt et l):Kl H (hput H k (.map z kt et l')):=fun j hj=>by
 rw[qq]
 split
 ·rename_i h1
  rw[← h1.1,h] at hj ⊢
  exact ⟨hj,fun g g' v b hb=>qyg (l:=l) (l':=l') hb⟩
 ·exact ⟨hj,fun _ _ _ _ hb=>qbx hb⟩
theorem Lent.step{w0:Bs}{m m':Nat→Value}{H H':List DO}(h:Lent w0 m H)(hm:mle m m' H)(hk:Kl H H'):Lent w0 m' H':=fun b hb=>by
 obtain ⟨k,h1,h2⟩:=h b hb
 have h3:=hk k h1
 refine ⟨k,h3.1,?_⟩
 rw[hm k fun e=>by rw[e] at h1;cases h1]
 exact h3.2 _ _ _ _ h2
def StepW(P:Program)(o:Oper)(st st':St):Prop :=
 Kl st.H st'.H∧∀(w0:Bs) (S:Nat→Prop) (F:Fence),Wf F→∀(m:Nat→Value) (a:Act) (w:World),DR w0 S m st a w→∀(K:Act→World→Prop) (Q:Exit→Act→World→Prop),
  (∀m' a' w',mle m m' st.H→DR w0 S m' st' a' w'→a'.defers=a.defers→K a' w')→o.wpIn F 0 P a w K Q
theorem qkc(a:Act)(d:Option Tmp)(u:Value):(a.put d u).defers=a.defers:=by cases d<;>rfl
theorem StepW.ay{o:Oper}{st:St}{d:DV}(h:∀(w0:Bs) (S:Nat→Prop) (m:Nat→Value) (a:Act) (w:World),DR w0 S m st a w→AY P w0 S (hes m st.H) o (qa (gOf m st.H) st.T) (conc (gOf m st.H) d)):StepW P o st ⟨qt st.T o.dst d,st.H⟩:=by
 refine ⟨Kl.refl _,?_⟩
 intro w0 S F hF m a w hr K Q hK
 obtain ⟨hM,hs,hr'⟩:=hr
 refine h w0 S m a w ⟨hM,hs,hr'⟩ a w hr'.ext hr'.hs (fun x _=>hr'.ev x) F hF K Q fun u w' he hu=>?_
 refine hK m _ w' (mle.refl _ _) ⟨hM,hs,?_⟩ (qkc _ _ _)
 simp only[qcX]
 exact (hr'.mono he).put o.dst hu
theorem StepW.ef{o:Oper}{st:St}{d:DV}{H':List DO}(hkl:Kl st.H H')(h:∀(w0:Bs) (S:Nat→Prop) (m:Nat→Value) (a:Act) (w:World),DR w0 S m st a w→EF P w0 S o (qa (gOf m st.H) st.T) (hes m st.H) fun v HH=>∃m',mle m m' st.H∧Sane m' H' ∧
  ∀a w,SRel w0 S (AV.putO (qa (gOf m st.H) st.T) o.dst v) HH a w→SRel w0 S (AV.putO (qa (gOf m' H') st.T) o.dst (conc (gOf m' H') d)) (hes m' H') a w):StepW P o st ⟨qt st.T o.dst d,H'⟩:=by
 refine ⟨hkl,?_⟩
 intro w0 S F hF m a w hr K Q hK
 obtain ⟨hM,hs,hr'⟩:=hr
 obtain ⟨n,w',h1,h2⟩:=h w0 S m a w ⟨hM,hs,hr'⟩ a w _ (fun _ _=>rfl) hr'
 refine ⟨fun f _=>hF.fn f,?_⟩
 rw[Oper.semAt_eq F.round a.eval o (qof h1 (by cases n<;>first | trivial | exact h2)),h1]
 cases n<;>simp only at h2
 case value u =>
  obtain ⟨v,HH,h3,m',h4,h5,h6⟩:=h2
  refine hK m' _ w' h4 ⟨hM.step h4 hkl,h5,?_⟩ (qkc _ _ _)
  simp only[qcX]
  exact h6 _ _ h3
 case skip =>
  obtain ⟨HH,h3,m',h4,h5,h6⟩:=h2
  refine hK m' _ w' h4 ⟨hM.step h4 hkl,h5,?_⟩ (qkc _ _ _)
  simp only[qcX]
  exact h6 _ _ h3
def Fz(H H':List DO):Prop:=H'.length=H.length∧∀k,hget H' k=hget H k∨∃t e l,hget H k = .row false t e l∧hget H' k = .frz t l
theorem Fz.refl(H:List DO):Fz H H:=⟨rfl,fun _=>.inl rfl⟩
theorem Fz.kl{H H':List DO}(h:Fz H H'):Kl H H':=fun k hk=>by
 rcases h.2 k with h1 | ⟨t,e,l,h1,_⟩
 ·rw[h1];exact ⟨hk,fun _ _ _ _ hb=>qbx hb⟩
 ·rw[h1] at hk;cases hk
theorem Fz.trans{A B C:List DO}(h:Fz A B)(k:Fz B C):Fz A C:=⟨k.1.trans h.1,fun i=>by
 rcases h.2 i with h1 | ⟨t,e,l,h1,h2⟩
 ·rcases k.2 i with h3 | ⟨t,e,l,h3,h4⟩
  ·exact .inl (h3.trans h1)
  ·exact .inr ⟨t,e,l,h1 ▸ h3,h4⟩
 ·rcases k.2 i with h3 | ⟨t',e',l',h3,h4⟩
  ·exact .inr ⟨t,e,l,h1,h3.trans h2⟩
  ·rw[h2] at h3;cases h3⟩
theorem Fz.one{H:List DO}{k:Nat}{t:Ty}{e:TypeId}{l:List t.den}(h:hget H k = .row false t e l):Fz H (hput H k (.frz t l)):=⟨qcD _ _ _,fun i=>by
 rw[qq]
 split
 ·rename_i h1;obtain ⟨rfl,_⟩:=h1;exact .inr ⟨t,e,l,h,rfl⟩
 ·exact .inl rfl⟩
theorem Fz.new{H H':List DO}(h:Fz H H'){k:Nat}(hk:hget H' k≠.new):hget H k≠.new:=by
 rcases h.2 k with h1 | ⟨t,e,l,h1,_⟩
 ·rw[← h1];exact hk
 ·rw[h1];exact nofun
theorem qeM(t:Ty)(l:List t.den):∀(i:Nat) (row:List AV),(l.map t.enc)[i]?=some row→row.length=t.sz:=fun i row h=>by
 rw[List.getElem?_map] at h
 cases hx:l[i]? with
 | none=>rw[hx] at h;cases h
 | some x=>rw[hx] at h;injection h with h;rw[← h];exact t.enc_len x
theorem qpz{t:List AV}{m:Nat→Value}{H:List DO}(hr:SRel w0 S t (hes m H) a w){i k:Nat}(hi:i<H.length)(hk:k<H.length)(hne:i≠k){b:Nat}(h1:(heOf (gOf m H) (m i) (hget H i)).owns b)(h2:(heOf (gOf m H) (m k) (hget H k)).owns b):False:=by
 have hi':i<(hes m H).length:=by rw[qj];exact hi
 have hk':k<(hes m H).length:=by rw[qj];exact hk
 have e1:(hes m H)[i]=heOf (gOf m H) (m i) (hget H i):=by
  have:=q8 m H i
  rw[if_pos hi,List.getElem?_eq_getElem hi'] at this
  injection this
 have e2:(hes m H)[k]=heOf (gOf m H) (m k) (hget H k):=by
  have:=q8 m H k
  rw[if_pos hk,List.getElem?_eq_getElem hk'] at this
  injection this
 rcases Nat.lt_or_ge i k with h | h
 ·exact List.pairwise_iff_getElem.1 hr.ap i k hi' hk' h b (by rw[e1];exact h1) (by rw[e2];exact h2)
 ·exact List.pairwise_iff_getElem.1 hr.ap k i hk' hi' (by omega) b (by rw[e2];exact h2) (by rw[e1];exact h1)
theorem DR.fz{m:Nat→Value}{st:St}{H':List DO}(hr:DR w0 S m st a w)(h:Fz st.H H'):DR w0 S m ⟨st.T,H'⟩ a w∧Gle w (Al w0 S (hes m H')) (gOf m st.H) (gOf m H'):=by
 obtain ⟨hM,hs,hr⟩:=hr
 have hal:∀k,k<H'.length→∀t e l,hget st.H k = .row false t e l→hget H' k = .frz t l→∀b,(m k).ownBlock=some b→Al w0 S (hes m H') b:=fun k hk t e l h1 h2 b hb=>by
  have hkl:k<st.H.length:=by rw[← h.1];exact hk
  have hg:=qg3 (m:=m) h1 nofun
  have hok:=hr.hs _ (List.mem_of_getElem? hg)
  have hown:=hok.1 b hb
  refine ⟨fun hlt=>?_,hown.2,fun e' he' hb'=>?_⟩
  ·rcases hown.1 with h3 | h3
   ·obtain ⟨j,hj1,hj2⟩:=hM b h3
    have hjl:j<st.H.length:=qbN fun e=>by rw[e] at hj1;cases hj1
    exact (qpz hr hkl hjl (fun e=>by rw[← e,h1] at hj1;cases hj1) (by rw[h1];exact hb) hj2).elim
   ·omega
  ·obtain ⟨i,hi,rfl⟩:=List.mem_iff_getElem.1 he'
   rw[qj] at hi
   have h3:=q8 m H' i
   rw[if_pos hi,List.getElem?_eq_getElem (by rw[qj];exact hi)] at h3
   injection h3 with h3
   rw[h3] at hb'
   by_cases hik:i=k
   ·subst hik;rw[h2] at hb';exact qeL b hb'
   ·rcases h.2 i with h4 | ⟨t',e',l',h4,h5⟩
    ·rw[h4] at hb'
     exact qpz hr (by rw[← h.1];exact hi) hkl hik (qbx hb') (by rw[h1];exact hb)
    ·rw[h5] at hb';exact qeL b hb'
 have hsub:∀b,Al w0 S (hes m st.H) b→Al w0 S (hes m H') b:=fun b hb=>⟨hb.1,hb.2.1,fun e' he' hb'=>by
  obtain ⟨k,hk,rfl⟩:=List.mem_iff_getElem.1 he'
  rw[qj] at hk
  have h1:=q8 m H' k
  rw[if_pos hk,List.getElem?_eq_getElem (by rw[qj];exact hk)] at h1
  injection h1 with h1
  rw[h1] at hb'
  have h2:=q8 m st.H k
  rw[if_pos (by rw[← h.1];exact hk)] at h2
  rcases h.2 k with h3 | ⟨t,e,l,h3,h4⟩
  ·rw[h3] at hb'
   exact hb.2.2 _ (List.mem_of_getElem? h2) (qbx hb')
  ·rw[h4] at hb';exact qeL b hb'⟩
 have hgle:Gle w (Al w0 S (hes m H')) (gOf m st.H) (gOf m H'):=fun k=>by
  rcases h.2 k with h1 | ⟨t,e,l,h1,h2⟩
  ·right;left;unfold gOf;rw[h1]
  ·right;right
   refine ⟨⟨m k,t.sz,none⟩,.sl t.sz (l.map t.enc),by unfold gOf;rw[h1];rfl,rfl,by unfold gOf;rw[h2];rfl,?_⟩
   have hg:=qg3 (m:=m) h1 nofun
   have hok:=hr.hs _ (List.mem_of_getElem? hg)
   exact qsw hok (fun b hb=>hal k (qbN (by rw[h2];exact nofun)) t e l h1 h2 b hb) (fun b _ hb=>hsub b hb) rfl (qeM t l) (by simp)
 refine ⟨⟨hM.step (mle.refl m _) h.kl,fun k hk=>hs k (h.new hk),?_⟩,hgle⟩
 refine DR.regle hr (by rw[qj,h.1]) hgle fun k e he hk=>?_
 rw[q8,if_pos (by rw[← h.1];exact hk)] at he
 injection he with he
 subst he
 rcases h.2 k with h1 | ⟨t,e,l,h1,h2⟩
 ·rw[h1]
  exact ⟨.inr ⟨qbm _,fun b hb=>qbx hb⟩,fun hA=>(qlb hA hgle _ _).2⟩
 ·rw[h2]
  exact ⟨.inl qeL,fun _ _=>qpy⟩
end
theorem Fz.frz{H H':List DO}(h:Fz H H'){k:Nat}{t:Ty}{l:List t.den}(hk:hget H k = .frz t l):hget H' k = .frz t l:=by
 rcases h.2 k with h1 | ⟨t',e,l',h1,_⟩
 ·rw[h1,hk]
 ·rw[hk] at h1;cases h1
theorem qsC{k:IntKind}{cs:List DV}{n:Int}(h:decI k cs=some n):cs=[.val (.int k n)]:=by
 unfold decI at h
 split at h
 ·split at h
  ·rename_i hk;injection h with h;rw[h,hk]
  ·cases h
 ·cases h
theorem qsD{cs:List DV}{n:Bool}(h:decB cs=some n):cs=[.val (.bool n)]:=by
 unfold decB at h
 split at h
 ·injection h with h;rw[h]
 ·cases h
theorem qsE{cs:List DV}{n:ByteArray}(h:decS cs=some n):cs=[.val (.string n)]:=by
 unfold decS at h
 split at h
 ·injection h with h;rw[h]
 ·cases h
theorem qsF{cs:List DV}{n:Unit}(h:decU cs=some n):cs=[]:=by
 unfold decU at h
 split at h
 ·rfl
 ·cases h
def Dec(t:Ty)(cs:List DV)(x:t.den)(H':List DO):Prop :=
 ∀(m:Nat→Value) (H2:List DO),Fz H' H2→∀(w:World) (A:Nat→Prop) (i:Nat) (d:AV),(t.enc x)[i]?=some d→∃d0,(qa (gOf m H2) cs)[i]?=some d0∧∀u,Enc w A u d0→Enc w A u d
theorem Dec.same{t:Ty}{cs:List DV}{x:t.den}{H':List DO}(h:∀g,qa g cs=t.enc x):Dec t cs x H':=fun m H2 _ w A i d hi=>⟨d,by rw[h];exact hi,fun _ h=>h⟩
theorem qjF{m:Nat→Value}{H:List DO}{k:Nat}{t:Ty}{l:List t.den}(h:hget H k = .frz t l):refA (gOf m H k) = .sl t.sz (l.map t.enc):=by unfold gOf;rw[h];rfl
theorem qzQ{t:Ty}{H:List DO}{k:Nat}{x:List t.den}{H':List DO}{F:List Nat}(h:decR t H k=some (x,H',F)):Fz H H'∧hget H' k = .frz t x:=by
 unfold decR at h
 split at h
 ·rename_i t' e l hk
  cases hx:asT t t' l with
  | none=>rw[hx] at h;cases h
  | some y =>
   rw[hx] at h
   injection h with h
   obtain ⟨rfl,rfl,rfl⟩:=h
   obtain ⟨e,rfl⟩:=qem hx
   subst e
   exact ⟨Fz.one hk,by rw[qq,if_pos ⟨rfl,qbN (by rw[hk];exact nofun)⟩]⟩
 ·rename_i t' l hk
  cases hx:asT t t' l with
  | none=>rw[hx] at h;cases h
  | some y =>
   rw[hx] at h
   injection h with h
   obtain ⟨rfl,rfl,rfl⟩:=h
   obtain ⟨e,rfl⟩:=qem hx
   subst e
   exact ⟨Fz.refl _,hk⟩
 ·cases h
theorem qnJ:∀(t:Ty) (cs:List DV) (x:t.den),purF t cs=some x→cs.length=t.sz∧∀g,qa g cs=t.enc x
 | .i k,cs,x,h=>by rw[qsC h];exact ⟨rfl,fun g=>rfl⟩
 | .b,cs,x,h=>by rw[qsD h];exact ⟨rfl,fun g=>rfl⟩
 | .s,cs,x,h=>by rw[qsE h];exact ⟨rfl,fun g=>rfl⟩
 | .u,cs,x,h=>by rw[qsF h];exact ⟨rfl,fun g=>rfl⟩
 | .sl t,cs,x,h=>by
  cases cs with
  | nil=>cases h
  | cons d cs=>cases d with
   | sl t' l=>cases cs with
    | nil =>
     obtain ⟨e,rfl⟩:=qem (show asT t t' l=some x from h)
     subst e
     exact ⟨rfl,fun g=>rfl⟩
    | cons d cs=>cases h
   | _=>cases h
 | .pt t,cs,x,h=>by
  cases cs with
  | nil=>cases h
  | cons d cs=>cases d with
   | rp l=>cases cs with
    | nil =>
     have:=qnJ t l x h
     exact ⟨rfl,fun g=>congrArg (fun l=>[AV.rp l]) (this.2 g)⟩
    | cons d cs=>cases h
   | _=>cases h
 | .pr y z,cs,x,h=>by
  unfold purF at h
  split at h
  ·rename_i a c h1 h2
   injection h with h
   subst h
   obtain ⟨a1,a2⟩:=qnJ y _ _ h1
   obtain ⟨b1,b2⟩:=qnJ z _ _ h2
   rw[List.length_take] at a1
   rw[List.length_drop] at b1
   refine ⟨by unfold Ty.sz;omega,fun g=>?_⟩
   have e1:=a2 g
   have e2:=b2 g
   rw[qgs] at e1
   rw[qgr] at e2
   simp only[Ty.enc,← e1,← e2,List.take_append_drop]
  ·cases h
theorem qgo:∀(t:Ty) (H:List DO) (cs:List DV) (x:t.den) (H':List DO) (F:List Nat),decF t H cs=some (x,H',F)→Fz H H'∧cs.length=t.sz∧Dec t cs x H'
 | .i k,H,cs,x,H',F,h=>by
  unfold decF at h
  cases hx:decI k cs with
  | none=>rw[hx] at h;cases h
  | some n=>rw[hx] at h;injection h with h;obtain ⟨rfl,rfl,rfl⟩:=h;rw[qsC hx];exact ⟨Fz.refl _,rfl,Dec.same fun g=>rfl⟩
 | .b,H,cs,x,H',F,h=>by
  unfold decF at h
  cases hx:decB cs with
  | none=>rw[hx] at h;cases h
  | some n=>rw[hx] at h;injection h with h;obtain ⟨rfl,rfl,rfl⟩:=h;rw[qsD hx];exact ⟨Fz.refl _,rfl,Dec.same fun g=>rfl⟩
 | .s,H,cs,x,H',F,h=>by
  unfold decF at h
  cases hx:decS cs with
  | none=>rw[hx] at h;cases h
  | some n=>rw[hx] at h;injection h with h;obtain ⟨rfl,rfl,rfl⟩:=h;rw[qsE hx];exact ⟨Fz.refl _,rfl,Dec.same fun g=>rfl⟩
 | .u,H,cs,x,H',F,h=>by
  unfold decF at h
  cases hx:decU cs with
  | none=>rw[hx] at h;cases h
  | some n=>rw[hx] at h;injection h with h;obtain ⟨rfl,rfl,rfl⟩:=h;rw[qsF hx];exact ⟨Fz.refl _,rfl,Dec.same fun g=>rfl⟩
 | .sl t,H,cs,x,H',F,h=>by
  unfold decF qwb at h
  split at h
  ·rename_i t' l
   cases hx:asT t t' l with
   | none=>rw[hx] at h;cases h
   | some y =>
    rw[hx] at h
    injection h with h
    obtain ⟨rfl,rfl,rfl⟩:=h
    obtain ⟨e,rfl⟩:=qem hx
    subst e
    exact ⟨Fz.refl _,rfl,Dec.same fun g=>rfl⟩
  ·injection h with h
   obtain ⟨rfl,rfl,rfl⟩:=h
   refine ⟨Fz.refl _,rfl,fun m H2 _ w A i d hi=>?_⟩
   match i,hi with
   | 0,hi =>
    simp only[Ty.enc,List.map_nil,List.getElem?_cons_zero,Option.some.injEq] at hi
    subst hi
    exact ⟨_,rfl,fun u hu=>by rw[show u=_ from hu.val_eq];exact .slnil _ _ _ (by unfold maxLen;omega)⟩
   | n+1,hi=>simp[Ty.enc] at hi
  ·rename_i k
   obtain ⟨h1,h2⟩:=qzQ h
   refine ⟨h1,rfl,fun m H2 hf w A i d hi=>?_⟩
   match i,hi with
   | 0,hi =>
    simp only[Ty.enc,List.getElem?_cons_zero,Option.some.injEq] at hi
    subst hi
    exact ⟨refA (gOf m H2 k),rfl,fun u hu=>by rw[qjF (hf.frz h2)] at hu;exact hu⟩
   | n+1,hi=>simp[Ty.enc] at hi
  ·cases h
 | .pt t,H,cs,x,H',F,h=>by
  unfold decF at h
  cases hx:purF (.pt t) cs with
  | none=>rw[hx] at h;cases h
  | some n =>
   rw[hx] at h;injection h with h;obtain ⟨rfl,rfl,rfl⟩:=h
   obtain ⟨h1,h2⟩:=qnJ _ _ _ hx
   exact ⟨Fz.refl _,h1,Dec.same h2⟩
 | .pr y z,H,cs,x,H',F,h=>by
  unfold decF at h
  split at h
  ·rename_i a H1 F1 h1
   split at h
   ·rename_i c H2 F2 h2
    injection h with h
    obtain ⟨rfl,rfl,rfl⟩:=h
    obtain ⟨a1,a2,a3⟩:=qgo y H _ _ _ _ h1
    obtain ⟨b1,b2,b3⟩:=qgo z H1 _ _ _ _ h2
    rw[List.length_take] at a2
    rw[List.length_drop] at b2
    refine ⟨a1.trans b1,?_,fun m H3 hf w A i d hi=>?_⟩
    ·unfold Ty.sz
     rcases Nat.le_total y.sz cs.length with hle | hle
     ·omega
     ·omega
    ·simp only[Ty.enc] at hi
     rcases Nat.lt_or_ge i y.sz with hlt | hge
     ·rw[List.getElem?_append_left (by rw[Ty.enc_len];exact hlt)] at hi
      obtain ⟨d0,h3,h4⟩:=a3 m H3 (b1.trans hf) w A i d hi
      refine ⟨d0,?_,h4⟩
      rw[qgs,List.getElem?_take,if_pos hlt] at h3
      exact h3
     ·rw[List.getElem?_append_right (by rw[Ty.enc_len];exact hge),Ty.enc_len] at hi
      obtain ⟨d0,h3,h4⟩:=b3 m H3 hf w A _ d hi
      refine ⟨d0,?_,h4⟩
      rw[qgr,List.getElem?_drop,show y.sz+(i-y.sz)=i by omega] at h3
      exact h3
   ·cases h
  ·cases h
set_option maxHeartbeats 2000000
theorem qkL{g:Nat→Option Cn}(t:Ty)(x:t.den):conc g (t.argD x)=t.argA x:=by
 cases t with
 | pr p q=>simp only[Ty.argD,Ty.argA,conc];rw[qc2]
 | pt q=>exact congrArg AV.rp (qc2 q x)
 | _=>first | rfl | simp[Ty.argD,Ty.argA,conc,qa]
def Wk(d0 d:AV):Prop:=∀(w:World) (A:Nat→Prop) (u:Value),Enc w A u d0→Enc w A u d
def Wks(l0 l:List AV):Prop:=l0.length=l.length∧∀(i:Nat) (d0 d:AV),l0[i]?=some d0→l[i]?=some d→Wk d0 d
theorem Wks.nil:Wks [] []:=⟨rfl,fun i _ _ h=>by simp at h⟩
theorem Wks.cons{d0 d:AV}{l0 l:List AV}(h:Wk d0 d)(h':Wks l0 l):Wks (d0::l0) (d::l):=⟨congrArg (· + 1) h'.1,fun i a b h1 h2=>by
 cases i with
 | zero=>injection h1 with h1;injection h2 with h2;subst h1 h2;exact h
 | succ i=>exact h'.2 i a b h1 h2⟩
theorem Wks.agg{l0 l:List AV}(h:Wks l0 l):Wk (.agg l0) (.agg l):=fun w A u hu=>by
 cases hu with
 | agg vs ds hn hd =>
  refine .agg vs l (hn.trans h.1) fun i d hi=>?_
  have hlt:=qbK hi
  exact h.2 i _ d (List.getElem?_eq_getElem (by have:=h.1;omega)) hi w A _ (hd i _ (List.getElem?_eq_getElem (by have:=h.1;omega)))
theorem Wks.fn{f:FuncId}{a0 a c0 c:List AV}(h:Wks a0 a)(h':Wks c0 c):Wk (.fn f a0 c0) (.fn f a c):=fun w A u hu=>by
 cases hu with
 | fn _ first caps _ _ hn hm ha hc =>
  refine .fn f first caps a c (hn.trans h.1) (hm.trans h'.1) (fun i d hi=>?_) (fun i d hi=>?_)
  ·have hlt:=qbK hi
   exact h.2 i _ d (List.getElem?_eq_getElem (by have:=h.1;omega)) hi w A _ (ha i _ (List.getElem?_eq_getElem (by have:=h.1;omega)))
  ·have hlt:=qbK hi
   exact h'.2 i _ d (List.getElem?_eq_getElem (by have:=h'.1;omega)) hi w A _ (hc i _ (List.getElem?_eq_getElem (by have:=h'.1;omega)))
theorem Wk.cons'{d0 d:AV}{l0 l:List AV}(h:Wk d0 d)(h':Wks l0 l):Wks (d0::l0) (d::l):=Wks.cons h h'
theorem Wk.refl(d:AV):Wk d d:=fun _ _ _ h=>h
theorem Dec.wks{t:Ty}{cs:List DV}{x:t.den}{H':List DO}(h:Dec t cs x H')(hl:cs.length=t.sz)(m:Nat→Value){H2:List DO}(hf:Fz H' H2):Wks (qa (gOf m H2) cs) (t.enc x) :=
 ⟨by rw[qe,hl,Ty.enc_len],fun i d0 d h0 h1 w A u hu=>by
  obtain ⟨d2,h2,h3⟩:=h m H2 hf w A i d h1
  rw[h0] at h2;injection h2 with h2;subst h2
  exact h3 u hu⟩
theorem Ty.enc_arg(t:Ty)(x:t.den):(t.isAgg=true∧t.argA x = .agg (t.enc x))∨(t.isAgg=false∧t.enc x=[t.argA x]):=by
 cases t with
 | u=>exact .inl ⟨rfl,rfl⟩
 | pr p q=>exact .inl ⟨rfl,rfl⟩
 | _=>exact .inr ⟨rfl,rfl⟩
theorem qrO{ag:Bool}{d:DV}{cs:List DV}(h:cellsOf ag d=some cs):(ag=true∧d = .agg cs)∨(ag=false∧cs=[d]):=by
 unfold cellsOf at h
 split at h
 ·split at h
  ·injection h with h;rw[h];exact .inl ⟨rfl,rfl⟩
  ·cases h
 ·injection h with h;exact .inr ⟨rfl,h.symm⟩
theorem Wks.one{d0 d:AV}(h:Wks [d0] [d]):Wk d0 d:=h.2 0 d0 d rfl rfl
theorem qwX{t:Ty}{x:t.den}{d:DV}{cs:List DV}{g:Nat→Option Cn}(hc:cellsOf t.isAgg d=some cs)(h:Wks (qa g cs) (t.enc x)):Wk (conc g d) (t.argA x):=by
 rcases qrO hc with ⟨h1,rfl⟩ | ⟨h1,rfl⟩
 ·rcases t.enc_arg x with ⟨_,h2⟩ | ⟨h2,_⟩
  ·rw[h2];exact h.agg
  ·rw[h1] at h2;cases h2
 ·rcases t.enc_arg x with ⟨h2,_⟩ | ⟨_,h2⟩
  ·rw[h1] at h2;cases h2
  ·rw[h2] at h;exact h.one
theorem qnK{t:Ty}{H H':List DO}{d:DV}{x:t.den}{F:List Nat}(h:decV t H d=some (x,H',F)):Fz H H'∧∀(m:Nat→Value) (H2:List DO),Fz H' H2→Wk (conc (gOf m H2) d) (t.argA x):=by
 unfold decV at h
 split at h
 ·rename_i cs hc
  obtain ⟨h1,h2,h3⟩:=qgo t _ _ _ _ _ h
  exact ⟨h1,fun m H2 hf=>qwX hc (h3.wks h2 m hf)⟩
 ·cases h
section
variable {w:World} {A:Nat→Prop} {kt et:Ty} {x:kt.den} {zero:et.den} {zv:Value}
theorem MpR.len:∀{l:List (kt.den×et.den)} {m:List (kt.den×Value)},MpR w A kt et l m→m.length=l.length
 | [],[],_=>rfl
 | p::l,q::m,h=>by rw[List.length_cons,List.length_cons,MpR.len h.2]
 | [],_::_,h=>h.elim
 | _::_,[],h=>h.elim
theorem MpR.at:∀{l:List (kt.den×et.den)} {m:List (kt.den×Value)} (i:Nat),MpR w A kt et l m→(mpAt kt x l i=none∧mpAt kt x m i=none)∨∃n y v,mpAt kt x l i=some (n,y)∧mpAt kt x m i=some (n,v)∧Enc w A v (et.argA y)
 | [],[],i,_=>.inl ⟨rfl,rfl⟩
 | p::l,q::m,i,h=>by
  obtain ⟨⟨h1,h2⟩,h3⟩:=h
  unfold mpAt
  rw[h1]
  cases kt.eqB x p.1 with
  | true=>exact .inr ⟨i,p.2,q.2,rfl,rfl,h2⟩
  | false=>exact MpR.at (i+1) h3
 | [],_::_,_,h=>h.elim
 | _::_,[],_,h=>h.elim
theorem MpR.val{l:List (kt.den×et.den)}{m:List (kt.den×Value)}(h:MpR w A kt et l m)(hz:Enc w A zv (et.argA zero)):Enc w A (qh4 kt zv x m) (et.argA (qh4 kt zero x l)):=by
 unfold qh4
 rcases h.at (x:=x) 0 with ⟨h1,h2⟩ | ⟨n,y,v,h1,h2,h3⟩
 ·rw[h1,h2];exact hz
 ·rw[h1,h2];exact h3
theorem MpR.has{l:List (kt.den×et.den)}{m:List (kt.den×Value)}(h:MpR w A kt et l m):qqi kt x m=qqi kt x l:=by
 unfold qqi
 rcases h.at (x:=x) 0 with ⟨h1,h2⟩ | ⟨n,y,v,h1,h2,h3⟩<;>rw[h1,h2]<;>rfl
theorem MpR.ix{l:List (kt.den×et.den)}{m:List (kt.den×Value)}(h:MpR w A kt et l m):mpIx kt x m=mpIx kt x l:=by
 unfold mpIx
 rcases h.at (x:=x) 0 with ⟨h1,h2⟩ | ⟨n,y,v,h1,h2,h3⟩
 ·rw[h1,h2,h.len]
 ·rw[h1,h2]
theorem MpR.snoc:∀{l:List (kt.den×et.den)} {m:List (kt.den×Value)} {y:et.den} {v:Value},MpR w A kt et l m→Enc w A v (et.argA y)→MpR w A kt et (l++[(x,y)]) (m++[(x,v)])
 | [],[],_,_,_,hv=>⟨⟨rfl,hv⟩,trivial⟩
 | p::l,q::m,_,_,h,hv=>⟨h.1,MpR.snoc h.2 hv⟩
 | [],_::_,_,_,h,_=>h.elim
 | _::_,[],_,_,h,_=>h.elim
theorem MpR.set:∀{l:List (kt.den×et.den)} {m:List (kt.den×Value)} {y:et.den} {v:Value} (n:Nat),MpR w A kt et l m→Enc w A v (et.argA y)→MpR w A kt et (qk0 n y l) (qk0 n v m)
 | [],[],_,_,n,_,hv=>by cases n<;>exact trivial
 | p::l,q::m,_,_,0,h,hv=>⟨⟨h.1.1,hv⟩,h.2⟩
 | p::l,q::m,_,_,n+1,h,hv=>⟨h.1,MpR.set n h.2 hv⟩
 | [],_::_,_,_,_,h,_=>h.elim
 | _::_,[],_,_,_,h,_=>h.elim
theorem MpR.ins{l:List (kt.den×et.den)}{m:List (kt.den×Value)}(h:MpR w A kt et l m)(hz:Enc w A zv (et.argA zero)):MpR w A kt et (qj8 kt zero x l) (qj8 kt zv x m):=by
 unfold qj8
 rcases h.at (x:=x) 0 with ⟨h1,h2⟩ | ⟨n,y,v,h1,h2,h3⟩
 ·rw[h1,h2];exact h.snoc hz
 ·rw[h1,h2];exact h
theorem MpR.put{l:List (kt.den×et.den)}{m:List (kt.den×Value)}{y:et.den}{v:Value}(h:MpR w A kt et l m)(hv:Enc w A v (et.argA y)):MpR w A kt et (qqj kt y x l) (qqj kt v x m):=by
 unfold qqj
 rcases h.at (x:=x) 0 with ⟨h1,h2⟩ | ⟨n,y',v',h1,h2,h3⟩
 ·rw[h1,h2];exact h.snoc hv
 ·rw[h1,h2];exact h.set n hv
end
end Go.Proofs.YtfnflenkeljkiaaGreat
