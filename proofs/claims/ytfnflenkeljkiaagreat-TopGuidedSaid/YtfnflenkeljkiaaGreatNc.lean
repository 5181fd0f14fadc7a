/- Texts Dn13, Dn14, Dn20, Dn24, Dn25, Dn15, Dn29, Dn16 in one. -/
import Derived.Test.YtfnflenkeljkiaaGreatNb
/- Reading code by computing: what an operation looks at. Nothing here speaks of the program. -/
set_option linter.constructorNameAsVariable false
set_option linter.unusedSimpArgs false
set_option linter.unusedVariables false
set_option linter.unusedSectionVars false
namespace Go.Proofs.YtfnflenkeljkiaaGreat
open Go Go.Proofs Go.RowKit
set_option maxHeartbeats 2000000
def Ag(F:List Nat)(H H2:List DO):Prop:=H2.length=H.length∧∀k,k∈F→hget H2 k=hget H k
def Ch(F:List Nat)(H H' H2 H2':List DO):Prop:=H'.length=H.length∧H2'.length=H2.length∧∀k,(k∈F→hget H2' k=hget H' k)∧(k∉F→hget H2' k=hget H2 k∧hget H' k=hget H k)
theorem Ch.same{F:List Nat}{H H2:List DO}(h:Ag F H H2):Ch F H H H2 H2:=⟨rfl,rfl,fun k=>⟨fun hk=>h.2 k hk,fun _=>⟨rfl,rfl⟩⟩⟩
theorem Ch.put{F:List Nat}{H H' H2 H2':List DO}(hl:H2.length=H.length)(h:Ch F H H' H2 H2'){k:Nat}(o:DO)(hk:k∈F):Ch F H (hput H' k o) H2 (hput H2' k o) :=
 ⟨by rw[qcD,h.1],by rw[qcD,h.2.1],fun j=>⟨fun hj=>by
  rw[qq,qq,h.1,h.2.1,hl,(h.2.2 j).1 hj],fun hj=>by
  rw[qq,qq,if_neg (fun e:k=j∧_=>hj (e.1 ▸ hk)),if_neg (fun e:k=j∧_=>hj (e.1 ▸ hk))]
  exact (h.2.2 j).2 hj⟩⟩
theorem Ch.more{F G:List Nat}{H H' H2 H2':List DO}(h:Ch F H H' H2 H2')(hs:∀k,k∈F→k∈G)(ha:Ag G H H2):Ch G H H' H2 H2' :=
 ⟨h.1,h.2.1,fun k=>by
  by_cases hk:k∈F
  ·exact ⟨fun _=>(h.2.2 k).1 hk,fun hn=>absurd (hs k hk) hn⟩
  ·obtain ⟨h1,h2⟩:=(h.2.2 k).2 hk
   exact ⟨fun hg=>by rw[h1,h2];exact ha.2 k hg,fun _=>⟨h1,h2⟩⟩⟩
theorem Ag.less{F G:List Nat}{H H2:List DO}(h:Ag G H H2)(hs:∀k,k∈F→k∈G):Ag F H H2:=⟨h.1,fun k hk=>h.2 k (hs k hk)⟩
theorem Ch.trans{F G:List Nat}{H H' H'' H2 H2' H2'':List DO}(h:Ch F H H' H2 H2')(k:Ch G H' H'' H2' H2'')(ha:Ag (F++G) H H2):Ch (F++G) H H'' H2 H2'' :=
 ⟨k.1.trans h.1,k.2.1.trans h.2.1,fun j=>by
  by_cases hg:j∈G
  ·exact ⟨fun _=>(k.2.2 j).1 hg,fun hn=>absurd (List.mem_append_right _ hg) hn⟩
  ·obtain ⟨h1,h2⟩:=(k.2.2 j).2 hg
   by_cases hf:j∈F
   ·exact ⟨fun _=>by rw[h1,h2];exact (h.2.2 j).1 hf,fun hn=>absurd (List.mem_append_left _ hf) hn⟩
   ·obtain ⟨h3,h4⟩:=(h.2.2 j).2 hf
    exact ⟨fun hj=>absurd (List.mem_append.1 hj) (fun hj=>hj.elim hf hg),fun _=>⟨h1.trans h3,h2.trans h4⟩⟩⟩
theorem Ag.step{F G:List Nat}{H H' H2 H2':List DO}(h:Ch F H H' H2 H2')(ha:Ag (F++G) H H2):Ag G H' H2' :=
 ⟨by rw[h.2.1,h.1,ha.1],fun k hk=>by
  by_cases hf:k∈F
  ·exact (h.2.2 k).1 hf
  ·obtain ⟨h1,h2⟩:=(h.2.2 k).2 hf
   rw[h1,h2];exact ha.2 k (List.mem_append_right _ hk)⟩
theorem qkN{F:List Nat}{H H2:List DO}(h:Ag F H H2){k:Nat}(hk:k∈F):qcI H2 k=qcI H k:=by
 unfold qcI
 rw[h.2 k hk,h.1]
theorem qzW{t:Ty}{H H2 H':List DO}{k:Nat}{x:List t.den}{F:List Nat}(h:decR t H k=some (x,H',F))(ha:Ag F H H2):∃H2',decR t H2 k=some (x,H2',F)∧Ch F H H' H2 H2':=by
 unfold decR at h ⊢
 split at h
 ·rename_i t' e l hk
  cases hx:asT t t' l with
  | none=>rw[hx] at h;cases h
  | some y =>
   rw[hx] at h
   injection h with h
   obtain ⟨rfl,rfl,rfl⟩:=h
   have:=ha.2 k (by simp)
   rw[this,hk]
   simp only[hx,Option.map_some]
   exact ⟨_,rfl,(Ch.same ha).put ha.1 _ (by simp)⟩
 ·rename_i t' l hk
  cases hx:asT t t' l with
  | none=>rw[hx] at h;cases h
  | some y =>
   rw[hx] at h
   injection h with h
   obtain ⟨rfl,rfl,rfl⟩:=h
   have:=ha.2 k (by simp)
   rw[this,hk]
   simp only[hx,Option.map_some]
   exact ⟨_,rfl,Ch.same ha⟩
 ·cases h
theorem qjH:∀(t:Ty) (H H2:List DO) (cs:List DV) (x:t.den) (H':List DO) (F:List Nat),decF t H cs=some (x,H',F)→Ag F H H2→∃H2',decF t H2 cs=some (x,H2',F)∧Ch F H H' H2 H2'
 | .i k,H,H2,cs,x,H',F,h,ha=>by
  unfold decF at h ⊢
  cases hx:decI k cs with
  | none=>rw[hx] at h;cases h
  | some n=>rw[hx] at h;injection h with h;obtain ⟨rfl,rfl,rfl⟩:=h;exact ⟨_,rfl,Ch.same ha⟩
 | .b,H,H2,cs,x,H',F,h,ha=>by
  unfold decF at h ⊢
  cases hx:decB cs with
  | none=>rw[hx] at h;cases h
  | some n=>rw[hx] at h;injection h with h;obtain ⟨rfl,rfl,rfl⟩:=h;exact ⟨_,rfl,Ch.same ha⟩
 | .s,H,H2,cs,x,H',F,h,ha=>by
  unfold decF at h ⊢
  cases hx:decS cs with
  | none=>rw[hx] at h;cases h
  | some n=>rw[hx] at h;injection h with h;obtain ⟨rfl,rfl,rfl⟩:=h;exact ⟨_,rfl,Ch.same ha⟩
 | .u,H,H2,cs,x,H',F,h,ha=>by
  unfold decF at h ⊢
  cases hx:decU cs with
  | none=>rw[hx] at h;cases h
  | some n=>rw[hx] at h;injection h with h;obtain ⟨rfl,rfl,rfl⟩:=h;exact ⟨_,rfl,Ch.same ha⟩
 | .sl t,H,H2,cs,x,H',F,h,ha=>by
  unfold decF qwb at h ⊢
  split at h
  ·rename_i t' l
   cases hx:asT t t' l with
   | none=>rw[hx] at h;cases h
   | some y =>
    rw[hx] at h
    injection h with h
    obtain ⟨rfl,rfl,rfl⟩:=h
    refine ⟨H2,?_,Ch.same ha⟩
    first | rfl | (rw[hx];rfl)
  ·injection h with h
   obtain ⟨rfl,rfl,rfl⟩:=h
   exact ⟨_,rfl,Ch.same ha⟩
  ·exact qzW h ha
  ·cases h
 | .pt t,H,H2,cs,x,H',F,h,ha=>by
  unfold decF at h ⊢
  cases hx:purF (.pt t) cs with
  | none=>rw[hx] at h;cases h
  | some n=>rw[hx] at h;injection h with h;obtain ⟨rfl,rfl,rfl⟩:=h;exact ⟨_,rfl,Ch.same ha⟩
 | .pr y z,H,H2,cs,x,H',F,h,ha=>by
  unfold decF at h ⊢
  split at h
  ·rename_i a H1 F1 h1
   split at h
   ·rename_i c Hb F2 h2
    injection h with h
    obtain ⟨rfl,rfl,rfl⟩:=h
    obtain ⟨H21,e1,c1⟩:=qjH y H H2 _ _ _ _ h1 (ha.less fun k hk=>List.mem_append_left _ hk)
    obtain ⟨H22,e2,c2⟩:=qjH z H1 H21 _ _ _ _ h2 (Ag.step c1 ha)
    rw[e1]
    simp only[e2]
    exact ⟨_,rfl,c1.trans c2 ha⟩
   ·cases h
  ·cases h
theorem qvF{t:Ty}:∀(ds:List DV) (H H2:List DO) (l:List t.den) (H':List DO) (F:List Nat),decL t H ds=some (l,H',F)→Ag F H H2→∃H2',decL t H2 ds=some (l,H2',F)∧Ch F H H' H2 H2'
 | [],H,H2,l,H',F,h,ha=>by
  injection h with h
  obtain ⟨rfl,rfl,rfl⟩:=h
  exact ⟨_,rfl,Ch.same ha⟩
 | d::ds,H,H2,l,H',F,h,ha=>by
  unfold decL at h ⊢
  split at h
  ·rename_i cs hcs
   split at h
   ·rename_i x H1 F1 h1
    split at h
    ·rename_i l2 Hb F2 h2
     injection h with h
     obtain ⟨rfl,rfl,rfl⟩:=h
     obtain ⟨H21,e1,c1⟩:=qjH t H H2 _ _ _ _ h1 (ha.less fun k hk=>List.mem_append_left _ hk)
     obtain ⟨H22,e2,c2⟩:=qvF ds H1 H21 _ _ _ h2 (Ag.step c1 ha)
     simp only[e1,e2]
     exact ⟨_,rfl,c1.trans c2 ha⟩
    ·cases h
   ·cases h
  ·cases h
def Loc(p:List DO→PT SR):Prop:=∀(H H2:List DO) (r:SR),(p H).Is r→Ag r.F H H2→∃H2',(p H2).Is ⟨r.v,H2',r.F⟩∧Ch r.F H r.H H2 H2'
theorem Loc.pure(p:PT DV):Loc fun H=>optH H p:=fun H H2 r h ha=>by
 unfold optH at h ⊢
 obtain ⟨d,h1,h2⟩:=PT.seq_is _ h
 cases h2
 refine ⟨H2,?_,Ch.same ha⟩
 clear h
 induction p with
 | ret s=>cases h1;rfl
 | fail=>exact h1.elim
 | bind Y o f ih=>obtain ⟨y,hy,h1⟩:=h1;exact ⟨y,hy,ih y h1⟩
 | br c x y ihx ihy =>
  rcases h1 with ⟨h1,h2⟩ | ⟨h1,h2⟩
  ·exact .inl ⟨h1,ihx h2⟩
  ·exact .inr ⟨h1,ihy h2⟩
 | case X Y x f g ihf ihg =>
  rcases h1 with ⟨a,h1,h2⟩ | ⟨b,h1,h2⟩
  ·exact .inl ⟨a,h1,ihf a h2⟩
  ·exact .inr ⟨b,h1,ihg b h2⟩
theorem PT.seq_mk{σ τ:Type}:∀(p:PT σ) {k:σ→PT τ} {s:σ} {r:τ},p.Is s→(k s).Is r→(p.seq k).Is r
 | .ret s,_,_,_,h1,h2=>by cases h1;exact h2
 | .fail,_,_,_,h1,_=>h1.elim
 | .bind Y o f,k,s,r,h1,h2=>by obtain ⟨y,hy,h1⟩:=h1;exact ⟨y,hy,PT.seq_mk (f y) h1 h2⟩
 | .br c x y,k,s,r,h1,h2=>by
  rcases h1 with ⟨h1,h3⟩ | ⟨h1,h3⟩
  ·exact .inl ⟨h1,PT.seq_mk x h3 h2⟩
  ·exact .inr ⟨h1,PT.seq_mk y h3 h2⟩
 | .case X Y x f g,k,s,r,h1,h2=>by
  rcases h1 with ⟨a,h1,h3⟩ | ⟨b,h1,h3⟩
  ·exact .inl ⟨a,h1,PT.seq_mk (f a) h3 h2⟩
  ·exact .inr ⟨b,h1,PT.seq_mk (g b) h3 h2⟩
section
variable {P:Program} {B:Tab P}
theorem qw8(ty:TypeId)(d:DV):Loc fun H=>qom B H ty d:=fun H H2 r h ha=>by
 simp only[qom] at h ⊢
 split at h
 ·exact h.elim
 ·rename_i e he
  split at h
  ·obtain ⟨v,h1,h2⟩:=PT.seq_is _ h
   cases h2
   exact ⟨H2,PT.seq_mk _ h1 rfl,Ch.same ha⟩
  ·rename_i k off
   split at h
   ·rename_i tt cells hk
    obtain ⟨v,h1,h2⟩:=PT.seq_is _ h
    cases h2
    rw[ha.2 k (by simp),hk]
    exact ⟨H2,PT.seq_mk _ h1 rfl,Ch.same ha⟩
   ·exact h.elim
  ·rename_i k i off
   split at h
   ·rename_i t te l hk
    obtain ⟨y,hy,h⟩:=h
    obtain ⟨v,h1,h2⟩:=PT.seq_is _ h
    cases h2
    rw[ha.2 k (by simp),hk]
    exact ⟨H2,⟨y,hy,PT.seq_mk _ h1 rfl⟩,Ch.same ha⟩
   ·exact h.elim
  ·exact h.elim
theorem qwg(ty:TypeId)(d:DV)(n:Int):Loc fun H=>qmb B H ty d n:=fun H H2 r h ha=>by
 simp only[qmb] at h ⊢
 split at h
 ·exact h.elim
 ·rename_i e he
  split at h
  ·split at h
   ·rename_i hb
    obtain ⟨v,h1,h2⟩:=h
    cases h2
    exact ⟨H2,⟨v,h1,rfl⟩,Ch.same ha⟩
   ·exact h.elim
  ·rename_i k
   split at h
   ·rename_i t te l hk
    split at h
    ·rename_i hb
     obtain ⟨v,h1,h2⟩:=h
     cases h2
     rw[ha.2 k (by simp),hk]
     simp only[hb]
     exact ⟨H2,⟨v,h1,rfl⟩,Ch.same ha⟩
    ·exact h.elim
   ·rename_i t l hk
    split at h
    ·rename_i hb
     obtain ⟨v,h1,h2⟩:=h
     cases h2
     rw[ha.2 k (by simp),hk]
     simp only[hb]
     exact ⟨H2,⟨v,h1,rfl⟩,Ch.same ha⟩
    ·exact h.elim
   ·exact h.elim
  ·rename_i k lo q
   split at h
   ·rename_i t te l hk
    split at h
    ·rename_i hb
     obtain ⟨v,h1,h2⟩:=h
     cases h2
     rw[ha.2 k (by simp),hk]
     simp only[hb]
     exact ⟨H2,⟨v,h1,rfl⟩,Ch.same ha⟩
    ·exact h.elim
   ·exact h.elim
  ·exact h.elim
theorem qyu(ty:TypeId)(d:DV):Loc fun H=>lenD B H ty d:=fun H H2 r h ha=>by
 simp only[lenD] at h ⊢
 split at h
 ·exact h.elim
 ·split at h
  ·cases h;exact ⟨H2,rfl,Ch.same ha⟩
  ·cases h;exact ⟨H2,rfl,Ch.same ha⟩
  ·rename_i k
   split at h
   ·rename_i hk
    cases h
    rw[ha.2 k (by simp),hk]
    exact ⟨H2,rfl,Ch.same ha⟩
   ·rename_i hk
    cases h
    rw[ha.2 k (by simp),hk]
    exact ⟨H2,rfl,Ch.same ha⟩
   ·exact h.elim
  ·rename_i k lo q
   split at h
   ·rename_i hk
    cases h
    rw[ha.2 k (by simp),hk]
    exact ⟨H2,rfl,Ch.same ha⟩
   ·exact h.elim
  ·exact h.elim
theorem qw9(ty:TypeId)(n:Int)(d:DV):Loc fun H=>qon B H ty n d:=fun H H2 r h ha=>by
 simp only[qon] at h ⊢
 split at h
 ·exact h.elim
 ·split at h
  ·split at h
   ·rename_i hb
    obtain ⟨v,h1,h2⟩:=h
    cases h2
    exact ⟨H2,⟨v,h1,rfl⟩,Ch.same ha⟩
   ·exact h.elim
  ·rename_i k
   split at h
   ·rename_i hk
    split at h
    ·rename_i hb
     obtain ⟨v,h1,h2⟩:=h
     cases h2
     rw[ha.2 k (by simp),hk]
     simp only[hb]
     exact ⟨H2,⟨v,h1,rfl⟩,Ch.same ha⟩
    ·exact h.elim
   ·rename_i hk
    split at h
    ·rename_i hb
     obtain ⟨v,h1,h2⟩:=h
     cases h2
     rw[ha.2 k (by simp),hk]
     simp only[hb]
     exact ⟨H2,⟨v,h1,rfl⟩,Ch.same ha⟩
    ·exact h.elim
   ·exact h.elim
  ·obtain ⟨v,h1,h2⟩:=h
   cases h2
   exact ⟨H2,⟨v,h1,rfl⟩,Ch.same ha⟩
  ·exact h.elim
theorem qxa(ty:TypeId)(n:Int)(d:DV):Loc fun H=>qoo B H ty n d:=fun H H2 r h ha=>by
 simp only[qoo] at h ⊢
 split at h
 ·exact h.elim
 ·split at h
  ·split at h
   ·rename_i hb
    obtain ⟨v,h1,h2⟩:=h
    cases h2
    exact ⟨H2,⟨v,h1,rfl⟩,Ch.same ha⟩
   ·exact h.elim
  ·rename_i k
   split at h
   ·rename_i hk
    split at h
    ·rename_i hb
     obtain ⟨v,h1,h2⟩:=h
     cases h2
     rw[ha.2 k (by simp),hk]
     simp only[hb]
     exact ⟨H2,⟨v,h1,rfl⟩,Ch.same ha⟩
    ·exact h.elim
   ·rename_i hk
    split at h
    ·rename_i hb
     obtain ⟨v,h1,h2⟩:=h
     cases h2
     rw[ha.2 k (by simp),hk]
     simp only[hb]
     exact ⟨H2,⟨v,h1,rfl⟩,Ch.same ha⟩
    ·exact h.elim
   ·exact h.elim
  ·exact h.elim
theorem qyv(ty:TypeId)(n n2:Int)(d:DV):Loc fun H=>cutD B H ty n n2 d:=fun H H2 r h ha=>by
 simp only[cutD] at h ⊢
 split at h
 ·exact h.elim
 ·split at h
  ·split at h
   ·rename_i hb
    obtain ⟨v,h1,v2,h1b,h2⟩:=h
    cases h2
    exact ⟨H2,⟨v,h1,v2,h1b,rfl⟩,Ch.same ha⟩
   ·exact h.elim
  ·rename_i k
   split at h
   ·rename_i hk
    split at h
    ·rename_i hb
     obtain ⟨v,h1,v2,h1b,h2⟩:=h
     cases h2
     rw[ha.2 k (by simp),hk]
     simp only[hb]
     exact ⟨H2,⟨v,h1,v2,h1b,rfl⟩,Ch.same ha⟩
    ·exact h.elim
   ·rename_i hk
    split at h
    ·rename_i hb
     obtain ⟨v,h1,v2,h1b,h2⟩:=h
     cases h2
     rw[ha.2 k (by simp),hk]
     simp only[hb]
     exact ⟨H2,⟨v,h1,v2,h1b,rfl⟩,Ch.same ha⟩
    ·exact h.elim
   ·exact h.elim
  ·exact h.elim
theorem qwh(ty:TypeId)(p d:DV):Loc fun H=>qnF B H ty p d:=fun H H2 r h ha=>by
 simp only[qnF] at h ⊢
 split at h
 ·rename_i e cs he hc
  split at h
  ·rename_i hb
   split at h
   ·rename_i k off
    split at h
    ·rename_i hk
     split at h
     ·rename_i hle
      cases h
      rw[ha.2 k (by simp),hk]
      simp only[hle]
      exact ⟨_,rfl,(Ch.same ha).put ha.1 _ (by simp)⟩
     ·exact h.elim
    ·exact h.elim
   ·rename_i k i off
    split at h
    ·rename_i hk
     obtain ⟨y,hy,h⟩:=h
     dsimp only at h
     split at h
     ·rename_i hle
      split at h
      ·rename_i hd
       split at h
       ·rename_i hk2
        cases h
        obtain ⟨H21,e1,c1⟩:=qjH _ _ H2 _ _ _ _ hd (ha.less fun j hj=>List.mem_cons_of_mem _ hj)
        have c2:=c1.more (G:=k::_) (fun j hj=>List.mem_cons_of_mem _ hj) ha
        have hk3:=(c2.2.2 k).1 (by simp)
        rw[ha.2 k (by simp),hk]
        refine ⟨_,⟨y,hy,?_⟩,c2.put ha.1 _ (by simp)⟩
        simp only[hle,e1,hk3,hk2]
        rfl
       ·exact h.elim
      ·exact h.elim
     ·exact h.elim
    ·exact h.elim
   ·exact h.elim
  ·exact h.elim
 ·exact h.elim
theorem qwi(id:Nat)(ty:TypeId):Loc fun H=>qnG B id H ty:=fun H H2 r h ha=>by
 simp only[qnG] at h ⊢
 split at h
 ·rename_i he hn
  cases h
  simp only[he,qkN ha (show id∈_ by simp),hn]
  exact ⟨_,rfl,(Ch.same ha).put ha.1 _ (by simp)⟩
 ·exact h.elim
theorem qyw(id:Nat)(ty:TypeId)(d:DV):Loc fun H=>boxD id H ty d:=fun H H2 r h ha=>by
 simp only[boxD] at h ⊢
 split at h
 ·rename_i he hn
  cases h
  simp only[he,qkN ha (show id∈_ by simp),hn]
  exact ⟨_,rfl,(Ch.same ha).put ha.1 _ (by simp)⟩
 ·exact h.elim
theorem qxb(id:Nat)(ty:TypeId)(n m:Int):Loc fun H=>qqm B id H ty n m:=fun H H2 r h ha=>by
 simp only[qqm] at h ⊢
 split at h
 ·rename_i he hn
  obtain ⟨u,g1,u2,g2,h⟩:=h
  cases h
  simp only[he,qkN ha (show id∈_ by simp),hn]
  exact ⟨_,⟨u,g1,u2,g2,rfl⟩,(Ch.same ha).put ha.1 _ (by simp)⟩
 ·exact h.elim
theorem qvf(id:Nat)(ty:TypeId)(n:Nat)(js:List Nat)(ds:List DV):Loc fun H=>ql5 B id H ty n js ds:=fun H H2 r h ha=>by
 simp only[ql5] at h ⊢
 split at h
 ·split at h
  ·rename_i hd
   split at h
   ·rename_i hn
    split at h
    ·rename_i hb
     cases h
     obtain ⟨H21,e1,c1⟩:=qvF _ _ H2 _ _ _ hd (ha.less fun j hj=>List.mem_cons_of_mem _ hj)
     have c2:=c1.more (G:=id::_) (fun j hj=>List.mem_cons_of_mem _ hj) ha
     have hk3:=(c2.2.2 id).1 (by simp)
     have hn2:qcI H21 id=true:=by rw[← hn];unfold qcI;rw[hk3,c2.2.1,c2.1,ha.1]
     simp only[e1,hn2,hb]
     exact ⟨_,rfl,c2.put ha.1 _ (by simp)⟩
    ·exact h.elim
   ·exact h.elim
  ·exact h.elim
 ·exact h.elim
theorem qre{t:Ty}{d:DV}{H H2:List DO}{r:List t.den×List Nat}(h:(qk1 t H d).Is r)(ha:Ag r.2 H H2):(qk1 t H2 d).Is r:=by
 unfold qk1 at h ⊢
 split at h
 ·exact h
 ·exact h
 ·rename_i k
  split at h
  ·rename_i hk
   obtain ⟨l,h1,h2⟩:=PT.seq_is _ h
   cases h2
   simp only[ha.2 k (by simp),hk]
   exact PT.seq_mk _ h1 rfl
  ·rename_i hk
   obtain ⟨l,h1,h2⟩:=PT.seq_is _ h
   cases h2
   simp only[ha.2 k (by simp),hk]
   exact PT.seq_mk _ h1 rfl
  ·exact h.elim
 ·rename_i k lo n
  split at h
  ·rename_i hk
   obtain ⟨u,g1,h⟩:=h
   obtain ⟨l,h1,h2⟩:=PT.seq_is _ h
   cases h2
   simp only[ha.2 k (by simp),hk]
   exact ⟨u,g1,PT.seq_mk _ h1 rfl⟩
  ·exact h.elim
 ·exact h.elim
theorem qyx{t:Ty}{e:TypeId}{d:DV}{H H2:List DO}{r:List t.den×List DO×List Nat}(h:(qmU t e H d).Is r)(ha:Ag r.2.2 H H2):∃H2',(qmU t e H2 d).Is (r.1,H2',r.2.2)∧Ch r.2.2 H r.2.1 H2 H2':=by
 unfold qmU at h ⊢
 split at h
 ·cases h;exact ⟨_,rfl,Ch.same ha⟩
 ·rename_i k
  split at h
  ·rename_i hk
   split at h
   ·rename_i hb
    obtain ⟨l,h1,h2⟩:=PT.seq_is _ h
    cases h2
    simp only[ha.2 k (by simp),hk,hb]
    exact ⟨_,PT.seq_mk _ h1 rfl,(Ch.same ha).put ha.1 _ (by simp)⟩
   ·exact h.elim
  ·exact h.elim
 ·rename_i k m
  split at h
  ·rename_i hk
   split at h
   ·rename_i hb
    obtain ⟨u,g1,h⟩:=h
    obtain ⟨l,h1,h2⟩:=PT.seq_is _ h
    cases h2
    simp only[ha.2 k (by simp),hk,hb]
    exact ⟨_,⟨u,g1,PT.seq_mk _ h1 rfl⟩,(Ch.same ha).put ha.1 _ (by simp)⟩
   ·exact h.elim
  ·exact h.elim
 ·exact h.elim
theorem qvg(id:Nat)(ty:TypeId)(x y:DV):Loc fun H=>qkJ B id H ty x y:=fun H H2 r h ha=>by
 simp only[qkJ] at h ⊢
 split at h
 ·rename_i he hn
  obtain ⟨l2,hv,h2⟩:=PT.seq_is _ h
  clear h
  obtain ⟨l1,hb,h3⟩:=PT.seq_is _ h2
  clear h2
  obtain ⟨u,g1,h4⟩:=h3
  cases h4
  have hv2:=qre hv (ha.less fun j hj=>List.mem_cons_of_mem _ (List.mem_append_right _ hj))
  obtain ⟨H21,e1,c1⟩:=qyx hb (ha.less fun j hj=>List.mem_cons_of_mem _ (List.mem_append_left _ hj))
  have c2:=c1.more (G:=id::(l1.2.2++l2.2)) (fun j hj=>List.mem_cons_of_mem _ (List.mem_append_left _ hj)) ha
  simp only[he,qkN ha (show id∈_ by simp),hn]
  exact ⟨_,PT.seq_mk _ hv2 (PT.seq_mk _ e1 ⟨u,g1,rfl⟩),c2.put ha.1 _ (by simp)⟩
 ·exact h.elim
theorem qpD(id:Nat)(ty:TypeId):Loc fun H=>qio B id H ty:=fun H H2 r h ha=>by
 simp only[qio] at h ⊢
 split at h
 ·rename_i he hn
  cases h
  simp only[he,qkN ha (show id∈_ by simp),hn]
  exact ⟨_,rfl,(Ch.same ha).put ha.1 _ (by simp)⟩
 ·exact h.elim
theorem qnL{ty:TypeId}{e:MpE P ty}{H H2:List DO}{d:DV}{k:Nat}{z:Bool}{l:List (e.kt.den×e.et.den)}(h:getM e H d=some (k,z,l))(ha:hget H2 k=hget H k):getM e H2 d=some (k,z,l):=by
 obtain ⟨rfl,hk⟩:=qkM h
 unfold getM at h ⊢
 simp only[ha]
 exact h
theorem qvh(ty:TypeId)(ok:Bool)(d x:DV):Loc fun H=>qgn B H ty ok d x:=fun H H2 r h ha=>by
 simp only[qgn] at h ⊢
 split at h
 ·rename_i e he
  split at h
  ·rename_i h1 h2
   cases h
   simp only[qnL h1 (ha.2 _ (by simp)),h2]
   exact ⟨_,rfl,Ch.same ha⟩
  ·exact h.elim
 ·exact h.elim
theorem qvG{t:Ty}{H H2 H':List DO}{d:DV}{x:t.den}{F:List Nat}(h:decV t H d=some (x,H',F))(ha:Ag F H H2):∃H2',decV t H2 d=some (x,H2',F)∧Ch F H H' H2 H2':=by
 unfold decV at h ⊢
 cases hc:cellsOf t.isAgg d with
 | none=>rw[hc] at h;cases h
 | some cs =>
  rw[hc] at h
  exact qjH t H H2 cs x H' F h ha
theorem qwj(ty:TypeId)(d x:DV):Loc fun H=>qj9 B H ty d x:=fun H H2 r h ha=>by
 simp only[qj9] at h ⊢
 split at h
 ·rename_i e he
  split at h
  ·rename_i h1 h2 h3
   cases h
   simp only[qnL h1 (ha.2 _ (by simp)),h2,h3]
   exact ⟨_,rfl,(Ch.same ha).put ha.1 _ (by simp)⟩
  ·exact h.elim
 ·exact h.elim
theorem qwk(ty:TypeId)(d:DV)(n:Int)(v:DV):Loc fun H=>qnH B H ty d n v:=fun H H2 r h ha=>by
 simp only[qnH] at h ⊢
 split at h
 ·rename_i e he
  split at h
  ·rename_i y H1 F1 h0
   split at h
   ·rename_i k z l h1
    obtain ⟨j,hj,u,hu,h⟩:=h
    cases h
    simp only at ha ⊢
    obtain ⟨H3,h3,c3⟩:=qvG h0 (ha.less fun i hi=>List.mem_cons_of_mem _ hi)
    have hag:=Ag.step (F:=F1) (G:=[k]) c3 (ha.less fun i hi=>by rcases List.mem_append.1 hi with hi | hi;exact List.mem_cons_of_mem _ hi;exact List.mem_cons.2 (.inl (List.mem_singleton.1 hi)))
    simp only[h3,qnL h1 (hag.2 _ (by simp))]
    exact ⟨_,⟨j,hj,u,hu,rfl⟩,(c3.more (fun i hi=>List.mem_cons_of_mem _ hi) ha).put ha.1 _ (by simp)⟩
   ·exact h.elim
  ·exact h.elim
 ·exact h.elim
theorem qrQ(ty:TypeId)(d x v:DV):Loc fun H=>qla B H ty d x v:=fun H H2 r h ha=>by
 simp only[qla] at h ⊢
 split at h
 ·rename_i e he
  split at h
  ·rename_i y H1 F1 h0
   split at h
   ·rename_i k z l q h1 h2
    cases h
    simp only at ha ⊢
    obtain ⟨H3,h3,c3⟩:=qvG h0 (ha.less fun i hi=>List.mem_cons_of_mem _ hi)
    have hag:=Ag.step (F:=F1) (G:=[k]) c3 (ha.less fun i hi=>by rcases List.mem_append.1 hi with hi | hi;exact List.mem_cons_of_mem _ hi;exact List.mem_cons.2 (.inl (List.mem_singleton.1 hi)))
    simp only[h3,qnL h1 (hag.2 _ (by simp)),h2]
    exact ⟨_,rfl,(c3.more (fun i hi=>List.mem_cons_of_mem _ hi) ha).put ha.1 _ (by simp)⟩
   ·exact h.elim
  ·exact h.elim
 ·exact h.elim
theorem qwl(ty:TypeId)(d:DV):Loc fun H=>qnI B H ty d:=fun H H2 r h ha=>by
 simp only[qnI] at h ⊢
 split at h
 ·rename_i e he
  split at h
  ·rename_i k lo n
   split at h
   ·rename_i hk
    split at h
    ·rename_i h1 h2
     obtain ⟨u,hu,h⟩:=h
     cases h
     simp only[ha.2 k (by simp),hk,h1,h2]
     exact ⟨_,⟨u,hu,rfl⟩,(Ch.same ha).put ha.1 _ (by simp)⟩
    ·exact h.elim
   ·exact h.elim
  ·exact h.elim
 ·exact h.elim
theorem qyy(ty:TypeId)(d:DV):Loc fun H=>capD B H ty d:=fun H H2 r h ha=>by
 simp only[capD] at h ⊢
 split at h
 ·split at h
  ·cases h
   exact ⟨H2,rfl,Ch.same ha⟩
  ·exact h.elim
 ·exact h.elim
theorem qxc(id:Nat)(ty tn:TypeId)(x y:DV):Loc fun H=>qop B id H ty tn x y:=fun H H2 r h ha=>by
 simp only[qop] at h ⊢
 split at h
 ·rename_i he hq hn
  split at h
  ·obtain ⟨k,h1,u,h2,h⟩:=h
   cases h
   simp only[he,hq,qkN ha (show id∈_ by simp),hn]
   exact ⟨_,⟨k,h1,u,h2,rfl⟩,(Ch.same ha).put ha.1 _ (by simp)⟩
  ·exact h.elim
 ·exact h.elim
theorem qxd(ty:TypeId)(d s:DV):Loc fun H=>qqn B H ty d s:=fun H H2 r h ha=>by
 simp only[qqn] at h ⊢
 split at h
 ·rename_i e he
  split at h
  ·rename_i hz
   obtain ⟨v,hv,h⟩:=PT.seq_is _ h
   split at h
   ·rename_i k _
    split at h
    ·rename_i z t te l hk
     obtain ⟨vs,h1,h2⟩:=PT.seq_is _ h
     cases h2
     have hv2:=qre hv (ha.less fun j hj=>List.mem_cons_of_mem _ hj)
     simp only[he,hz]
     refine ⟨_,PT.seq_mk _ hv2 ?_,(Ch.same ha).put ha.1 _ (by simp)⟩
     simp only[ha.2 k (by simp),hk]
     exact PT.seq_mk _ h1 rfl
    ·exact h.elim
   ·rename_i k lo n _
    split at h
    ·rename_i z t te l hk
     obtain ⟨vs,h1,u,hu,h2⟩:=PT.seq_is _ h
     cases h2
     have hv2:=qre hv (ha.less fun j hj=>List.mem_cons_of_mem _ hj)
     simp only[he,hz]
     refine ⟨_,PT.seq_mk _ hv2 ?_,(Ch.same ha).put ha.1 _ (by simp)⟩
     simp only[ha.2 k (by simp),hk]
     exact PT.seq_mk _ h1 ⟨u,hu,rfl⟩
    ·exact h.elim
   ·exact h.elim
  ·exact h.elim
 ·exact h.elim
theorem qzX(id:Nat)(op:Op)(ds:List DV):Loc fun H=>sop B id H op ds:=by
 unfold sop
 split
 ·exact qw8 _ _
 ·exact qwg _ _ _
 ·exact qwh _ _ _
 ·exact qwi _ _
 ·exact qyw _ _ _
 ·exact qxb _ _ _ _
 ·exact qvf _ _ _ _ _
 ·exact qw9 _ _ _
 ·exact qxa _ _ _
 ·exact qyv _ _ _ _
 ·split
  ·exact qyu _ _
  ·exact fun _ _ _ h _=>h.elim
 ·split
  ·split
   ·exact qvg _ _ _ _
   ·exact qxc _ _ _ _ _
  ·exact fun _ _ _ h _=>h.elim
 ·exact qpD _ _
 ·exact qpD _ _
 ·exact qvh _ _ _ _
 ·exact qwj _ _ _
 ·exact qwk _ _ _ _
 ·exact qrQ _ _ _ _
 ·exact qrQ _ _ _ _
 ·split
  ·exact qwl _ _
  ·exact fun _ _ _ h _=>h.elim
 ·split
  ·exact qyy _ _
  ·exact fun _ _ _ h _=>h.elim
 ·split
  ·exact qxd _ _ _
  ·exact fun _ _ _ h _=>h.elim
 ·exact Loc.pure _
end
def Ty.flat:Ty→Bool
 | .sl _=>false
 | .pt _=>false
 | .pr x y=>x.flat&&y.flat
 | _=>true
def qtS(t:Ty)(H:List DO):List DV→Option (List t.den×List Nat)
 | [.sl t' l]=>(asT t t' l).map fun l=>(l,[])
 | [.val (.slice none 0 0)]=>some ([],[])
 | [.ref k]=>match hget H k with
  | .row _ t' _ l=>(asT t t' l).map fun x=>(x,[k])
  | .frz t' l=>(asT t t' l).map fun x=>(x,[k])
  | _=>none
 | _=>none
def see:(t:Ty)→List DO→List DV→Option (t.den×List Nat)
 | .i k,_,cs=>(decI k cs).map fun n=>(n,[])
 | .b,_,cs=>(decB cs).map fun n=>(n,[])
 | .s,_,cs=>(decS cs).map fun n=>(n,[])
 | .u,_,cs=>(decU cs).map fun n=>(n,[])
 | .sl t,H,cs=>qtS t H cs
 | .pr x y,H,cs=>match see x H (cs.take x.sz) with
  | some (a,F1)=>match see y H (cs.drop x.sz) with
   | some (c,F2)=>some ((a,c),F1++F2)
   | none=>none
  | none=>none
 | .pt t,_,cs=>(purF (.pt t) cs).map fun x=>(x,[])
def decA(keep:Bool)(t:Ty)(H:List DO)(d:DV):Option (t.den×List DO×List Nat) :=
 match cellsOf t.isAgg d with
 | some cs=>match keep with
  | true=>(see t H cs).map fun p=>(p.1,H,p.2)
  | false=>decF t H cs
 | none=>none
def qx:List Ty→Type
 | []=>Unit
 | t::l=>t.den×qx l
def tysD:(l:List Ty)→qx l→List DV
 | [],_=>[]
 | t::l,x=>t.argD x.1::tysD l x.2
def tysA:(l:List Ty)→qx l→List AV
 | [],_=>[]
 | t::l,x=>t.argA x.1::tysA l x.2
inductive Ar where
 | d (t:Ty)
 | fn (f:FuncId) (first caps:List Ty)
def Ar.den:Ar→Type
 | .d t=>t.den
 | .fn _ a c=>qx a×qx c
def Ar.D:(a:Ar)→a.den→DV
 | .d t,x=>t.argD x
 | .fn f a c,x=>.fn f (tysD a x.1) (tysD c x.2)
def Ar.A:(a:Ar)→a.den→AV
 | .d t,x=>t.argA x
 | .fn f a c,x=>.fn f (tysA a x.1) (tysA c x.2)
def qeo:List Ar→Type
 | []=>Unit
 | a::l=>a.den×qeo l
def arsD:(l:List Ar)→qeo l→List DV
 | [],_=>[]
 | a::l,x=>a.D x.1::arsD l x.2
def arsA:(l:List Ar)→qeo l→List AV
 | [],_=>[]
 | a::l,x=>a.A x.1::arsA l x.2
def qiq(keep:Bool):(l:List Ty)→List DO→List DV→Option (qx l×List DO×List Nat)
 | [],H,[]=>some ((),H,[])
 | t::l,H,d::ds=>match decA keep t H d with
  | some (x,H1,F1)=>match qiq keep l H1 ds with
   | some (y,H2,F2)=>some ((x,y),H2,F1++F2)
   | none=>none
  | none=>none
 | _,_,_=>none
def qwm:(l:List Ty)→Option (qx l)
 | []=>some ()
 | _::_=>none
theorem qos{l:List Ty}{x:qx l}(h:qwm l=some x):tysA l x=[]:=by
 cases l with
 | nil=>rfl
 | cons t l=>cases h
def qk3(keep:Bool):(a:Ar)→List DO→DV→Option (a.den×List DO×List Nat)
 | .d t,H,d=>decA keep t H d
 | .fn f a c,H,d=>match d with
  | .fn g da dc=>match Nat.beq g f with
   | true=>match qiq keep a H da with
    | some (x,H1,F1)=>match qiq keep c H1 dc with
     | some (y,H2,F2)=>some ((x,y),H2,F1++F2)
     | none=>none
    | none=>none
   | false=>none
  | .val (.func (.func g) p q)=>match Nat.beq g f&&(Nat.beq p.size 0&&Nat.beq q.size 0) with
   | true=>match qwm a,qwm c with
    | some x,some y=>some ((x,y),H,[])
    | _,_=>none
   | false=>none
  | _=>none
def Ar.fits:Ar→DV→Bool
 | .d _,_=>true
 | .fn f _ _,.fn g _ _=>Nat.beq g f
 | .fn f _ _,.val (.func (.func g) _ _)=>Nat.beq g f
 | .fn _ _ _,_=>false
def qzC:List Ar→List DV→Bool
 | a::l,d::ds=>a.fits d&&qzC l ds
 | _,_=>true
def qjf(keep:Bool):(l:List Ar)→List DO→List DV→Option (qeo l×List DO×List Nat)
 | [],H,[]=>some ((),H,[])
 | a::l,H,d::ds=>match qk3 keep a H d with
  | some (x,H1,F1)=>match qjf keep l H1 ds with
   | some (y,H2,F2)=>some ((x,y),H2,F1++F2)
   | none=>none
  | none=>none
 | _,_,_=>none
def resD:(l:List Ty)→qx l→DV
 | [],_=>.val (.tuple #[])
 | [t],x=>t.argD x.1
 | t::t2::l,x=>.tup (tysD (t::t2::l) x)
def resA:(l:List Ty)→qx l→AV
 | [],_=>.val (.tuple #[])
 | [t],x=>t.argA x.1
 | t::t2::l,x=>.tup (tysA (t::t2::l) x)
inductive Rt where
 | ts (l:List Ty)
 | fb (g:FuncId) (caps:List Ty)
def Rt.den:Rt→Type
 | .ts l=>qx l
 | .fb _ caps=>qx caps
def qrR:(l:List Ty)→qx l→List DV
 | [],_=>[]
 | t::l,x=>.rp (t.encD x.1)::qrR l x.2
def qd6:(l:List Ty)→qx l→List AV
 | [],_=>[]
 | t::l,x=>.rp (t.enc x.1)::qd6 l x.2
def Rt.D:(r:Rt)→r.den→DV
 | .ts l,x=>resD l x
 | .fb g caps,x=>.fn g [] (qrR caps x)
def Rt.A:(r:Rt)→r.den→AV
 | .ts l,x=>resA l x
 | .fb g caps,x=>.fn g [] (qd6 caps x)
def Rt.flat:Rt→Bool
 | .ts l=>l.all Ty.flat
 | .fb _ _=>false
structure Ct (P:Program) where
 f:FuncId
 ars:List Ar
 rs:Rt
 M:qeo ars→Option rs.den
 ok:∀a y,M a=some y→PC P f (arsA ars a) (rs.A y)
def qlL{P:Program}:List (Ct P)→FuncId→List DV→List DO→PT SR
 | [],_,_,_=>.fail
 | c::cs,f,ds,H=>match Nat.beq c.f f&&qzC c.ars ds with
  | true=>match qjf c.rs.flat c.ars H ds with
   | some (a,H',F)=>.bind c.rs.den (c.M a) fun y=>.ret ⟨c.rs.D y,H',F⟩
   | none=>.fail
  | false=>qlL cs f ds H
def qmZ{P:Program}(cs:List (Ct P))(H:List DO)(fv:DV)(ds:List DV):PT SR :=
 match fv with
 | .fn f a c=>qlL cs f (a++ds++c) H
 | .val (.func (.func f) a c)=>match a.size,c.size with
  | 0,0=>qlL cs f ds H
  | _,_=>.fail
 | _=>.fail
theorem qjI{g:Nat→Option Cn}:∀(l:List Ty) (x:qx l),qa g (tysD l x)=tysA l x
 | [],_=>rfl
 | t::l,x=>by simp only[tysD,tysA,qa,qkL,qjI l]
theorem qxe{g:Nat→Option Cn}(l:List Ty)(x:qx l):conc g (resD l x)=resA l x:=by
 match l,x with
 | [],_=>rfl
 | [t],x=>exact qkL t x.1
 | t::t2::l,x=>simp only[resD,resA,conc];rw[qjI]
theorem qrS{g:Nat→Option Cn}:∀(l:List Ty) (x:qx l),qa g (qrR l x)=qd6 l x
 | [],_=>rfl
 | t::l,x=>by simp only[qrR,qd6,qa,conc,qc2,qrS l]
theorem Rt.conc{g:Nat→Option Cn}(r:Rt)(x:r.den):Go.Proofs.YtfnflenkeljkiaaGreat.conc g (r.D x)=r.A x:=by
 cases r with
 | ts l=>exact qxe l x
 | fb h caps=>exact congrArg (AV.fn h []) (qrS caps x)
theorem PC.weak{P:Program}{f:FuncId}{l0 l:List AV}{r:AV}(h:PC P f l r)(hw:Wks l0 l):PC P f l0 r :=
 ⟨h.1,fun w S vs hG hn henc=>h.2 w S vs hG (hn.trans hw.1) fun i d hi=>by
  have hlt:=qbK hi
  exact hw.2 i _ d (List.getElem?_eq_getElem (by have:=hw.1;omega)) hi w S _ (henc i _ (List.getElem?_eq_getElem (by have:=hw.1;omega)))⟩
theorem qsL{t:Ty}{H H':List DO}{d:DV}{x:t.den}{F:List Nat}(h:decA false t H d=some (x,H',F)):Fz H H'∧∀(m:Nat→Value) (H2:List DO),Fz H' H2→Wk (conc (gOf m H2) d) (t.argA x):=by
 unfold decA at h
 split at h
 ·rename_i cs hc
  obtain ⟨h1,h2,h3⟩:=qgo t _ _ _ _ _ h
  exact ⟨h1,fun m H2 hf=>qwX hc (h3.wks h2 m hf)⟩
 ·cases h
theorem qm0:∀(l:List Ty) (H:List DO) (ds:List DV) (x:qx l) (H':List DO) (F:List Nat),qiq false l H ds=some (x,H',F)→Fz H H'∧∀(m:Nat→Value) (H2:List DO),Fz H' H2→Wks (qa (gOf m H2) ds) (tysA l x)
 | [],H,[],x,H',F,h=>by
  injection h with h
  obtain ⟨rfl,rfl,rfl⟩:=h
  exact ⟨Fz.refl _,fun m H2 _=>Wks.nil⟩
 | t::l,H,d::ds,x,H',F,h=>by
  unfold qiq at h
  split at h
  ·rename_i y H1 F1 h1
   split at h
   ·rename_i z H2 F2 h2
    injection h with h
    obtain ⟨rfl,rfl,rfl⟩:=h
    obtain ⟨a1,a2⟩:=qsL h1
    obtain ⟨b1,b2⟩:=qm0 l _ _ _ _ _ h2
    exact ⟨a1.trans b1,fun m H3 hf=>(a2 m H3 (b1.trans hf)).cons' (b2 m H3 hf)⟩
   ·cases h
  ·cases h
 | [],_,_::_,_,_,_,h=>by cases h
 | _::_,_,[],_,_,_,h=>by cases h
theorem qrT{g f:FuncId}{p q:Array Value}(h:(Nat.beq g f&&(Nat.beq p.size 0&&Nat.beq q.size 0))=true):g=f∧p = #[]∧q = #[]:=by
 simp only[Bool.and_eq_true,Nat.beq_eq] at h
 exact ⟨h.1,Array.eq_empty_of_size_eq_zero h.2.1,Array.eq_empty_of_size_eq_zero h.2.2⟩
theorem Wk.constFn(f:FuncId):Wk (.val (.func (.func f) #[] #[])) (.fn f [] []):=fun w A u hu=>by
 rw[hu.val_eq]
 exact .fn f #[] #[] [] [] rfl rfl (fun i d h=>by simp at h) (fun i d h=>by simp at h)
theorem quj{a:Ar}{H H':List DO}{d:DV}{x:a.den}{F:List Nat}(h:qk3 false a H d=some (x,H',F)):Fz H H'∧∀(m:Nat→Value) (H2:List DO),Fz H' H2→Wk (conc (gOf m H2) d) (a.A x):=by
 cases a with
 | d t=>exact qsL h
 | fn f a c =>
  unfold qk3 at h
  simp only at h
  split at h
  ·rename_i g da dc
   split at h
   ·rename_i hg
    have hg:g=f:=by simpa using hg
    subst hg
    split at h
    ·rename_i y H1 F1 h1
     split at h
     ·rename_i z H2 F2 h2
      injection h with h
      obtain ⟨rfl,rfl,rfl⟩:=h
      obtain ⟨a1,a2⟩:=qm0 _ _ _ _ _ _ h1
      obtain ⟨b1,b2⟩:=qm0 _ _ _ _ _ _ h2
      exact ⟨a1.trans b1,fun m H3 hf=>by simp only[conc,Ar.A];exact (a2 m H3 (b1.trans hf)).fn (b2 m H3 hf)⟩
     ·cases h
    ·cases h
   ·cases h
  ·rename_i g p q
   split at h
   ·rename_i hb
    obtain ⟨rfl,rfl,rfl⟩:=qrT hb
    split at h
    ·rename_i x1 x2 e1 e2
     injection h with h
     obtain ⟨rfl,rfl,rfl⟩:=h
     exact ⟨Fz.refl _,fun m H3 hf=>by simp only[Ar.A,qos e1,qos e2];exact Wk.constFn g⟩
    ·cases h
   ·cases h
  ·cases h
theorem qpE:∀(l:List Ar) (H:List DO) (ds:List DV) (x:qeo l) (H':List DO) (F:List Nat),qjf false l H ds=some (x,H',F)→Fz H H'∧∀(m:Nat→Value) (H2:List DO),Fz H' H2→Wks (qa (gOf m H2) ds) (arsA l x)
 | [],H,[],x,H',F,h=>by
  injection h with h
  obtain ⟨rfl,rfl,rfl⟩:=h
  exact ⟨Fz.refl _,fun m H2 _=>Wks.nil⟩
 | a::l,H,d::ds,x,H',F,h=>by
  unfold qjf at h
  split at h
  ·rename_i y H1 F1 h1
   split at h
   ·rename_i z H2 F2 h2
    injection h with h
    obtain ⟨rfl,rfl,rfl⟩:=h
    obtain ⟨a1,a2⟩:=quj h1
    obtain ⟨b1,b2⟩:=qpE l _ _ _ _ _ h2
    exact ⟨a1.trans b1,fun m H3 hf=>(a2 m H3 (b1.trans hf)).cons' (b2 m H3 hf)⟩
   ·cases h
  ·cases h
 | [],_,_::_,_,_,_,h=>by cases h
 | _::_,_,[],_,_,_,h=>by cases h
def Sees(HH:List HE)(d0 d:AV):Prop:=∃d',Vw HH d0 d'∧Wk d' d
def Seess(HH:List HE)(l0 l:List AV):Prop:=∃l',Vws HH l0 l'∧Wks l' l
theorem Seess.nil{HH:List HE}:Seess HH [] []:=⟨[],Vws.nil,Wks.nil⟩
theorem Seess.cons{HH:List HE}{d0 d:AV}{l0 l:List AV}(h:Sees HH d0 d)(h':Seess HH l0 l):Seess HH (d0::l0) (d::l):=by
 obtain ⟨x,h1,h2⟩:=h
 obtain ⟨y,h3,h4⟩:=h'
 exact ⟨x::y,Vws.cons h1 h3,h2.cons' h4⟩
theorem Seess.same{HH:List HE}{l0 l:List AV}(h:l0=l):Seess HH l0 l:=by
 subst h
 induction l0 with
 | nil=>exact Seess.nil
 | cons d l ih=>exact Seess.cons ⟨d,.same d,Wk.refl d⟩ ih
theorem Seess.append{HH:List HE}{a a' b b':List AV}(h:Seess HH a a')(k:Seess HH b b'):Seess HH (a++b) (a'++b'):=by
 obtain ⟨x,⟨h1,h2⟩,h3,h4⟩:=h
 obtain ⟨y,⟨k1,k2⟩,k3,k4⟩:=k
 refine ⟨x++y,⟨by simp[h1,k1],fun j d0 d e0 e1=>?_⟩,by simp[h3,k3],fun j d0 d e0 e1=>?_⟩
 ·rcases Nat.lt_or_ge j a.length with hj | hj
  ·rw[List.getElem?_append_left hj] at e0
   rw[List.getElem?_append_left (by omega)] at e1
   exact h2 j d0 d e0 e1
  ·rw[List.getElem?_append_right hj] at e0
   rw[List.getElem?_append_right (by omega)] at e1
   exact k2 _ d0 d e0 (by rw[h1];exact e1)
 ·rcases Nat.lt_or_ge j x.length with hj | hj
  ·rw[List.getElem?_append_left hj] at e0
   rw[List.getElem?_append_left (by omega)] at e1
   exact h4 j d0 d e0 e1
  ·rw[List.getElem?_append_right hj] at e0
   rw[List.getElem?_append_right (by omega)] at e1
   exact k4 _ d0 d e0 (by rw[h3];exact e1)
theorem qyz{t:Ty}{H:List DO}{cs:List DV}{x:List t.den}{F:List Nat}(h:qtS t H cs=some (x,F))(m:Nat→Value):cs.length=1∧Seess (hes m H) (qa (gOf m H) cs) [.sl t.sz (x.map t.enc)]:=by
 unfold qtS at h
 split at h
 ·rename_i t' l
  cases hx:asT t t' l with
  | none=>rw[hx] at h;cases h
  | some y =>
   rw[hx] at h;injection h with h
   obtain ⟨rfl,rfl⟩:=h
   obtain ⟨e,rfl⟩:=qem hx
   subst e
   exact ⟨rfl,Seess.same rfl⟩
 ·injection h with h
  obtain ⟨rfl,rfl⟩:=h
  exact ⟨rfl,Seess.cons ⟨_,.same _,fun w A u hu=>by rw[show u=_ from hu.val_eq];exact .slnil _ _ _ (by unfold maxLen;omega)⟩ Seess.nil⟩
 ·rename_i k
  split at h
  ·rename_i t' e l hk
   cases hx:asT t t' l with
   | none=>rw[hx] at h;cases h
   | some y =>
    rw[hx] at h;injection h with h
    obtain ⟨rfl,rfl⟩:=h
    obtain ⟨ee,rfl⟩:=qem hx
    subst ee
    have hg:=qg3 (m:=m) hk nofun
    have hrf:refA (gOf m H k) = .val (m k):=by unfold gOf;rw[hk];rfl
    refine ⟨rfl,Seess.cons ⟨_,?_,Wk.refl _⟩ Seess.nil⟩
    simp only[conc,hrf]
    exact .own (m k) e t'.sz l.length _ _ (List.mem_of_getElem? hg) rfl (qeM t' l) (by simp)
  ·rename_i t' l hk
   cases hx:asT t t' l with
   | none=>rw[hx] at h;cases h
   | some y =>
    rw[hx] at h;injection h with h
    obtain ⟨rfl,rfl⟩:=h
    obtain ⟨ee,rfl⟩:=qem hx
    subst ee
    exact ⟨rfl,Seess.same (by simp only[qa,conc,qjF hk])⟩
  ·cases h
 ·cases h
theorem quk:∀(t:Ty) (H:List DO) (cs:List DV) (x:t.den) (F:List Nat),see t H cs=some (x,F)→∀m,cs.length=t.sz∧Seess (hes m H) (qa (gOf m H) cs) (t.enc x)
 | .i k,H,cs,x,F,h,m=>by
  unfold see at h
  cases hx:decI k cs with
  | none=>rw[hx] at h;cases h
  | some n=>rw[hx] at h;injection h with h;obtain ⟨rfl,rfl⟩:=h;rw[qsC hx];exact ⟨rfl,Seess.same rfl⟩
 | .b,H,cs,x,F,h,m=>by
  unfold see at h
  cases hx:decB cs with
  | none=>rw[hx] at h;cases h
  | some n=>rw[hx] at h;injection h with h;obtain ⟨rfl,rfl⟩:=h;rw[qsD hx];exact ⟨rfl,Seess.same rfl⟩
 | .s,H,cs,x,F,h,m=>by
  unfold see at h
  cases hx:decS cs with
  | none=>rw[hx] at h;cases h
  | some n=>rw[hx] at h;injection h with h;obtain ⟨rfl,rfl⟩:=h;rw[qsE hx];exact ⟨rfl,Seess.same rfl⟩
 | .u,H,cs,x,F,h,m=>by
  unfold see at h
  cases hx:decU cs with
  | none=>rw[hx] at h;cases h
  | some n=>rw[hx] at h;injection h with h;obtain ⟨rfl,rfl⟩:=h;rw[qsF hx];exact ⟨rfl,Seess.same rfl⟩
 | .sl t,H,cs,x,F,h,m=>qyz h m
 | .pt t,H,cs,x,F,h,m=>by
  unfold see at h
  cases hx:purF (.pt t) cs with
  | none=>rw[hx] at h;cases h
  | some n =>
   rw[hx] at h;injection h with h;obtain ⟨rfl,rfl⟩:=h
   obtain ⟨h1,h2⟩:=qnJ _ _ _ hx
   exact ⟨h1,Seess.same (h2 _)⟩
 | .pr y z,H,cs,x,F,h,m=>by
  unfold see at h
  split at h
  ·rename_i a F1 h1
   split at h
   ·rename_i c F2 h2
    injection h with h
    obtain ⟨rfl,rfl⟩:=h
    obtain ⟨a1,a2⟩:=quk y H _ _ _ h1 m
    obtain ⟨b1,b2⟩:=quk z H _ _ _ h2 m
    have:=a2.append b2
    rw[← qcP,List.take_append_drop] at this
    refine ⟨?_,this⟩
    rw[List.length_take] at a1
    rw[List.length_drop] at b1
    unfold Ty.sz
    omega
   ·cases h
  ·cases h
inductive Pl where
 | t (i:Nat)
 | c (k j:Nat)
 | f (i j:Nat)
inductive CapI where
 | box (z:Bool) (tt:TypeId) (n:Nat)
 | al (k:Nat)
inductive It where
 | v (p:Pl) (t:Ty)
 | fn (p:Pl) (f:FuncId) (first caps:List Ty)
 | row (p:Pl) (z:Bool) (t:Ty) (e:TypeId)
 | obj (p:Pl) (z:Bool) (tt:TypeId) (n:Nat)
 | al (p:Pl) (k:Nat)
 | pal (p:Pl) (k off:Nat)
 | sub (p:Pl) (k:Nat)
 | fnc (p:Pl) (f:FuncId) (caps:List CapI)
 | mpi (p:Pl) (z:Bool) (kt et:Ty)
 | nilf (p:Pl)
 | fv (p:Pl) (f:FuncId)
 | nilp (p:Pl)
 | ag (p:Pl) (n:Nat)
 | raw (p:Pl)
def qi:List It→Type
 | []=>Unit
 | .v _ t::l=>t.den×qi l
 | .fn _ _ a c::l=>(qx a×qx c)×qi l
 | .row _ _ t _::l=>List t.den×qi l
 | .obj _ _ _ _::l=>qi l
 | .al _ _::l=>qi l
 | .pal _ _ _::l=>qi l
 | .sub _ _::l=>(Nat×Nat)×qi l
 | .fnc _ _ _::l=>qi l
 | .mpi _ _ kt et::l=>List (kt.den×et.den)×qi l
 | .nilf _::l=>qi l
 | .fv _ _::l=>qi l
 | .nilp _::l=>qi l
 | .ag _ _::l=>qi l
 | .raw _::l=>Value×qi l
def setC(H:List DO)(k j:Nat)(ds:List DV):List DO:=match hget H k with
 | .blk z tt cs=>hput H k (.blk z tt (qk cs j ds))
 | _=>H
def setA(d:DV)(j:Nat)(ds:List DV):DV:=match d with
 | .agg cs=>.agg (qk cs j ds)
 | d=>d
def setI(p:Pl)(d:DV)(ds:List DV)(st:St):St:=match p with
 | .t i=>⟨lput st.T i d,st.H⟩
 | .c k j=>⟨st.T,setC st.H k j ds⟩
 | .f i j=>⟨lput st.T i (setA (lget st.T i) j ds),st.H⟩
def qiQ:List CapI→List DO→List DV×List DO
 | [],H=>([],H)
 | .box z tt n::l,H=>let q:=qiQ l (H++[.blk z tt (List.replicate n .any)]);(.ptr H.length 0::q.1,q.2)
 | .al k::l,H=>let q:=qiQ l H;(.ptr k 0::q.1,q.2)
def encI:(l:List It)→qi l→St→St
 | [],_,st=>st
 | .v p t::l,x,st=>encI l x.2 (setI p (t.argD x.1) (t.encD x.1) st)
 | .fn p f a c::l,x,st=>encI l x.2 (setI p (.fn f (tysD a x.1.1) (tysD c x.1.2)) [] st)
 | .row p z t e::l,x,st=>encI l x.2 (setI p (.ref st.H.length) [.ref st.H.length] ⟨st.T,st.H++[.row z t e x.1]⟩)
 | .obj p z tt n::l,x,st=>encI l x (setI p (.ptr st.H.length 0) [.ptr st.H.length 0] ⟨st.T,st.H++[.blk z tt (List.replicate n .any)]⟩)
 | .al p k::l,x,st=>encI l x (setI p (.ref k) [.ref k] st)
 | .pal p k off::l,x,st=>encI l x (setI p (.ptr k off) [.ptr k off] st)
 | .sub p k::l,x,st=>encI l x.2 (setI p (.sub k x.1.1 x.1.2) [.sub k x.1.1 x.1.2] st)
 | .fnc p f caps::l,x,st=>encI l x (setI p (.fn f [] (qiQ caps st.H).1) [.fn f [] (qiQ caps st.H).1] ⟨st.T,(qiQ caps st.H).2⟩)
 | .mpi p z kt et::l,x,st=>encI l x.2 (setI p (.mp st.H.length) [.mp st.H.length] ⟨st.T,st.H++[.map z kt et x.1]⟩)
 | .nilf p::l,x,st=>encI l x (setI p (.val .nilFunc) [.val .nilFunc] st)
 | .fv p f::l,x,st=>encI l x (setI p (.val (.func (.func f) #[] #[])) [.val (.func (.func f) #[] #[])] st)
 | .raw p::l,x,st=>encI l x.2 (setI p (.val x.1) [.val x.1] st)
 | .nilp p::l,x,st=>encI l x (setI p (.val (.pointer none)) [.val (.pointer none)] st)
 | .ag p n::l,x,st=>encI l x (setI p (.agg (List.replicate n .any)) [.agg (List.replicate n .any)] st)
def qzD:DO→Bool
 | .row _ _ _ _=>true
 | _=>false
def getL(T:List DV)(H:List DO)(ρ:List Nat):Pl→DV
 | .t i=>lget T i
 | .f i j=>match lget T i with
  | .agg cs=>lget cs j
  | _=>.any
 | .c k j=>match ρ[k]? with
  | some a=>match hget H a with
   | .blk _ _ cs=>lget cs j
   | _=>.any
  | none=>.any
def qlM(t:Ty)(T:List DV)(H:List DO)(ρ:List Nat):Pl→Option (t.den×List DO×List Nat)
 | .t i=>decA false t H (lget T i)
 | .f i j=>match lget T i with
  | .agg cs=>match Nat.ble (j+t.sz) cs.length with
   | true=>decF t H ((cs.drop j).take t.sz)
   | false=>none
  | _=>none
 | .c k j=>match ρ[k]? with
  | some a=>match hget H a with
   | .blk _ _ cs=>match Nat.ble (j+t.sz) cs.length with
    | true=>decF t H ((cs.drop j).take t.sz)
    | false=>none
   | _=>none
  | none=>none
def isT:Pl→Bool
 | .t _=>true
 | _=>false
def qdu:List CapI→List DV→List DO→List Nat→Option (List Nat)
 | [],[],_,ρ=>some ρ
 | .box z tt n::l,d::ds,H,ρ=>match d with
  | .ptr k 0=>match hget H k with
   | .blk _ tt' cells=>match Nat.beq tt' tt&&Nat.beq cells.length n && !ρ.contains k with
    | true=>qdu l ds H (ρ++[k])
    | false=>none
   | _=>none
  | _=>none
 | .al q::l,d::ds,H,ρ=>match d with
  | .ptr k 0=>match ρ[q]? with
   | some a=>match Nat.beq a k with
    | true=>qdu l ds H ρ
    | false=>none
   | none=>none
  | _=>none
 | _,_,_,_=>none
def qwn(f:FuncId):DV→Bool
 | .val (.func (.func g) a c)=>Nat.beq g f&&(Nat.beq a.size 0&&Nat.beq c.size 0)
 | _=>false
theorem qyA{f:FuncId}{d:DV}(h:qwn f d=true):d = .val (.func (.func f) #[] #[]):=by
 unfold qwn at h
 split at h
 ·rename_i g a c
  rw[Bool.and_eq_true,Bool.and_eq_true,Nat.beq_eq,Nat.beq_eq,Nat.beq_eq] at h
  rw[h.1,Array.eq_empty_of_size_eq_zero h.2.1,Array.eq_empty_of_size_eq_zero h.2.2]
 ·cases h
def qrU:DV→Bool
 | .val v=>match v with
  | .nilFunc=>true
  | _=>false
 | _=>false
theorem qxf{d:DV}(h:qrU d=true):d = .val .nilFunc:=by
 unfold qrU at h
 split at h
 ·split at h
  ·rfl
  ·cases h
 ·cases h
def qul:DV→Bool
 | .val v=>match v with
  | .pointer none=>true
  | _=>false
 | _=>false
theorem qxg{d:DV}(h:qul d=true):d = .val (.pointer none):=by
 unfold qul at h
 split at h
 ·split at h
  ·rfl
  ·cases h
 ·cases h
theorem qrf(T:List DV)(d:Nat):lput T d (lget T d)=T:=by
 induction T generalizing d with
 | nil=>rfl
 | cons x T ih=>cases d with
  | zero=>rfl
  | succ d=>simp only[lput,lget,ih]
def qu:(l:List It)→List DV→List DO→List Nat→Option (qi l×List DO×List Nat)
 | [],_,H,ρ=>some ((),H,ρ)
 | .v p t::l,T,H,ρ=>match qlM t T H ρ p with
  | some (x,H1,_)=>(qu l T H1 ρ).map fun q=>((x,q.1),q.2)
  | none=>none
 | .fn p f a c::l,T,H,ρ=>match p with
  | .t i=>match qk3 false (.fn f a c) H (lget T i) with
   | some (x,H1,_)=>(qu l T H1 ρ).map fun q=>((x,q.1),q.2)
   | none=>none
  | _=>none
 | .row p z t e::l,T,H,ρ=>match getL T H ρ p with
  | .ref k=>match hget H k with
   | .row _ t' e' c=>match asT t t' c with
    | some c'=>match Nat.beq e' e && !ρ.contains k with
     | true=>match qu l T H (ρ++[k]) with
      | some (y,H',ρ')=>match qzD (hget H' k) with
       | true=>some ((c',y),H',ρ')
       | false=>none
      | none=>none
     | false=>none
    | none=>none
   | _=>none
  | _=>none
 | .obj p z tt n::l,T,H,ρ=>match getL T H ρ p with
  | .ptr k 0=>match hget H k with
   | .blk _ tt' cells=>match Nat.beq tt' tt&&Nat.beq cells.length n && !ρ.contains k with
    | true=>qu l T H (ρ++[k])
    | false=>none
   | _=>none
  | _=>none
 | .al p k::l,T,H,ρ=>match getL T H ρ p with
  | .ref j=>match ρ[k]? with
   | some a=>match Nat.beq a j with
    | true=>qu l T H ρ
    | false=>none
   | none=>none
  | _=>none
 | .pal p k off::l,T,H,ρ=>match getL T H ρ p with
  | .ptr j o=>match ρ[k]? with
   | some a=>match Nat.beq a j&&Nat.beq o off with
    | true=>qu l T H ρ
    | false=>none
   | none=>none
  | _=>none
 | .sub p k::l,T,H,ρ=>match getL T H ρ p with
  | .sub j lo n=>match ρ[k]? with
   | some a=>match Nat.beq a j with
    | true=>(qu l T H ρ).map fun q=>(((lo,n),q.1),q.2)
    | false=>none
   | none=>none
  | _=>none
 | .fnc p f caps::l,T,H,ρ=>match getL T H ρ p with
  | .fn g [] c=>match Nat.beq g f with
   | true=>match qdu caps c H ρ with
    | some ρ'=>qu l T H ρ'
    | none=>none
   | false=>none
  | _=>none
 | .mpi p z kt et::l,T,H,ρ=>match getL T H ρ p with
  | .mp k=>match hget H k with
   | .map _ kt' et' c=>match asM kt et kt' et' c with
    | some c'=>match !ρ.contains k with
     | true=>(qu l T H (ρ++[k])).map fun q=>((c',q.1),q.2)
     | false=>none
    | none=>none
   | _=>none
  | _=>none
 | .nilf p::l,T,H,ρ=>match qrU (getL T H ρ p) with
  | true=>qu l T H ρ
  | false=>none
 | .fv p f::l,T,H,ρ=>match qwn f (getL T H ρ p) with
  | true=>qu l T H ρ
  | false=>none
 | .nilp p::l,T,H,ρ=>match qul (getL T H ρ p) with
  | true=>qu l T H ρ
  | false=>none
 | .ag p n::l,T,H,ρ=>match getL T H ρ p with
  | .agg cs=>match Nat.beq cs.length n with
   | true=>qu l T H ρ
   | false=>none
  | _=>none
 | .raw p::l,T,H,ρ=>match getL T H ρ p with
  | .val v=>(qu l T H ρ).map fun q=>((v,q.1),q.2)
  | _=>none
theorem qum:∀(l:List DV) (j:Nat),l.length≤j→lget l j = .any
 | [],_,_=>rfl
 | _::l,0,h=>by simp at h
 | _::l,j+1,h=>qum l j (by simpa using h)
theorem qvH:∀(l:List DV) (j:Nat) (h:j<l.length),l[j]=lget l j
 | [],j,h=>by simp at h
 | _::l,0,_=>rfl
 | _::l,j+1,h=>qvH l j (by simpa using h)
def tchI:List It→List DV→List DO→List Nat→List Nat
 | [],_,_,_=>[]
 | .v p t::l,T,H,ρ=>match qlM t T H ρ p with
  | some (_,H1,F)=>F++tchI l T H1 ρ
  | none=>[]
 | .fn p f a c::l,T,H,ρ=>match p with
  | .t i=>match qk3 false (.fn f a c) H (lget T i) with
   | some (_,H1,F)=>F++tchI l T H1 ρ
   | none=>[]
  | _=>[]
 | .row p _ _ _::l,T,H,ρ=>match getL T H ρ p with
  | .ref k=>tchI l T H (ρ++[k])
  | _=>[]
 | .obj p _ _ _::l,T,H,ρ=>match getL T H ρ p with
  | .ptr k 0=>tchI l T H (ρ++[k])
  | _=>[]
 | .al _ _::l,T,H,ρ=>tchI l T H ρ
 | .pal _ _ _::l,T,H,ρ=>tchI l T H ρ
 | .sub _ _::l,T,H,ρ=>tchI l T H ρ
 | .fnc p _ caps::l,T,H,ρ=>match getL T H ρ p with
  | .fn _ [] c=>match qdu caps c H ρ with
   | some ρ'=>tchI l T H ρ'
   | none=>[]
  | _=>[]
 | .mpi p _ _ _::l,T,H,ρ=>match getL T H ρ p with
  | .mp k=>tchI l T H (ρ++[k])
  | _=>[]
 | .nilf _::l,T,H,ρ=>tchI l T H ρ
 | .fv _ _::l,T,H,ρ=>tchI l T H ρ
 | .nilp _::l,T,H,ρ=>tchI l T H ρ
 | .ag _ _::l,T,H,ρ=>tchI l T H ρ
 | .raw _::l,T,H,ρ=>tchI l T H ρ
section
variable {P:Program} {w0:Bs} {S:Nat→Prop} {a:Act} {w:World} {m:Nat→Value} {st:St}
theorem SRel.wk{t t':List AV}{H:List HE}(hr:SRel w0 S t H a w)(h:Wks t t'):SRel w0 S t' H a w:=by
 refine ⟨hr.ext,hr.df,hr.mks,hr.sz.trans h.1,fun i=>?_,hr.ap,hr.hs,hr.gh,hr.nd⟩
 have hi:=hr.tm i
 rw[AV.get_eq] at hi ⊢
 cases h1:t'[i]? with
 | none=>exact .any _
 | some d =>
  have hlt:=qbK h1
  rw[← h.1] at hlt
  rw[List.getElem?_eq_getElem hlt] at hi
  exact h.2 i _ d (List.getElem?_eq_getElem hlt) h1 w _ _ hi
theorem Wks.rp{l0 l:List AV}(h:Wks l0 l):Wk (.rp l0) (.rp l):=fun w A u hu=>by
 cases hu with
 | rp b off cells cv hS hb hcell hc =>
  refine .rp b off l cv hS hb (fun j hj=>hcell j (by rw[h.1];exact hj)) fun j d hd=>?_
  have hlt:=qbK hd
  rw[← h.1] at hlt
  exact h.2 j _ d (List.getElem?_eq_getElem hlt) hd w A _ (hc j _ (List.getElem?_eq_getElem hlt))
theorem SRel.pick{t:List AV}{H:List HE}(hr:SRel w0 S t H a w)(ρ:List Nat)(hn:ρ.Nodup)(E:List HE)(hE:E.length=ρ.length)(hρ:∀(k j:Nat) (e:HE),ρ[k]?=some j→E[k]?=some e→H[j]?=some e):SRel w0 S t E a w:=by
 have hex:∀e,e∈E→e∈H:=fun e he=>by
  obtain ⟨k,hk,rfl⟩:=List.mem_iff_getElem.1 he
  exact List.mem_of_getElem? (hρ k _ _ (List.getElem?_eq_getElem (by omega)) (List.getElem?_eq_getElem hk))
 have hA:∀b,Al w0 S H b→Al w0 S E b:=fun b hb=>⟨hb.1,hb.2.1,fun e he=>hb.2.2 e (hex e he)⟩
 refine hr.next (D:=fun _=>False) a.tmps (Kp.refl _ w) (fun _ h=>h.elim) hr.sz (fun i=>(hr.tm i).mono fun b _=>hA b) ?_ (fun e he=>HE.ok_mono (hr.hs e (hex e he)) fun b _=>hA b) (fun e he b hb=>.inl ⟨e,hex e he,hb⟩) (fun e he hp b hb=>.inl ⟨e,hex e he,hp,hb⟩) fun e he _=>hex e he
 rw[List.pairwise_iff_getElem]
 intro i j hi hj hij b h1 h2
 have e1:=hρ i _ _ (List.getElem?_eq_getElem (by omega)) (List.getElem?_eq_getElem hi)
 have e2:=hρ j _ _ (List.getElem?_eq_getElem (by omega)) (List.getElem?_eq_getElem hj)
 obtain ⟨l1,q1⟩:=List.getElem?_eq_some_iff.1 e1
 obtain ⟨l2,q2⟩:=List.getElem?_eq_some_iff.1 e2
 have hne:ρ[i]'(by omega)≠ρ[j]'(by omega):=fun h=>by
  have:=List.pairwise_iff_getElem.1 hn i j (by omega) (by omega) hij
  exact this h
 rcases Nat.lt_or_ge (ρ[i]'(by omega)) (ρ[j]'(by omega)) with h | h
 ·exact List.pairwise_iff_getElem.1 hr.ap _ _ l1 l2 h b (by rw[q1];exact h1) (by rw[q2];exact h2)
 ·exact List.pairwise_iff_getElem.1 hr.ap _ _ l2 l1 (by omega) b (by rw[q2];exact h2) (by rw[q1];exact h1)
inductive ObjL (g g2:Nat→Option Cn):DO→DO→Prop
 | row (z z':Bool) (t:Ty) (e:TypeId) (l:List t.den):ObjL g g2 (.row z t e l) (.row z' t e l)
 | blk (z z':Bool) (tt:TypeId) (cs cs2:List DV) (h:Wks (qa g cs) (qa g2 cs2)):ObjL g g2 (.blk z tt cs) (.blk z' tt cs2)
 | map (z z':Bool) (kt et:Ty) (l:List (kt.den×et.den)):ObjL g g2 (.map z kt et l) (.map z' kt et l)
section
variable {g g2:Nat→Option Cn} {o o2:DO}
theorem ObjL.ne(h:ObjL g g2 o o2):o≠.new:=by cases h<;>exact nofun
theorem ObjL.cn(h:ObjL g g2 o o2)(v:Value):o2.cn v=o.cn v:=by cases h<;>rfl
theorem qot{v:Value}{tt:TypeId}{cs cs2:List AV}{b:Nat}(h:(heB v tt cs).owns b):(heB v tt cs2).owns b:=by
 rcases qjE v tt with ⟨c,_,q⟩ | q
 ·rw[q] at h ⊢;exact h
 ·rw[q] at h ⊢;exact h
theorem ObjL.owns(h:ObjL g g2 o o2){g3 g4:Nat→Option Cn}{v:Value}{b:Nat}(hb:(heOf g4 v o2).owns b):(heOf g3 v o).owns b:=by
 cases h with
 | row=>exact hb
 | blk=>exact qot hb
 | map=>exact hb
theorem ObjL.owns'(h:ObjL g g2 o o2){g3 g4:Nat→Option Cn}{v:Value}{b:Nat}(hb:(heOf g4 v o).owns b):(heOf g3 v o2).owns b:=by
 cases h with
 | row=>exact hb
 | blk=>exact qot hb
 | map=>exact hb
theorem ObjL.ok(h:ObjL g g2 o o2){w:World}{w0:Bs}{A A':Nat→Prop}(hA:∀b,A b→A' b){v:Value}(hok:(heOf g v o).ok w w0 A):(heOf g2 v o2).ok w w0 A':=by
 cases h with
 | row=>exact HE.ok_mono hok fun b _ hb=>hA b hb
 | map z z' kt et l=>exact qud hA hok
 | blk z z' tt cs cs2 h3 =>
  exact (que (v:=v) (tt:=tt) hA h3.1.symm (fun i d' hi=>by
   have hlt:=qbK hi
   refine ⟨_,List.getElem?_eq_getElem (by have:=h3.1;omega),fun u hu=>?_⟩
   exact (h3.2 i _ d' (List.getElem?_eq_getElem (by have:=h3.1;omega)) hi w _ u hu).mono fun b _ hb=>hA b hb)).2 hok
theorem ObjL.mono(h:ObjL g g2 o o2){g3:Nat→Option Cn}(hg:∀(d:DV) (x:AV),Wk x (conc g2 d)→Wk x (conc g3 d)):ObjL g g3 o o2:=by
 cases h with
 | row z z' t e l=>exact .row z z' t e l
 | map z z' kt et l=>exact .map z z' kt et l
 | blk z z' tt cs cs2 h3 =>
  refine .blk z z' tt cs cs2 ⟨by rw[h3.1,qe,qe],fun i d0 d e0 e1=>?_⟩
  rw[qdX] at e1
  cases hc:cs2[i]? with
  | none=>rw[hc] at e1;cases e1
  | some c =>
   rw[hc] at e1
   injection e1 with e1
   subst e1
   exact hg c d0 (h3.2 i d0 _ e0 (by rw[qdX,hc];rfl))
end
structure Like (m:Nat→Value) (T:List DV) (H:List DO) (ρ:List Nat) (m2:Nat→Value) (T2:List DV) (H2:List DO):Prop where
 nd:ρ.Nodup
 len:H2.length=ρ.length
 tl:T2.length=T.length
 mv:∀k j,ρ[k]?=some j→m2 k=m j
 obj:∀k j,ρ[k]?=some j→ObjL (gOf m H) (gOf m2 H2) (hget H j) (hget H2 k)
 slot:∀i,Wk (conc (gOf m H) (lget T i)) (conc (gOf m2 H2) (lget T2 i))
def qpF(H H2:List DO)(ρ:List Nat):Bool:=(List.range H.length).all fun k=>!qef (hget H k)||(qef (hget H2 k)&&match ρ[k]? with
 | some a=>Nat.beq a k
 | none=>false)
theorem qpG{H H2:List DO}{ρ:List Nat}(h:qpF H H2 ρ=true){k:Nat}(hk:qef (hget H k)=true):ρ[k]?=some k∧qef (hget H2 k)=true:=by
 have hlt:k<H.length:=qbN fun e=>by rw[e] at hk;cases hk
 have:=List.all_eq_true.1 h k (List.mem_range.2 hlt)
 rw[hk] at this
 simp only[Bool.not_true,Bool.false_or,Bool.and_eq_true] at this
 obtain ⟨h1,this⟩:=this
 refine ⟨?_,h1⟩
 split at this
 ·rename_i a ha
  have:a=k:=by simpa using this
  rw[ha,this]
 ·cases this
def Kept(m m':Nat→Value)(H H':List DO):Prop:=∀k,qef (hget H k)=true→m' k=m k∧qef (hget H' k)=true
theorem Kept.refl(m:Nat→Value)(H:List DO):Kept m m H H:=fun _ h=>⟨rfl,h⟩
theorem Kept.trans{m m1 m2:Nat→Value}{H H1 H2:List DO}(h:Kept m m1 H H1)(k:Kept m1 m2 H1 H2):Kept m m2 H H2:=fun j hj=>⟨((k j (h j hj).2).1).trans (h j hj).1,(k j (h j hj).2).2⟩
theorem Kept.of{m m':Nat→Value}{H H':List DO}(h:mle m m' H)(k:Kl H H'):Kept m m' H H':=fun j hj=>⟨h j (fun e=>by rw[e] at hj;cases hj),(k j hj).1⟩
theorem Like.kept{m m2:Nat→Value}{T T2:List DV}{H H2:List DO}{ρ:List Nat}(h:Like m T H ρ m2 T2 H2)(hl:qpF H H2 ρ=true):Kept m m2 H H2:=fun k hk=>by
 have h1:=qpG hl hk
 exact ⟨h.mv k k h1.1,h1.2⟩
theorem Like.objs{T T2:List DV}{H H2:List DO}{ρ:List Nat}{m2:Nat→Value}{t:List AV}(h:Like m T H ρ m2 T2 H2)(hs:Sane m H)(hr:SRel w0 S t (hes m H) a w):Sane m2 H2∧SRel w0 S t (hes m2 H2) a w:=by
 have hobj:∀k,k<H2.length→∃j,ρ[k]?=some j:=fun k hk=>⟨ρ[k]'(by rw[← h.len];exact hk),List.getElem?_eq_getElem _⟩
 have hne:∀k j,ρ[k]?=some j→hget H j≠.new:=fun k j hk=>(h.obj k j hk).ne
 refine ⟨fun k hk=>?_,?_⟩
 ·obtain ⟨j,hj⟩:=hobj k (qbN hk)
  rw[h.mv k j hj]
  exact hs j (hne k j hj)
 ·have hp:=hr.pick ρ h.nd (ρ.map fun j=>heOf (gOf m H) (m j) (hget H j)) (by simp) fun k j e hk he=>by
   rw[List.getElem?_map,hk] at he
   injection he with he
   rw[← he]
   have:=q8 m H j
   rw[if_pos (qbN (hne k j hk))] at this
   exact this
  have howns:∀k j,ρ[k]?=some j→∀b,(heOf (gOf m2 H2) (m2 k) (hget H2 k)).owns b→(heOf (gOf m H) (m j) (hget H j)).owns b:=fun k j hj b hb=>by
   rw[h.mv k j hj] at hb
   exact (h.obj k j hj).owns hb
  have hA:∀b,Al w0 S (ρ.map fun j=>heOf (gOf m H) (m j) (hget H j)) b→Al w0 S (hes m2 H2) b:=fun b hb=>⟨hb.1,hb.2.1,fun e' he' hb'=>by
   obtain ⟨k,hk,rfl⟩:=List.mem_iff_getElem.1 he'
   rw[qj] at hk
   have h3:=q8 m2 H2 k
   rw[if_pos hk,List.getElem?_eq_getElem (by rw[qj];exact hk)] at h3
   injection h3 with h3
   rw[h3] at hb'
   obtain ⟨j,hj⟩:=hobj k hk
   exact hb.2.2 _ (List.mem_map.2 ⟨j,List.mem_of_getElem? hj,rfl⟩) (howns k j hj b hb')⟩
  refine hp.conv rfl (by rw[qj,List.length_map];exact h.len) (fun k e e' he he'=>?_) fun _ i hi=>hi.mono fun b _ hb=>hA b hb
  rw[q8] at he'
  split at he'
  ·rename_i hk
   obtain ⟨j,hj⟩:=hobj k hk
   injection he' with he'
   subst he'
   rw[List.getElem?_map,hj] at he
   injection he with he
   subst he
   refine ⟨qbm _,.inr ⟨qbm _,howns k j hj⟩,fun hok=>?_⟩
   rw[h.mv k j hj]
   exact (h.obj k j hj).ok hA hok
  ·cases he'
theorem Like.dr{T T2:List DV}{H H2:List DO}{ρ:List Nat}{m2:Nat→Value}(h:Like m T H ρ m2 T2 H2)(hlo:qpF H H2 ρ=true)(hr:DR w0 S m ⟨T,H⟩ a w):DR w0 S m2 ⟨T2,H2⟩ a w:=by
 obtain ⟨hM,hs,hr⟩:=hr
 have hobj:∀k,k<H2.length→∃j,ρ[k]?=some j:=fun k hk=>⟨ρ[k]'(by rw[← h.len];exact hk),List.getElem?_eq_getElem _⟩
 have hne:∀k j,ρ[k]?=some j→hget H j≠.new:=fun k j hk=>(h.obj k j hk).ne
 refine ⟨fun b hb=>?_,fun k hk=>?_,?_⟩
 ·obtain ⟨k,h1,h2⟩:=hM b hb
  have h3':=qpG hlo h1
  have h3:=h3'.1
  refine ⟨k,h3'.2,?_⟩
  show (heOf (gOf m2 H2) (m2 k) (hget H2 k)).owns b
  rw[h.mv k k h3]
  exact (h.obj k k h3).owns' h2
 ·obtain ⟨j,hj⟩:=hobj k (qbN hk)
  rw[h.mv k j hj]
  exact hs j (hne k j hj)
 ·have hp:=hr.pick ρ h.nd (ρ.map fun j=>heOf (gOf m H) (m j) (hget H j)) (by simp) fun k j e hk he=>by
   rw[List.getElem?_map,hk] at he
   injection he with he
   rw[← he]
   have:=q8 m H j
   rw[if_pos (qbN (hne k j hk))] at this
   exact this
  have howns:∀k j,ρ[k]?=some j→∀b,(heOf (gOf m2 H2) (m2 k) (hget H2 k)).owns b→(heOf (gOf m H) (m j) (hget H j)).owns b:=fun k j hj b hb=>by
   rw[h.mv k j hj] at hb
   exact (h.obj k j hj).owns hb
  have hA:∀b,Al w0 S (ρ.map fun j=>heOf (gOf m H) (m j) (hget H j)) b→Al w0 S (hes m2 H2) b:=fun b hb=>⟨hb.1,hb.2.1,fun e' he' hb'=>by
   obtain ⟨k,hk,rfl⟩:=List.mem_iff_getElem.1 he'
   rw[qj] at hk
   have h3:=q8 m2 H2 k
   rw[if_pos hk,List.getElem?_eq_getElem (by rw[qj];exact hk)] at h3
   injection h3 with h3
   rw[h3] at hb'
   obtain ⟨j,hj⟩:=hobj k hk
   exact hb.2.2 _ (List.mem_map.2 ⟨j,List.mem_of_getElem? hj,rfl⟩) (howns k j hj b hb')⟩
  refine hp.conv (by simp only[qe];exact h.tl) (by rw[qj,List.length_map];exact h.len) (fun k e e' he he'=>?_) fun _ i hi=>?_
  ·rw[q8] at he'
   split at he'
   ·rename_i hk
    obtain ⟨j,hj⟩:=hobj k hk
    injection he' with he'
    subst he'
    rw[List.getElem?_map,hj] at he
    injection he with he
    subst he
    refine ⟨qbm _,.inr ⟨qbm _,howns k j hj⟩,fun hok=>?_⟩
    rw[h.mv k j hj]
    exact (h.obj k j hj).ok hA hok
   ·cases he'
  ·rw[qcN] at hi ⊢
   exact (h.slot i w _ _ hi).mono fun b _=>hA b
theorem qyB(T:List DV)(i j:Nat)(v:DV):lget (lput T i v) j=if i=j∧i<T.length then v else lget T j:=by
 induction T generalizing i j with
 | nil=>simp[lput,lget]
 | cons x H ih =>
  cases i with
  | zero=>cases j with
   | zero=>simp[lput,lget]
   | succ j=>simp[lput,lget]
  | succ i=>cases j with
   | zero=>simp[lput,lget]
   | succ j=>simp[lput,lget,ih]
theorem Like.put{T T2:List DV}{H H2:List DO}{ρ:List Nat}{m2:Nat→Value}(h:Like m T H ρ m2 T2 H2){i:Nat}{d:DV}(hd:Wk (conc (gOf m H) (lget T i)) (conc (gOf m2 H2) d)):Like m T H ρ m2 (lput T2 i d) H2 :=
 ⟨h.nd,h.len,by rw[qho];exact h.tl,h.mv,h.obj,fun j=>by
  rw[qyB]
  split
  ·rename_i hj;rw[← hj.1];exact hd
  ·exact h.slot j⟩
theorem qwo{c c2 e2:List AV}{j:Nat}(h:Wks c c2)(hl:j+e2.length≤c.length)(he:Wks ((c.drop j).take e2.length) e2):Wks c (qk c2 j e2):=by
 have hn:j+e2.length≤c2.length:=by rw[← h.1];exact hl
 refine ⟨by rw[qA hn,h.1],fun i d0 d h1 h2=>?_⟩
 rw[qe1 hn] at h2
 split at h2
 ·rename_i hi
  exact he.2 (i-j) d0 d (by rw[List.getElem?_take,if_pos (by omega),List.getElem?_drop,show j+(i-j)=i by omega];exact h1) h2
 ·exact h.2 i d0 d h1 h2
theorem qzY{g g2:Nat→Option Cn}{cs:List DV}{d2:DV}{j:Nat}{ds:List DV}(h:Wk (.agg (qa g cs)) (conc g2 d2))(hl:j+ds.length≤cs.length)(hd:Wks (qa g ((cs.drop j).take ds.length)) (qa g2 ds)):Wk (.agg (qa g cs)) (conc g2 (setA d2 j ds)):=by
 unfold setA
 split
 ·rename_i cs2
  intro w A u hu
  have h2:=h w A u hu
  simp only[conc] at h2 ⊢
  cases hu with
  | agg vs ds1 hn hd1 =>
   cases h2 with
   | agg _ ds2 hn2 hd2 =>
    have hn':=hn
    have hn2':=hn2
    rw[qe] at hn' hn2'
    have hle:j+ds.length≤cs2.length:=by omega
    refine .agg vs _ (by rw[qe,qA hle];exact hn2') fun i d hi=>?_
    rw[qip,qe1 (by rw[qe,qe];exact hle),qe] at hi
    split at hi
    ·rename_i hij
     have hic:i<cs.length:=by omega
     refine hd.2 (i-j) (conc g cs[i]) d ?_ hi w A _ (hd1 i (conc g cs[i]) ?_)
     ·rw[qdX,List.getElem?_take,if_pos (by omega),List.getElem?_drop,show j+(i-j)=i by omega,List.getElem?_eq_getElem hic];rfl
     ·rw[qdX,List.getElem?_eq_getElem hic];rfl
    ·exact hd2 i d hi
 ·exact h
def LocW(m:Nat→Value)(T:List DV)(H:List DO)(ρ:List Nat)(g2:Nat→Option Cn)(d:DV)(ds:List DV):Pl→Prop
 | .t i=>Wk (conc (gOf m H) (lget T i)) (conc g2 d)
 | .f i j=>∃cs,lget T i = .agg cs∧j+ds.length≤cs.length∧Wks (qa (gOf m H) ((cs.drop j).take ds.length)) (qa g2 ds)
 | .c k j=>∃a z tt cs,ρ[k]?=some a∧hget H a = .blk z tt cs∧j+ds.length≤cs.length∧Wks (qa (gOf m H) ((cs.drop j).take ds.length)) (qa g2 ds)
theorem Like.setI{T T2:List DV}{H H2:List DO}{ρ:List Nat}{m2:Nat→Value}(h:Like m T H ρ m2 T2 H2){p:Pl}{d:DV}{ds:List DV}(hd:LocW m T H ρ (gOf m2 H2) d ds p):Like m T H ρ m2 (setI p d ds ⟨T2,H2⟩).T (setI p d ds ⟨T2,H2⟩).H:=by
 cases p with
 | t i=>exact h.put hd
 | f i j =>
  obtain ⟨cs,h1,h2,h3⟩:=hd
  refine h.put ?_
  have h4:=h.slot i
  rw[h1] at h4 ⊢
  simp only[conc] at h4 ⊢
  exact qzY h4 h2 h3
 | c k j =>
  obtain ⟨a,z,tt,cs,h1,h2,h3,h4⟩:=hd
  have ho:=h.obj k a h1
  rw[h2] at ho
  obtain ⟨z2,cs2,hk2,h5⟩:∃z2 cs2,hget H2 k = .blk z2 tt cs2∧Wks (qa (gOf m H) cs) (qa (gOf m2 H2) cs2):=by
   generalize hget H2 k=o2 at ho
   cases ho with
   | blk _ z2 _ _ cs2 h5=>exact ⟨z2,cs2,rfl,h5⟩
  have hcn:∀v,(DO.blk z2 tt (qk cs2 j ds)).cn v=(hget H2 k).cn v:=fun v=>by rw[hk2];rfl
  have hg:=qgI (m:=m2) hcn
  have e:(Go.Proofs.YtfnflenkeljkiaaGreat.setI (.c k j) d ds ⟨T2,H2⟩)=⟨T2,hput H2 k (.blk z2 tt (qk cs2 j ds))⟩:=by
   unfold Go.Proofs.YtfnflenkeljkiaaGreat.setI setC
   simp only[hk2]
  rw[e]
  refine ⟨h.nd,by simp only[qcD];exact h.len,h.tl,h.mv,fun q b hq=>?_,fun i=>by simp only[hg];exact h.slot i⟩
  simp only[hg,qq]
  split
  ·rename_i hkq
   rw[← hkq.1,h1] at hq
   injection hq with hq
   subst hq
   rw[h2]
   refine .blk z z2 tt cs _ ?_
   rw[qip]
   have:=qwo (j:=j) (e2:=qa (gOf m2 H2) ds) h5 (by rw[qe,qe];exact h3) (by
    rw[qe,← qgr,← qgs];exact h4)
   exact this
  ·exact h.obj q b hq
theorem qfu{T:List DV}{H:List DO}{ρ:List Nat}{g2:Nat→Option Cn}{p:Pl}{d:DV}{HF:List DO}(hf:Fz H HF)(hne:getL T H ρ p≠.any)(hd:Wk (conc (gOf m HF) (getL T H ρ p)) (conc g2 d)):LocW m T HF ρ g2 d [d] p:=by
 cases p with
 | t i=>exact hd
 | f i j =>
  unfold getL at hne hd
  dsimp only at hne hd
  split at hne
  ·rename_i cs hi
   simp only[hi] at hd
   have hj:j<cs.length:=by
    rcases Nat.lt_or_ge j cs.length with h | h
    ·exact h
    ·exact absurd (qum cs j h) hne
   refine ⟨cs,hi,hj,?_⟩
   have e:(cs.drop j).take 1=[lget cs j]:=by
    rw[List.drop_eq_getElem_cons hj]
    simp only[List.take_succ_cons,List.take_zero]
    rw[qvH]
   show Wks (qa _ ((cs.drop j).take 1)) _
   rw[e]
   exact Wks.cons hd Wks.nil
  ·exact absurd rfl hne
 | c k j =>
  unfold getL at hne hd
  dsimp only at hne hd
  split at hne
  ·rename_i a ha
   split at hne
   ·rename_i z tt cs hk
    simp only[ha,hk] at hd
    have hj:j<cs.length:=by
     rcases Nat.lt_or_ge j cs.length with h | h
     ·exact h
     ·exfalso
      refine hne ?_
      have:∀(l:List DV) (j:Nat),l.length≤j→lget l j = .any:=fun l=>by
       induction l with
       | nil=>intro j _;rfl
       | cons x l ih=>intro j hj;cases j with
        | zero=>simp at hj
        | succ j=>exact ih j (by simpa using hj)
      exact this cs j h
    have hk':hget HF a = .blk z tt cs:=by
     rcases hf.2 a with h3 | ⟨_,_,_,h3,_⟩
     ·rw[h3,hk]
     ·rw[hk] at h3;cases h3
    refine ⟨a,z,tt,cs,ha,hk',hj,?_⟩
    have e:(cs.drop j).take 1=[lget cs j]:=by
     rw[List.drop_eq_getElem_cons hj]
     simp only[List.take_succ_cons,List.take_zero]
     congr 1
     have:∀(l:List DV) (j:Nat) (h:j<l.length),l[j]=lget l j:=fun l=>by
      induction l with
      | nil=>intro j h;simp at h
      | cons x l ih=>intro j h;cases j with
       | zero=>rfl
       | succ j=>exact ih j (by simpa using h)
     exact this cs j hj
    show Wks (qa _ ((cs.drop j).take 1)) _
    rw[e]
    exact Wks.cons hd Wks.nil
   ·exact absurd rfl hne
  ·exact absurd rfl hne
theorem qdv(H:List DO)(o:DO)(k:Nat):hget (H++[o]) k=if k=H.length then o else hget H k:=by
 induction H generalizing k with
 | nil=>cases k with
  | zero=>rfl
  | succ k=>simp[hget]
 | cons x H ih=>cases k with
  | zero=>simp[hget]
  | succ k=>simp only[List.cons_append,hget,ih,List.length_cons,Nat.add_right_cancel_iff]
theorem qsM{w:World}{A:Nat→Prop}(m2:Nat→Value)(H2:List DO)(o:DO)(v:Value):Gle w A (gOf m2 H2) (gOf (upd m2 H2.length v) (H2++[o])):=fun k=>by
 by_cases hk:k=H2.length
 ·left
  unfold gOf
  have:hget H2 k = .new:=by
   cases hq:hget H2 k with
   | new=>rfl
   | _=>exact absurd (qbN (H:=H2) (k:=k) (by rw[hq];exact nofun)) (by omega)
  rw[this];rfl
 ·right;left
  unfold gOf
  rw[qdv,if_neg hk,qgu _ _ hk]
theorem Like.add{T T2:List DV}{H H2:List DO}{ρ:List Nat}{m2:Nat→Value}(h:Like m T H ρ m2 T2 H2){k:Nat}(hk:k∉ρ)(o:DO)
  (ho:∀g,ObjL (gOf m H) g (hget H k) o):Like m T H (ρ++[k]) (upd m2 H2.length (m k)) T2 (H2++[o]):=by
 have hmono:∀(d:DV) (x:AV),Wk x (conc (gOf m2 H2) d)→Wk x (conc (gOf (upd m2 H2.length (m k)) (H2++[o])) d):=fun d x hx w A u hu=>qhh (fun _ _ h=>h) (qsM m2 H2 o (m k)) d u (hx w A u hu)
 have hat:∀q j,(ρ++[k])[q]?=some j→(ρ[q]?=some j∧q≠H2.length)∨(q=H2.length∧j=k):=fun q j hq=>by
  rcases Nat.lt_or_ge q ρ.length with hl | hl
  ·rw[List.getElem?_append_left hl] at hq
   exact .inl ⟨hq,by rw[h.len];omega⟩
  ·rw[List.getElem?_append_right hl] at hq
   have:q-ρ.length=0:=by
    have:=(List.getElem?_eq_some_iff.1 hq).1
    simpa using this
   rw[this] at hq
   injection hq with hq
   exact .inr ⟨by rw[h.len];omega,hq.symm⟩
 refine ⟨?_,by simp[h.len],h.tl,fun q j hq=>?_,fun q j hq=>?_,fun i=>hmono _ _ (h.slot i)⟩
 ·rw[List.nodup_append]
  exact ⟨h.nd,by simp,fun x hx y hy=>by simp at hy;subst hy;exact fun e=>hk (e ▸ hx)⟩
 ·rcases hat q j hq with ⟨h1,h2⟩ | ⟨rfl,rfl⟩
  ·rw[qgu _ _ h2];exact h.mv q j h1
  ·exact qen _ _ _
 ·rcases hat q j hq with ⟨h1,h2⟩ | ⟨rfl,rfl⟩
  ·rw[qdv,if_neg h2]
   exact (h.obj q j h1).mono hmono
  ·rw[qdv,if_pos rfl]
   exact ho _
theorem qxh(x:AV):Wk x .any:=fun _ _ u _=>.any u
theorem qrg{c:List AV}{n:Nat}(hn:c.length=n)(g:Nat→Option Cn):Wks c (qa g (List.replicate n .any)):=⟨by rw[qe,List.length_replicate,hn],fun i d0 d h1 h2=>by
 rw[qdX,List.getElem?_replicate] at h2
 split at h2
 ·injection h2 with h2;rw[← h2];exact qxh _
 ·cases h2⟩
theorem LocW.more{T:List DV}{H:List DO}{ρ:List Nat}{g2:Nat→Option Cn}{d:DV}{ds:List DV}{p:Pl}(h:LocW m T H ρ g2 d ds p)(k:Nat):LocW m T H (ρ++[k]) g2 d ds p:=by
 cases p with
 | t i=>exact h
 | f i j=>exact h
 | c q j =>
  obtain ⟨a,z,tt,cs,h1,h2⟩:=h
  exact ⟨a,z,tt,cs,by rw[List.getElem?_append_left (List.getElem?_eq_some_iff.1 h1).1];exact h1,h2⟩
theorem qwp{t:Ty}{T:List DV}{H H1:List DO}{ρ F1:List Nat}{p:Pl}{x:t.den}(h:qlM t T H ρ p=some (x,H1,F1)):Fz H H1∧∀(HF:List DO),Fz H1 HF→∀m g2,LocW m T HF ρ g2 (t.argD x) (t.encD x) p:=by
 cases p with
 | t i =>
  obtain ⟨a1,a2⟩:=qsL h
  exact ⟨a1,fun HF b1 m g2=>by
   show Wk _ _
   rw[qkL]
   exact a2 m HF b1⟩
 | f i j =>
  unfold qlM at h
  dsimp only at h
  split at h
  ·rename_i cs hi
   split at h
   ·rename_i hle
    have hle:=Nat.le_of_ble_eq_true hle
    obtain ⟨a1,a2,a3⟩:=qgo t _ _ _ _ _ h
    refine ⟨a1,fun HF b1 m g2=>?_⟩
    have hlen:(t.encD x).length=t.sz:=by rw[← qe (g:=g2),qc2,t.enc_len]
    refine ⟨cs,hi,by rw[hlen];exact hle,?_⟩
    rw[hlen,qc2]
    exact a3.wks a2 m b1
   ·cases h
  ·cases h
 | c k j =>
  unfold qlM at h
  dsimp only at h
  split at h
  ·rename_i a ha
   split at h
   ·rename_i z tt cs hk
    split at h
    ·rename_i hle
     have hle:=Nat.le_of_ble_eq_true hle
     obtain ⟨a1,a2,a3⟩:=qgo t _ _ _ _ _ h
     refine ⟨a1,fun HF b1 m g2=>?_⟩
     have hk':hget HF a = .blk z tt cs:=by
      rcases (a1.trans b1).2 a with h3 | ⟨_,_,_,h3,_⟩
      ·rw[h3,hk]
      ·rw[hk] at h3;cases h3
     have hlen:(t.encD x).length=t.sz:=by rw[← qe (g:=g2),qc2,t.enc_len]
     refine ⟨a,z,tt,cs,ha,hk',by rw[hlen];exact hle,?_⟩
     rw[hlen,qc2]
     exact a3.wks a2 m b1
    ·cases h
   ·cases h
  ·cases h
theorem qmd{H:List DO}:∀(caps:List CapI) (c:List DV) (ρ ρ':List Nat),qdu caps c H ρ=some ρ'→∃r,ρ'=ρ++r
 | [],[],ρ,ρ',h=>by injection h with h;exact ⟨[],by rw[← h,List.append_nil]⟩
 | .box z tt n::l,d::ds,ρ,ρ',h=>by
  unfold qdu at h
  split at h
  ·split at h
   ·split at h
    ·obtain ⟨r,hr⟩:=qmd l ds _ _ h
     exact ⟨_,by rw[hr,List.append_assoc]⟩
    ·cases h
   ·cases h
  ·cases h
 | .al q::l,d::ds,ρ,ρ',h=>by
  unfold qdu at h
  split at h
  ·split at h
   ·split at h
    ·exact qmd l ds _ _ h
    ·cases h
   ·cases h
  ·cases h
 | [],_::_,ρ,ρ',h=>by cases h
 | .box _ _ _::_,[],ρ,ρ',h=>by cases h
 | .al _::_,[],ρ,ρ',h=>by cases h
theorem qyC{T:List DV}{H:List DO}{ρ ρ':List Nat}{p:Pl}{d:DV}(h:∃r,ρ'=ρ++r)(hi:getL T H ρ p=d)(hd:d≠.any):getL T H ρ' p=d:=by
 obtain ⟨r,rfl⟩:=h
 cases p with
 | t i=>exact hi
 | f i j=>exact hi
 | c k j =>
  unfold getL at hi ⊢
  dsimp only at hi ⊢
  cases hk:ρ[k]? with
  | none=>rw[hk] at hi;exact absurd hi.symm hd
  | some a =>
   rw[hk] at hi
   rw[List.getElem?_append_left (List.getElem?_eq_some_iff.1 hk).1,hk]
   exact hi
theorem qlu:∀(caps:List CapI) (c:List DV) (T:List DV) (H HF:List DO) (ρ ρ':List Nat),qdu caps c H ρ=some ρ'→Fz H HF→∀(m m2:Nat→Value) (T2:List DV) (H2:List DO),Like m T HF ρ m2 T2 H2 →
  ∃m2',Like m T HF ρ' m2' T2 (qiQ caps H2).2∧Wks (qa (gOf m HF) c) (qa (gOf m2' (qiQ caps H2).2) (qiQ caps H2).1)∧∀(d:DV) (x:AV),Wk x (conc (gOf m2 H2) d)→Wk x (conc (gOf m2' (qiQ caps H2).2) d)
 | [],[],T,H,HF,ρ,ρ',h,hf,m,m2,T2,H2,hl=>by
  injection h with h
  subst h
  exact ⟨m2,hl,Wks.nil,fun d x hx=>hx⟩
 | .box z tt n::caps,d::c,T,H,HF,ρ,ρ',h,hf,m,m2,T2,H2,hl=>by
  unfold qdu at h
  split at h
  ·rename_i k
   split at h
   ·rename_i z' tt' cells hk
    split at h
    ·rename_i hb
     simp only[Bool.and_eq_true,Nat.beq_eq,Bool.not_eq_true',List.contains_eq_mem,decide_eq_false_iff_not] at hb
     obtain ⟨⟨rfl,hn⟩,hkn⟩:=hb
     have hk':hget HF k = .blk z' tt' cells:=by
      rcases hf.2 k with h3 | ⟨_,_,_,h3,_⟩
      ·rw[h3,hk]
      ·rw[hk] at h3;cases h3
     have hl1:=hl.add hkn (.blk z tt' (List.replicate n .any)) fun g=>by rw[hk'];exact .blk z' z tt' cells _ (qrg (by rw[qe];exact hn) g)
     obtain ⟨m2',a1,a2,a3⟩:=qlu caps c T H HF _ ρ' h hf m _ T2 _ hl1
     refine ⟨m2',a1,Wks.cons (a3 (.ptr H2.length 0) _ ?_) a2,fun d x hx=>a3 d x fun w A u hu=>qhh (fun _ _ h=>h) (qsM m2 H2 _ (m k)) d u (hx w A u hu)⟩
     have e1:conc (gOf m HF) (.ptr k 0)=ptrA 0 (some ⟨m k,0,none⟩):=by simp only[conc];unfold gOf;rw[hk'];rfl
     have e2:conc (gOf (upd m2 H2.length (m k)) (H2++[.blk z tt' (List.replicate n .any)])) (.ptr H2.length 0)=ptrA 0 (some ⟨m k,0,none⟩):=by
      simp only[conc];unfold gOf;rw[qdv,if_pos rfl,qen];rfl
     rw[e1,e2]
     exact Wk.refl _
    ·cases h
   ·cases h
  ·cases h
 | .al q::caps,d::c,T,H,HF,ρ,ρ',h,hf,m,m2,T2,H2,hl=>by
  unfold qdu at h
  split at h
  ·rename_i k
   split at h
   ·rename_i b hb
    split at h
    ·rename_i hbk
     have hbk:b=k:=by simpa using hbk
     subst hbk
     obtain ⟨m2',a1,a2,a3⟩:=qlu caps c T H HF ρ ρ' h hf m m2 T2 H2 hl
     refine ⟨m2',a1,Wks.cons (a3 (.ptr q 0) _ ?_) a2,a3⟩
     have hm:=hl.mv q b hb
     simp only[conc]
     unfold gOf;rw[(hl.obj q b hb).cn,hm];exact Wk.refl _
    ·cases h
   ·cases h
  ·cases h
 | [],_::_,_,_,_,_,_,h,_,_,_,_,_,_=>by cases h
 | .box _ _ _::_,[],_,_,_,_,_,h,_,_,_,_,_,_=>by cases h
 | .al _::_,[],_,_,_,_,_,h,_,_,_,_,_,_=>by cases h
theorem qb1:∀(l:List It) (T:List DV) (H:List DO) (ρ:List Nat) (x:qi l) (HF:List DO) (ρF:List Nat),qu l T H ρ=some (x,HF,ρF)→Fz H HF ∧
  ∀(m m2:Nat→Value) (T2:List DV) (H2:List DO),Like m T HF ρ m2 T2 H2→∃m2',Like m T HF ρF m2' (encI l x ⟨T2,H2⟩).T (encI l x ⟨T2,H2⟩).H
 | [],T,H,ρ,x,HF,ρF,h=>by
  injection h with h
  obtain ⟨rfl,rfl,rfl⟩:=h
  exact ⟨Fz.refl _,fun m m2 T2 H2 hl=>⟨m2,hl⟩⟩
 | .v p t::l,T,H,ρ,x,HF,ρF,h=>by
  unfold qu at h
  split at h
  ·rename_i y H1 F1 h1
   cases hq:qu l T H1 ρ with
   | none=>rw[hq] at h;cases h
   | some q =>
    rw[hq] at h
    injection h with h
    obtain ⟨rfl,h2⟩:=Prod.mk.inj h
    obtain ⟨z,HF',ρF'⟩:=q
    obtain ⟨rfl,rfl⟩:=Prod.mk.inj h2
    obtain ⟨a1,a2⟩:=qwp h1
    obtain ⟨b1,b2⟩:=qb1 l T H1 ρ z HF' ρF' hq
    exact ⟨a1.trans b1,fun m m2 T2 H2 hl=>b2 m m2 _ _ (hl.setI (a2 HF' b1 m _))⟩
  ·cases h
 | .fn p f pa c::l,T,H,ρ,x,HF,ρF,h=>by
  unfold qu at h
  split at h
  ·rename_i i
   split at h
   ·rename_i y H1 F1 h1
    cases hq:qu l T H1 ρ with
    | none=>rw[hq] at h;cases h
    | some q =>
     rw[hq] at h
     injection h with h
     obtain ⟨rfl,h2⟩:=Prod.mk.inj h
     obtain ⟨z,HF',ρF'⟩:=q
     obtain ⟨rfl,rfl⟩:=Prod.mk.inj h2
     obtain ⟨a1,a2⟩:=quj h1
     obtain ⟨b1,b2⟩:=qb1 l T H1 ρ z HF' ρF' hq
     refine ⟨a1.trans b1,fun m m2 T2 H2 hl=>b2 m m2 _ _ (hl.put ?_)⟩
     simp only[conc,qjI]
     exact a2 m HF' b1
   ·cases h
  ·cases h
 | .row p z t e::l,T,H,ρ,x,HF,ρF,h=>by
  unfold qu at h
  split at h
  ·rename_i k hi
   split at h
   ·rename_i z' t' e' c hk
    split at h
    ·rename_i c' hc
     split at h
     ·rename_i hb
      split at h
      ·rename_i y H' ρ' hq
       split at h
       ·rename_i hrow
        injection h with h
        obtain ⟨rfl,h2⟩:=Prod.mk.inj h
        obtain ⟨rfl,rfl⟩:=Prod.mk.inj h2
        obtain ⟨ee,rfl⟩:=qem hc
        subst ee
        simp only[Bool.and_eq_true,Nat.beq_eq,Bool.not_eq_true',List.contains_eq_mem,decide_eq_false_iff_not] at hb
        obtain ⟨rfl,hkn⟩:=hb
        obtain ⟨b1,b2⟩:=qb1 l T H (ρ++[k]) y H' ρ' hq
        have hk':hget H' k = .row z' t' e' c:=by
         rcases b1.2 k with h3 | ⟨_,_,_,_,h3⟩
         ·rw[h3,hk]
         ·rw[h3] at hrow;cases hrow
        refine ⟨b1,fun m m2 T2 H2 hl=>b2 m _ _ _ ((hl.add hkn (.row z t' e' c) fun g=>by rw[hk'];exact .row z' z t' e' c).setI ((qfu b1 (by rw[hi];exact nofun) ?_).more k))⟩
        rw[hi]
        have e1:conc (gOf m H') (.ref k) = .val (m k):=by simp only[conc];unfold gOf;rw[hk'];rfl
        have e2:conc (gOf (upd m2 H2.length (m k)) (H2++[.row z t' e' c])) (.ref H2.length) = .val (m k):=by
         simp only[conc];unfold gOf;rw[qdv,if_pos rfl,qen];rfl
        rw[e1,e2]
        exact Wk.refl _
       ·cases h
      ·cases h
     ·cases h
    ·cases h
   ·cases h
  ·cases h
 | .obj p z tt n::l,T,H,ρ,x,HF,ρF,h=>by
  unfold qu at h
  split at h
  ·rename_i k hi
   split at h
   ·rename_i z' tt' cells hk
    split at h
    ·rename_i hb
     simp only[Bool.and_eq_true,Nat.beq_eq,Bool.not_eq_true',List.contains_eq_mem,decide_eq_false_iff_not] at hb
     obtain ⟨⟨rfl,hn⟩,hkn⟩:=hb
     obtain ⟨b1,b2⟩:=qb1 l T H (ρ++[k]) x HF ρF h
     have hk':hget HF k = .blk z' tt' cells:=by
      rcases b1.2 k with h3 | ⟨_,_,_,h3,_⟩
      ·rw[h3,hk]
      ·rw[hk] at h3;cases h3
     refine ⟨b1,fun m m2 T2 H2 hl=>b2 m _ _ _ ((hl.add hkn (.blk z tt' (List.replicate n .any)) fun g=>by rw[hk'];exact .blk z' z tt' cells _ (qrg (by rw[qe];exact hn) g)).setI ((qfu b1 (by rw[hi];exact nofun) ?_).more k))⟩
     rw[hi]
     have e1:conc (gOf m HF) (.ptr k 0)=ptrA 0 (some ⟨m k,0,none⟩):=by simp only[conc];unfold gOf;rw[hk'];rfl
     have e2:conc (gOf (upd m2 H2.length (m k)) (H2++[.blk z tt' (List.replicate n .any)])) (.ptr H2.length 0)=ptrA 0 (some ⟨m k,0,none⟩):=by
      simp only[conc];unfold gOf;rw[qdv,if_pos rfl,qen];rfl
     rw[e1,e2]
     exact Wk.refl _
    ·cases h
   ·cases h
  ·cases h
 | .al p k::l,T,H,ρ,x,HF,ρF,h=>by
  unfold qu at h
  split at h
  ·rename_i j hi
   split at h
   ·rename_i b hb
    split at h
    ·rename_i hbj
     have hbj:b=j:=by simpa using hbj
     subst hbj
     obtain ⟨b1,b2⟩:=qb1 l T H ρ x HF ρF h
     refine ⟨b1,fun m m2 T2 H2 hl=>b2 m _ _ _ (hl.setI (qfu b1 (by rw[hi];exact nofun) ?_))⟩
     rw[hi]
     have hm:=hl.mv k b hb
     simp only[conc]
     unfold gOf;rw[(hl.obj k b hb).cn,hm];exact Wk.refl _
    ·cases h
   ·cases h
  ·cases h
 | .pal p k off::l,T,H,ρ,x,HF,ρF,h=>by
  unfold qu at h
  split at h
  ·rename_i j o hi
   split at h
   ·rename_i b hb
    split at h
    ·rename_i hbj
     simp only[Bool.and_eq_true,Nat.beq_eq] at hbj
     obtain ⟨rfl,rfl⟩:=hbj
     obtain ⟨b1,b2⟩:=qb1 l T H ρ x HF ρF h
     refine ⟨b1,fun m m2 T2 H2 hl=>b2 m _ _ _ (hl.setI (qfu b1 (by rw[hi];exact nofun) ?_))⟩
     rw[hi]
     have hm:=hl.mv k b hb
     simp only[conc]
     unfold gOf;rw[(hl.obj k b hb).cn,hm];exact Wk.refl _
    ·cases h
   ·cases h
  ·cases h
 | .sub p k::l,T,H,ρ,x,HF,ρF,h=>by
  unfold qu at h
  split at h
  ·rename_i j lo n hi
   split at h
   ·rename_i b hb
    split at h
    ·rename_i hbj
     have hbj:b=j:=by simpa using hbj
     subst hbj
     cases hq:qu l T H ρ with
     | none=>rw[hq] at h;cases h
     | some q =>
      rw[hq] at h
      injection h with h
      obtain ⟨rfl,h2⟩:=Prod.mk.inj h
      obtain ⟨y,HF',ρF'⟩:=q
      obtain ⟨rfl,rfl⟩:=Prod.mk.inj h2
      obtain ⟨b1,b2⟩:=qb1 l T H ρ y HF' ρF' hq
      refine ⟨b1,fun m m2 T2 H2 hl=>b2 m _ _ _ (hl.setI (qfu b1 (by rw[hi];exact nofun) ?_))⟩
      rw[hi]
      have hm:=hl.mv k b hb
      simp only[conc]
      unfold gOf;rw[(hl.obj k b hb).cn,hm];exact Wk.refl _
    ·cases h
   ·cases h
  ·cases h
 | .fnc p f caps::l,T,H,ρ,x,HF,ρF,h=>by
  unfold qu at h
  split at h
  ·rename_i g c hi
   split at h
   ·rename_i hg
    have hg:g=f:=by simpa using hg
    subst hg
    split at h
    ·rename_i ρ' hc
     obtain ⟨b1,b2⟩:=qb1 l T H ρ' x HF ρF h
     refine ⟨b1,fun m m2 T2 H2 hl=>?_⟩
     obtain ⟨m2',a1,a2,_⟩:=qlu caps c T H HF ρ ρ' hc b1 m m2 T2 H2 hl
     have hp:getL T H ρ' p = .fn g [] c:=qyC (qmd caps c ρ ρ' hc) hi nofun
     refine b2 m m2' _ _ (a1.setI (qfu b1 (by rw[hp];exact nofun) ?_))
     rw[hp]
     simp only[conc,qa]
     exact Wks.fn Wks.nil a2
    ·cases h
   ·cases h
  ·cases h
 | .mpi p z kt et::l,T,H,ρ,x,HF,ρF,h=>by
  unfold qu at h
  split at h
  ·rename_i k hi
   split at h
   ·rename_i z' kt' et' c hk
    split at h
    ·rename_i c' hc
     split at h
     ·rename_i hb
      cases hq:qu l T H (ρ++[k]) with
      | none=>rw[hq] at h;cases h
      | some q =>
       rw[hq] at h
       injection h with h
       obtain ⟨rfl,h2⟩:=Prod.mk.inj h
       obtain ⟨y,HF',ρF'⟩:=q
       obtain ⟨rfl,rfl⟩:=Prod.mk.inj h2
       obtain ⟨ee,rfl⟩:=qem hc
       injection ee with e1 e2
       subst e1 e2
       simp only[Bool.not_eq_true',List.contains_eq_mem,decide_eq_false_iff_not] at hb
       obtain ⟨b1,b2⟩:=qb1 l T H (ρ++[k]) y HF' ρF' hq
       have hk':hget HF' k = .map z' kt' et' c:=by
        rcases b1.2 k with h3 | ⟨_,_,_,h3,_⟩
        ·rw[h3,hk]
        ·rw[hk] at h3;cases h3
       refine ⟨b1,fun m m2 T2 H2 hl=>b2 m _ _ _ ((hl.add hb (.map z kt' et' c) fun g=>by rw[hk'];exact .map z' z kt' et' c).setI ((qfu b1 (by rw[hi];exact nofun) ?_).more k))⟩
       rw[hi]
       have e1:conc (gOf m HF') (.mp k)=mpA (some ⟨m k,0,none⟩):=by simp only[conc];unfold gOf;rw[hk'];rfl
       have e2:conc (gOf (upd m2 H2.length (m k)) (H2++[.map z kt' et' c])) (.mp H2.length)=mpA (some ⟨m k,0,none⟩):=by
        simp only[conc];unfold gOf;rw[qdv,if_pos rfl,qen];rfl
       rw[e1,e2]
       exact Wk.refl _
     ·cases h
    ·cases h
   ·cases h
  ·cases h
 | .nilf p::l,T,H,ρ,x,HF,ρF,h=>by
  unfold qu at h
  split at h
  ·rename_i hi
   have hi:=qxf hi
   obtain ⟨b1,b2⟩:=qb1 l T H ρ x HF ρF h
   refine ⟨b1,fun m m2 T2 H2 hl=>b2 m _ _ _ (hl.setI (qfu b1 (by rw[hi];exact nofun) ?_))⟩
   rw[hi]
   exact Wk.refl _
  ·cases h
 | .fv p f::l,T,H,ρ,x,HF,ρF,h=>by
  unfold qu at h
  split at h
  ·rename_i hi
   have hi:=qyA hi
   obtain ⟨b1,b2⟩:=qb1 l T H ρ x HF ρF h
   refine ⟨b1,fun m m2 T2 H2 hl=>b2 m _ _ _ (hl.setI (qfu b1 (by rw[hi];exact nofun) ?_))⟩
   rw[hi]
   exact Wk.refl _
  ·cases h
 | .raw p::l,T,H,ρ,x,HF,ρF,h=>by
  unfold qu at h
  split at h
  ·rename_i v hi
   cases hq:qu l T H ρ with
   | none=>rw[hq] at h;cases h
   | some q =>
    rw[hq] at h
    injection h with h
    obtain ⟨rfl,h2⟩:=Prod.mk.inj h
    obtain ⟨y,HF',ρF'⟩:=q
    obtain ⟨rfl,rfl⟩:=Prod.mk.inj h2
    obtain ⟨b1,b2⟩:=qb1 l T H ρ y HF' ρF' hq
    refine ⟨b1,fun m m2 T2 H2 hl=>b2 m _ _ _ (hl.setI (qfu b1 (by rw[hi];exact nofun) ?_))⟩
    rw[hi]
    exact Wk.refl _
  ·cases h
 | .nilp p::l,T,H,ρ,x,HF,ρF,h=>by
  unfold qu at h
  split at h
  ·rename_i hi
   have hi:=qxg hi
   obtain ⟨b1,b2⟩:=qb1 l T H ρ x HF ρF h
   refine ⟨b1,fun m m2 T2 H2 hl=>b2 m _ _ _ (hl.setI (qfu b1 (by rw[hi];exact nofun) ?_))⟩
   rw[hi]
   exact Wk.refl _
  ·cases h
 | .ag p n::l,T,H,ρ,x,HF,ρF,h=>by
  unfold qu at h
  split at h
  ·rename_i cs hi
   split at h
   ·rename_i hn
    have hn:cs.length=n:=by simpa using hn
    obtain ⟨b1,b2⟩:=qb1 l T H ρ x HF ρF h
    refine ⟨b1,fun m m2 T2 H2 hl=>b2 m m2 _ _ (hl.setI (qfu b1 (by rw[hi];exact nofun) ?_))⟩
    rw[hi]
    simp only[conc]
    exact (qrg (by rw[qe];exact hn) _).agg
   ·cases h
  ·cases h
theorem qdA{m:Nat→Value}{H:List DO}{b:Nat}:qf (hes m H) b↔∃k,(heOf (gOf m H) (m k) (hget H k)).owns b:=by
 constructor
 ·rintro ⟨e,he,hb⟩
  obtain ⟨k,hk,rfl⟩:=List.mem_iff_getElem.1 he
  rw[qj] at hk
  have h3:=q8 m H k
  rw[if_pos hk,List.getElem?_eq_getElem (by rw[qj];exact hk)] at h3
  injection h3 with h3
  rw[h3] at hb
  exact ⟨k,hb⟩
 ·rintro ⟨k,hb⟩
  have hk:k<H.length:=qbN fun e=>by rw[e] at hb;exact qeL b hb
  refine ⟨_,List.mem_of_getElem? (q8 m H k ▸ if_pos hk),hb⟩
def OwnLe(m':Nat→Value)(H':List DO)(m:Nat→Value)(H:List DO):Prop:=∀b,qf (hes m' H') b→qf (hes m H) b
theorem OwnLe.refl(m:Nat→Value)(H:List DO):OwnLe m H m H:=fun _ h=>h
theorem OwnLe.trans{m m1 m2:Nat→Value}{H H1 H2:List DO}(h:OwnLe m1 H1 m H)(k:OwnLe m2 H2 m1 H1):OwnLe m2 H2 m H:=fun b hb=>h b (k b hb)
theorem addRow_own{t:Ty}{e:TypeId}{m:Nat→Value}{H:List DO}:OwnLe (upd m H.length (.slice none 0 0)) (H++[.row false t e []]) m H:=fun b hb=>by
 obtain ⟨k,hk⟩:=qdA.1 hb
 rw[qdv] at hk
 by_cases hkl:k=H.length
 ·rw[if_pos hkl,hkl,qen] at hk
  cases hk
 ·rw[if_neg hkl,qgu _ _ hkl] at hk
  exact qdA.2 ⟨k,qbx hk⟩
theorem qyD{m:Nat→Value}{H:List DO}{q:Nat}{z:Bool}{tt:TypeId}{cs cs':List DV}(hk:hget H q = .blk z tt cs):OwnLe m (hput H q (.blk z tt cs')) m H:=fun b hb=>by
 obtain ⟨k,h⟩:=qdA.1 hb
 rw[qq] at h
 split at h
 ·rename_i h1
  obtain ⟨rfl,_⟩:=h1
  refine qdA.2 ⟨q,?_⟩
  rw[hk]
  exact qot (v:=m q) (tt:=tt) h
 ·exact qdA.2 ⟨k,qbx h⟩
theorem qun{m:Nat→Value}{H H':List DO}(h:Fz H H'):OwnLe m H' m H:=fun b hb=>by
 obtain ⟨k,hk⟩:=qdA.1 hb
 rcases h.2 k with h1 | ⟨t,e,l,_,h1⟩
 ·rw[h1] at hk;exact qdA.2 ⟨k,qbx hk⟩
 ·rw[h1] at hk;exact (qeL b hk).elim
theorem Like.own{m m2:Nat→Value}{T T2:List DV}{H H2:List DO}{ρ:List Nat}(h:Like m T H ρ m2 T2 H2):OwnLe m2 H2 m H:=fun b hb=>by
 obtain ⟨k,hk⟩:=qdA.1 hb
 have hlt:k<H2.length:=qbN fun e=>by rw[e] at hk;exact qeL b hk
 have hj:ρ[k]?=some (ρ[k]'(by rw[← h.len];exact hlt)):=List.getElem?_eq_getElem _
 rw[h.mv k _ hj] at hk
 exact qdA.2 ⟨_,(h.obj k _ hj).owns hk⟩
theorem SRel.he0s{t:List AV}{H:List HE}(hr:SRel w0 S t H a w):∀n,SRel w0 S t (H++List.replicate n he0) a w
 | 0=>by simpa using hr
 | n+1=>by
  have:=(SRel.he0s hr n).ownNil 0 0
  refine this.perm ?_
  rw[List.replicate_succ]
  exact List.perm_middle.symm
theorem qld(H:List DO)(n k:Nat):hget (H++List.replicate n .new) k=hget H k:=by
 induction H generalizing k with
 | nil =>
  induction n generalizing k with
  | zero=>rfl
  | succ n ih=>cases k with
   | zero=>simp[List.replicate_succ,hget]
   | succ k=>simp only[List.replicate_succ,List.nil_append,hget] at ih ⊢;exact ih k
 | cons o H ih=>cases k with
  | zero=>rfl
  | succ k=>simp only[List.cons_append,hget,ih]
theorem qup(m:Nat→Value)(H:List DO)(n:Nat):gOf m (H++List.replicate n .new)=gOf m H:=by
 funext k;unfold gOf;rw[qld]
theorem qyE(m:Nat→Value)(H:List DO)(n:Nat):hes m (H++List.replicate n .new)=hes m H++List.replicate n he0:=by
 apply List.ext_getElem?
 intro i
 rw[q8,qup,qld,List.length_append,List.length_replicate]
 by_cases h:i<H.length
 ·rw[if_pos (by omega),List.getElem?_append_left (by rw[qj];exact h),q8,if_pos h]
 ·rw[List.getElem?_append_right (by rw[qj];omega),qj,List.getElem?_replicate]
  by_cases h2:i<H.length+n
  ·rw[if_pos h2,if_pos (by omega)]
   have:hget H i = .new:=by
    cases hq:hget H i with
    | new=>rfl
    | _=>exact absurd (qbN (H:=H) (k:=i) (by rw[hq];exact nofun)) h
   rw[this];rfl
  ·rw[if_neg h2,if_neg (by omega)]
theorem DR.news(hr:DR w0 S m st a w)(n:Nat):DR w0 S m ⟨st.T,st.H++List.replicate n .new⟩ a w:=by
 refine ⟨hr.1.step (mle.refl _ _) fun k hk=>?_,fun k hk=>hr.2.1 k ?_,?_⟩
 ·simp only[qld];exact ⟨hk,fun _ _ _ _ hb=>qbx hb⟩
 ·simp only[qld] at hk;exact hk
 ·simp only[qup,qyE];exact hr.2.2.he0s n
theorem qpH{t:Ty}{e:TypeId}{st:St}(hr:DR w0 S m st a w):DR w0 S (upd m st.H.length (.slice none 0 0)) ⟨st.T,st.H++[.row false t e []]⟩ a w:=by
 obtain ⟨hM,hs,hr⟩:=hr
 have hg:=qsM (w:=w) (A:=Al w0 S (hes (upd m st.H.length (.slice none 0 0)) (st.H++[.row false t e []]))) m st.H (.row false t e []) (.slice none 0 0)
 refine ⟨hM.step (fun k hk=>qgu _ _ (by have:=qbN hk;omega)) fun k hk=>?_,fun k hk=>?_,?_⟩
 ·have:k<st.H.length:=qbN fun e=>by rw[e] at hk;cases hk
  rw[qdv,if_neg (by omega)]
  exact ⟨hk,fun _ _ _ _ hb=>qbx hb⟩
 ·by_cases hkl:k=st.H.length
  ·subst hkl;rw[qen];exact .inl ⟨_,_,_,rfl⟩
  ·rw[qgu _ _ hkl]
   simp only at hk
   rw[qdv,if_neg hkl] at hk
   exact hs k hk
 ·have h1:=hr.ownNil e t.sz
  have h2:=h1.perm (List.perm_append_comm (l₁:=[_]) (l₂:=hes m st.H))
  exact DR.regle (m':=upd m st.H.length (.slice none 0 0)) (HO':=st.H++[.row false t e []]) h2 (by simp[qj]) hg fun k e' hk hlt=>by
   rw[qdv]
   by_cases hkl:k=st.H.length
   ·subst hkl
    rw[List.getElem?_append_right (by rw[qj];exact Nat.le_refl _),qj,Nat.sub_self] at hk
    injection hk with hk
    subst hk
    rw[if_pos rfl,qen]
    exact ⟨.inr ⟨trivial,fun b hb=>hb⟩,fun hA hok=>HE.ok_mono hok fun b _ hb=>hA b hb⟩
   ·have hkl2:k<st.H.length:=by simp at hlt;omega
    rw[List.getElem?_append_left (by rw[qj];exact hkl2),q8,if_pos hkl2] at hk
    injection hk with hk
    subst hk
    rw[if_neg hkl,qgu _ _ hkl]
    exact ⟨.inr ⟨qbm _,fun b hb=>qbx hb⟩,fun hA=>(qlb hA hg _ _).2⟩
theorem DR.slot{T:List DV}{H:List DO}{i:Nat}{d:DV}(hr:DR w0 S m ⟨T,H⟩ a w)(h:conc (gOf m H) d=conc (gOf m H) (lget T i)):DR w0 S m ⟨lput T i d,H⟩ a w:=by
 refine ⟨hr.1,hr.2.1,?_⟩
 have e:qa (gOf m H) (lput T i d)=qa (gOf m H) T:=by rw[qkK,h,← qcN,qnB]
 show SRel w0 S (qa (gOf m H) (lput T i d)) (hes m H) a w
 rw[e];exact hr.2.2
theorem DR.cell{T:List DV}{H:List DO}{k j:Nat}{z:Bool}{tt:TypeId}{cs:List DV}{d:DV}(hr:DR w0 S m ⟨T,H⟩ a w)(hk:hget H k = .blk z tt cs)(h:conc (gOf m H) d=conc (gOf m H) (lget cs j)):DR w0 S m ⟨T,hput H k (.blk z tt (lput cs j d))⟩ a w:=by
 have hcn:∀v,(DO.blk z tt (lput cs j d)).cn v=(hget H k).cn v:=fun v=>by rw[hk];rfl
 have hg:=qgI (m:=m) hcn
 refine ⟨hr.1.step (mle.refl _ _) (Kl.blk hk),fun q hq=>hr.2.1 q fun e=>?_,?_⟩
 ·simp only[qq] at hq
  split at hq
  ·rename_i h1;rw[← h1.1] at e;rw[show hget H k=_ from hk] at e;cases e
  ·exact hq e
 ·show SRel w0 S (qa (gOf m (hput H k (.blk z tt (lput cs j d)))) T) (hes m (hput H k (.blk z tt (lput cs j d)))) a w
  have e:qa (gOf m H) (lput cs j d)=qa (gOf m H) cs:=by rw[qkK,h,← qcN,qnB]
  have e2:hes m (hput H k (.blk z tt (lput cs j d)))=hes m H:=by
   rw[qjG hcn]
   have h3:=qg3 (m:=m) hk nofun
   have e3:heOf (gOf m H) (m k) (.blk z tt (lput cs j d))=heOf (gOf m H) (m k) (.blk z tt cs):=by
    show heB (m k) tt _=heB (m k) tt _
    rw[e]
   rw[e3]
   apply List.ext_getElem?
   intro i
   rw[List.getElem?_set]
   by_cases hi:k=i
   ·subst hi
    rw[if_pos rfl,if_pos (List.getElem?_eq_some_iff.1 h3).1,h3]
   ·rw[if_neg hi]
  rw[hg,e2]
  exact hr.2.2
def qrV:DV→Nat
 | .ref k=>k
 | .ptr k _=>k
 | .mp k=>k
 | _=>0
def qme(p:Pl)(ρ:List Nat)(t:Ty)(e:TypeId)(st:St):St:=match p with
 | .t i=>match lget st.T i with
  | .val (.slice none 0 0)=>⟨lput st.T i (.ref st.H.length),st.H++[.row false t e []]⟩
  | .sub q 0 n=>⟨lput st.T i (qdz st.H.length (st.H++[.new]) (.sub q 0 n)).1,(qdz st.H.length (st.H++[.new]) (.sub q 0 n)).2⟩
  | _=>st
 | .c k j=>match ρ[k]? with
  | some q=>match hget st.H q with
   | .blk z tt cs=>match lget cs j with
    | .val (.slice none 0 0)=>⟨st.T,hput (st.H++[.row false t e []]) q (.blk z tt (lput cs j (.ref st.H.length)))⟩
    | _=>st
   | _=>st
  | none=>st
 | .f i j=>match lget st.T i with
  | .agg cs=>match lget cs j with
   | .val (.slice none 0 0)=>⟨lput st.T i (.agg (lput cs j (.ref st.H.length))),st.H++[.row false t e []]⟩
   | _=>st
  | _=>st
def qou(p:Pl)(t:Ty)(st:St):St:=match p with
 | .t i=>match t with
  | .pt t'=>match lget st.T i with
   | .ptr k 0=>match hget st.H k with
    | .blk false _ cells=>match decF t' st.H cells with
     | some (x,H1,_)=>⟨lput st.T i (.rp (t'.encD x)),hput H1 k (.dead 0)⟩
     | none=>st
    | _=>st
   | _=>st
  | _=>st
 | _=>st
def qqq(p:Pl)(st:St):St:=match p with
 | .t i=>match lget st.T i with
  | .ref j=>match hget st.H j with
   | .row _ _ _ l=>⟨lput st.T i (.sub j 0 l.length),st.H⟩
   | _=>st
  | _=>st
 | _=>st
def quq:List CapI→List DV→List Nat→List Nat
 | .box _ _ _::l,d::ds,ρ=>quq l ds (ρ++[qrV d])
 | .al _::l,_::ds,ρ=>quq l ds ρ
 | _,_,ρ=>ρ
def thaw:List It→List Nat→St→St
 | [],_,st=>st
 | .row p false t e::l,ρ,st=>let s:=qme p ρ t e st;thaw l (ρ++[qrV (getL s.T s.H ρ p)]) s
 | .row p true _ _::l,ρ,st=>thaw l (ρ++[qrV (getL st.T st.H ρ p)]) st
 | .obj p _ _ _::l,ρ,st=>thaw l (ρ++[qrV (getL st.T st.H ρ p)]) st
 | .v p t::l,ρ,st=>thaw l ρ (qou p t st)
 | .fn _ _ _ _::l,ρ,st=>thaw l ρ st
 | .al _ _::l,ρ,st=>thaw l ρ st
 | .pal _ _ _::l,ρ,st=>thaw l ρ st
 | .sub p _::l,ρ,st=>thaw l ρ (qqq p st)
 | .mpi p _ _ _::l,ρ,st=>thaw l (ρ++[qrV (getL st.T st.H ρ p)]) st
 | .nilf _::l,ρ,st=>thaw l ρ st
 | .fv _ _::l,ρ,st=>thaw l ρ st
 | .nilp _::l,ρ,st=>thaw l ρ st
 | .ag _ _::l,ρ,st=>thaw l ρ st
 | .raw _::l,ρ,st=>thaw l ρ st
 | .fnc p _ caps::l,ρ,st=>match getL st.T st.H ρ p with
  | .fn _ _ c=>thaw l (quq caps c ρ) st
  | _=>thaw l ρ st
theorem qnl(m:Nat→Value)(H:List DO)(o:DO)(v:Value):Kept m (upd m H.length v) H (H++[o]):=fun k hk=>by
 have:k<H.length:=qbN fun e=>by rw[e] at hk;cases hk
 exact ⟨qgu _ _ (by omega),by rw[qdv,if_neg (by omega)];exact hk⟩
theorem qxi{p:Pl}{ρ:List Nat}{t:Ty}{e:TypeId}{st:St}(hr:DR w0 S m st a w):∃m',Kept m m' st.H (qme p ρ t e st).H∧DR w0 S m' (qme p ρ t e st) a w∧OwnLe m' (qme p ρ t e st).H m st.H:=by
 have e1:conc (gOf (upd m st.H.length (.slice none 0 0)) (st.H++[.row false t e []])) (.ref st.H.length) = .val (.slice none 0 0):=by
  simp only[conc];unfold gOf;rw[qdv,if_pos rfl,qen];rfl
 unfold qme
 split
 ·rename_i i
  split
  ·rename_i hi
   exact ⟨_,qnl m st.H _ _,(qpH hr).slot (by rw[e1,hi];rfl),addRow_own⟩
  ·rename_i q n hi
   have h1:DR w0 S m ⟨lput st.T i (.sub q 0 n),st.H++[.new]⟩ a w:=by
    rw[← hi,qrf]
    exact hr.news 1
   obtain ⟨m',h2,h3,h4⟩:=qui (id:=st.H.length) (i:=some i) h1
   refine ⟨m',fun k hk=>?_,?_,fun b hb=>?_⟩
   ·have hk1:qef (hget (st.H++[.new]) k)=true:=by rw[qdv,if_neg (by have:=qbN (H:=st.H) (k:=k) (fun e=>by rw[e] at hk;cases hk);omega)];exact hk
    exact ⟨h2 k (fun e=>by rw[e] at hk1;cases hk1),(quh _ _ _ k hk1).1⟩
   ·have e2:lput (lput st.T i (.sub q 0 n)) i (qdz st.H.length (st.H++[.new]) (.sub q 0 n)).1=lput st.T i (qdz st.H.length (st.H++[.new]) (.sub q 0 n)).1:=by
     have:∀(l:List DV) (i:Nat) (x y:DV),lput (lput l i x) i y=lput l i y:=fun l=>by
      induction l with
      | nil=>intro i x y;rfl
      | cons z l ih=>intro i x y;cases i with
       | zero=>rfl
       | succ i=>simp only[lput,ih]
     exact this _ _ _ _
    exact h3
   ·obtain ⟨k,hk⟩:=h4 b (qdA.1 hb)
    rw[qdv] at hk
    by_cases hkl:k=st.H.length
    ·rw[if_pos hkl] at hk;exact (qeL b hk).elim
    ·rw[if_neg hkl] at hk;exact qdA.2 ⟨k,qbx hk⟩
  ·exact ⟨m,Kept.refl _ _,hr,OwnLe.refl _ _⟩
 ·split
  ·rename_i q hq
   split
   ·rename_i z tt cs hk
    split
    ·rename_i hj
     have hk':hget (st.H++[.row false t e []]) q = .blk z tt cs:=by
      rw[qdv,if_neg (by have:=qbN (H:=st.H) (k:=q) (by rw[hk];exact nofun);omega)];exact hk
     refine ⟨_,(qnl m st.H _ _).trans (Kept.of (mle.refl _ _) (Kl.blk hk')),(qpH hr).cell hk' (by rw[e1,hj];rfl),addRow_own.trans (qyD hk')⟩
    ·exact ⟨m,Kept.refl _ _,hr,OwnLe.refl _ _⟩
   ·exact ⟨m,Kept.refl _ _,hr,OwnLe.refl _ _⟩
  ·exact ⟨m,Kept.refl _ _,hr,OwnLe.refl _ _⟩
 ·rename_i i j
  split
  ·rename_i cs hi
   split
   ·rename_i hj
    refine ⟨_,qnl m st.H _ _,(qpH hr).slot ?_,addRow_own⟩
    have h:conc (gOf (upd m st.H.length (.slice none 0 0)) (st.H++[.row false t e []])) (.ref st.H.length)=conc (gOf (upd m st.H.length (.slice none 0 0)) (st.H++[.row false t e []])) (lget cs j):=by rw[e1,hj];rfl
    rw[hi]
    show AV.agg (qa _ _)=AV.agg (qa _ _)
    rw[qkK,h,← qcN,qnB]
   ·exact ⟨m,Kept.refl _ _,hr,OwnLe.refl _ _⟩
  ·exact ⟨m,Kept.refl _ _,hr,OwnLe.refl _ _⟩
theorem qqY{α:Type}:∀(l:List α) (k:Nat) (h:k<l.length),l.Perm (l[k]::l.eraseIdx k)
 | _::_,0,_=>List.Perm.refl _
 | a::l,k+1,h=>by
  have:=(qqY l k (by simpa using h)).cons a
  exact this.trans (List.Perm.swap _ _ _)
theorem qti{α:Type}(y:α):∀(l:List α) (k:Nat) (h:k<l.length),(y::l.eraseIdx k).Perm (l.set k y)
 | _::_,0,_=>List.Perm.refl _
 | a::l,k+1,h=>by
  have:=(qti y l k (by simpa using h)).cons a
  exact (List.Perm.swap _ _ _).trans this
theorem qvI{x y:AV}:∀(t:List AV) (i:Nat),Wk x y→Wks (AV.put t i x) (AV.put t i y)
 | [],i,h=>by cases i<;>exact Wks.nil
 | z::t,0,h=>Wks.cons h (by show Wks t t;exact ⟨rfl,fun i a b h1 h2=>by rw[h1] at h2;injection h2 with h2;rw[h2];exact Wk.refl _⟩)
 | z::t,i+1,h=>Wks.cons (Wk.refl z) (qvI t i h)
theorem DR.freezeP{T:List DV}{H:List DO}{i k:Nat}{tt:TypeId}{cells:List DV}{t:Ty}{x:t.den}{H1:List DO}{F1:List Nat}(hr:DR w0 S m ⟨T,H⟩ a w)(hi:lget T i = .ptr k 0)(hk:hget H k = .blk false tt cells)(hd:decF t H cells=some (x,H1,F1)) :
  Kept m m H (hput H1 k (.dead 0))∧DR w0 S m ⟨lput T i (.rp (t.encD x)),hput H1 k (.dead 0)⟩ a w∧OwnLe m (hput H1 k (.dead 0)) m H:=by
 obtain ⟨a1,a2,a3⟩:=qgo t _ _ _ _ _ hd
 have hr1:=(hr.fz a1).1
 have hk1:hget H1 k = .blk false tt cells:=by
  rcases a1.2 k with h3 | ⟨_,_,_,h3,_⟩
  ·rw[h3];exact hk
  ·rw[hk] at h3;cases h3
 have hkl:Kl H1 (hput H1 k (.dead 0)):=Kl.put (by rw[hk1];rfl)
 have hown:OwnLe m (hput H1 k (.dead 0)) m H1:=fun b hb=>by
  obtain ⟨q,h⟩:=qdA.1 hb
  rw[qq] at h
  split at h
  ·exact (qeL b h).elim
  ·exact qdA.2 ⟨q,qbx h⟩
 refine ⟨(Kept.of (mle.refl _ _) a1.kl).trans (Kept.of (mle.refl _ _) hkl),?_,(qun a1).trans hown⟩
 obtain ⟨b,hb1,hb2,hb3⟩:=hr1.blkAt hk1
 obtain ⟨hM,hs,hs1⟩:=hr1
 have hlt:k<H1.length:=qbN (by rw[hk1];exact nofun)
 have hcn:∀v,(DO.dead 0).cn v=(hget H1 k).cn v:=fun v=>by rw[hk1];rfl
 have hM':¬w0.M b:=fun hb=>by
  obtain ⟨j,hj1,hj2⟩:=hM b hb
  have hjl:j<H1.length:=qbN fun e=>by rw[e] at hj1;cases hj1
  refine qpz hs1 hlt hjl (fun e=>by rw[← e,hk1] at hj1;cases hj1) (b:=b) ?_ hj2
  have:=q8 m H1 k
  rw[if_pos hlt] at this
  rw[this] at hb2
  injection hb2 with hb2
  rw[hb2];rfl
 refine ⟨hM.step (mle.refl _ _) hkl,fun q hq=>hs q fun e=>?_,?_⟩
 ·simp only[qq] at hq
  split at hq
  ·rename_i h1;rw[← h1.1] at e;rw[show hget H1 k=_ from hk1] at e;cases e
  ·exact hq e
 ·have hlen:k<(hes m H1).length:=by rw[qj];exact hlt
  have he:(hes m H1)[k] = .blk b tt (qa (gOf m H1) cells):=by
   rw[List.getElem?_eq_getElem hlen] at hb2
   injection hb2
  have h2:=hs1.perm (qqY _ k hlen)
  rw[he] at h2
  have hget:AV.get (qa (gOf m H1) T) i = .val (.pointer (some ⟨b,0,none⟩)):=by
   rw[qcN,hi]
   simp only[conc,hb3]
  have h3:=((h2.freezeBox hM' i hget).ownNil 0 0).perm (qti _ _ k hlen)
  show SRel w0 S (qa (gOf m (hput H1 k (.dead 0))) (lput T i (.rp (t.encD x)))) (hes m (hput H1 k (.dead 0))) a w
  rw[qgI hcn,qjG hcn,qkK]
  have hw:=a3.wks a2 m (Fz.refl H1)
  refine SRel.wk h3 (qvI _ _ ?_)
  simp only[conc,qc2]
  exact hw.rp
theorem qyF{p:Pl}{t:Ty}{st:St}(hr:DR w0 S m st a w):Kept m m st.H (qou p t st).H∧DR w0 S m (qou p t st) a w∧OwnLe m (qou p t st).H m st.H:=by
 have id:Kept m m st.H st.H∧DR w0 S m st a w∧OwnLe m st.H m st.H:=⟨Kept.refl _ _,hr,OwnLe.refl _ _⟩
 unfold qou
 split
 ·split
  ·split
   ·rename_i hi
    split
    ·rename_i hk
     split
     ·rename_i hd
      exact DR.freezeP hr hi hk hd
     ·exact id
    ·exact id
   ·exact id
  ·exact id
 ·exact id
theorem qxj(p:Pl)(t:Ty)(st:St):(qou p t st).T.length=st.T.length:=by
 unfold qou
 split
 ·split
  ·split
   ·split
    ·split
     ·exact qho _ _ _
     ·rfl
    ·rfl
   ·rfl
  ·rfl
 ·rfl
theorem qyG{p:Pl}{st:St}(hr:DR w0 S m st a w):(qqq p st).H=st.H∧DR w0 S m (qqq p st) a w:=by
 unfold qqq
 split
 ·rename_i i
  split
  ·rename_i j hj
   split
   ·rename_i z t e l hk
    refine ⟨rfl,hr.slot ?_⟩
    rw[hj]
    obtain ⟨_,hrf,hcase⟩:=hr.rowAt hk
    simp only[conc,hrf]
    unfold gOf
    rw[hk]
    rcases hcase with ⟨hm,rfl⟩ | ⟨b,c,hm,_⟩
    ·rw[hm];rfl
    ·rw[hm]
     simp only[DO.cn,subA,Nat.zero_mul,Nat.add_zero,ite_self,Nat.sub_zero]
   ·exact ⟨rfl,hr⟩
  ·exact ⟨rfl,hr⟩
 ·exact ⟨rfl,hr⟩
theorem qd7:∀(l:List It) (ρ:List Nat) {m:Nat→Value} {st:St},DR w0 S m st a w→∃m',Kept m m' st.H (thaw l ρ st).H∧DR w0 S m' (thaw l ρ st) a w∧OwnLe m' (thaw l ρ st).H m st.H
 | [],ρ,m,st,hr=>⟨m,Kept.refl _ _,hr,OwnLe.refl _ _⟩
 | .row p false t e::l,ρ,m,st,hr=>by
  obtain ⟨m',h1,h2,o1⟩:=qxi (p:=p) (ρ:=ρ) (t:=t) (e:=e) hr
  obtain ⟨m2,h3,h4,o2⟩:=qd7 l _ h2
  exact ⟨m2,h1.trans h3,h4,o1.trans o2⟩
 | .row p true t e::l,ρ,m,st,hr=>qd7 l _ hr
 | .v p t::l,ρ,m,st,hr=>by
  obtain ⟨h1,h2,o1⟩:=qyF (p:=p) (t:=t) hr
  obtain ⟨m2,h3,h4,o2⟩:=qd7 l ρ h2
  exact ⟨m2,h1.trans h3,h4,o1.trans o2⟩
 | .fn _ _ _ _::l,ρ,m,st,hr=>qd7 l _ hr
 | .obj _ _ _ _::l,ρ,m,st,hr=>qd7 l _ hr
 | .al _ _::l,ρ,m,st,hr=>qd7 l _ hr
 | .pal _ _ _::l,ρ,m,st,hr=>qd7 l _ hr
 | .sub p _::l,ρ,m,st,hr=>by
  obtain ⟨h1,h2⟩:=qyG (p:=p) hr
  obtain ⟨m2,h3,h4,o2⟩:=qd7 l ρ h2
  rw[h1] at h3 o2
  exact ⟨m2,h3,h4,o2⟩
 | .mpi _ _ _ _::l,ρ,m,st,hr=>qd7 l _ hr
 | .nilf _::l,ρ,m,st,hr=>qd7 l _ hr
 | .fv _ _::l,ρ,m,st,hr=>qd7 l _ hr
 | .nilp _::l,ρ,m,st,hr=>qd7 l _ hr
 | .ag _ _::l,ρ,m,st,hr=>qd7 l _ hr
 | .raw _::l,ρ,m,st,hr=>qd7 l _ hr
 | .fnc _ _ _::l,ρ,m,st,hr=>by
  unfold thaw
  split
  ·exact qd7 l _ hr
  ·exact qd7 l _ hr
theorem qwq(p:Pl)(ρ:List Nat)(t:Ty)(e:TypeId)(st:St):(qme p ρ t e st).T.length=st.T.length:=by
 unfold qme
 split
 ·split
  ·exact qho _ _ _
  ·exact qho _ _ _
  ·rfl
 ·split
  ·split
   ·split<;>rfl
   ·rfl
  ·rfl
 ·split
  ·split
   ·exact qho _ _ _
   ·rfl
  ·rfl
theorem qxk(p:Pl)(st:St):(qqq p st).T.length=st.T.length:=by
 unfold qqq
 split
 ·split
  ·split
   ·exact qho _ _ _
   ·rfl
  ·rfl
 ·rfl
theorem qdi:∀(l:List It) (ρ:List Nat) (st:St),(thaw l ρ st).T.length=st.T.length
 | [],ρ,st=>rfl
 | .row p false t e::l,ρ,st=>by unfold thaw;rw[qdi l,qwq]
 | .row p true t e::l,ρ,st=>qdi l _ st
 | .v p t::l,ρ,st=>by unfold thaw;rw[qdi l,qxj]
 | .fn _ _ _ _::l,ρ,st=>qdi l _ st
 | .obj _ _ _ _::l,ρ,st=>qdi l _ st
 | .al _ _::l,ρ,st=>qdi l _ st
 | .pal _ _ _::l,ρ,st=>qdi l _ st
 | .sub p _::l,ρ,st=>by unfold thaw;rw[qdi l,qxk]
 | .mpi _ _ _ _::l,ρ,st=>qdi l _ st
 | .nilf _::l,ρ,st=>qdi l _ st
 | .fv _ _::l,ρ,st=>qdi l _ st
 | .nilp _::l,ρ,st=>qdi l _ st
 | .ag _ _::l,ρ,st=>qdi l _ st
 | .raw _::l,ρ,st=>qdi l _ st
 | .fnc _ _ _::l,ρ,st=>by
  unfold thaw
  split
  ·exact qdi l _ st
  ·exact qdi l _ st
def qdp:List (List It)→Type
 | []=>Empty
 | [l]=>qi l
 | l::y::r=>qi l⊕qdp (y::r)
def qp:(o:List (List It))→qdp o→(l:List It)×qi l
 | [],x=>nomatch x
 | [l],x=>⟨l,x⟩
 | l::y::r,x=>match x with
  | .inl z=>⟨l,z⟩
  | .inr z=>qp (y::r) z
def qrW{σ:Type}:(o:List (List It))→qdp o→((l:List It)→qi l→PT σ)→PT σ
 | [],_,_=>.fail
 | [l],x,k=>k l x
 | l::y::r,x,k=>.case (qi l) (qdp (y::r)) x (fun z=>k l z) fun z=>qrW (y::r) z k
theorem qov{σ:Type}{k:(l:List It)→qi l→PT σ}{s:σ}:∀{o:List (List It)} {x:qdp o},(qrW o x k).Is s→(k (qp o x).1 (qp o x).2).Is s
 | [],x,h=>h.elim
 | [l],x,h=>h
 | l::y::r,x,h=>by
  unfold qrW at h
  rcases h with ⟨z,h1,h2⟩ | ⟨z,h1,h2⟩
  ·rw[show x = .inl z from h1];exact h2
  ·rw[show x = .inr z from h1];exact qov (o:=y::r) h2
theorem qur{σ:Type}{k:(l:List It)→qi l→PT σ}{s:σ}:∀{o:List (List It)} {x:qdp o},(k (qp o x).1 (qp o x).2).Is s→(qrW o x k).Is s
 | [],x,h=>nomatch x
 | [l],x,h=>h
 | l::y::r,.inl z,h=>.inl ⟨z,rfl,h⟩
 | l::y::r,.inr z,h=>.inr ⟨z,rfl,qur (o:=y::r) h⟩
def qiR(l:List It)(n:Nat)(st:St):Option (qi l) :=
 match Nat.beq st.T.length n with
 | true=>match qu l (thaw l [] st).T (thaw l [] st).H [] with
  | some (x,H',ρ')=>match qpF H' (encI l x ⟨List.replicate n .any,[]⟩).H ρ' with
   | true=>some x
   | false=>none
  | none=>none
 | false=>none
def mkS(l:List It)(n:Nat)(x:qi l):St:=encI l x ⟨List.replicate n .any,[]⟩
theorem qrh(n i:Nat):lget (List.replicate n .any) i = .any:=by
 induction n generalizing i with
 | zero=>rfl
 | succ n ih=>cases i with
  | zero=>rfl
  | succ i=>simp only[List.replicate_succ,lget,ih]
theorem qvJ{H H':List DO}(m:Nat→Value)(h:Fz H H'):Kept m m H H':=Kept.of (mle.refl _ _) h.kl
theorem qtj{l:List It}{n:Nat}{st:St}{x:qi l}(h:qiR l n st=some x)(hr:DR w0 S m st a w):∃m',Kept m m' st.H (mkS l n x).H∧DR w0 S m' (mkS l n x) a w∧OwnLe m' (mkS l n x).H m st.H:=by
 unfold qiR at h
 split at h
 ·rename_i hn
  have hn:st.T.length=n:=by simpa using hn
  split at h
  ·rename_i y HF ρF hq
   split at h
   ·rename_i hlo
    injection h with h
    subst h
    obtain ⟨m1,k1,hr1,o1⟩:=qd7 l [] hr
    obtain ⟨b1,b2⟩:=qb1 l _ _ _ _ _ _ hq
    have hr2:=(DR.fz hr1 b1).1
    obtain ⟨m2,hl⟩:=b2 m1 m1 (List.replicate n .any) [] ⟨.nil,rfl,by rw[List.length_replicate,qdi,hn],fun k j h=>by simp at h,fun k j h=>by simp at h,fun i=>by rw[qrh];exact fun w A u _=>.any u⟩
    exact ⟨m2,k1.trans ((qvJ m1 b1).trans (hl.kept hlo)),hl.dr hlo hr2,o1.trans ((qun b1).trans hl.own)⟩
   ·cases h
  ·cases h
 ·cases h
theorem qmf{l:List It}{n:Nat}{st:St}{x:qi l}(h:qiR l n st=some x)(hr:DR w0 S m st a w):∃m',Kept m m' st.H (mkS l n x).H∧DR w0 S m' (mkS l n x) a w:=by
 obtain ⟨m',h1,h2,_⟩:=qtj h hr
 exact ⟨m',h1,h2⟩
def qnM:(o:List (List It))→Nat→St→Option (qdp o)
 | [],_,_=>none
 | [l],n,st=>qiR l n st
 | l::y::r,n,st=>match qiR l n st with
  | some x=>some (.inl x)
  | none=>(qnM (y::r) n st).map Sum.inr
theorem qrX{n:Nat}{st:St}:∀{o:List (List It)} {x:qdp o},qnM o n st=some x→qiR (qp o x).1 n st=some (qp o x).2
 | [],x,h=>by cases h
 | [l],x,h=>h
 | l::y::r,x,h=>by
  unfold qnM at h
  split at h
  ·rename_i z hz
   injection h with h
   subst h
   exact hz
  ·cases hq:qnM (y::r) n st with
   | none=>rw[hq] at h;cases h
   | some z =>
    rw[hq] at h
    injection h with h
    subst h
    exact qrX (o:=y::r) hq
end
def Old(H H':List DO):Prop:=∀j,hget H j≠.new→hget H' j≠.new
theorem Old.refl(H:List DO):Old H H:=fun _ h=>h
theorem Old.trans{A B C:List DO}(h:Old A B)(k:Old B C):Old A C:=fun j hj=>k j (h j hj)
theorem Old.put{H H':List DO}(h:Old H H')(k:Nat){o:DO}(ho:o≠.new):Old H (hput H' k o):=fun j hj=>by
 rw[qq]
 split
 ·exact ho
 ·exact h j hj
theorem Fz.old{H H':List DO}(h:Fz H H'):Old H H':=fun j hj=>by
 rcases h.2 j with h1 | ⟨t,e,l,_,h2⟩
 ·rw[h1];exact hj
 ·rw[h2];exact nofun
section
variable {w0:Bs} {S:Nat→Prop} {a:Act} {w:World}
end
mutual
def renD(σ:Nat→Nat):DV→DV
 | .agg l=>.agg (renL σ l)
 | .tup l=>.tup (renL σ l)
 | .rp l=>.rp (renL σ l)
 | .fn f a c=>.fn f (renL σ a) (renL σ c)
 | .ref k=>.ref (σ k)
 | .sub k lo n=>.sub (σ k) lo n
 | .ptr k o=>.ptr (σ k) o
 | .ep k i o=>.ep (σ k) i o
 | .mp k=>.mp (σ k)
 | .any=>.any
 | .val v=>.val v
 | .sl t l=>.sl t l
def renL(σ:Nat→Nat):List DV→List DV
 | []=>[]
 | d::l=>renD σ d::renL σ l
end
mutual
theorem qus{σ:Nat→Nat}{g g2:Nat→Option Cn}(h:∀k,g2 (σ k)=g k):∀d:DV,conc g2 (renD σ d)=conc g d
 | .any=>rfl
 | .val _=>rfl
 | .sl _ _=>by simp only[renD,conc]
 | .agg l=>by simp only[renD,conc,qir h l]
 | .tup l=>by simp only[renD,conc,qir h l]
 | .rp l=>by simp only[renD,conc,qir h l]
 | .fn f a c=>by simp only[renD,conc,qir h a,qir h c]
 | .ref k=>by simp only[renD,conc,h]
 | .sub k lo n=>by simp only[renD,conc,h]
 | .ptr k o=>by simp only[renD,conc,h]
 | .ep k i o=>by simp only[renD,conc,h]
 | .mp k=>by simp only[renD,conc,h]
theorem qir{σ:Nat→Nat}{g g2:Nat→Option Cn}(h:∀k,g2 (σ k)=g k):∀l:List DV,qa g2 (renL σ l)=qa g l
 | []=>rfl
 | d::l=>by simp only[renL,qa,qus h d,qir h l]
end
def renO(σ:Nat→Nat)(z:Bool):DO→DO
 | .row _ t e l=>.row z t e l
 | .blk _ tt cs=>.blk z tt (renL σ cs)
 | .map _ kt et l=>.map z kt et l
 | o=>o
def qm1:DO→DO→Bool
 | .row _ t _ _,.row _ t' _ _=>Nat.beq t.sz t'.sz
 | .blk _ _ _,.blk _ _ _=>true
 | .map _ _ _ _,.map _ _ _ _=>true
 | _,_=>false
def qlN:DO→Bool
 | .row _ _ _ _=>true
 | .blk _ _ _=>true
 | .map _ _ _ _=>true
 | _=>false
theorem qvK(σ:Nat→Nat)(z:Bool)(o:DO)(v:Value):(renO σ z o).cn v=o.cn v:=by cases o<;>rfl
theorem qxl{σ:Nat→Nat}{z:Bool}{o:DO}(h:qlN o=true):qef (renO σ z o)=z:=by cases o<;>first | rfl | cases h
theorem qxm{σ:Nat→Nat}{z:Bool}{o:DO}(h:qlN o=true):renO σ z o≠.new:=by cases o<;>first | (cases h;done) | exact nofun
theorem qzZ{σ:Nat→Nat}{g g2:Nat→Option Cn}(h:∀k,g2 (σ k)=g k)(z:Bool)(o:DO)(v:Value):heOf g2 v (renO σ z o)=heOf g v o:=by
 cases o with
 | blk z' tt cs=>show heB v tt (qa g2 (renL σ cs))=heB v tt (qa g cs);rw[qir h]
 | _=>rfl
theorem qle{o o':DO}(h:qm1 o o'=true):qlN o=true∧qlN o'=true:=by
 cases o<;>cases o'<;>first | exact ⟨rfl,rfl⟩ | cases h
theorem qvL{o o':DO}(h:qm1 o o'=true)(v:Value):o'.cn v=o.cn v:=by
 cases o<;>cases o'<;>first | cases h;done | rfl | skip
 simp only[qm1] at h
 simp only[DO.cn,Nat.eq_of_beq_eq_true h]
theorem qtk{o o':DO}(h:qm1 o o'=true){g g':Nat→Option Cn}{v:Value}{b:Nat}(hb:(heOf g v o).owns b):(heOf g' v o').owns b:=by
 cases o<;>cases o'<;>first | cases h;done | exact hb | skip
 ·rename_i z tt cs z' tt' cs'
  have hb':(heB v tt (qa g cs)).owns b:=hb
  show (heB v tt' (qa g' cs')).owns b
  unfold heB at hb' ⊢
  split at hb'
  ·exact hb'
  ·exact hb'
 ·rename_i z kt et l z' kt' et' l'
  have hb':(heM v kt et l).owns b:=hb
  show (heM v kt' et' l').owns b
  unfold heM at hb' ⊢
  split at hb'
  ·exact hb'
  ·exact hb'
def qeC:List Nat→Nat→Option Nat
 | [],_=>none
 | a::l,i=>match Nat.beq a i with
  | true=>some 0
  | false=>(qeC l i).map (· + 1)
theorem qlO:∀{l:List Nat} {i k:Nat},qeC l i=some k→l[k]?=some i
 | a::l,i,k,h=>by
  unfold qeC at h
  split at h
  ·rename_i ha;injection h with h;subst h;rw[show a=i by simpa using ha];rfl
  ·cases hq:qeC l i with
   | none=>rw[hq] at h;cases h
   | some q =>
    rw[hq] at h;injection h with h;subst h
    have:=qlO (l:=l) hq
    simpa using this
theorem qow:∀{l:List Nat} {i:Nat},qeC l i=none→i∉l
 | [],i,_=>by simp
 | a::l,i,h=>by
  unfold qeC at h
  split at h
  ·cases h
  ·rename_i ha
   have ha:a≠i:=Nat.ne_of_beq_eq_false ha
   cases hq:qeC l i with
   | none=>simp only[List.mem_cons,not_or];exact ⟨fun e=>ha e.symm,qow hq⟩
   | some q=>rw[hq] at h;cases h
theorem qyH{l:List Nat}(hn:l.Nodup){i j a:Nat}(hi:l[i]?=some a)(hj:l[j]?=some a):i=j:=by
 obtain ⟨h1,q1⟩:=List.getElem?_eq_some_iff.1 hi
 obtain ⟨h2,q2⟩:=List.getElem?_eq_some_iff.1 hj
 exact (List.getElem_inj hn).1 (q1.trans q2.symm)
theorem qyI{l:List Nat}(hn:l.Nodup){i k:Nat}(h:l[k]?=some i):qeC l i=some k:=by
 cases hq:qeC l i with
 | none=>exact absurd (List.mem_of_getElem? h) (qow hq)
 | some q=>rw[qyH hn h (qlO hq)]
theorem ql6(H:List DO)(i:Nat):hget H i=H[i]?.getD .new:=by
 induction H generalizing i with
 | nil=>simp[hget]
 | cons o H ih=>cases i with
  | zero=>simp[hget]
  | succ i=>simp[hget,ih]
theorem qwr(f:Nat→DO)(n i:Nat):hget ((List.range n).map f) i=if i<n then f i else .new:=by
 rw[ql6,List.getElem?_map]
 by_cases h:i<n
 ·rw[List.getElem?_range h,if_pos h];rfl
 ·rw[if_neg h,List.getElem?_eq_none (by simpa using h)];rfl
def sig(ρ:List Nat)(id n1 n:Nat)(k:Nat):Nat:=match ρ[k]? with
 | some a=>a
 | none=>match Nat.blt k n1 with
  | true=>id+(k-ρ.length)
  | false=>n+k
def sigI(ρ:List Nat)(id n1:Nat)(i:Nat):Option Nat:=match qeC ρ i with
 | some k=>some k
 | none=>match Nat.ble id i&&Nat.blt (ρ.length+(i-id)) n1 with
  | true=>some (ρ.length+(i-id))
  | false=>none
def qiS(H H1:List DO)(ρ:List Nat)(id:Nat)(i:Nat):DO:=match sigI ρ id H1.length i with
 | some k=>renO (sig ρ id H1.length H.length) (qef (hget H i)) (hget H1 k)
 | none=>hget H i
def qgd(H H1:List DO)(ρ:List Nat)(id:Nat):List DO:=(List.range H.length).map (qiS H H1 ρ id)
def okJ(H H1:List DO)(ρ:List Nat)(id:Nat):Bool:=Nat.ble ρ.length H1.length&&(List.range H1.length).all fun k=>match ρ[k]? with
 | some a=>qm1 (hget H a) (hget H1 k)
 | none=>qcI H (id+(k-ρ.length))&&qlN (hget H1 k)
section
variable {H H1:List DO} {ρ:List Nat} {id:Nat}
theorem qnN(h:okJ H H1 ρ id=true){k a:Nat}(hk:ρ[k]?=some a):qm1 (hget H a) (hget H1 k)=true:=by
 unfold okJ at h
 rw[Bool.and_eq_true] at h
 have h1:=Nat.le_of_ble_eq_true h.1
 have:=List.all_eq_true.1 h.2 k (List.mem_range.2 (by have:=(List.getElem?_eq_some_iff.1 hk).1;omega))
 rw[hk] at this
 exact this
theorem qqr(h:okJ H H1 ρ id=true){k:Nat}(h1:ρ.length≤k)(h2:k<H1.length):hget H (id+(k-ρ.length)) = .new∧id+(k-ρ.length)<H.length∧qlN (hget H1 k)=true:=by
 unfold okJ at h
 rw[Bool.and_eq_true] at h
 have:=List.all_eq_true.1 h.2 k (List.mem_range.2 h2)
 rw[List.getElem?_eq_none h1] at this
 simp only[Bool.and_eq_true] at this
 have h3:=qbC this.1
 exact ⟨h3.1,h3.2,this.2⟩
theorem qxn(h:okJ H H1 ρ id=true):ρ.length≤H1.length:=by
 unfold okJ at h
 rw[Bool.and_eq_true] at h
 exact Nat.le_of_ble_eq_true h.1
theorem qri(h:okJ H H1 ρ id=true){k:Nat}(h2:k<H1.length):qlN (hget H1 k)=true:=by
 rcases Nat.lt_or_ge k ρ.length with h1 | h1
 ·exact (qle (qnN h (List.getElem?_eq_getElem h1))).2
 ·exact (qqr h h1 h2).2.2
theorem qxo(h:okJ H H1 ρ id=true){k a:Nat}(hk:ρ[k]?=some a):a<H.length:=qbN fun e=>by
 have:=(qle (qnN h hk)).1
 rw[e] at this;cases this
theorem qhV(h:okJ H H1 ρ id=true){i k:Nat}(hk:sigI ρ id H1.length i=some k):k<H1.length∧i<H.length∧((ρ[k]?=some i)∨(ρ.length≤k∧i=id+(k-ρ.length)∧hget H i = .new)):=by
 unfold sigI at hk
 split at hk
 ·rename_i q hq
  injection hk with hk
  subst hk
  have h1:=qlO hq
  exact ⟨Nat.lt_of_lt_of_le (List.getElem?_eq_some_iff.1 h1).1 (qxn h),qxo h h1,.inl h1⟩
 ·split at hk
  ·rename_i hb
   injection hk with hk
   subst hk
   rw[Bool.and_eq_true] at hb
   have hb1:=Nat.le_of_ble_eq_true hb.1
   have hb2:ρ.length+(i-id)<H1.length:=Nat.le_of_ble_eq_true hb.2
   have h3:=qqr h (Nat.le_add_right _ _) hb2
   rw[show id+(ρ.length+(i-id)-ρ.length)=i by omega] at h3
   exact ⟨hb2,h3.2.1,.inr ⟨Nat.le_add_right _ _,by omega,h3.1⟩⟩
  ·cases hk
theorem qyJ(h:okJ H H1 ρ id=true)(hn:ρ.Nodup){k:Nat}(hk:k<H1.length):sigI ρ id H1.length (sig ρ id H1.length H.length k)=some k:=by
 unfold sig
 cases hq:ρ[k]? with
 | some a =>
  simp only
  unfold sigI
  rw[qyI hn hq]
 | none =>
  have h1:ρ.length≤k:=List.getElem?_eq_none_iff.1 hq
  have hb:Nat.blt k H1.length=true:=Nat.ble_eq_true_of_le hk
  simp only[hb]
  have h3:=qqr h h1 hk
  unfold sigI
  have hp:qeC ρ (id+(k-ρ.length))=none:=by
   cases hq2:qeC ρ (id+(k-ρ.length)) with
   | none=>rfl
   | some q =>
    have:=(qle (qnN h (qlO hq2))).1
    rw[h3.1] at this;cases this
  rw[hp]
  simp only[show ρ.length+(id+(k-ρ.length)-id)=k by omega]
  rw[show Nat.ble id (id+(k-ρ.length))=true from Nat.ble_eq_true_of_le (by omega),hb]
  rfl
theorem qAy(h:okJ H H1 ρ id=true){k:Nat}(hk:k<H1.length):sig ρ id H1.length H.length k<H.length:=by
 unfold sig
 cases hq:ρ[k]? with
 | some a=>exact qxo h hq
 | none =>
  have h1:ρ.length≤k:=List.getElem?_eq_none_iff.1 hq
  have hb:Nat.blt k H1.length=true:=Nat.ble_eq_true_of_le hk
  simp only[hb]
  exact (qqr h h1 hk).2.1
theorem qm2:(qgd H H1 ρ id).length=H.length:=by simp[qgd]
theorem qgv(i:Nat):hget (qgd H H1 ρ id) i=if i<H.length then qiS H H1 ρ id i else .new:=qwr _ _ _
def qfE(m m1:Nat→Value)(ρ:List Nat)(id n1:Nat)(i:Nat):Value:=match sigI ρ id n1 i with
 | some k=>m1 k
 | none=>m i
variable {m m1:Nat→Value}
theorem qtl(h:okJ H H1 ρ id=true)(hn:ρ.Nodup)(k:Nat):gOf (qfE m m1 ρ id H1.length) (qgd H H1 ρ id) (sig ρ id H1.length H.length k)=gOf m1 H1 k:=by
 unfold gOf
 rcases Nat.lt_or_ge k H1.length with hk | hk
 ·rw[qgv,if_pos (qAy h hk)]
  unfold qiS qfE
  rw[qyJ h hn hk]
  simp only[qvK]
 ·have e1:hget H1 k = .new:=by rw[ql6,List.getElem?_eq_none hk];rfl
  have e2:sig ρ id H1.length H.length k=H.length+k:=by
   unfold sig
   rw[List.getElem?_eq_none (by have:=qxn h;omega)]
   have hb:Nat.blt k H1.length=false:=by
    cases hq:Nat.blt k H1.length with
    | false=>rfl
    | true=>have:k<H1.length:=Nat.le_of_ble_eq_true hq;omega
   simp only[hb]
  rw[e1,e2,qgv,if_neg (by omega)];rfl
theorem qut(h:okJ H H1 ρ id=true)(hm:∀k a,ρ[k]?=some a→m1 k=m a){w:World}{A:Nat→Prop}:Gle w A (gOf m H) (gOf (qfE m m1 ρ id H1.length) (qgd H H1 ρ id)):=fun i=>by
 unfold gOf
 rw[qgv]
 cases hq:sigI ρ id H1.length i with
 | some k =>
  obtain ⟨h1,h2,h3⟩:=qhV h hq
  rw[if_pos h2]
  unfold qiS qfE
  rw[hq]
  simp only[qvK]
  rcases h3 with h3 | ⟨_,_,h3⟩
  ·right;left
   rw[hm k i h3,qvL (qnN h h3)]
  ·left;rw[h3];rfl
 | none =>
  by_cases hi:i<H.length
  ·right;left
   rw[if_pos hi]
   unfold qiS qfE
   rw[hq]
  ·left
   rw[ql6,List.getElem?_eq_none (by omega)];rfl
end
def rest(m:Nat→Value)(H:List DO)(ρ:List Nat):List HE:=(List.range H.length).map fun i=>match qeC ρ i with
 | some _=>he0
 | none=>heOf (gOf m H) (m i) (hget H i)
theorem qsN{m:Nat→Value}{H:List DO}{ρ:List Nat}{i:Nat}(h:i<H.length):(rest m H ρ)[i]?=some (match qeC ρ i with | some _=>he0 | none=>heOf (gOf m H) (m i) (hget H i)):=by
 unfold rest
 rw[List.getElem?_map,List.getElem?_range h];rfl
theorem qrj{m:Nat→Value}{H:List DO}{ρ:List Nat}:(rest m H ρ).length=H.length:=by simp[rest]
theorem nodup_range{f:Nat→Nat}{n:Nat}(h:∀i j,i<n→j<n→f i=f j→i=j):((List.range n).map f).Nodup:=by
 rw[List.Nodup,List.pairwise_map]
 refine List.Pairwise.imp_of_mem ?_ List.nodup_range
 intro a b ha hb hne e
 exact hne (h a b (List.mem_range.1 ha) (List.mem_range.1 hb) e)
section
variable {P:Program} {w0:Bs} {S:Nat→Prop} {B:Tab P} {a:Act} {w:World} {m m1 m2:Nat→Value} {t:List AV} {H H1:List DO} {ρ:List Nat} {id:Nat}
theorem qz0{g:Nat→Option Cn}{v:Value}{o:DO}:¬(heOf g v o).isGhost:=fun h=>by
 have:=qbm (g:=g) (v:=v) o
 generalize heOf g v o=e at *
 cases e with
 | ghost=>exact this
 | _=>exact h
def alt(ρ:List Nat)(n i:Nat):Nat:=match qeC ρ i with
 | some _=>n+i
 | none=>i
theorem qkO{ρ:List Nat}{n i k:Nat}(h:qeC ρ i=some k):alt ρ n i=n+i:=by unfold alt;rw[h]
theorem qkP{ρ:List Nat}{n i:Nat}(h:qeC ρ i=none):alt ρ n i=i:=by unfold alt;rw[h]
theorem SRel.split(hr:SRel w0 S t (hes m H) a w)(hn:ρ.Nodup)(hlt:∀(k j:Nat),ρ[k]?=some j→j<H.length):SRel w0 S t ((ρ.map fun j=>heOf (gOf m H) (m j) (hget H j))++rest m H ρ) a w:=by
 have h0:=hr.he0s H.length
 refine h0.pick (ρ++(List.range H.length).map (alt ρ H.length)) ?_ _ (by simp[qrj]) fun k j e hk he=>?_
 ·refine List.nodup_append.2 ⟨hn,nodup_range fun i j hi hj e=>?_,fun x hx y hy e=>?_⟩
  ·cases h1:qeC ρ i<;>cases h2:qeC ρ j
   ·rw[qkP h1,qkP h2] at e;exact e
   ·rw[qkP h1,qkO h2] at e;omega
   ·rw[qkO h1,qkP h2] at e;omega
   ·rw[qkO h1,qkO h2] at e;omega
  ·subst e
   obtain ⟨i,hi,e⟩:=List.mem_map.1 hy
   obtain ⟨q,hq⟩:=List.getElem?_of_mem hx
   have h1:=hlt q x hq
   have hi:=List.mem_range.1 hi
   cases h2:qeC ρ i with
   | some q2=>rw[qkO h2] at e;omega
   | none =>
    rw[qkP h2] at e
    subst e
    exact qow h2 hx
 ·rcases Nat.lt_or_ge k ρ.length with hlk | hlk
  ·rw[List.getElem?_append_left hlk] at hk
   rw[List.getElem?_append_left (by simpa using hlk),List.getElem?_map,hk] at he
   injection he with he
   have h1:=hlt k j hk
   rw[List.getElem?_append_left (by rw[qj];exact h1),q8,if_pos h1,← he]
  ·rw[List.getElem?_append_right hlk,List.getElem?_map] at hk
   rw[List.getElem?_append_right (by simpa using hlk),List.length_map] at he
   have hlt2:k-ρ.length<H.length:=by
    have:=(List.getElem?_eq_some_iff.1 he).1
    rwa [qrj] at this
   rw[List.getElem?_range hlt2] at hk
   rw[qsN hlt2] at he
   injection he with he
   injection hk with hk
   subst he
   cases hq:qeC ρ (k-ρ.length) with
   | some q =>
    rw[qkO hq] at hk
    rw[← hk,List.getElem?_append_right (by rw[qj];omega),qj,List.getElem?_replicate,if_pos (by omega)]
   | none =>
    rw[qkP hq] at hk
    rw[← hk,List.getElem?_append_left (by rw[qj];exact hlt2),q8,if_pos hlt2]
theorem Like.lend{T T2:List DV}{H2:List DO}(h:Like m T H ρ m2 T2 H2)(hr:SRel w0 S t ((ρ.map fun j=>heOf (gOf m H) (m j) (hget H j))++rest m H ρ) a w):SRel w0 S t (hes m2 H2++rest m H ρ) a w:=by
 refine hr.conv rfl (by simp[qj,h.len]) (fun k e e' he he'=>?_) fun hA i hi=>hi.mono fun b _ hb=>hA b hb
 have hAA:∀b,Al w0 S ((ρ.map fun j=>heOf (gOf m H) (m j) (hget H j))++rest m H ρ) b→Al w0 S (hes m2 H2++rest m H ρ) b:=fun b hb=>⟨hb.1,hb.2.1,fun e1 he1 hb1=>by
  rcases List.mem_append.1 he1 with he1 | he1
  ·obtain ⟨k,hk,rfl⟩:=List.mem_iff_getElem.1 he1
   rw[qj] at hk
   have h3:=q8 m2 H2 k
   rw[if_pos hk,List.getElem?_eq_getElem (by rw[qj];exact hk)] at h3
   injection h3 with h3
   rw[h3] at hb1
   have hj:ρ[k]?=some (ρ[k]'(by rw[← h.len];exact hk)):=List.getElem?_eq_getElem _
   rw[h.mv k _ hj] at hb1
   exact hb.2.2 _ (List.mem_append_left _ (List.mem_map.2 ⟨_,List.mem_of_getElem? hj,rfl⟩)) ((h.obj k _ hj).owns hb1)
  ·exact hb.2.2 e1 (List.mem_append_right _ he1) hb1⟩
 rcases Nat.lt_or_ge k ρ.length with hlk | hlk
 ·rw[List.getElem?_append_left (by simpa using hlk),List.getElem?_map,List.getElem?_eq_getElem hlk] at he
  rw[List.getElem?_append_left (by rw[qj,h.len];exact hlk),q8,if_pos (by rw[h.len];exact hlk)] at he'
  injection he with he
  injection he' with he'
  have hj:ρ[k]?=some ρ[k]:=List.getElem?_eq_getElem hlk
  subst he he'
  rw[h.mv k _ hj]
  exact ⟨qbm _,.inr ⟨qbm _,fun b hb=>(h.obj k _ hj).owns hb⟩,fun hok=>(h.obj k _ hj).ok hAA hok⟩
 ·rw[List.getElem?_append_right (by simpa using hlk),List.length_map] at he
  rw[List.getElem?_append_right (by rw[qj,h.len];exact hlk),qj,h.len] at he'
  rw[he] at he'
  injection he' with he'
  subst he'
  have hp:e.proper:=by
   have hlt2:=(List.getElem?_eq_some_iff.1 he).1
   rw[qrj] at hlt2
   rw[qsN hlt2] at he
   injection he with he
   subst he
   split
   ·exact trivial
   ·exact qbm _
  exact ⟨hp,.inr ⟨hp,fun b hb=>hb⟩,fun hok=>HE.ok_mono hok fun b _ hb=>hAA b hb⟩
theorem SRel.join{t'':List AV}(hok:okJ H H1 ρ id=true)(hn:ρ.Nodup)(hm:∀(k j:Nat),ρ[k]?=some j→m1 k=m j)(hr:SRel w0 S t (hes m1 H1++rest m H ρ) a w)(hl:t''.length=t.length)(ht:∀(A:Nat→Prop) (i:Nat) (u:Value),Enc w A u (AV.get t i)→Enc w A u (AV.get t'' i)) :
  SRel w0 S t'' (hes (qfE m m1 ρ id H1.length) (qgd H H1 ρ id)) a w:=by
 obtain ⟨E,hE⟩:∃E:List HE,E=(List.range H.length).map fun i=>match sigI ρ id H1.length i with | some k=>heOf (gOf m1 H1) (m1 k) (hget H1 k) | none=>heOf (gOf m H) (m i) (hget H i):=⟨_,rfl⟩
 have hEat:∀i,i<H.length→E[i]?=some (match sigI ρ id H1.length i with | some k=>heOf (gOf m1 H1) (m1 k) (hget H1 k) | none=>heOf (gOf m H) (m i) (hget H i)):=fun i hi=>by
  rw[hE,List.getElem?_map,List.getElem?_range hi];rfl
 have hp:=hr.pick ((List.range H.length).map fun i=>match sigI ρ id H1.length i with | some k=>k | none=>H1.length+i) (nodup_range fun i j hi hj e=>by
  split at e
  ·rename_i k hk
   obtain ⟨a1,_,a3⟩:=qhV hok hk
   split at e
   ·rename_i k' hk'
    subst e
    obtain ⟨b1,_,b3⟩:=qhV hok hk'
    rcases a3 with a3 | ⟨a3,a4,_⟩
    ·rcases b3 with b3 | ⟨b3,_,_⟩
     ·rw[a3] at b3;injection b3
     ·have:=(List.getElem?_eq_some_iff.1 a3).1;omega
    ·rcases b3 with b3 | ⟨_,b4,_⟩
     ·have:=(List.getElem?_eq_some_iff.1 b3).1;omega
     ·omega
   ·omega
  ·split at e
   ·rename_i k' hk'
    have:=(qhV hok hk').1
    omega
   ·omega) E (by rw[hE];simp) fun k j e hk he=>by
  have hlt:k<H.length:=by
   have:=(List.getElem?_eq_some_iff.1 hk).1
   simpa using this
  rw[List.getElem?_map,List.getElem?_range hlt] at hk
  rw[hEat k hlt] at he
  injection he with he
  injection hk with hk
  dsimp only at hk
  subst he
  cases hq:sigI ρ id H1.length k with
  | some q =>
   rw[hq] at hk
   simp only at hk ⊢
   have:=(qhV hok hq).1
   rw[← hk,List.getElem?_append_left (by rw[qj];exact this),q8,if_pos this]
  | none =>
   rw[hq] at hk
   simp only at hk ⊢
   have hpn:qeC ρ k=none:=by
    unfold sigI at hq
    split at hq
    ·cases hq
    ·assumption
   rw[← hk,List.getElem?_append_right (by rw[qj];omega),qj,show H1.length+k-H1.length=k by omega,qsN hlt,hpn]
 have hg:∀A,Gle w A (gOf m H) (gOf (qfE m m1 ρ id H1.length) (qgd H H1 ρ id)):=fun A=>qut hok hm
 have hs:=fun k=>qtl (m:=m) (m1:=m1) hok hn k
 have hobj:∀(i:Nat) (e e':HE),E[i]?=some e→(hes (qfE m m1 ρ id H1.length) (qgd H H1 ρ id))[i]?=some e'→e.proper∧e'.proper∧(∀b,e'.owns b→e.owns b)∧∀A A':Nat→Prop,(∀b,A b→A' b)→e.ok w w0 A→e'.ok w w0 A':=fun i e e' he he'=>by
  have hlt:i<H.length:=by
   have:=(List.getElem?_eq_some_iff.1 he).1
   rw[hE] at this
   simpa using this
  rw[hEat i hlt] at he
  rw[q8,qm2,if_pos hlt,qgv,if_pos hlt] at he'
  injection he with he
  injection he' with he'
  subst he he'
  unfold qiS
  cases hq:sigI ρ id H1.length i with
  | some k =>
   simp only
   have e1:qfE m m1 ρ id H1.length i=m1 k:=by unfold qfE;rw[hq]
   rw[e1,qzZ hs]
   exact ⟨qbm _,qbm _,fun b hb=>hb,fun A A' hA hok=>HE.ok_mono hok fun b _ hb=>hA b hb⟩
  | none =>
   simp only
   have e1:qfE m m1 ρ id H1.length i=m i:=by unfold qfE;rw[hq]
   rw[e1]
   exact ⟨qbm _,qbm _,fun b hb=>qbx hb,fun A A' hA hok=>(qlb hA (hg A') _ _).2 hok⟩
 have hlen:(hes (qfE m m1 ρ id H1.length) (qgd H H1 ρ id)).length=E.length:=by rw[qj,qm2,hE];simp
 have hAA:∀b,Al w0 S E b→Al w0 S (hes (qfE m m1 ρ id H1.length) (qgd H H1 ρ id)) b:=fun b hb=>⟨hb.1,hb.2.1,fun e' he' hb'=>by
  obtain ⟨i,hi,rfl⟩:=List.mem_iff_getElem.1 he'
  have hi2:i<E.length:=by rw[← hlen];exact hi
  exact hb.2.2 _ (List.getElem_mem hi2) ((hobj i _ _ (List.getElem?_eq_getElem hi2) (List.getElem?_eq_getElem hi)).2.2.1 b hb')⟩
 refine hp.conv hl hlen (fun i e e' he he'=>?_) fun hA i hi=>ht _ i _ (hi.mono fun b _ hb=>hA b hb)
 obtain ⟨h1,h2,h3,h4⟩:=hobj i e e' he he'
 exact ⟨h2,.inr ⟨h1,h3⟩,h4 _ _ hAA⟩
end
def resW(r:Nat)(T:List DV):DV:=match r with
 | 0=>.val (.tuple #[])
 | 1=>lget T 0
 | r=>.tup (T.take r)
structure Cw (P:Program) where
 f:FuncId
 p:Nat
 ins:List It
 r:Nat
 outs:List (List It)
 M:qi ins→Option (qdp outs)
 ok:∀x y,M x=some y→∀m0,Sane m0 (mkS ins p x).H→MC P f (qa (gOf m0 (mkS ins p x).H) (mkS ins p x).T) (hes m0 (mkS ins p x).H) fun v HH =>
  ∃m1,Sane m1 (mkS (qp outs y).1 (r+(mkS ins p x).H.length) (qp outs y).2).H∧(∀k,k<(mkS ins p x).H.length→m1 k=m0 k)∧v=conc (gOf m1 (mkS (qp outs y).1 (r+(mkS ins p x).H.length) (qp outs y).2).H) (resW r (mkS (qp outs y).1 (r+(mkS ins p x).H.length) (qp outs y).2).T)∧HH=hes m1 (mkS (qp outs y).1 (r+(mkS ins p x).H.length) (qp outs y).2).H
def qnO{P:Program}(c:Cw P)(id:Nat)(F:List Nat)(H':List DO)(ρ:List Nat)(l:List It)(y:qi l):PT SR :=
 match okJ H' (mkS l (c.r+ρ.length) y).H ρ id with
 | true=>.ret ⟨renD (sig ρ id (mkS l (c.r+ρ.length) y).H.length H'.length) (resW c.r (mkS l (c.r+ρ.length) y).T),qgd H' (mkS l (c.r+ρ.length) y).H ρ id,ρ++(F++(List.range ((mkS l (c.r+ρ.length) y).H.length-ρ.length)).map (id + ·))⟩
 | false=>.fail
def qlP{P:Program}(c:Cw P)(id:Nat)(H:List DO)(ds:List DV):PT SR :=
 match Nat.beq ds.length c.p with
 | false=>.fail
 | true=>match qu c.ins ds H [] with
  | none=>.fail
  | some (x,H',ρ)=>.bind (qdp c.outs) (c.M x) fun y=>qrW c.outs y (qnO c id (tchI c.ins ds H []) H' ρ)
section
variable {P:Program} {w0:Bs} {S:Nat→Prop} {B:Tab P} {a:Act} {w:World} {m:Nat→Value} {st:St}
theorem qvM{H H1:List DO}{ρ:List Nat}{id:Nat}(h:okJ H H1 ρ id=true):Kl H (qgd H H1 ρ id):=fun i hi=>by
 have hlt:i<H.length:=qbN fun e=>by rw[e] at hi;cases hi
 rw[qgv,if_pos hlt]
 unfold qiS
 cases hq:sigI ρ id H1.length i with
 | some k =>
  obtain ⟨h1,_,h3⟩:=qhV h hq
  simp only
  rw[qxl (qri h h1)]
  refine ⟨hi,fun g g' v b hb=>?_⟩
  rcases h3 with h3 | ⟨_,_,h3⟩
  ·have:=qtk (qnN h h3) (g':=g') hb
   generalize hget H1 k=o at *
   cases o with
   | blk z tt cs=>exact qot this
   | _=>exact this
  ·rw[h3] at hi;cases hi
 | none=>exact ⟨hi,fun g g' v b hb=>qbx hb⟩
theorem quu{c:Cw P}{o:Oper}{x:Operand}{args:List Operand}{tys:Array TypeId}{df dc ds:List DV}{id:Nat}{r:SR}(ho:o.op = .call ⟨.value x,args.toArray,tys⟩)
  (hx:evD st.T x = .fn c.f df dc∨(df=[]∧dc=[]∧evD st.T x = .val (.func (.func c.f) #[] #[]))) (hd:df++args.map (evD st.T)++dc=ds) (h:(qlP c id st.H ds).Is r):StepW P o st ⟨qt st.T o.dst r.v,r.H⟩:=by
 unfold qlP at h
 split at h
 ·exact h.elim
 rename_i hlen
 have hlen:ds.length=c.p:=by simpa using hlen
 split at h
 ·exact h.elim
 rename_i z H' ρ hz
 obtain ⟨y0,hy,h⟩:=h
 have h:=qov h
 have hcok:=c.ok z y0 hy
 obtain ⟨ll,hll⟩:∃ll,ll=(qp c.outs y0).1:=⟨_,rfl⟩
 obtain ⟨y,hyy⟩:∃y:qi (qp c.outs y0).1,y=(qp c.outs y0).2:=⟨_,rfl⟩
 rw[← hyy] at h hcok
 clear hyy
 generalize (qp c.outs y0).1=louts at *
 unfold qnO at h
 have hok:okJ H' (mkS louts (c.r+ρ.length) y).H ρ id=true:=by
  cases hq:okJ H' (mkS louts (c.r+ρ.length) y).H ρ id with
  | true=>rfl
  | false=>rw[hq] at h;exact h.elim
 rw[hok] at h
 cases h
 obtain ⟨b1,b2⟩:=qb1 _ _ _ _ _ _ _ hz
 refine ⟨b1.kl.trans (qvM hok),?_⟩
 intro w0 S F hF m a w hr0 K Q hK
 have hr:=(hr0.fz b1).1
 obtain ⟨m2,hl⟩:=b2 m m (List.replicate c.p .any) [] ⟨.nil,rfl,by rw[List.length_replicate,hlen],fun k j h=>by simp at h,fun k j h=>by simp at h,fun i=>by rw[qrh];exact fun w A u _=>.any u⟩
 change Like m ds H' ρ m2 (mkS c.ins c.p z).T (mkS c.ins c.p z).H at hl
 have hq:(mkS c.ins c.p z).H.length=ρ.length:=hl.len
 have hSane:Sane m2 (mkS c.ins c.p z).H:=fun k hk=>by
  have hlt:=qbN hk
  have hj:ρ[k]?=some (ρ[k]'(by rw[← hl.len];exact hlt)):=List.getElem?_eq_getElem _
  rw[hl.mv k _ hj]
  exact hr.2.1 _ (hl.obj k _ hj).ne
 have hc:=hcok m2 hSane
 rw[hq] at hc
 have hltρ:∀(k j:Nat),ρ[k]?=some j→j<H'.length:=fun k j hk=>qbN (hl.obj k j hk).ne
 have hr1:=hl.lend (hr.2.2.split hl.nd hltρ)
 have hX:=hr1.ev x
 have hargs:∀q,q∈args→Enc w (Al w0 S (hes m2 (mkS c.ins c.p z).H++rest m H' ρ)) (a.eval q) (evO (qa (gOf m H') st.T) q):=fun q _=>hr1.ev q
 obtain ⟨first,caps,e1,e2,e3,e4,e5⟩:∃first caps:Array Value,a.eval x = .func (.func c.f) first caps∧first.size=df.length∧caps.size=dc.length∧(∀i d,(qa (gOf m H') df)[i]?=some d→Enc w (Al w0 S (hes m2 (mkS c.ins c.p z).H++rest m H' ρ)) (first.getD i undef) d)∧(∀i d,(qa (gOf m H') dc)[i]?=some d→Enc w (Al w0 S (hes m2 (mkS c.ins c.p z).H++rest m H' ρ)) (caps.getD i undef) d):=by
  rcases hx with hx | ⟨rfl,rfl,hx⟩
  ·rw[qfU,hx] at hX
   simp only[conc] at hX
   generalize a.eval x=X at *
   cases hX with
   | fn _ p q _ _ e f g h=>exact ⟨p,q,rfl,by rw[e,qe],by rw[f,qe],g,h⟩
  ·rw[qfU,hx] at hX
   exact ⟨#[],#[],hX.val_eq,rfl,rfl,fun i d h=>by simp[qa] at h,fun i d h=>by simp[qa] at h⟩
 have hvs:∀i d,(qa (gOf m H') ds)[i]?=some d→Enc w (Al w0 S (hes m2 (mkS c.ins c.p z).H++rest m H' ρ)) ((first++args.toArray.map a.eval++caps).getD i undef) d:=by
  have e6:qa (gOf m H') ds=qa (gOf m H') df++args.map (evO (qa (gOf m H') st.T))++qa (gOf m H') dc:=by
   rw[← hd,qcP,qcP]
   congr 2
   rw[qb4 (args.map _),List.map_map]
   exact List.map_congr_left fun q _=>(qfU st.T q).symm
  rw[e6]
  exact qeW (by simp[e2,qe]) (qeW (by simp[e2,qe]) e4 (qkF hargs)) e5
 have hsz:(first++args.toArray.map a.eval++caps).size=ds.length:=by rw[← hd];simp[e2,e3]
 have hng:∀e,e∈hes m2 (mkS c.ins c.p z).H→¬e.isGhost:=fun e he=>by
  obtain ⟨k,hk,rfl⟩:=List.mem_iff_getElem.1 he
  rw[qj] at hk
  have h3:=q8 m2 (mkS c.ins c.p z).H k
  rw[if_pos hk,List.getElem?_eq_getElem (by rw[qj];exact hk)] at h3
  injection h3 with h3
  rw[h3]
  exact qz0
 have hg:(∀e,e∈hes m2 (mkS c.ins c.p z).H→¬e.isGhost)∨((∀e,e∈rest m H' ρ→¬e.isGhost)∧HE.nodef∈hes m2 (mkS c.ins c.p z).H++rest m H' ρ):=.inl hng
 have hin:=hr1.into (args:=qa (gOf m2 (mkS c.ins c.p z).H) (mkS c.ins c.p z).T) (vs:=first++args.toArray.map a.eval++caps) (by rw[hsz,qe,hl.tl]) (fun i d hi=>by
  have hlt:=qbK hi
  rw[qe,hl.tl] at hlt
  have h7:=hvs i _ (List.getElem?_eq_getElem (by rw[qe];exact hlt))
  have h8:=hl.slot i w (Al w0 S (hes m2 (mkS c.ins c.p z).H++rest m H' ρ)) ((first++args.toArray.map a.eval++caps).getD i undef)
  rw[← qcN,← qcN,AV.get_eq,AV.get_eq,hi,List.getElem?_eq_getElem (by rw[qe];exact hlt)] at h8
  exact h8 h7) hg
 have hcc:=hc.2 w _ _ _ (fun b _=>trivial) hin
 refine ⟨fun f _=>hF.fn f,?_⟩
 rw[Oper.semAt_eq F.round a.eval o (fun c h=>by rw[ho] at h;cases h)]
 unfold execOp
 rw[ho]
 have hrun:(do let d ← resolve a.eval ⟨.value x,args.toArray,tys⟩ o.type;invoke d.target d.args:Sem Next).run P w = .ok (.enter c.f (first++args.toArray.map a.eval++caps)) w:=by
  simp only[resolve,e1,Deferred.ofValue,Sem.run_bind,Sem.run_pure,Result.andThen_ok,invoke]
  exact hc.1 _ w
 simp only[hrun,Oper.uponIn_enter]
 have hcF:∀R,CallsIn Fence.wide 0 P c.f (first++args.toArray.map a.eval++caps) w R→CallsIn F 0 P c.f (first++args.toArray.map a.eval++caps) w R:=fun R h=>by
  rcases hF with rfl | ⟨l,rfl⟩
  ·exact h
  ·exact CallsIn.inRound l h
 refine ⟨fun h=>(by rw[hF.depth] at h;cases h),(hcF _ hcc).mono ?_⟩
 rintro e w' ⟨u,v,HH,rfl,⟨m1,s1,s2,rfl,rfl⟩,hr'⟩
 have hng1:∀e,e∈hes m1 (mkS louts (c.r+ρ.length) y).H→e.proper:=fun e he=>by
  obtain ⟨k,hk,rfl⟩:=List.mem_iff_getElem.1 he
  rw[qj] at hk
  have h3:=q8 m1 (mkS louts (c.r+ρ.length) y).H k
  rw[if_pos hk,List.getElem?_eq_getElem (by rw[qj];exact hk)] at h3
  injection h3 with h3
  rw[h3]
  exact qbm _
 have hb:=hr1.back hg hr' (fun _ e he hgh=>by
  have:=hng1 e he
  cases e with
  | ghost=>exact this
  | _=>exact hgh) (fun hm=>(hng1 _ hm).elim) o.dst
 have hm:∀(k j:Nat),ρ[k]?=some j→m1 k=m j:=fun k j hk=>by rw[s2 k (List.getElem?_eq_some_iff.1 hk).1,hl.mv k j hk]
 have hs:=fun k=>qtl (m:=m) (m1:=m1) hok hl.nd k
 have hjoin:=SRel.join (t'':=qa (gOf (qfE m m1 ρ id (mkS louts (c.r+ρ.length) y).H.length) (qgd H' (mkS louts (c.r+ρ.length) y).H ρ id)) (qt st.T o.dst (renD (sig ρ id (mkS louts (c.r+ρ.length) y).H.length H'.length) (resW c.r (mkS louts (c.r+ρ.length) y).T)))) hok hl.nd hm hb
  (by rw[qe];cases o.dst with | none=>simp[AV.putO,qt,qe] | some d=>simp[AV.putO,qt,AV.put_length,qe,qho]) (fun A i u hu=>by
   rw[qcX,qus hs]
   have key:∀j,Enc w' A u (AV.get (qa (gOf m H') st.T) j)→Enc w' A u (AV.get (qa (gOf (qfE m m1 ρ id (mkS louts (c.r+ρ.length) y).H.length) (qgd H' (mkS louts (c.r+ρ.length) y).H ρ id)) st.T) j):=fun j hj=>by
    rw[qcN] at hj ⊢
    exact qhh (fun _ _ h=>h) (qut hok hm) _ u hj
   cases hdst:o.dst with
   | none=>rw[hdst] at hu;exact key i hu
   | some d =>
    rw[hdst] at hu
    simp only[AV.putO] at hu ⊢
    by_cases hdi:d=i
    ·subst hdi
     rcases Nat.lt_or_ge d st.T.length with hdl | hdl
     ·rw[AV.get_eq,AV.put_eq,List.getElem?_set_self (by rw[qe];exact hdl)] at hu ⊢
      exact hu
     ·rw[AV.get_eq,AV.put_eq,List.getElem?_eq_none (by rw[List.length_set,qe];exact hdl)]
      exact .any _
    ·rw[AV.get_put_ne _ _ hdi] at hu ⊢
     exact key i hu)
 have hmle:mle m (qfE m m1 ρ id (mkS louts (c.r+ρ.length) y).H.length) st.H:=fun i hi=>by
  have hi':hget H' i≠.new:=b1.old i hi
  unfold qfE
  cases hq:sigI ρ id (mkS louts (c.r+ρ.length) y).H.length i with
  | none=>rfl
  | some k =>
   rcases (qhV hok hq).2.2 with h3 | ⟨_,_,h3⟩
   ·exact hm k i h3
   ·exact absurd h3 hi'
 refine hK _ _ w' hmle ⟨hr0.1.step hmle (b1.kl.trans (qvM hok)),fun i hi=>?_,hjoin⟩ (qkc _ _ _)
 rw[qgv] at hi
 split at hi
 ·rename_i hlt
  unfold qiS at hi
  unfold qfE
  cases hq:sigI ρ id (mkS louts (c.r+ρ.length) y).H.length i with
  | none =>
   rw[hq] at hi
   exact hr.2.1 i hi
  | some k =>
   have h1:=(qhV hok hq).1
   exact s1 k fun e=>by
    have:=qri hok h1
    rw[e] at this;cases this
 ·exact absurd rfl hi
end
theorem qz1{t:Ty}{x:t.den}{d:DV}{cs:List DV}{g:Nat→Option Cn}{HH:List HE}(hc:cellsOf t.isAgg d=some cs)(h:Seess HH (qa g cs) (t.enc x)):Sees HH (conc g d) (t.argA x):=by
 obtain ⟨l',h1,h2⟩:=h
 rcases qrO hc with ⟨k1,rfl⟩ | ⟨k1,rfl⟩
 ·rcases t.enc_arg x with ⟨_,k2⟩ | ⟨k2,_⟩
  ·rw[k2]
   exact ⟨.agg l',.agg _ _ h1.1 h1.2,h2.agg⟩
  ·rw[k1] at k2;cases k2
 ·rcases t.enc_arg x with ⟨k2,_⟩ | ⟨_,k2⟩
  ·rw[k1] at k2;cases k2
  ·rw[k2] at h2
   have hl:=h2.1
   match l',h1,h2,hl with
   | [d'],h1,h2,_=>exact ⟨d',h1.2 0 _ _ rfl rfl,h2.one⟩
   | [],_,_,hl=>cases hl
   | _::_::_,_,_,hl=>simp at hl
theorem quv{t:Ty}{H H':List DO}{d:DV}{x:t.den}{F:List Nat}(h:decA true t H d=some (x,H',F)):H'=H∧∀m,Sees (hes m H) (conc (gOf m H) d) (t.argA x):=by
 unfold decA at h
 split at h
 ·rename_i cs hc
  simp only at h
  cases hs:see t H cs with
  | none=>rw[hs] at h;cases h
  | some p =>
   rw[hs] at h;injection h with h
   obtain ⟨rfl,rfl,rfl⟩:=h
   exact ⟨rfl,fun m=>qz1 hc (quk t H cs p.1 p.2 hs m).2⟩
 ·cases h
theorem qox:∀(l:List Ty) (H:List DO) (ds:List DV) (x:qx l) (H':List DO) (F:List Nat),qiq true l H ds=some (x,H',F)→H'=H∧∀m,Seess (hes m H) (qa (gOf m H) ds) (tysA l x)
 | [],H,[],x,H',F,h=>by
  injection h with h
  obtain ⟨rfl,rfl,rfl⟩:=h
  exact ⟨rfl,fun m=>Seess.nil⟩
 | t::l,H,d::ds,x,H',F,h=>by
  unfold qiq at h
  split at h
  ·rename_i y H1 F1 h1
   split at h
   ·rename_i z H2 F2 h2
    injection h with h
    obtain ⟨rfl,rfl,rfl⟩:=h
    obtain ⟨rfl,a2⟩:=quv h1
    obtain ⟨rfl,b2⟩:=qox l _ _ _ _ _ h2
    exact ⟨rfl,fun m=>Seess.cons (a2 m) (b2 m)⟩
   ·cases h
  ·cases h
 | [],_,_::_,_,_,_,h=>by cases h
 | _::_,_,[],_,_,_,h=>by cases h
theorem qxp{a:Ar}{H H':List DO}{d:DV}{x:a.den}{F:List Nat}(h:qk3 true a H d=some (x,H',F)):H'=H∧∀m,Sees (hes m H) (conc (gOf m H) d) (a.A x):=by
 cases a with
 | d t=>exact quv h
 | fn f a c =>
  unfold qk3 at h
  simp only at h
  split at h
  ·rename_i g da dc
   split at h
   ·rename_i hg
    have hg:g=f:=by simpa using hg
    subst hg
    split at h
    ·rename_i y H1 F1 h1
     split at h
     ·rename_i z H2 F2 h2
      injection h with h
      obtain ⟨rfl,rfl,rfl⟩:=h
      obtain ⟨rfl,a2⟩:=qox _ _ _ _ _ _ h1
      obtain ⟨rfl,b2⟩:=qox _ _ _ _ _ _ h2
      refine ⟨rfl,fun m=>?_⟩
      obtain ⟨l1,p1,p2⟩:=a2 m
      obtain ⟨l2,q1,q2⟩:=b2 m
      simp only[conc,Ar.A]
      exact ⟨.fn g l1 l2,Vw.fn' p1 q1,p2.fn q2⟩
     ·cases h
    ·cases h
   ·cases h
  ·rename_i g p q
   split at h
   ·rename_i hb
    obtain ⟨rfl,rfl,rfl⟩:=qrT hb
    split at h
    ·rename_i x1 x2 e1 e2
     injection h with h
     obtain ⟨rfl,rfl,rfl⟩:=h
     exact ⟨rfl,fun m=>⟨_,.same _,by simp only[Ar.A,qos e1,qos e2];exact Wk.constFn g⟩⟩
    ·cases h
   ·cases h
  ·cases h
theorem qoy:∀(l:List Ar) (H:List DO) (ds:List DV) (x:qeo l) (H':List DO) (F:List Nat),qjf true l H ds=some (x,H',F)→H'=H∧∀m,Seess (hes m H) (qa (gOf m H) ds) (arsA l x)
 | [],H,[],x,H',F,h=>by
  injection h with h
  obtain ⟨rfl,rfl,rfl⟩:=h
  exact ⟨rfl,fun m=>Seess.nil⟩
 | a::l,H,d::ds,x,H',F,h=>by
  unfold qjf at h
  split at h
  ·rename_i y H1 F1 h1
   split at h
   ·rename_i z H2 F2 h2
    injection h with h
    obtain ⟨rfl,rfl,rfl⟩:=h
    obtain ⟨rfl,a2⟩:=qxp h1
    obtain ⟨rfl,b2⟩:=qoy l _ _ _ _ _ h2
    exact ⟨rfl,fun m=>Seess.cons (a2 m) (b2 m)⟩
   ·cases h
  ·cases h
 | [],_,_::_,_,_,_,h=>by cases h
 | _::_,_,[],_,_,_,h=>by cases h
theorem qoz:∀(t:Ty) (x:t.den),t.flat=true→Flat (t.argA x)∧∀d,d∈t.enc x→Flat d
 | .i k,n,_=>⟨.val _,fun d hd=>by simp[Ty.enc] at hd;subst hd;exact .val _⟩
 | .b,n,_=>⟨.val _,fun d hd=>by simp[Ty.enc] at hd;subst hd;exact .val _⟩
 | .s,n,_=>⟨.val _,fun d hd=>by simp[Ty.enc] at hd;subst hd;exact .val _⟩
 | .u,n,_=>⟨.agg _ (fun d h=>by cases h),fun d hd=>by simp[Ty.enc] at hd⟩
 | .sl t,l,h=>by cases h
 | .pt t,l,h=>by cases h
 | .pr a b,p,h=>by
  simp only[Ty.flat,Bool.and_eq_true] at h
  have key:∀d,d∈(Ty.pr a b).enc p→Flat d:=fun d hd=>by
   rcases List.mem_append.1 hd with hd | hd
   ·exact (qoz a p.1 h.1).2 d hd
   ·exact (qoz b p.2 h.2).2 d hd
  exact ⟨.agg _ key,key⟩
theorem quw:∀(l:List Ty) (x:qx l),l.all Ty.flat=true→∀d,d∈tysA l x→Flat d
 | [],_,_,d,hd=>by cases hd
 | t::l,x,h,d,hd=>by
  simp only[List.all_cons,Bool.and_eq_true] at h
  rcases List.mem_cons.1 hd with rfl | hd
  ·exact (qoz t x.1 h.1).1
  ·exact quw l x.2 h.2 d hd
theorem qyK(l:List Ty)(x:qx l)(h:l.all Ty.flat=true):Flat (resA l x):=by
 match l,x,h with
 | [],_,_=>exact .val _
 | [t],x,h=>exact (qoz t x.1 (by simpa using h)).1
 | t::t2::l,x,h=>exact .tup _ fun d hd=>quw _ x h d hd
theorem Rt.flatA(r:Rt)(x:r.den)(h:r.flat=true):Flat (r.A x):=by
 cases r with
 | ts l=>exact qyK l x h
 | fb g caps=>cases h
section
variable {P:Program} {w0:Bs} {S:Nat→Prop} {a:Act} {w:World} {m:Nat→Value} {st:St} {cs:List (Ct P)}
theorem qrk:∀(cs:List (Ct P)) {f:FuncId} {ds:List DV} {H:List DO} {r:SR},(qlL cs f ds H).Is r→∃c:Ct P,c.f=f∧∃x,qjf c.rs.flat c.ars H ds=some (x,r.H,r.F)∧∃y,c.M x=some y∧r.v=c.rs.D y
 | [],_,_,_,_,h=>h.elim
 | c::cs,f,ds,H,r,h=>by
  unfold qlL at h
  split at h
  ·rename_i hf
   rw[Bool.and_eq_true] at hf
   split at h
   ·rename_i x H' F hd
    obtain ⟨y,hy,h⟩:=h
    cases h
    exact ⟨c,by simpa using hf.1,x,hd,y,hy,rfl⟩
   ·exact h.elim
  ·exact qrk cs h
theorem qux{o:Oper}{x:Operand}{args:List Operand}{tys:Array TypeId}{f:FuncId}{df dc:List DV}{ds:List DV}{r:SR}(ho:o.op = .call ⟨.value x,args.toArray,tys⟩)
  (hx:evD st.T x = .fn f df dc∨(df=[]∧dc=[]∧evD st.T x = .val (.func (.func f) #[] #[]))) (hd:df++args.map (evD st.T)++dc=ds) (h:(qlL cs f ds st.H).Is r):StepW P o st ⟨qt st.T o.dst r.v,r.H⟩:=by
 obtain ⟨c,rfl,z,hz,y,hy,hv⟩:=qrk cs h
 have hok:=c.ok z y hy
 have hav:∀g,(qa g df)++args.map (evO (qa g st.T))++(qa g dc)=qa g ds:=fun g=>by
  rw[← hd,qcP,qcP]
  congr 2
  rw[qb4 (args.map _),List.map_map]
  exact List.map_congr_left fun q _=>qfU st.T q
 have hfx:∀g,evO (qa g st.T) x = .fn c.f (qa g df) (qa g dc)∨(qa g df=[]∧∃caps:List Value,qa g dc=caps.map AV.val∧evO (qa g st.T) x = .val (.func (.func c.f) #[] caps.toArray)):=fun g=>by
  rcases hx with hx | ⟨rfl,rfl,hx⟩
  ·left;rw[qfU,hx];rfl
  ·right;exact ⟨rfl,[],rfl,by rw[qfU,hx];rfl⟩
 rw[hv]
 cases hfl:c.rs.flat with
 | true =>
  rw[hfl] at hz
  obtain ⟨hH,hsee⟩:=qoy _ _ _ _ _ _ hz
  rw[hH]
  refine StepW.ay fun w0 S m a w hr=>?_
  obtain ⟨l',h1,h2⟩:=hsee m
  rw[Rt.conc]
  exact AY.callV ho (qa _ df) (qa _ dc) (hfx _) (qa _ ds) l' (hav _) h1 (hok.weak h2) (Rt.flatA _ _ hfl)
 | false =>
  rw[hfl] at hz
  obtain ⟨hfz,hgo⟩:=qpE _ _ _ _ _ _ hz
  refine StepW.fz hfz (StepW.ay (st:=⟨st.T,r.H⟩) fun w0 S m a w hr=>?_)
  rw[Rt.conc]
  have hpc:=hok.weak (hgo m r.H (Fz.refl _))
  rcases hx with hx | ⟨rfl,rfl,hx⟩
  ·exact AY.callF ho (qa _ df) (qa _ dc) (by rw[qfU,hx];rfl) _ (hav _) hpc
  ·exact AY.call ho (by rw[qfU,hx];rfl) _ (by have:=hav (gOf m r.H);simpa[qa] using this) hpc
theorem quy{o:Oper}{x:Operand}{args:List Operand}{tys:Array TypeId}{r:SR}(ho:o.op = .call ⟨.value x,args.toArray,tys⟩)(h:(qmZ cs st.H (evD st.T x) (args.map (evD st.T))).Is r):StepW P o st ⟨qt st.T o.dst r.v,r.H⟩:=by
 unfold qmZ at h
 split at h
 ·rename_i f df dc hx
  exact qux ho (.inl hx) rfl h
 ·rename_i f p q hx
  split at h
  ·rename_i hp hq
   have e1:p = #[]:=Array.eq_empty_of_size_eq_zero hp
   have e2:q = #[]:=Array.eq_empty_of_size_eq_zero hq
   subst e1 e2
   exact qux ho (.inr ⟨rfl,rfl,hx⟩) (by simp) h
  ·exact h.elim
 ·exact h.elim
theorem quz:∀(t:Ty) (H H2:List DO) (cs:List DV) (x:t.den) (F:List Nat),see t H cs=some (x,F)→Ag F H H2→see t H2 cs=some (x,F)
 | .i k,H,H2,cs,x,F,h,ha=>h
 | .b,H,H2,cs,x,F,h,ha=>h
 | .s,H,H2,cs,x,F,h,ha=>h
 | .u,H,H2,cs,x,F,h,ha=>h
 | .sl t,H,H2,cs,x,F,h,ha=>by
  unfold see qtS at h ⊢
  split at h
  ·exact h
  ·exact h
  ·rename_i k
   split at h
   ·rename_i t' e l hk
    cases hx:asT t t' l with
    | none=>rw[hx] at h;cases h
    | some y =>
     rw[hx] at h;injection h with h
     obtain ⟨rfl,rfl⟩:=h
     simp only[ha.2 k (by simp),hk]
     rw[hx];rfl
   ·rename_i t' l hk
    cases hx:asT t t' l with
    | none=>rw[hx] at h;cases h
    | some y =>
     rw[hx] at h;injection h with h
     obtain ⟨rfl,rfl⟩:=h
     simp only[ha.2 k (by simp),hk]
     rw[hx];rfl
   ·cases h
  ·cases h
 | .pt t,H,H2,cs,x,F,h,ha=>h
 | .pr y z,H,H2,cs,x,F,h,ha=>by
  unfold see at h ⊢
  split at h
  ·rename_i a F1 h1
   split at h
   ·rename_i c F2 h2
    injection h with h
    obtain ⟨rfl,rfl⟩:=h
    rw[quz y H H2 _ _ _ h1 (ha.less fun k hk=>List.mem_append_left _ hk)]
    simp only[quz z H H2 _ _ _ h2 (ha.less fun k hk=>List.mem_append_right _ hk)]
   ·cases h
  ·cases h
theorem qsO{keep:Bool}{t:Ty}{H H2 H':List DO}{d:DV}{x:t.den}{F:List Nat}(h:decA keep t H d=some (x,H',F))(ha:Ag F H H2):∃H2',decA keep t H2 d=some (x,H2',F)∧Ch F H H' H2 H2':=by
 unfold decA at h ⊢
 split at h
 ·cases keep with
  | true =>
   simp only at h ⊢
   rename_i cs hc
   cases hs:see t H cs with
   | none=>rw[hs] at h;cases h
   | some p =>
    rw[hs] at h;injection h with h
    obtain ⟨rfl,rfl,rfl⟩:=h
    refine ⟨H2,?_,Ch.same ha⟩
    rw[quz t H H2 cs p.1 p.2 hs ha];rfl
  | false=>exact qjH t _ _ _ _ _ _ h ha
 ·cases h
theorem qpI{keep:Bool}:∀(l:List Ty) (H H2:List DO) (ds:List DV) (x:qx l) (H':List DO) (F:List Nat),qiq keep l H ds=some (x,H',F)→Ag F H H2→∃H2',qiq keep l H2 ds=some (x,H2',F)∧Ch F H H' H2 H2'
 | [],H,H2,[],x,H',F,h,ha=>by
  injection h with h
  obtain ⟨rfl,rfl,rfl⟩:=h
  exact ⟨H2,rfl,Ch.same ha⟩
 | t::l,H,H2,d::ds,x,H',F,h,ha=>by
  unfold qiq at h ⊢
  split at h
  ·rename_i y H1 F1 h1
   split at h
   ·rename_i z Hb F2 h2
    injection h with h
    obtain ⟨rfl,rfl,rfl⟩:=h
    obtain ⟨H21,e1,c1⟩:=qsO h1 (ha.less fun k hk=>List.mem_append_left _ hk)
    obtain ⟨H22,e2,c2⟩:=qpI l _ H21 _ _ _ _ h2 (Ag.step c1 ha)
    simp only[e1,e2]
    exact ⟨_,rfl,c1.trans c2 ha⟩
   ·cases h
  ·cases h
 | [],_,_,_::_,_,_,_,h,_=>by cases h
 | _::_,_,_,[],_,_,_,h,_=>by cases h
theorem quA{keep:Bool}{a:Ar}{H H2 H':List DO}{d:DV}{x:a.den}{F:List Nat}(h:qk3 keep a H d=some (x,H',F))(ha:Ag F H H2):∃H2',qk3 keep a H2 d=some (x,H2',F)∧Ch F H H' H2 H2':=by
 cases a with
 | d t=>exact qsO h ha
 | fn f a c =>
  unfold qk3 at h ⊢
  simp only at h ⊢
  split at h
  ·split at h
   ·split at h
    ·rename_i y H1 F1 h1
     split at h
     ·rename_i z Hb F2 h2
      injection h with h
      obtain ⟨rfl,rfl,rfl⟩:=h
      obtain ⟨H21,e1,c1⟩:=qpI _ _ H2 _ _ _ _ h1 (ha.less fun k hk=>List.mem_append_left _ hk)
      obtain ⟨H22,e2,c2⟩:=qpI _ _ H21 _ _ _ _ h2 (Ag.step c1 ha)
      rw[e1]
      dsimp only
      rw[e2]
      exact ⟨_,rfl,c1.trans c2 ha⟩
     ·cases h
    ·cases h
   ·cases h
  ·split at h
   ·split at h
    ·injection h with h
     obtain ⟨rfl,rfl,rfl⟩:=h
     exact ⟨_,rfl,Ch.same ha⟩
    ·cases h
   ·cases h
  ·cases h
theorem qtm{keep:Bool}:∀(l:List Ar) (H H2:List DO) (ds:List DV) (x:qeo l) (H':List DO) (F:List Nat),qjf keep l H ds=some (x,H',F)→Ag F H H2→∃H2',qjf keep l H2 ds=some (x,H2',F)∧Ch F H H' H2 H2'
 | [],H,H2,[],x,H',F,h,ha=>by
  injection h with h
  obtain ⟨rfl,rfl,rfl⟩:=h
  exact ⟨H2,rfl,Ch.same ha⟩
 | t::l,H,H2,d::ds,x,H',F,h,ha=>by
  unfold qjf at h ⊢
  split at h
  ·rename_i y H1 F1 h1
   split at h
   ·rename_i z Hb F2 h2
    injection h with h
    obtain ⟨rfl,rfl,rfl⟩:=h
    obtain ⟨H21,e1,c1⟩:=quA h1 (ha.less fun k hk=>List.mem_append_left _ hk)
    obtain ⟨H22,e2,c2⟩:=qtm l _ H21 _ _ _ _ h2 (Ag.step c1 ha)
    simp only[e1,e2]
    exact ⟨_,rfl,c1.trans c2 ha⟩
   ·cases h
  ·cases h
 | [],_,_,_::_,_,_,_,h,_=>by cases h
 | _::_,_,_,[],_,_,_,h,_=>by cases h
theorem qpJ:∀(cs:List (Ct P)) (f:FuncId) (ds:List DV),Loc fun H=>qlL cs f ds H
 | [],f,ds=>fun _ _ _ h _=>h.elim
 | c::cs,f,ds=>fun H H2 r h ha=>by
  simp only[qlL] at h ⊢
  split at h
  ·split at h
   ·rename_i x H' F hd
    obtain ⟨y,hy,h⟩:=h
    cases h
    obtain ⟨H2',e1,c1⟩:=qtm _ _ H2 _ _ _ _ hd ha
    rw[e1]
    exact ⟨_,⟨y,hy,rfl⟩,c1⟩
   ·exact h.elim
  ·exact qpJ cs f ds H H2 r h ha
theorem qtn(cs:List (Ct P))(fv:DV)(ds:List DV):Loc fun H=>qmZ cs H fv ds:=by
 unfold qmZ
 split
 ·exact qpJ _ _ _
 ·split
  ·exact qpJ _ _ _
  ·exact fun _ _ _ h _=>h.elim
 ·exact fun _ _ _ h _=>h.elim
end
theorem qgp{T:List DV}{H H2:List DO}{ρ:List Nat}(h:∀k,k∈ρ→hget H2 k=hget H k)(p:Pl):getL T H2 ρ p=getL T H ρ p:=by
 cases p with
 | t i=>rfl
 | f i j=>rfl
 | c k j =>
  unfold getL
  dsimp only
  cases hq:ρ[k]? with
  | none=>rfl
  | some a=>simp only[h a (List.mem_of_getElem? hq)]
theorem qyL{t:Ty}{T:List DV}{H H2 H1:List DO}{ρ F:List Nat}{p:Pl}{x:t.den}(h:qlM t T H ρ p=some (x,H1,F))(hρ:∀k,k∈ρ→hget H2 k=hget H k)(ha:Ag F H H2):∃H2',qlM t T H2 ρ p=some (x,H2',F)∧Ch F H H1 H2 H2':=by
 cases p with
 | t i =>
  have h':decA false t H (lget T i)=some (x,H1,F):=h
  exact qsO h' ha
 | f i j =>
  unfold qlM at h ⊢
  dsimp only at h ⊢
  split at h
  ·split at h
   ·exact qjH _ _ _ _ _ _ _ h ha
   ·cases h
  ·cases h
 | c k j =>
  unfold qlM at h ⊢
  dsimp only at h ⊢
  cases hq:ρ[k]? with
  | none=>rw[hq] at h;cases h
  | some b =>
   rw[hq] at h
   simp only at h ⊢
   rw[hρ b (List.mem_of_getElem? hq)]
   split at h
   ·split at h
    ·exact qjH _ _ _ _ _ _ _ h ha
    ·cases h
   ·cases h
theorem qk4{H H2:List DO}:∀(l:List CapI) (ds:List DV) (ρ ρ':List Nat),qdu l ds H ρ=some ρ'→(∀k,k∈ρ'→hget H2 k=hget H k)→qdu l ds H2 ρ=some ρ'∧∀k,k∈ρ→k∈ρ'
 | [],[],ρ,ρ',h,hρ=>by
  injection h with h
  subst h
  exact ⟨rfl,fun k hk=>hk⟩
 | .box z tt n::l,d::ds,ρ,ρ',h,hρ=>by
  unfold qdu at h
  split at h
  ·rename_i k
   split at h
   ·rename_i hk
    split at h
    ·rename_i hb
     obtain ⟨h1,h2⟩:=qk4 l ds _ _ h hρ
     have hk2:hget H2 k=hget H k:=hρ k (h2 k (List.mem_append_right _ (List.mem_singleton.2 rfl)))
     simp only[qdu,hk2,hk,hb]
     exact ⟨h1,fun j hj=>h2 j (List.mem_append_left _ hj)⟩
    ·cases h
   ·cases h
  ·cases h
 | .al q::l,d::ds,ρ,ρ',h,hρ=>by
  unfold qdu at h
  split at h
  ·split at h
   ·rename_i hq
    split at h
    ·rename_i hb
     obtain ⟨h1,h2⟩:=qk4 l ds _ _ h hρ
     simp only[qdu,hq,hb]
     exact ⟨h1,h2⟩
    ·cases h
   ·cases h
  ·cases h
 | [],_::_,_,_,h,_=>by cases h
 | .box _ _ _::_,[],_,_,h,_=>by cases h
 | .al _::_,[],_,_,h,_=>by cases h
theorem map_none{α β:Type}{o:Option α}{f:α→β}{y:β}(h:o.map f=some y):∃x,o=some x∧f x=y:=by
 cases o with
 | none=>cases h
 | some x=>injection h with h;exact ⟨x,rfl,h⟩
theorem qbj:∀(l:List It) (T:List DV) (H H2:List DO) (ρ:List Nat) (x:qi l) (H':List DO) (ρ':List Nat),qu l T H ρ=some (x,H',ρ')→(∀k,k∈ρ→k∈ρ')∧(Ag (ρ'++tchI l T H ρ) H H2→∃H2',qu l T H2 ρ=some (x,H2',ρ')∧tchI l T H2 ρ=tchI l T H ρ∧Ch (tchI l T H ρ) H H' H2 H2')
 | [],T,H,H2,ρ,x,H',ρ',h=>by
  injection h with h
  obtain ⟨rfl,rfl,rfl⟩:=h
  exact ⟨fun k hk=>hk,fun ha=>⟨H2,rfl,rfl,Ch.same (ha.less fun k hk=>by cases hk)⟩⟩
 | .v p t::l,T,H,H2,ρ,x,H',ρ',h=>by
  unfold qu at h
  split at h
  ·rename_i y H1 F hv
   obtain ⟨⟨z,H3,ρ3⟩,hq,hx⟩:=map_none h
   obtain ⟨rfl,h2⟩:=Prod.mk.inj hx
   obtain ⟨rfl,rfl⟩:=Prod.mk.inj h2
   have hsub:=(qbj l T H1 H1 ρ z H3 ρ3 hq).1
   refine ⟨hsub,fun ha=>?_⟩
   have e:tchI (.v p t::l) T H ρ=F++tchI l T H1 ρ:=by simp only[tchI,hv]
   rw[e] at ha ⊢
   obtain ⟨H21,q1,c1⟩:=qyL hv (fun k hk=>ha.2 k (List.mem_append_left _ (hsub k hk))) (ha.less fun k hk=>List.mem_append_right _ (List.mem_append_left _ hk))
   have ha2:Ag (ρ3++tchI l T H1 ρ) H1 H21:=Ag.step c1 (ha.less fun k hk=>by
    simp only[List.mem_append] at hk ⊢
    rcases hk with hk | hk | hk
    ·exact .inr (.inl hk)
    ·exact .inl hk
    ·exact .inr (.inr hk))
   obtain ⟨H22,q2,q3,c2⟩:=(qbj l T H1 H21 ρ z H3 ρ3 hq).2 ha2
   refine ⟨H22,?_,?_,c1.trans c2 (ha.less fun k hk=>List.mem_append_right _ hk)⟩
   ·simp only[qu,q1,q2,Option.map_some]
   ·simp only[tchI,q1,q3]
  ·cases h
 | .fn p f pa c::l,T,H,H2,ρ,x,H',ρ',h=>by
  unfold qu at h
  split at h
  ·rename_i i
   split at h
   ·rename_i y H1 F hv
    obtain ⟨⟨z,H3,ρ3⟩,hq,hx⟩:=map_none h
    obtain ⟨rfl,h2⟩:=Prod.mk.inj hx
    obtain ⟨rfl,rfl⟩:=Prod.mk.inj h2
    have hsub:=(qbj l T H1 H1 ρ z H3 ρ3 hq).1
    refine ⟨hsub,fun ha=>?_⟩
    have e:tchI (.fn (.t i) f pa c::l) T H ρ=F++tchI l T H1 ρ:=by simp only[tchI,hv]
    rw[e] at ha ⊢
    obtain ⟨H21,q1,c1⟩:=quA hv (ha.less fun k hk=>List.mem_append_right _ (List.mem_append_left _ hk))
    have ha2:Ag (ρ3++tchI l T H1 ρ) H1 H21:=Ag.step c1 (ha.less fun k hk=>by
     simp only[List.mem_append] at hk ⊢
     rcases hk with hk | hk | hk
     ·exact .inr (.inl hk)
     ·exact .inl hk
     ·exact .inr (.inr hk))
    obtain ⟨H22,q2,q3,c2⟩:=(qbj l T H1 H21 ρ z H3 ρ3 hq).2 ha2
    refine ⟨H22,?_,?_,c1.trans c2 (ha.less fun k hk=>List.mem_append_right _ hk)⟩
    ·simp only[qu,q1,q2,Option.map_some]
    ·simp only[tchI,q1,q3]
   ·cases h
  ·cases h
 | .row p z t e::l,T,H,H2,ρ,x,H',ρ',h=>by
  unfold qu at h
  split at h
  ·rename_i k hi
   split at h
   ·rename_i hk
    split at h
    ·rename_i c' hc
     split at h
     ·rename_i hb
      split at h
      ·rename_i y H3 ρ3 hq
       split at h
       ·rename_i hrow
        injection h with h
        obtain ⟨rfl,h2⟩:=Prod.mk.inj h
        obtain ⟨rfl,rfl⟩:=Prod.mk.inj h2
        have hsub:=(qbj l T H H _ y _ _ hq).1
        have hkm:=hsub k (List.mem_append_right _ (List.mem_singleton.2 rfl))
        refine ⟨fun j hj=>hsub j (List.mem_append_left _ hj),fun ha=>?_⟩
        have e1:tchI (.row p z t e::l) T H ρ=tchI l T H (ρ++[k]):=by simp only[tchI,hi]
        rw[e1] at ha ⊢
        have hg:=qgp (T:=T) (H:=H) (H2:=H2) (ρ:=ρ) (fun j hj=>ha.2 j (List.mem_append_left _ (hsub j (List.mem_append_left _ hj)))) p
        obtain ⟨H22,q2,q3,c2⟩:=(qbj l T H H2 _ y _ _ hq).2 ha
        have hrow2:qzD (hget H22 k)=true:=by
         by_cases hkf:k∈tchI l T H (ρ++[k])
         ·rw[(c2.2.2 k).1 hkf];exact hrow
         ·rw[((c2.2.2 k).2 hkf).1,ha.2 k (List.mem_append_left _ hkm),← ((c2.2.2 k).2 hkf).2];exact hrow
        refine ⟨H22,?_,?_,c2⟩
        ·unfold qu
         rw[hg,hi]
         simp only[ha.2 k (List.mem_append_left _ hkm),hk,hc,hb,q2,hrow2]
        ·simp only[tchI,hg,hi]
         exact q3
       ·cases h
      ·cases h
     ·cases h
    ·cases h
   ·cases h
  ·cases h
 | .obj p z tt n::l,T,H,H2,ρ,x,H',ρ',h=>by
  unfold qu at h
  split at h
  ·rename_i k hi
   split at h
   ·rename_i hk
    split at h
    ·rename_i hb
     have hsub:=(qbj l T H H _ x _ _ h).1
     have hkm:=hsub k (List.mem_append_right _ (List.mem_singleton.2 rfl))
     refine ⟨fun j hj=>hsub j (List.mem_append_left _ hj),fun ha=>?_⟩
     have e1:tchI (.obj p z tt n::l) T H ρ=tchI l T H (ρ++[k]):=by simp only[tchI,hi]
     rw[e1] at ha ⊢
     have hg:=qgp (T:=T) (H:=H) (H2:=H2) (ρ:=ρ) (fun j hj=>ha.2 j (List.mem_append_left _ (hsub j (List.mem_append_left _ hj)))) p
     obtain ⟨H22,q2,q3,c2⟩:=(qbj l T H H2 _ x _ _ h).2 ha
     refine ⟨H22,?_,?_,c2⟩
     ·unfold qu
      rw[hg,hi]
      simp only[ha.2 k (List.mem_append_left _ hkm),hk,hb]
      exact q2
     ·simp only[tchI,hg,hi]
      exact q3
    ·cases h
   ·cases h
  ·cases h
 | .al p k::l,T,H,H2,ρ,x,H',ρ',h=>by
  unfold qu at h
  split at h
  ·rename_i j hi
   split at h
   ·rename_i b hb
    split at h
    ·rename_i hbj
     have hsub:=(qbj l T H H ρ x _ _ h).1
     refine ⟨hsub,fun ha=>?_⟩
     have e1:tchI (.al p k::l) T H ρ=tchI l T H ρ:=rfl
     rw[e1] at ha ⊢
     have hg:=qgp (T:=T) (H:=H) (H2:=H2) (ρ:=ρ) (fun j hj=>ha.2 j (List.mem_append_left _ (hsub j hj))) p
     obtain ⟨H22,q2,q3,c2⟩:=(qbj l T H H2 ρ x _ _ h).2 ha
     refine ⟨H22,?_,q3,c2⟩
     unfold qu
     rw[hg,hi]
     simp only[hb,hbj]
     exact q2
    ·cases h
   ·cases h
  ·cases h
 | .pal p k off::l,T,H,H2,ρ,x,H',ρ',h=>by
  unfold qu at h
  split at h
  ·rename_i j o hi
   split at h
   ·rename_i b hb
    split at h
    ·rename_i hbj
     have hsub:=(qbj l T H H ρ x _ _ h).1
     refine ⟨hsub,fun ha=>?_⟩
     have e1:tchI (.pal p k off::l) T H ρ=tchI l T H ρ:=rfl
     rw[e1] at ha ⊢
     have hg:=qgp (T:=T) (H:=H) (H2:=H2) (ρ:=ρ) (fun j hj=>ha.2 j (List.mem_append_left _ (hsub j hj))) p
     obtain ⟨H22,q2,q3,c2⟩:=(qbj l T H H2 ρ x _ _ h).2 ha
     refine ⟨H22,?_,q3,c2⟩
     unfold qu
     rw[hg,hi]
     simp only[hb,hbj]
     exact q2
    ·cases h
   ·cases h
  ·cases h
 | .sub p k::l,T,H,H2,ρ,x,H',ρ',h=>by
  unfold qu at h
  split at h
  ·rename_i j lo n hi
   split at h
   ·rename_i b hb
    split at h
    ·rename_i hbj
     obtain ⟨⟨z,H3,ρ3⟩,hq,hx⟩:=map_none h
     obtain ⟨rfl,h2⟩:=Prod.mk.inj hx
     obtain ⟨rfl,rfl⟩:=Prod.mk.inj h2
     have hsub:=(qbj l T H H ρ z _ _ hq).1
     refine ⟨hsub,fun ha=>?_⟩
     have e1:tchI (.sub p k::l) T H ρ=tchI l T H ρ:=rfl
     rw[e1] at ha ⊢
     have hg:=qgp (T:=T) (H:=H) (H2:=H2) (ρ:=ρ) (fun j hj=>ha.2 j (List.mem_append_left _ (hsub j hj))) p
     obtain ⟨H22,q2,q3,c2⟩:=(qbj l T H H2 ρ z _ _ hq).2 ha
     refine ⟨H22,?_,q3,c2⟩
     unfold qu
     rw[hg,hi]
     simp only[hb,hbj,q2,Option.map_some]
    ·cases h
   ·cases h
  ·cases h
 | .fnc p f caps::l,T,H,H2,ρ,x,H',ρ',h=>by
  unfold qu at h
  split at h
  ·rename_i g c hi
   split at h
   ·rename_i hgf
    split at h
    ·rename_i ρ1 hc
     have hsub:=(qbj l T H H ρ1 x _ _ h).1
     have hsub1:=(qk4 caps c ρ ρ1 hc (H2:=H) fun _ _=>rfl).2
     refine ⟨fun k hk=>hsub k (hsub1 k hk),fun ha=>?_⟩
     have e1:tchI (.fnc p f caps::l) T H ρ=tchI l T H ρ1:=by simp only[tchI,hi,hc]
     rw[e1] at ha ⊢
     have hg:=qgp (T:=T) (H:=H) (H2:=H2) (ρ:=ρ) (fun j hj=>ha.2 j (List.mem_append_left _ (hsub j (hsub1 j hj)))) p
     have hc2:=(qk4 caps c ρ ρ1 hc (H2:=H2) fun k hk=>ha.2 k (List.mem_append_left _ (hsub k hk))).1
     obtain ⟨H22,q2,q3,c2⟩:=(qbj l T H H2 ρ1 x _ _ h).2 ha
     refine ⟨H22,?_,?_,c2⟩
     ·unfold qu
      rw[hg,hi]
      simp only[hgf,hc2]
      exact q2
     ·simp only[tchI,hg,hi,hc2,q3]
    ·cases h
   ·cases h
  ·cases h
 | .mpi p z kt et::l,T,H,H2,ρ,x,H',ρ',h=>by
  unfold qu at h
  split at h
  ·rename_i k hi
   split at h
   ·rename_i hk
    split at h
    ·rename_i c' hc
     split at h
     ·rename_i hb
      obtain ⟨⟨y,H3,ρ3⟩,hq,hx⟩:=map_none h
      obtain ⟨rfl,h2⟩:=Prod.mk.inj hx
      obtain ⟨rfl,rfl⟩:=Prod.mk.inj h2
      have hsub:=(qbj l T H H _ y _ _ hq).1
      have hkm:=hsub k (List.mem_append_right _ (List.mem_singleton.2 rfl))
      refine ⟨fun j hj=>hsub j (List.mem_append_left _ hj),fun ha=>?_⟩
      have e1:tchI (.mpi p z kt et::l) T H ρ=tchI l T H (ρ++[k]):=by simp only[tchI,hi]
      rw[e1] at ha ⊢
      have hg:=qgp (T:=T) (H:=H) (H2:=H2) (ρ:=ρ) (fun j hj=>ha.2 j (List.mem_append_left _ (hsub j (List.mem_append_left _ hj)))) p
      obtain ⟨H22,q2,q3,c2⟩:=(qbj l T H H2 _ y _ _ hq).2 ha
      refine ⟨H22,?_,?_,c2⟩
      ·unfold qu
       rw[hg,hi]
       simp only[ha.2 k (List.mem_append_left _ hkm),hk,hc,hb,q2,Option.map_some]
      ·simp only[tchI,hg,hi]
       exact q3
     ·cases h
    ·cases h
   ·cases h
  ·cases h
 | .nilf p::l,T,H,H2,ρ,x,H',ρ',h=>by
  unfold qu at h
  split at h
  ·rename_i hi
   have hsub:=(qbj l T H H ρ x _ _ h).1
   refine ⟨hsub,fun ha=>?_⟩
   have e1:tchI (.nilf p::l) T H ρ=tchI l T H ρ:=rfl
   rw[e1] at ha ⊢
   have hg:=qgp (T:=T) (H:=H) (H2:=H2) (ρ:=ρ) (fun j hj=>ha.2 j (List.mem_append_left _ (hsub j hj))) p
   obtain ⟨H22,q2,q3,c2⟩:=(qbj l T H H2 ρ x _ _ h).2 ha
   refine ⟨H22,?_,q3,c2⟩
   unfold qu
   rw[hg,hi]
   exact q2
  ·cases h
 | .fv p f::l,T,H,H2,ρ,x,H',ρ',h=>by
  unfold qu at h
  split at h
  ·rename_i hi
   have hsub:=(qbj l T H H ρ x _ _ h).1
   refine ⟨hsub,fun ha=>?_⟩
   have e1:tchI (.fv p f::l) T H ρ=tchI l T H ρ:=rfl
   rw[e1] at ha ⊢
   have hg:=qgp (T:=T) (H:=H) (H2:=H2) (ρ:=ρ) (fun j hj=>ha.2 j (List.mem_append_left _ (hsub j hj))) p
   obtain ⟨H22,q2,q3,c2⟩:=(qbj l T H H2 ρ x _ _ h).2 ha
   refine ⟨H22,?_,q3,c2⟩
   unfold qu
   rw[hg,hi]
   exact q2
  ·cases h
 | .nilp p::l,T,H,H2,ρ,x,H',ρ',h=>by
  unfold qu at h
  split at h
  ·rename_i hi
   have hsub:=(qbj l T H H ρ x _ _ h).1
   refine ⟨hsub,fun ha=>?_⟩
   have e1:tchI (.nilp p::l) T H ρ=tchI l T H ρ:=rfl
   rw[e1] at ha ⊢
   have hg:=qgp (T:=T) (H:=H) (H2:=H2) (ρ:=ρ) (fun j hj=>ha.2 j (List.mem_append_left _ (hsub j hj))) p
   obtain ⟨H22,q2,q3,c2⟩:=(qbj l T H H2 ρ x _ _ h).2 ha
   refine ⟨H22,?_,q3,c2⟩
   unfold qu
   rw[hg,hi]
   exact q2
  ·cases h
 | .ag p n::l,T,H,H2,ρ,x,H',ρ',h=>by
  unfold qu at h
  split at h
  ·rename_i cs hi
   split at h
   ·rename_i hn
    have hsub:=(qbj l T H H ρ x _ _ h).1
    refine ⟨hsub,fun ha=>?_⟩
    have e1:tchI (.ag p n::l) T H ρ=tchI l T H ρ:=rfl
    rw[e1] at ha ⊢
    have hg:=qgp (T:=T) (H:=H) (H2:=H2) (ρ:=ρ) (fun j hj=>ha.2 j (List.mem_append_left _ (hsub j hj))) p
    obtain ⟨H22,q2,q3,c2⟩:=(qbj l T H H2 ρ x _ _ h).2 ha
    refine ⟨H22,?_,q3,c2⟩
    unfold qu
    rw[hg,hi]
    simp only[hn]
    exact q2
   ·cases h
  ·cases h
 | .raw p::l,T,H,H2,ρ,x,H',ρ',h=>by
  unfold qu at h
  split at h
  ·rename_i v hi
   obtain ⟨⟨z,H3,ρ3⟩,hq,hx⟩:=map_none h
   obtain ⟨rfl,h2⟩:=Prod.mk.inj hx
   obtain ⟨rfl,rfl⟩:=Prod.mk.inj h2
   have hsub:=(qbj l T H H ρ z _ _ hq).1
   refine ⟨hsub,fun ha=>?_⟩
   have e1:tchI (.raw p::l) T H ρ=tchI l T H ρ:=rfl
   rw[e1] at ha ⊢
   have hg:=qgp (T:=T) (H:=H) (H2:=H2) (ρ:=ρ) (fun j hj=>ha.2 j (List.mem_append_left _ (hsub j hj))) p
   obtain ⟨H22,q2,q3,c2⟩:=(qbj l T H H2 ρ z _ _ hq).2 ha
   refine ⟨H22,?_,q3,c2⟩
   unfold qu
   rw[hg,hi]
   simp only[q2,Option.map_some]
  ·cases h
theorem qo2{α:Type}{f g:α→Bool}:∀{l:List α},(∀x,x∈l→f x=g x)→l.all f=l.all g
 | [],_=>rfl
 | x::l,h=>by rw[List.all_cons,List.all_cons,h x List.mem_cons_self,qo2 fun y hy=>h y (List.mem_cons_of_mem _ hy)]
section
variable {P:Program}
theorem qxq(c:Cw P)(id:Nat)(ds:List DV):Loc fun H=>qlP c id H ds:=by
 intro H H2 r h ha
 unfold qlP at h ⊢
 split at h
 ·exact h.elim
 ·dsimp only at h ⊢
  split at h
  ·exact h.elim
  ·rename_i x H' ρ hz
   obtain ⟨y,hy,h⟩:=h
   have hg:=qov h
   unfold qnO at hg
   split at hg
   case h_2=>exact hg.elim
   rename_i hok
   cases hg
   simp only at ha
   have haF:Ag (ρ++tchI c.ins ds H []) H H2:=ha.less fun k hk=>by
    rcases List.mem_append.1 hk with hk | hk
    ·exact List.mem_append_left _ hk
    ·exact List.mem_append_right _ (List.mem_append_left _ hk)
   obtain ⟨H2',q1,q2,c1⟩:=(qbj _ _ _ H2 _ _ _ _ hz).2 haF
   rw[q1]
   simp only
   have hlen1:H'.length=H.length:=c1.1
   have hlen2:H2'.length=H.length:=c1.2.1.trans ha.1
   have halike:∀k,k∈ρ++(tchI c.ins ds H []++(List.range ((mkS (qp c.outs y).1 (c.r+ρ.length) (qp c.outs y).2).H.length-ρ.length)).map (id + ·))→hget H2' k=hget H' k:=fun k hk=>by
    by_cases hf:k∈tchI c.ins ds H []
    ·exact (c1.2.2 k).1 hf
    ·obtain ⟨e1,e2⟩:=(c1.2.2 k).2 hf
     rw[e1,e2]
     exact ha.2 k hk
   have hnewm:∀k,ρ.length≤k→k<(mkS (qp c.outs y).1 (c.r+ρ.length) (qp c.outs y).2).H.length→id+(k-ρ.length)∈ρ++(tchI c.ins ds H []++(List.range ((mkS (qp c.outs y).1 (c.r+ρ.length) (qp c.outs y).2).H.length-ρ.length)).map (id + ·)):=fun k h1 h2 =>
    List.mem_append_right _ (List.mem_append_right _ (List.mem_map.2 ⟨k-ρ.length,List.mem_range.2 (by omega),rfl⟩))
   have hokE:okJ H2' (mkS (qp c.outs y).1 (c.r+ρ.length) (qp c.outs y).2).H ρ id=true:=by
    rw[← hok]
    unfold okJ
    congr 1
    refine qo2 fun k hk=>?_
    have hk:=List.mem_range.1 hk
    cases hq:ρ[k]? with
    | some b=>simp only[halike b (List.mem_append_left _ (List.mem_of_getElem? hq))]
    | none =>
     have h1:ρ.length≤k:=List.getElem?_eq_none_iff.1 hq
     have e:=halike _ (hnewm k h1 hk)
     unfold qcI
     rw[e,hlen2,hlen1]
   have hjoin:∀i,hget (qgd H2' (mkS (qp c.outs y).1 (c.r+ρ.length) (qp c.outs y).2).H ρ id) i=if i<H.length then qiS H2' (mkS (qp c.outs y).1 (c.r+ρ.length) (qp c.outs y).2).H ρ id i else .new:=fun i=>by rw[qgv,hlen2]
   have hjoin1:∀i,hget (qgd H' (mkS (qp c.outs y).1 (c.r+ρ.length) (qp c.outs y).2).H ρ id) i=if i<H.length then qiS H' (mkS (qp c.outs y).1 (c.r+ρ.length) (qp c.outs y).2).H ρ id i else .new:=fun i=>by rw[qgv,hlen1]
   refine ⟨qgd H2' (mkS (qp c.outs y).1 (c.r+ρ.length) (qp c.outs y).2).H ρ id,⟨y,hy,qur ?_⟩,?_⟩
   ·unfold qnO
    rw[hokE,q2,hlen1,hlen2]
    rfl
   ·refine ⟨by rw[qm2,hlen1],by rw[qm2,hlen2,ha.1],fun k=>⟨fun hk=>?_,fun hk=>?_⟩⟩
    ·rw[hjoin,hjoin1]
     split
     ·unfold qiS
      rw[hlen1,hlen2]
      simp only[halike k hk]
     ·rfl
    ·have hnone:sigI ρ id (mkS (qp c.outs y).1 (c.r+ρ.length) (qp c.outs y).2).H.length k=none:=by
      cases hq:sigI ρ id (mkS (qp c.outs y).1 (c.r+ρ.length) (qp c.outs y).2).H.length k with
      | none=>rfl
      | some j =>
       exfalso
       obtain ⟨h1,h2,h3⟩:=qhV hok hq
       rcases h3 with h3 | ⟨h3,h4,_⟩
       ·exact hk (List.mem_append_left _ (List.mem_of_getElem? h3))
       ·exact hk (h4 ▸ hnewm j h3 h1)
     have hf:k∉tchI c.ins ds H []:=fun h=>hk (List.mem_append_right _ (List.mem_append_left _ h))
     obtain ⟨e1,e2⟩:=(c1.2.2 k).2 hf
     have hout:∀(G:List DO),G.length≤k→hget G k = .new:=fun G hG=>by rw[ql6,List.getElem?_eq_none hG];rfl
     rw[hjoin,hjoin1]
     split
     ·unfold qiS
      rw[hnone]
      exact ⟨e1,e2⟩
     ·rename_i hlt
      exact ⟨(hout H2 (by rw[ha.1];omega)).symm,(hout H (by omega)).symm⟩
end
structure Itr (P:Program) where
 f:FuncId
 caps:List Ty
 ys:List Ty
 one:Bool
 an:Nat
 L:qx caps→Option (List (qx ys))
 ok:∀x l,L x=some l→qkZ P one f [] (qd6 caps x) (l.map fun y=>List.replicate an AV.any++tysA ys y)
def Itr.el{P:Program}(I:Itr P)(y:qx I.ys):List DV:=List.replicate I.an .any++tysD I.ys y
theorem Itr.el_conc{P:Program}(I:Itr P)(y:qx I.ys){g:Nat→Option Cn}:qa g (I.el y)=List.replicate I.an AV.any++tysA I.ys y:=by
 unfold Itr.el
 rw[qcP,qjI,qb4,List.map_replicate];rfl
structure CL (P:Program) where
 a:List (Ct P)
 b:List (Cw P)
 k:Nat
 c:Nat→Bool
def qoA:List It→List DV→Bool
 | [],_=>true
 | .row (.t i) _ _ _::l,ds=>(match lget ds i with
  | .ref _=>true
  | _=>false)&&qoA l ds
 | .obj (.t i) _ _ _::l,ds=>(match lget ds i with
  | .ptr _ 0=>true
  | _=>false)&&qoA l ds
 | .fn (.t i) f _ _::l,ds=>(match lget ds i with
  | .fn g _ _=>Nat.beq g f
  | .val (.func (.func g) _ _)=>Nat.beq g f
  | _=>false)&&qoA l ds
 | .nilf (.t i)::l,ds=>qrU (lget ds i)&&qoA l ds
 | .fnc (.t i) f _::l,ds=>(match lget ds i with
  | .fn g _ _=>Nat.beq g f
  | _=>false)&&qoA l ds
 | _::l,ds=>qoA l ds
def qrY{P:Program}:List (Cw P)→FuncId→List DV→Option (Cw P)
 | [],_,_=>none
 | c::l,f,ds=>match Nat.beq c.f f&&qoA c.ins ds with
  | true=>some c
  | false=>qrY l f ds
theorem qrl{P:Program}:∀{l:List (Cw P)} {f:FuncId} {ds:List DV} {c:Cw P},qrY l f ds=some c→c.f=f
 | x::l,f,ds,c,h=>by
  unfold qrY at h
  split at h
  ·rename_i hb
   injection h with h
   subst h
   rw[Bool.and_eq_true] at hb
   simpa using hb.1
  ·exact qrl h
def qhp(id:Nat):DV→List Nat→List Nat
 | .sub k _ _,F=>k::id::F
 | _,F=>F
def qh5(id:Nat)(r:SR):SR:=⟨(qdz id r.H r.v).1,(qdz id r.H r.v).2,qhp id r.v r.F⟩
def qjt(id:Nat)(H:List DO):DV→Option (Nat×(t:Ty)×TypeId×List t.den×Nat×Nat)
 | .sub k lo n=>match hget H k with
  | .row false t e l=>match qcI H id with
   | true=>some (k,⟨t,e,l,lo,n⟩)
   | false=>none
  | _=>none
 | _=>none
def qlQ(id:Nat)(r:SR):PT SR:=match qjt id r.H r.v with
 | some (k,⟨t,e,l,lo,n⟩)=>.br (Nat.beq lo 0) (.br (Nat.ble n l.length) (.ret ⟨.ref id,hput (hput r.H k (.dead t.sz)) id (.row false t e (l.take n)),qhp id r.v r.F⟩) .fail) .fail
 | none=>.ret ⟨r.v,r.H,qhp id r.v r.F⟩
theorem qoB(id:Nat)(r:SR):(∃k t e,∃l:List (Ty.den t),∃lo n,qjt id r.H r.v=some (k,⟨t,e,l,lo,n⟩)∧(Nat.beq lo 0=true→Nat.ble n l.length=true→qh5 id r=⟨.ref id,hput (hput r.H k (.dead t.sz)) id (.row false t e (l.take n)),qhp id r.v r.F⟩))∨(qjt id r.H r.v=none∧⟨r.v,r.H,qhp id r.v r.F⟩=(qh5 id r)):=by
 obtain ⟨v,H,F⟩:=r
 cases v with
 | sub k lo n =>
  cases ho:hget H k with
  | row z t e l =>
   cases z with
   | false =>
    cases hn:qcI H id with
    | true =>
     refine .inl ⟨k,t,e,l,lo,n,?_,?_⟩
     ·simp[qjt,ho,hn]
     ·intro h0 hb
      obtain rfl:lo=0:=Nat.eq_of_beq_eq_true h0
      simp[qh5,qdz,ho,hn,hb]
    | false=>exact .inr (by cases lo<;>simp[qjt,qh5,qdz,ho,hn])
   | true=>exact .inr (by cases lo<;>simp[qjt,qh5,qdz,ho])
  | _=>exact .inr (by cases lo<;>simp[qjt,qh5,qdz,ho])
 | _=>exact .inr ⟨rfl,rfl⟩
theorem qmg{id:Nat}{r q:SR}(h:(qlQ id r).Is q):q=qh5 id r:=by
 unfold qlQ at h
 rcases qoB id r with ⟨k,t,e,l,lo,n,h1,h2⟩ | ⟨h1,h2⟩
 ·rw[h1] at h
  rcases h with ⟨h0,⟨hc,h⟩ | ⟨hc,h⟩⟩ | ⟨hc,h⟩
  ·rw[h2 h0 hc];exact h.symm
  ·exact h.elim
  ·exact h.elim
 ·rw[h1] at h;rw[← h2];exact h.symm
theorem qyM{id:Nat}{r q:SR}(h:(qlQ id r).Is q){r':SR}(e0:qjt id r'.H r'.v=qjt id r.H r.v):(qlQ id r').Is (qh5 id r'):=by
 unfold qlQ at h ⊢
 rw[e0]
 rcases qoB id r with ⟨k,t,e,l,lo,n,h1,h2⟩ | ⟨h1,h2⟩
 ·rcases qoB id r' with ⟨k',t',e',l',lo',n',h1',h2'⟩ | ⟨h1',_⟩
  ·rw[e0,h1] at h1'
   cases h1'
   rw[h1] at h ⊢
   rcases h with ⟨h0,⟨hc,h⟩ | ⟨hc,h⟩⟩ | ⟨hc,h⟩
   ·exact .inl ⟨h0,.inl ⟨hc,(h2' h0 hc).symm⟩⟩
   ·exact h.elim
   ·exact h.elim
  ·rw[e0,h1] at h1';cases h1'
 ·rcases qoB id r' with ⟨k',t',e',l',lo',n',h1',h2'⟩ | ⟨h1',h2'⟩
  ·rw[e0,h1] at h1';cases h1'
  ·rw[h1];exact h2'
def qqs{P:Program}(cs:CL P)(id:Nat)(H:List DO)(fv:DV)(ds:List DV):PT SR:=match fv with
 | .fn f a c=>match qrY cs.b f (a++ds++c) with
  | some w=>(qlP w id H (a++ds++c)).seq fun r=>qlQ (id+cs.k-1) r
  | none=>qmZ cs.a H fv ds
 | .val (.func (.func f) p q)=>match p.size,q.size,qrY cs.b f ds with
  | 0,0,some w=>(qlP w id H ds).seq fun r=>qlQ (id+cs.k-1) r
  | _,_,_=>qmZ cs.a H fv ds
 | _=>.fail
def opSR{P:Program}(B:Tab P)(cs:CL P)(id:Nat)(op:Op)(T:List DV)(H:List DO):PT SR :=
 match op with
 | .call ⟨.value x,args,_⟩=>qqs cs id H (evD T x) (args.toList.map (evD T))
 | op=>sop B id H op ((opl op).map (evD T))
def qqt(ops:List Oper)(j:Nat):Option Tmp:=(ops[j]?).bind (·.dst)
def qjJ(ops:List Oper)(o:Oper)(T:List DV):Option Bool :=
 match o.guard with
 | none=>some true
 | some (j,want)=>match qqt ops j with
  | none=>some false
  | some d=>match lget T d with
   | .val (.bool b)=>some (b==want)
   | .val (.tuple _)=>some false
   | _=>none
def doOp{P:Program}(B:Tab P)(cs:CL P)(id:Nat)(o:Oper)(st:St):PT (St×List Nat) :=
 (opSR B cs id o.op st.T st.H).seq fun r=>.ret (⟨qt st.T o.dst r.v,r.H⟩,r.F)
def qrZ(o:Oper)(st:St):PT (St×List Nat):=.ret (⟨qt st.T o.dst (.val undef),st.H⟩,[])
def gstp{P:Program}(B:Tab P)(cs:CL P)(ops:List Oper)(id:Nat)(o:Oper)(st:St):PT (St×List Nat) :=
 match o.guard with
 | none=>doOp B cs id o st
 | some (j,want)=>match qqt ops j with
  | none=>qrZ o st
  | some d=>match lget st.T d with
   | .val (.bool b)=>match want with
    | true=>.br b (doOp B cs id o ⟨lput st.T d (.val (.bool true)),st.H⟩) (qrZ o ⟨lput st.T d (.val (.bool false)),st.H⟩)
    | false=>.br b (qrZ o ⟨lput st.T d (.val (.bool true)),st.H⟩) (doOp B cs id o ⟨lput st.T d (.val (.bool false)),st.H⟩)
   | .val (.tuple _)=>qrZ o st
   | _=>.fail
def StepR{P:Program}(B:Tab P)(cs:CL P)(ops:List Oper)(id:Nat)(o:Oper)(st st':St)(F:List Nat):Prop :=
 (qjJ ops o st.T=some true∧∃r,(opSR B cs id o.op st.T st.H).Is r∧st'=⟨qt st.T o.dst r.v,r.H⟩∧F=r.F) ∨
 (qjJ ops o st.T=some false∧st'=⟨qt st.T o.dst (.val undef),st.H⟩∧F=[])
section
variable {P:Program} {w0:Bs} {S:Nat→Prop} {B:Tab P} {a:Act} {w:World} {m:Nat→Value} {st:St} {cs:CL P}
theorem qsP{id:Nat}{o:Oper}{r:St×List Nat}(h:(doOp B cs id o st).Is r):∃q,(opSR B cs id o.op st.T st.H).Is q∧r=(⟨qt st.T o.dst q.v,q.H⟩,q.F):=by
 unfold doOp at h
 obtain ⟨q,h1,h2⟩:=PT.seq_is _ h
 cases h2
 exact ⟨q,h1,rfl⟩
theorem qz2{ops:List Oper}{id:Nat}{o:Oper}{r:St×List Nat}(h:(gstp B cs ops id o st).Is r):StepR B cs ops id o st r.1 r.2:=by
 unfold gstp at h
 unfold StepR qjJ
 split at h
 ·rename_i hg
  obtain ⟨q,h1,rfl⟩:=qsP h
  exact .inl ⟨rfl,q,h1,rfl,rfl⟩
 ·rename_i j want hg
  split at h
  ·rename_i hs
   cases h
   exact .inr ⟨rfl,rfl,rfl⟩
  ·rename_i d hs
   split at h
   ·rename_i b hb
    have hT:∀c,b=c→lput st.T d (.val (.bool c))=st.T:=fun c hc=>by rw[← hc,← hb,qrf]
    split at h
    ·rcases h with ⟨hc,h⟩ | ⟨hc,h⟩
     ·rw[hT _ hc] at h
      obtain ⟨q,h1,rfl⟩:=qsP h
      subst hc
      exact .inl ⟨rfl,q,h1,rfl,rfl⟩
     ·rw[hT _ hc] at h
      cases h
      subst hc
      exact .inr ⟨rfl,rfl,rfl⟩
    ·rcases h with ⟨hc,h⟩ | ⟨hc,h⟩
     ·rw[hT _ hc] at h
      cases h
      subst hc
      exact .inr ⟨rfl,rfl,rfl⟩
     ·rw[hT _ hc] at h
      obtain ⟨q,h1,rfl⟩:=qsP h
      subst hc
      exact .inl ⟨rfl,q,h1,rfl,rfl⟩
   ·rename_i vs hb
    cases h
    exact .inr ⟨rfl,rfl,rfl⟩
   ·exact h.elim
theorem qyN{H H1:List DO}{ρ:List Nat}{id:Nat}(h:okJ H H1 ρ id=true):Old H (qgd H H1 ρ id):=fun i hi=>by
 rw[qgv,if_pos (qbN hi)]
 unfold qiS
 cases hq:sigI ρ id H1.length i with
 | some k=>exact qxm (qri h (qhV h hq).1)
 | none=>exact hi
theorem qm3{c:Cw P}{id:Nat}{ds:List DV}{H:List DO}{r:SR}(h:(qlP c id H ds).Is r):Old H r.H:=by
 unfold qlP at h
 split at h
 ·exact h.elim
 ·split at h
  ·exact h.elim
  ·rename_i x H' ρ hz
   obtain ⟨y,_,h⟩:=h
   have h:=qov h
   unfold qnO at h
   split at h
   ·rename_i hok
    cases h
    exact (qb1 _ _ _ _ _ _ _ hz).1.old.trans (qyN hok)
   ·exact h.elim
theorem quB{o:Oper}{id:Nat}{r:SR}(h:StepW P o st ⟨qt st.T o.dst r.v,r.H⟩)(hn:Old st.H r.H):StepW P o st ⟨qt st.T o.dst (qh5 id r).v,(qh5 id r).H⟩ :=
 h.post (quh _ _ _) hn fun w0 S m a w hr=>by
  obtain ⟨m',h1,h2,_⟩:=qui hr
  exact ⟨m',h1,h2⟩
theorem qyO{o:Oper}{x:Operand}{args:List Operand}{tys:Array TypeId}{id:Nat}{r:SR}(ho:o.op = .call ⟨.value x,args.toArray,tys⟩)(h:(qqs cs id st.H (evD st.T x) (args.map (evD st.T))).Is r):StepW P o st ⟨qt st.T o.dst r.v,r.H⟩:=by
 unfold qqs at h
 split at h
 ·rename_i f df dc hx
  split at h
  ·rename_i c hc
   obtain rfl:=qrl hc
   obtain ⟨q,h1,h2⟩:=PT.seq_is _ h
   obtain rfl:=qmg h2
   exact quB (quu ho (.inl hx) rfl h1) (qm3 h1)
  ·exact quy ho h
 ·rename_i f p q hx
  split at h
  ·rename_i c hp hq hc
   obtain rfl:=qrl hc
   have e1:p = #[]:=Array.eq_empty_of_size_eq_zero hp
   have e2:q = #[]:=Array.eq_empty_of_size_eq_zero hq
   subst e1 e2
   obtain ⟨q,h1,h2⟩:=PT.seq_is _ h
   obtain rfl:=qmg h2
   exact quB (quu ho (.inr ⟨rfl,rfl,hx⟩) (by simp) h1) (qm3 h1)
  ·exact quy ho h
 ·exact h.elim
theorem qto(c:Cw P)(id id2:Nat)(ds:List DV):Loc fun H=>(qlP c id H ds).seq fun r=>qlQ id2 r:=by
 intro H H2 r h ha
 obtain ⟨q,h1,h2⟩:=PT.seq_is _ h
 have h20:=h2
 obtain rfl:=qmg h20
 have hsub:∀k,k∈q.F→k∈(qh5 id2 q).F:=fun k hk=>by
  show k∈qhp id2 q.v q.F
  unfold qhp
  split
  ·exact List.mem_cons_of_mem _ (List.mem_cons_of_mem _ hk)
  ·exact hk
 obtain ⟨H2',e1,c1⟩:=qxq c id ds H H2 q h1 (ha.less hsub)
 have c2:=c1.more hsub ha
 have ha2:∀k,k∈(qh5 id2 q).F→hget H2' k=hget q.H k:=fun k hk=>(c2.2.2 k).1 hk
 refine ⟨(qdz id2 H2' q.v).2,PT.seq_mk _ e1 ?_,?_⟩
 ·refine cast (congrArg (qlQ id2 ⟨q.v,H2',q.F⟩).Is ?_) (qyM h2 (r':=⟨q.v,H2',q.F⟩) ?_)
  rotate_left
  ·show qjt id2 H2' q.v=qjt id2 q.H q.v
   unfold qjt
   split
   ·rename_i k lo n hv
    have hk:hget H2' k=hget q.H k:=ha2 k (by show k∈qhp id2 q.v q.F;rw[hv];exact List.mem_cons_self)
    have hi:hget H2' id2=hget q.H id2:=ha2 id2 (by show id2∈qhp id2 q.v q.F;rw[hv];exact List.mem_cons_of_mem _ List.mem_cons_self)
    have hn:qcI H2' id2=qcI q.H id2:=by unfold qcI;rw[hi,c2.2.1,c2.1,ha.1]
    rw[hk,hn]
   ·rfl
  show (qh5 id2 ⟨q.v,H2',q.F⟩)=⟨(qdz id2 q.H q.v).1,(qdz id2 H2' q.v).2,qhp id2 q.v q.F⟩
  unfold qh5
  simp only[SR.mk.injEq,true_and,and_true]
  unfold qdz
  split
  ·rename_i k n hv
   have hk:hget H2' k=hget q.H k:=ha2 k (by show k∈qhp id2 q.v q.F;rw[hv];exact List.mem_cons_self)
   have hi:hget H2' id2=hget q.H id2:=ha2 id2 (by show id2∈qhp id2 q.v q.F;rw[hv];exact List.mem_cons_of_mem _ List.mem_cons_self)
   have hn:qcI H2' id2=qcI q.H id2:=by unfold qcI;rw[hi,c2.2.1,c2.1,ha.1]
   rw[hk,hn]
   split
   ·split<;>rfl
   ·rfl
  ·rfl
 ·show Ch (qhp id2 q.v q.F) H (qdz id2 q.H q.v).2 H2 (qdz id2 H2' q.v).2
  unfold qdz
  split
  ·rename_i k n hv
   have hkm:k∈qhp id2 q.v q.F:=by rw[hv];exact List.mem_cons_self
   have him:id2∈qhp id2 q.v q.F:=by rw[hv];exact List.mem_cons_of_mem _ List.mem_cons_self
   have hk:hget H2' k=hget q.H k:=ha2 k hkm
   have hi:hget H2' id2=hget q.H id2:=ha2 id2 him
   have hn:qcI H2' id2=qcI q.H id2:=by unfold qcI;rw[hi,c2.2.1,c2.1,ha.1]
   rw[hk,hn]
   split
   ·split
    ·exact (Ch.put ha.1 c2 _ hkm).put ha.1 _ him
    ·exact c2
   ·exact c2
  ·exact c2
theorem qxr(id:Nat)(fv:DV)(ds:List DV):Loc fun H=>qqs cs id H fv ds:=by
 unfold qqs
 split
 ·split
  ·exact qto _ _ _ _
  ·exact qtn _ _ _
 ·split
  ·exact qto _ _ _ _
  ·exact qtn _ _ _
 ·exact fun _ _ _ h _=>h.elim
theorem qvN{id:Nat}{o:Oper}{r:SR}(h:(opSR B cs id o.op st.T st.H).Is r):StepW P o st ⟨qt st.T o.dst r.v,r.H⟩:=by
 unfold opSR at h
 split at h
 ·rename_i x args tys ho
  obtain ⟨args⟩:=args
  exact qyO ho h
 ·rename_i hno
  obtain ⟨op,hop⟩:∃op,o.op=op:=⟨_,rfl⟩
  rw[hop] at h
  obtain ⟨ds,hds⟩:∃ds,(opl op).map (evD st.T)=ds:=⟨_,rfl⟩
  rw[hds] at h
  unfold sop at h
  split at h
  ·rename_i ty x d
   simp only[opl,List.map_cons,List.map_nil,List.cons.injEq,and_true] at hds
   exact qym hop hds h
  ·rename_i ty x y d kk n
   simp only[opl,List.map_cons,List.map_nil,List.cons.injEq,and_true] at hds
   exact qwZ hop hds.1 hds.2 h
  ·rename_i ty x y p d
   simp only[opl,List.map_cons,List.map_nil,List.cons.injEq,and_true] at hds
   exact qw1 hop hds.1 hds.2 h
  ·exact qw0 hop h
  ·rename_i ty x d
   simp only[opl,List.map_cons,List.map_nil,List.cons.injEq,and_true] at hds
   exact qzU hop hds h
  ·rename_i ty x y k1 n k2 q
   simp only[opl,List.map_cons,List.map_nil,List.cons.injEq,and_true] at hds
   exact qyp hop hds.1 hds.2 h
  ·rename_i ty n ps
   exact qwd hop hds h
  ·rename_i ty x y d kk n
   simp[opl] at hds
   exact qyn hop hds.1 hds.2 h
  ·rename_i ty x y d kk n
   simp[opl] at hds
   exact qyo hop hds.1 hds.2 h
  ·rename_i ty x y y2 d kk n k2 n2
   simp[opl] at hds
   exact qzT hop hds.1 hds.2.1 hds.2.2 h
  ·rename_i ar tys d
   obtain ⟨ar⟩:=ar
   obtain ⟨tys⟩:=tys
   split at h
   ·rename_i y ty e1 e2
    simp only at e1 e2
    subst e1 e2
    simp only[opl,List.map_cons,List.map_nil,List.cons.injEq,and_true] at hds
    exact qzR hop hds h
   ·exact h.elim
  ·rename_i ar tys x y
   obtain ⟨ar⟩:=ar
   obtain ⟨tys⟩:=tys
   split at h
   ·rename_i ox oy ty ty' e1 e2
    simp only at e1 e2
    subst e1 e2
    split at h
    ·rename_i hty
     have hty:ty=ty':=by simpa using hty
     subst hty
     simp only[opl,List.map_cons,List.map_nil,List.cons.injEq,and_true] at hds
     exact qwe hop hds.1 hds.2 h
    ·simp only[opl,List.map_cons,List.map_nil,List.cons.injEq,and_true] at hds
     exact qys hop hds.1 hds.2 h
   ·exact h.elim
  ·exact qqX hop (.inl rfl) h
  ·rename_i ty x kk n
   simp only[opl,Option.toList,List.map_cons,List.map_nil,List.cons.injEq,and_true] at hds
   exact qqX hop (.inr ⟨x,kk,n,rfl,hds⟩) h
  ·rename_i ty x y ok d q
   simp only[opl,List.map_cons,List.map_nil,List.cons.injEq,and_true] at hds
   exact qwf hop hds.1 hds.2 h
  ·rename_i ty x y d q
   simp only[opl,List.map_cons,List.map_nil,List.cons.injEq,and_true] at hds
   exact qw4 hop hds.1 hds.2 h
  ·rename_i ty x s y d kk n v
   simp only[opl,List.map_cons,List.map_nil,List.cons.injEq,and_true] at hds
   exact qw5 hop hds.1 hds.2.1 hds.2.2 h
  ·rename_i ty x s y d q v
   simp only[opl,List.map_cons,List.map_nil,List.cons.injEq,and_true] at hds
   exact qtg (.inl hop) hds.1 hds.2.1 hds.2.2 h
  ·rename_i ty x s y d q v
   simp only[opl,List.map_cons,List.map_nil,List.cons.injEq,and_true] at hds
   exact qtg (.inr hop) hds.1 hds.2.1 hds.2.2 h
  ·rename_i ar tys d
   obtain ⟨ar⟩:=ar
   obtain ⟨tys⟩:=tys
   split at h
   ·rename_i y ty e1 e2
    simp only at e1 e2
    subst e1 e2
    simp only[opl,List.map_cons,List.map_nil,List.cons.injEq,and_true] at hds
    exact qw6 hop hds h
   ·exact h.elim
  ·rename_i ar tys d
   obtain ⟨ar⟩:=ar
   obtain ⟨tys⟩:=tys
   split at h
   ·rename_i y ty e1 e2
    simp only at e1 e2
    subst e1 e2
    simp only[opl,List.map_cons,List.map_nil,List.cons.injEq,and_true] at hds
    exact qzS hop hds h
   ·exact h.elim
  ·rename_i ar tys x y
   obtain ⟨ar⟩:=ar
   obtain ⟨tys⟩:=tys
   split at h
   ·rename_i ox oy ty ty' e1 e2
    simp only at e1 e2
    subst e1 e2
    simp only[opl,List.map_cons,List.map_nil,List.cons.injEq,and_true] at hds
    exact qyt hop hds.1 hds.2 h
   ·exact h.elim
  ·unfold optH at h
   obtain ⟨v,h1,h2⟩:=PT.seq_is _ h
   cases h2
   exact StepW.ay fun w0 S m a w hr=>qyk hr.gok hop hds h1
theorem qoC(id:Nat)(op:Op)(T:List DV):Loc fun H=>opSR B cs id op T H:=by
 unfold opSR
 split
 ·exact qxr _ _ _
 ·exact qzX _ _ _
theorem qkQ{id:Nat}{op:Op}{T T2:List DV}(h:∀x,x∈op.operands→evD T x=evD T2 x)(H:List DO):opSR B cs id op T H=opSR B cs id op T2 H:=by
 unfold opSR
 split
 ·rename_i x args tys
  rw[h x (by simp[Op.operands,Call.operands])]
  congr 1
  exact List.map_congr_left fun y hy=>h y (by simp[Op.operands,Call.operands];right;simpa using hy)
 ·congr 1
  exact List.map_congr_left fun y hy=>h y (qqg hy)
theorem qtp{ops:List Oper}{o:Oper}{T:List DV}{b:Bool}{g:Nat→Option Cn}(h:qjJ ops o T=some b):qZ ops.toArray o (qa g T)=some b:=by
 unfold qjJ at h
 unfold qZ
 cases hg:o.guard with
 | none=>rw[hg] at h;exact h
 | some jw =>
  obtain ⟨j,want⟩:=jw
  rw[hg] at h
  simp only at h ⊢
  have e:(ops.toArray[j]?).bind (·.dst)=qqt ops j:=by simp[qqt]
  rw[e]
  cases hs:qqt ops j with
  | none=>rw[hs] at h;exact h
  | some d =>
   rw[hs] at h
   simp only[qcN] at h ⊢
   split at h
   ·rename_i c hc;rw[hc];exact h
   ·rename_i c hc;rw[hc];exact h
   ·cases h
theorem StepR.go{ops:List Oper}{id:Nat}{o:Oper}{st':St}{F0:List Nat}(h:StepR B cs ops id o st st' F0){w0:Bs}{S:Nat→Prop}{F:Fence}(hF:Wf F){m:Nat→Value}{a:Act}{w:World}(hr:DR w0 S m st a w){K:Act→World→Prop}{Q:Exit→Act→World→Prop}
  (hK:∀m' a' w',mle m m' st.H→DR w0 S m' st' a' w'→a'.defers=a.defers→K a' w'):if Region.wanted o (yielded ops.toArray a.tmps) then o.wpIn F 0 P a w K Q else (∀f,o.about P w a.eval=some f→F.fn f)∧K (a.put o.dst undef) w:=by
 rcases h with ⟨hw,r,h1,rfl,rfl⟩ | ⟨hw,rfl,rfl⟩
 ·rw[if_pos (qel (a:=a) (qtp (g:=gOf m st.H) hw) (fun d _ v hv=>hr.2.2.looks d v hv))]
  exact (qvN h1).2 w0 S F hF m a w hr K Q hK
 ·rw[if_neg (by rw[qel (a:=a) (qtp (g:=gOf m st.H) hw) (fun d _ v hv=>hr.2.2.looks d v hv)];simp)]
  refine ⟨fun f _=>hF.fn f,hK m _ w (mle.refl _ _) ⟨hr.1,hr.2.1,?_⟩ (qkc _ _ _)⟩
  simp only[qcX]
  exact hr.2.2.put o.dst (.val _)
theorem StepR.kl{ops:List Oper}{id:Nat}{o:Oper}{st':St}{F0:List Nat}(h:StepR B cs ops id o st st' F0):Kl st.H st'.H:=by
 rcases h with ⟨hw,r,h1,rfl,rfl⟩ | ⟨hw,rfl,rfl⟩
 ·exact (qvN h1).1
 ·exact Kl.refl _
end
end Go.Proofs.YtfnflenkeljkiaaGreat
