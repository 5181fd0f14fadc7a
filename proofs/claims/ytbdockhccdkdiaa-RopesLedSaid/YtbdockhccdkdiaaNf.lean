/- Texts DnT, DnR, DnU, DnV in one. -/
import Derived.Test.YtbdockhccdkdiaaNd
import Derived.Test.YtbdockhccdkdiaaTy
/- The table of the types. -/
set_option linter.constructorNameAsVariable false
set_option linter.unusedSimpArgs false
set_option linter.unusedVariables false
set_option linter.unusedSectionVars false
namespace Go.Proofs.Ytbdockhccdkdiaa
open Go Go.Proofs Go.RowKit
noncomputable section
abbrev T2:Ty:=.i .i64
abbrev T3:Ty:=.i .i64
abbrev T4:Ty:=.b
abbrev T6:Ty:=.i .u8
abbrev T7:Ty:=.pr T2 (.pr T3 (.pr T4 T6))
abbrev T8:Ty:=.pr T2 (.pr T3 (.pr T4 T6))
abbrev T30:Ty:=.pr T3 T3
abbrev T32:Ty:=.pr T3 T30
abbrev T22:Ty:=.sl T32
abbrev T23:Ty:=.sl T3
abbrev T26:Ty:=.i .i64
abbrev T29:Ty:=.pr T3 T3
abbrev T31:Ty:=.pr T3 T30
abbrev T37:Ty:=.i .u64
abbrev T79:Ty:=.pr T3 (.pr T3 T3)
abbrev T41:Ty:=.sl T79
abbrev T106:Ty:=.pr T3 T3
abbrev T42:Ty:=.sl T106
abbrev T44:Ty:=.pr T3 (.pr T3 (.pr T3 T42))
abbrev T108:Ty:=.pr T3 (.pr T30 T30)
abbrev T58:Ty:=.sl T108
abbrev T60:Ty:=.pr T3 (.pr T3 (.pr T3 T58))
abbrev T45:Ty:=.sl T60
abbrev T47:Ty:=.pr T3 (.pr T3 (.pr T3 (.pr T41 (.pr T23 (.pr T44 T45)))))
abbrev T78:Ty:=.pr T3 (.pr T3 T3)
abbrev T86:Ty:=.pt (.pr (.pr (.i .i64) (.pr (.i .i64) (.pr (.i .i64) (.pr (.sl (.pr (.i .i64) (.pr (.i .i64) (.i .i64)))) (.pr (.sl (.i .i64)) (.pr (.pr (.i .i64) (.pr (.i .i64) (.pr (.i .i64) (.sl (.pr (.i .i64) (.i .i64)))))) (.sl (.pr (.i .i64) (.pr (.i .i64) (.pr (.i .i64) (.sl (.pr (.i .i64) (.pr (.pr (.i .i64) (.i .i64)) (.pr (.i .i64) (.i .i64))))))))))))))) (.sl (.i .i64)))
abbrev T99:Ty:=.pr T44 .u
abbrev T105:Ty:=.pr T3 T3
abbrev T107:Ty:=.pr T3 (.pr T30 T30)
abbrev T138:Ty:=.i .u64
def qy3:List (Sigma (TyE Try.prog)):=[⟨1,⟨_,_,_,inferInstance⟩⟩,
 ⟨2,⟨_,_,_,inferInstance⟩⟩,
 ⟨3,⟨_,_,_,inferInstance⟩⟩,
 ⟨4,⟨_,_,_,inferInstance⟩⟩,
 ⟨5,⟨_,_,_,inferInstance⟩⟩,
 ⟨6,⟨_,_,_,inferInstance⟩⟩,
 ⟨7,⟨_,_,_,inferInstance⟩⟩,
 ⟨8,⟨_,_,_,inferInstance⟩⟩,
 ⟨12,⟨_,_,_,inferInstance⟩⟩,
 ⟨15,⟨_,_,_,inferInstance⟩⟩,
 ⟨16,⟨_,_,_,inferInstance⟩⟩,
 ⟨17,⟨_,_,_,inferInstance⟩⟩,
 ⟨18,⟨_,_,_,inferInstance⟩⟩,
 ⟨19,⟨_,_,_,inferInstance⟩⟩,
 ⟨20,⟨_,_,_,inferInstance⟩⟩,
 ⟨21,⟨_,_,_,inferInstance⟩⟩,
 ⟨22,⟨_,_,_,inferInstance⟩⟩,
 ⟨23,⟨_,_,_,inferInstance⟩⟩,
 ⟨24,⟨_,_,_,inferInstance⟩⟩,
 ⟨25,⟨_,_,_,inferInstance⟩⟩,
 ⟨26,⟨_,_,_,inferInstance⟩⟩,
 ⟨27,⟨_,_,_,inferInstance⟩⟩,
 ⟨28,⟨_,_,_,inferInstance⟩⟩,
 ⟨29,⟨_,_,_,inferInstance⟩⟩,
 ⟨30,⟨_,_,_,inferInstance⟩⟩,
 ⟨31,⟨_,_,_,inferInstance⟩⟩,
 ⟨32,⟨_,_,_,inferInstance⟩⟩,
 ⟨34,⟨_,_,_,inferInstance⟩⟩,
 ⟨36,⟨_,_,_,inferInstance⟩⟩,
 ⟨37,⟨_,_,_,inferInstance⟩⟩,
 ⟨38,⟨_,_,_,inferInstance⟩⟩,
 ⟨39,⟨_,_,_,inferInstance⟩⟩,
 ⟨40,⟨_,_,_,inferInstance⟩⟩,
 ⟨41,⟨_,_,_,inferInstance⟩⟩,
 ⟨42,⟨_,_,_,inferInstance⟩⟩,
 ⟨43,⟨_,_,_,inferInstance⟩⟩,
 ⟨44,⟨_,_,_,inferInstance⟩⟩,
 ⟨45,⟨_,_,_,inferInstance⟩⟩,
 ⟨46,⟨_,_,_,inferInstance⟩⟩,
 ⟨47,⟨_,_,_,inferInstance⟩⟩,
 ⟨48,⟨_,_,_,inferInstance⟩⟩,
 ⟨49,⟨_,_,_,inferInstance⟩⟩,
 ⟨50,⟨_,_,_,inferInstance⟩⟩,
 ⟨51,⟨_,_,_,inferInstance⟩⟩,
 ⟨53,⟨_,_,_,inferInstance⟩⟩,
 ⟨54,⟨_,_,_,inferInstance⟩⟩,
 ⟨55,⟨_,_,_,inferInstance⟩⟩,
 ⟨57,⟨_,_,_,inferInstance⟩⟩,
 ⟨58,⟨_,_,_,inferInstance⟩⟩,
 ⟨59,⟨_,_,_,inferInstance⟩⟩,
 ⟨60,⟨_,_,_,inferInstance⟩⟩,
 ⟨61,⟨_,_,_,inferInstance⟩⟩,
 ⟨62,⟨_,_,_,inferInstance⟩⟩,
 ⟨64,⟨_,_,_,inferInstance⟩⟩,
 ⟨66,⟨_,_,_,inferInstance⟩⟩,
 ⟨67,⟨_,_,_,inferInstance⟩⟩,
 ⟨68,⟨_,_,_,inferInstance⟩⟩,
 ⟨69,⟨_,_,_,inferInstance⟩⟩,
 ⟨70,⟨_,_,_,inferInstance⟩⟩,
 ⟨72,⟨_,_,_,inferInstance⟩⟩,
 ⟨73,⟨_,_,_,inferInstance⟩⟩,
 ⟨74,⟨_,_,_,inferInstance⟩⟩,
 ⟨75,⟨_,_,_,inferInstance⟩⟩,
 ⟨76,⟨_,_,_,inferInstance⟩⟩,
 ⟨77,⟨_,_,_,inferInstance⟩⟩,
 ⟨78,⟨_,_,_,inferInstance⟩⟩,
 ⟨79,⟨_,_,_,inferInstance⟩⟩,
 ⟨80,⟨_,_,_,inferInstance⟩⟩,
 ⟨81,⟨_,_,_,inferInstance⟩⟩,
 ⟨82,⟨_,_,_,inferInstance⟩⟩,
 ⟨83,⟨_,_,_,inferInstance⟩⟩,
 ⟨84,⟨_,_,_,inferInstance⟩⟩,
 ⟨85,⟨_,_,_,inferInstance⟩⟩,
 ⟨86,⟨_,_,_,inferInstance⟩⟩,
 ⟨88,⟨_,_,_,inferInstance⟩⟩,
 ⟨89,⟨_,_,_,inferInstance⟩⟩,
 ⟨90,⟨_,_,_,inferInstance⟩⟩,
 ⟨91,⟨_,_,_,inferInstance⟩⟩,
 ⟨92,⟨_,_,_,inferInstance⟩⟩,
 ⟨94,⟨_,_,_,inferInstance⟩⟩,
 ⟨95,⟨_,_,_,inferInstance⟩⟩,
 ⟨96,⟨_,_,_,inferInstance⟩⟩,
 ⟨97,⟨_,_,_,inferInstance⟩⟩,
 ⟨98,⟨_,_,_,inferInstance⟩⟩,
 ⟨99,⟨_,_,_,inferInstance⟩⟩,
 ⟨101,⟨_,_,_,inferInstance⟩⟩,
 ⟨102,⟨_,_,_,inferInstance⟩⟩,
 ⟨103,⟨_,_,_,inferInstance⟩⟩,
 ⟨104,⟨_,_,_,inferInstance⟩⟩,
 ⟨105,⟨_,_,_,inferInstance⟩⟩,
 ⟨106,⟨_,_,_,inferInstance⟩⟩,
 ⟨107,⟨_,_,_,inferInstance⟩⟩,
 ⟨108,⟨_,_,_,inferInstance⟩⟩,
 ⟨109,⟨_,_,_,inferInstance⟩⟩,
 ⟨110,⟨_,_,_,inferInstance⟩⟩,
 ⟨111,⟨_,_,_,inferInstance⟩⟩,
 ⟨112,⟨_,_,_,inferInstance⟩⟩,
 ⟨113,⟨_,_,_,inferInstance⟩⟩,
 ⟨114,⟨_,_,_,inferInstance⟩⟩,
 ⟨115,⟨_,_,_,inferInstance⟩⟩,
 ⟨116,⟨_,_,_,inferInstance⟩⟩,
 ⟨117,⟨_,_,_,inferInstance⟩⟩,
 ⟨118,⟨_,_,_,inferInstance⟩⟩,
 ⟨119,⟨_,_,_,inferInstance⟩⟩,
 ⟨120,⟨_,_,_,inferInstance⟩⟩,
 ⟨121,⟨_,_,_,inferInstance⟩⟩,
 ⟨122,⟨_,_,_,inferInstance⟩⟩,
 ⟨123,⟨_,_,_,inferInstance⟩⟩,
 ⟨124,⟨_,_,_,inferInstance⟩⟩,
 ⟨125,⟨_,_,_,inferInstance⟩⟩,
 ⟨126,⟨_,_,_,inferInstance⟩⟩,
 ⟨127,⟨_,_,_,inferInstance⟩⟩,
 ⟨128,⟨_,_,_,inferInstance⟩⟩,
 ⟨129,⟨_,_,_,inferInstance⟩⟩,
 ⟨130,⟨_,_,_,inferInstance⟩⟩,
 ⟨131,⟨_,_,_,inferInstance⟩⟩,
 ⟨132,⟨_,_,_,inferInstance⟩⟩,
 ⟨134,⟨_,_,_,inferInstance⟩⟩,
 ⟨135,⟨_,_,_,inferInstance⟩⟩,
 ⟨137,⟨_,_,_,inferInstance⟩⟩,
 ⟨138,⟨_,_,_,inferInstance⟩⟩,
 ⟨140,⟨_,_,_,inferInstance⟩⟩,
 ⟨141,⟨_,_,_,inferInstance⟩⟩,
 ⟨144,⟨_,_,_,inferInstance⟩⟩,
 ⟨145,⟨_,_,_,inferInstance⟩⟩,
 ⟨146,⟨_,_,_,inferInstance⟩⟩,
 ⟨147,⟨_,_,_,inferInstance⟩⟩,
 ⟨148,⟨_,_,_,inferInstance⟩⟩,
 ⟨149,⟨_,_,_,inferInstance⟩⟩,
 ⟨150,⟨_,_,_,inferInstance⟩⟩,
 ⟨151,⟨_,_,_,inferInstance⟩⟩,
 ⟨152,⟨_,_,_,inferInstance⟩⟩,
 ⟨153,⟨_,_,_,inferInstance⟩⟩,
 ⟨154,⟨_,_,_,inferInstance⟩⟩,
 ⟨155,⟨_,_,_,inferInstance⟩⟩,
 ⟨156,⟨_,_,_,inferInstance⟩⟩]
def qy4:List (Sigma fun t=>Sigma fun f=>FdE Try.prog t f):=[⟨7,0,⟨_,_,_,inferInstance⟩⟩,
 ⟨7,1,⟨_,_,_,inferInstance⟩⟩,
 ⟨7,2,⟨_,_,_,inferInstance⟩⟩,
 ⟨7,3,⟨_,_,_,inferInstance⟩⟩,
 ⟨8,0,⟨_,_,_,inferInstance⟩⟩,
 ⟨8,1,⟨_,_,_,inferInstance⟩⟩,
 ⟨8,2,⟨_,_,_,inferInstance⟩⟩,
 ⟨8,3,⟨_,_,_,inferInstance⟩⟩,
 ⟨13,0,⟨_,_,_,inferInstance⟩⟩,
 ⟨13,1,⟨_,_,_,inferInstance⟩⟩,
 ⟨14,0,⟨_,_,_,inferInstance⟩⟩,
 ⟨14,1,⟨_,_,_,inferInstance⟩⟩,
 ⟨18,0,⟨_,_,_,inferInstance⟩⟩,
 ⟨19,0,⟨_,_,_,inferInstance⟩⟩,
 ⟨24,0,⟨_,_,_,inferInstance⟩⟩,
 ⟨24,1,⟨_,_,_,inferInstance⟩⟩,
 ⟨24,2,⟨_,_,_,inferInstance⟩⟩,
 ⟨24,3,⟨_,_,_,inferInstance⟩⟩,
 ⟨25,0,⟨_,_,_,inferInstance⟩⟩,
 ⟨25,1,⟨_,_,_,inferInstance⟩⟩,
 ⟨25,2,⟨_,_,_,inferInstance⟩⟩,
 ⟨25,3,⟨_,_,_,inferInstance⟩⟩,
 ⟨29,0,⟨_,_,_,inferInstance⟩⟩,
 ⟨29,1,⟨_,_,_,inferInstance⟩⟩,
 ⟨30,0,⟨_,_,_,inferInstance⟩⟩,
 ⟨30,1,⟨_,_,_,inferInstance⟩⟩,
 ⟨31,0,⟨_,_,_,inferInstance⟩⟩,
 ⟨31,1,⟨_,_,_,inferInstance⟩⟩,
 ⟨32,0,⟨_,_,_,inferInstance⟩⟩,
 ⟨32,1,⟨_,_,_,inferInstance⟩⟩,
 ⟨43,0,⟨_,_,_,inferInstance⟩⟩,
 ⟨43,1,⟨_,_,_,inferInstance⟩⟩,
 ⟨43,2,⟨_,_,_,inferInstance⟩⟩,
 ⟨43,3,⟨_,_,_,inferInstance⟩⟩,
 ⟨44,0,⟨_,_,_,inferInstance⟩⟩,
 ⟨44,1,⟨_,_,_,inferInstance⟩⟩,
 ⟨44,2,⟨_,_,_,inferInstance⟩⟩,
 ⟨44,3,⟨_,_,_,inferInstance⟩⟩,
 ⟨46,0,⟨_,_,_,inferInstance⟩⟩,
 ⟨46,1,⟨_,_,_,inferInstance⟩⟩,
 ⟨46,2,⟨_,_,_,inferInstance⟩⟩,
 ⟨46,3,⟨_,_,_,inferInstance⟩⟩,
 ⟨46,4,⟨_,_,_,inferInstance⟩⟩,
 ⟨46,5,⟨_,_,_,inferInstance⟩⟩,
 ⟨46,6,⟨_,_,_,inferInstance⟩⟩,
 ⟨47,0,⟨_,_,_,inferInstance⟩⟩,
 ⟨47,1,⟨_,_,_,inferInstance⟩⟩,
 ⟨47,2,⟨_,_,_,inferInstance⟩⟩,
 ⟨47,3,⟨_,_,_,inferInstance⟩⟩,
 ⟨47,4,⟨_,_,_,inferInstance⟩⟩,
 ⟨47,5,⟨_,_,_,inferInstance⟩⟩,
 ⟨47,6,⟨_,_,_,inferInstance⟩⟩,
 ⟨59,0,⟨_,_,_,inferInstance⟩⟩,
 ⟨59,1,⟨_,_,_,inferInstance⟩⟩,
 ⟨59,2,⟨_,_,_,inferInstance⟩⟩,
 ⟨59,3,⟨_,_,_,inferInstance⟩⟩,
 ⟨60,0,⟨_,_,_,inferInstance⟩⟩,
 ⟨60,1,⟨_,_,_,inferInstance⟩⟩,
 ⟨60,2,⟨_,_,_,inferInstance⟩⟩,
 ⟨60,3,⟨_,_,_,inferInstance⟩⟩,
 ⟨78,0,⟨_,_,_,inferInstance⟩⟩,
 ⟨78,1,⟨_,_,_,inferInstance⟩⟩,
 ⟨78,2,⟨_,_,_,inferInstance⟩⟩,
 ⟨79,0,⟨_,_,_,inferInstance⟩⟩,
 ⟨79,1,⟨_,_,_,inferInstance⟩⟩,
 ⟨79,2,⟨_,_,_,inferInstance⟩⟩,
 ⟨98,0,⟨_,_,_,inferInstance⟩⟩,
 ⟨99,0,⟨_,_,_,inferInstance⟩⟩,
 ⟨105,0,⟨_,_,_,inferInstance⟩⟩,
 ⟨105,1,⟨_,_,_,inferInstance⟩⟩,
 ⟨106,0,⟨_,_,_,inferInstance⟩⟩,
 ⟨106,1,⟨_,_,_,inferInstance⟩⟩,
 ⟨107,0,⟨_,_,_,inferInstance⟩⟩,
 ⟨107,1,⟨_,_,_,inferInstance⟩⟩,
 ⟨107,2,⟨_,_,_,inferInstance⟩⟩,
 ⟨108,0,⟨_,_,_,inferInstance⟩⟩,
 ⟨108,1,⟨_,_,_,inferInstance⟩⟩,
 ⟨108,2,⟨_,_,_,inferInstance⟩⟩,
 ⟨115,0,⟨_,_,_,inferInstance⟩⟩,
 ⟨115,1,⟨_,_,_,inferInstance⟩⟩,
 ⟨116,0,⟨_,_,_,inferInstance⟩⟩,
 ⟨116,1,⟨_,_,_,inferInstance⟩⟩,
 ⟨142,0,⟨_,_,_,inferInstance⟩⟩,
 ⟨142,1,⟨_,_,_,inferInstance⟩⟩,
 ⟨142,2,⟨_,_,_,inferInstance⟩⟩,
 ⟨142,3,⟨_,_,_,inferInstance⟩⟩,
 ⟨143,0,⟨_,_,_,inferInstance⟩⟩,
 ⟨143,1,⟨_,_,_,inferInstance⟩⟩,
 ⟨143,2,⟨_,_,_,inferInstance⟩⟩,
 ⟨143,3,⟨_,_,_,inferInstance⟩⟩,
 ⟨154,0,⟨_,_,_,inferInstance⟩⟩,
 ⟨154,1,⟨_,_,_,inferInstance⟩⟩,
 ⟨154,2,⟨_,_,_,inferInstance⟩⟩,
 ⟨154,3,⟨_,_,_,inferInstance⟩⟩,
 ⟨154,4,⟨_,_,_,inferInstance⟩⟩,
 ⟨154,5,⟨_,_,_,inferInstance⟩⟩,
 ⟨154,6,⟨_,_,_,inferInstance⟩⟩,
 ⟨154,7,⟨_,_,_,inferInstance⟩⟩,
 ⟨154,8,⟨_,_,_,inferInstance⟩⟩,
 ⟨154,9,⟨_,_,_,inferInstance⟩⟩,
 ⟨154,10,⟨_,_,_,inferInstance⟩⟩,
 ⟨155,0,⟨_,_,_,inferInstance⟩⟩,
 ⟨155,1,⟨_,_,_,inferInstance⟩⟩,
 ⟨155,2,⟨_,_,_,inferInstance⟩⟩,
 ⟨155,3,⟨_,_,_,inferInstance⟩⟩,
 ⟨155,4,⟨_,_,_,inferInstance⟩⟩,
 ⟨155,5,⟨_,_,_,inferInstance⟩⟩,
 ⟨155,6,⟨_,_,_,inferInstance⟩⟩,
 ⟨155,7,⟨_,_,_,inferInstance⟩⟩,
 ⟨155,8,⟨_,_,_,inferInstance⟩⟩,
 ⟨155,9,⟨_,_,_,inferInstance⟩⟩,
 ⟨155,10,⟨_,_,_,inferInstance⟩⟩]
def qy5:List (Sigma (SlE Try.prog)):=[⟨22,SlE.mk' T32 inferInstance (by decide) (by decide) (by decide) rfl 5864062014805 rfl⟩,
 ⟨23,SlE.mk' T3 inferInstance (by decide) (by decide) (by decide) rfl 17592186044416 rfl⟩,
 ⟨41,SlE.mk' T79 inferInstance (by decide) (by decide) (by decide) rfl 5864062014805 rfl⟩,
 ⟨42,SlE.mk' T106 inferInstance (by decide) (by decide) (by decide) rfl 8796093022208 rfl⟩,
 ⟨45,SlE.mk' T60 inferInstance (by decide) (by decide) (by decide) rfl 2932031007402 rfl⟩,
 ⟨58,SlE.mk' T108 inferInstance (by decide) (by decide) (by decide) rfl 3518437208883 rfl⟩]
def qy6:List (Sigma fun t=>{k:IntKind // IntTy Try.prog t k}):=[⟨2,.i64,inferInstance⟩,⟨3,.i64,inferInstance⟩,⟨5,.u8,inferInstance⟩,⟨6,.u8,inferInstance⟩,⟨12,.u64,inferInstance⟩,⟨21,.i32,inferInstance⟩,⟨26,.i64,inferInstance⟩,⟨37,.u64,inferInstance⟩,⟨135,.u32,inferInstance⟩,⟨138,.u64,inferInstance⟩,⟨148,.u8,inferInstance⟩,⟨149,.u8,inferInstance⟩,⟨152,.i32,inferInstance⟩,⟨153,.i32,inferInstance⟩]
def qy7:List (Sigma fun t=>PLift (BoolTy Try.prog t)):=[⟨4,⟨inferInstance⟩⟩]
def qy8:List (Sigma fun t=>PLift (StructTy Try.prog t)):=[⟨7,⟨inferInstance⟩⟩,⟨8,⟨inferInstance⟩⟩,⟨13,⟨inferInstance⟩⟩,⟨14,⟨inferInstance⟩⟩,⟨18,⟨inferInstance⟩⟩,⟨19,⟨inferInstance⟩⟩,⟨24,⟨inferInstance⟩⟩,⟨25,⟨inferInstance⟩⟩,⟨29,⟨inferInstance⟩⟩,⟨30,⟨inferInstance⟩⟩,⟨31,⟨inferInstance⟩⟩,⟨32,⟨inferInstance⟩⟩,⟨43,⟨inferInstance⟩⟩,⟨44,⟨inferInstance⟩⟩,⟨46,⟨inferInstance⟩⟩,⟨47,⟨inferInstance⟩⟩,⟨59,⟨inferInstance⟩⟩,⟨60,⟨inferInstance⟩⟩,⟨78,⟨inferInstance⟩⟩,⟨79,⟨inferInstance⟩⟩,⟨98,⟨inferInstance⟩⟩,⟨99,⟨inferInstance⟩⟩,⟨105,⟨inferInstance⟩⟩,⟨106,⟨inferInstance⟩⟩,⟨107,⟨inferInstance⟩⟩,⟨108,⟨inferInstance⟩⟩,⟨115,⟨inferInstance⟩⟩,⟨116,⟨inferInstance⟩⟩,⟨142,⟨inferInstance⟩⟩,⟨143,⟨inferInstance⟩⟩,⟨145,⟨inferInstance⟩⟩,⟨146,⟨inferInstance⟩⟩,⟨154,⟨inferInstance⟩⟩,⟨155,⟨inferInstance⟩⟩]
def qy9:List (Sigma (EqE Try.prog)):=[⟨7,EqE.mk' T7 rfl (by kernel_rfl) (by kernel_rfl)⟩,
 ⟨8,EqE.mk' T8 rfl (by kernel_rfl) (by kernel_rfl)⟩,
 ⟨29,EqE.mk' T29 rfl (by kernel_rfl) (by kernel_rfl)⟩,
 ⟨30,EqE.mk' T30 rfl (by kernel_rfl) (by kernel_rfl)⟩,
 ⟨31,EqE.mk' T31 rfl (by kernel_rfl) (by kernel_rfl)⟩,
 ⟨32,EqE.mk' T32 rfl (by kernel_rfl) (by kernel_rfl)⟩,
 ⟨78,EqE.mk' T78 rfl (by kernel_rfl) (by kernel_rfl)⟩,
 ⟨79,EqE.mk' T79 rfl (by kernel_rfl) (by kernel_rfl)⟩,
 ⟨105,EqE.mk' T105 rfl (by kernel_rfl) (by kernel_rfl)⟩,
 ⟨106,EqE.mk' T106 rfl (by kernel_rfl) (by kernel_rfl)⟩,
 ⟨107,EqE.mk' T107 rfl (by kernel_rfl) (by kernel_rfl)⟩,
 ⟨108,EqE.mk' T108 rfl (by kernel_rfl) (by kernel_rfl)⟩]
def qza:List (Sigma fun t=>PLift (FuncTy Try.prog t)):=[⟨1,⟨FuncTy.mk' (by kernel_rfl)⟩⟩,⟨27,⟨FuncTy.mk' (by kernel_rfl)⟩⟩,⟨28,⟨FuncTy.mk' (by kernel_rfl)⟩⟩,⟨34,⟨FuncTy.mk' (by kernel_rfl)⟩⟩,⟨36,⟨FuncTy.mk' (by kernel_rfl)⟩⟩,⟨38,⟨FuncTy.mk' (by kernel_rfl)⟩⟩,⟨39,⟨FuncTy.mk' (by kernel_rfl)⟩⟩,⟨40,⟨FuncTy.mk' (by kernel_rfl)⟩⟩,⟨48,⟨FuncTy.mk' (by kernel_rfl)⟩⟩,⟨49,⟨FuncTy.mk' (by kernel_rfl)⟩⟩,⟨50,⟨FuncTy.mk' (by kernel_rfl)⟩⟩,⟨51,⟨FuncTy.mk' (by kernel_rfl)⟩⟩,⟨53,⟨FuncTy.mk' (by kernel_rfl)⟩⟩,⟨54,⟨FuncTy.mk' (by kernel_rfl)⟩⟩,⟨55,⟨FuncTy.mk' (by kernel_rfl)⟩⟩,⟨57,⟨FuncTy.mk' (by kernel_rfl)⟩⟩,⟨61,⟨FuncTy.mk' (by kernel_rfl)⟩⟩,⟨62,⟨FuncTy.mk' (by kernel_rfl)⟩⟩,⟨64,⟨FuncTy.mk' (by kernel_rfl)⟩⟩,⟨66,⟨FuncTy.mk' (by kernel_rfl)⟩⟩,⟨67,⟨FuncTy.mk' (by kernel_rfl)⟩⟩,⟨68,⟨FuncTy.mk' (by kernel_rfl)⟩⟩,⟨69,⟨FuncTy.mk' (by kernel_rfl)⟩⟩,⟨70,⟨FuncTy.mk' (by kernel_rfl)⟩⟩,⟨72,⟨FuncTy.mk' (by kernel_rfl)⟩⟩,⟨73,⟨FuncTy.mk' (by kernel_rfl)⟩⟩,⟨74,⟨FuncTy.mk' (by kernel_rfl)⟩⟩,⟨75,⟨FuncTy.mk' (by kernel_rfl)⟩⟩,⟨76,⟨FuncTy.mk' (by kernel_rfl)⟩⟩,⟨77,⟨FuncTy.mk' (by kernel_rfl)⟩⟩,⟨80,⟨FuncTy.mk' (by kernel_rfl)⟩⟩,⟨81,⟨FuncTy.mk' (by kernel_rfl)⟩⟩,⟨82,⟨FuncTy.mk' (by kernel_rfl)⟩⟩,⟨83,⟨FuncTy.mk' (by kernel_rfl)⟩⟩,⟨84,⟨FuncTy.mk' (by kernel_rfl)⟩⟩,⟨85,⟨FuncTy.mk' (by kernel_rfl)⟩⟩,⟨88,⟨FuncTy.mk' (by kernel_rfl)⟩⟩,⟨89,⟨FuncTy.mk' (by kernel_rfl)⟩⟩,⟨90,⟨FuncTy.mk' (by kernel_rfl)⟩⟩,⟨91,⟨FuncTy.mk' (by kernel_rfl)⟩⟩,⟨92,⟨FuncTy.mk' (by kernel_rfl)⟩⟩,⟨94,⟨FuncTy.mk' (by kernel_rfl)⟩⟩,⟨95,⟨FuncTy.mk' (by kernel_rfl)⟩⟩,⟨96,⟨FuncTy.mk' (by kernel_rfl)⟩⟩,⟨97,⟨FuncTy.mk' (by kernel_rfl)⟩⟩,⟨101,⟨FuncTy.mk' (by kernel_rfl)⟩⟩,⟨102,⟨FuncTy.mk' (by kernel_rfl)⟩⟩,⟨103,⟨FuncTy.mk' (by kernel_rfl)⟩⟩,⟨104,⟨FuncTy.mk' (by kernel_rfl)⟩⟩,⟨109,⟨FuncTy.mk' (by kernel_rfl)⟩⟩,⟨110,⟨FuncTy.mk' (by kernel_rfl)⟩⟩,⟨111,⟨FuncTy.mk' (by kernel_rfl)⟩⟩,⟨112,⟨FuncTy.mk' (by kernel_rfl)⟩⟩,⟨113,⟨FuncTy.mk' (by kernel_rfl)⟩⟩,⟨114,⟨FuncTy.mk' (by kernel_rfl)⟩⟩,⟨117,⟨FuncTy.mk' (by kernel_rfl)⟩⟩,⟨118,⟨FuncTy.mk' (by kernel_rfl)⟩⟩,⟨119,⟨FuncTy.mk' (by kernel_rfl)⟩⟩,⟨120,⟨FuncTy.mk' (by kernel_rfl)⟩⟩,⟨121,⟨FuncTy.mk' (by kernel_rfl)⟩⟩,⟨122,⟨FuncTy.mk' (by kernel_rfl)⟩⟩,⟨123,⟨FuncTy.mk' (by kernel_rfl)⟩⟩,⟨124,⟨FuncTy.mk' (by kernel_rfl)⟩⟩,⟨125,⟨FuncTy.mk' (by kernel_rfl)⟩⟩,⟨126,⟨FuncTy.mk' (by kernel_rfl)⟩⟩,⟨127,⟨FuncTy.mk' (by kernel_rfl)⟩⟩,⟨128,⟨FuncTy.mk' (by kernel_rfl)⟩⟩,⟨129,⟨FuncTy.mk' (by kernel_rfl)⟩⟩,⟨130,⟨FuncTy.mk' (by kernel_rfl)⟩⟩,⟨131,⟨FuncTy.mk' (by kernel_rfl)⟩⟩,⟨132,⟨FuncTy.mk' (by kernel_rfl)⟩⟩,⟨134,⟨FuncTy.mk' (by kernel_rfl)⟩⟩,⟨137,⟨FuncTy.mk' (by kernel_rfl)⟩⟩,⟨140,⟨FuncTy.mk' (by kernel_rfl)⟩⟩,⟨141,⟨FuncTy.mk' (by kernel_rfl)⟩⟩,⟨147,⟨FuncTy.mk' (by kernel_rfl)⟩⟩,⟨150,⟨FuncTy.mk' (by kernel_rfl)⟩⟩]
def qzb:List (Sigma (MpE Try.prog)):=[]
def qyF:List (Sigma fun t=>PLift (Try.prog.underlying t=some .string)):=[⟨9,⟨by kernel_rfl⟩⟩,⟨10,⟨by kernel_rfl⟩⟩,⟨11,⟨by kernel_rfl⟩⟩]
def tab:Tab Try.prog:=⟨fun t=>qkj t qy3,fun t f=>qu0 t f qy4,fun t=>qkj t qy5,fun t=>qkj t qy6,fun t=>qkj t qy7,fun t=>qkj t qy8,fun t=>qkj t qy9,fun t=>qkj t qza,fun t=>qkj t qzb,fun t=>qkj t qyF,mixed⟩
set_option maxRecDepth 20000
section
def qqR(n:Nat):CL Try.prog:=⟨[],[],0,nof⟩
def qcP(n:Nat):Ct Try.prog:=mkC tab (qqR n) [] Try.func29 [.d T3,.d T3,.d T3] [T4] (by kernel_rfl)
def qqf(n:Nat):CL Try.prog:=⟨[],[],0,nof⟩
def qjm(n:Nat):Ct Try.prog:=mkC tab (qqf n) [] Try.func60 [.d T30,.d T3,.d T3] [T4] (by kernel_rfl)
def qms(n:Nat):CL Try.prog:=⟨[],[],0,nof⟩
def qdS(n:Nat):Ct Try.prog:=mkC tab (qms n) [] Try.func23 [.d T3,.d T3,.d T3] [T4] (by kernel_rfl)
def qmt(n:Nat):CL Try.prog:=⟨[],[],0,nof⟩
def qiS(n:Nat):Ct Try.prog:=mkC tab (qmt n) [] Try.func58 [.d T30,.d T3,.d T3] [T4] (by kernel_rfl)
def qnK(n:Nat):CL Try.prog:=⟨[],[],0,nof⟩
def qg9(n:Nat):Ct Try.prog:=mkC tab (qnK n) [] Try.func26 [.d T3,.d T3] [T30] (by kernel_rfl)
def qlK(n:Nat):CL Try.prog:=⟨[qg9 n],[],0,nof⟩
def qin(n:Nat):Ct Try.prog:=mkC tab (qlK n) [] Try.func24 [] [T47,T22] (by kernel_rfl)
def qhD(n:Nat):CL Try.prog:=⟨[],[],0,nof⟩
def qlq(n:Nat):LK Try.prog false:=mkL tab (qhD n) [] Try.f27 [true,true,false,true,false,false] 0 n [.v (.t 0) T23,.v (.t 1) T23,.v (.t 5) T3] [(.exit 0,[]),(.ret,[.v (.t 4) T4])] (by kernel_rfl)
def qh8(n:Nat):Ct Try.prog:=mkC tab (qhD n) [qlq n] Try.func27 [.d T23,.d T23] [T4] (by kernel_rfl)
def qj4(n:Nat):CL Try.prog:=⟨[],[],0,nof⟩
def qru(n:Nat):LK Try.prog false:=mkL tab (qj4 n) [] Try.f30 [true,false,true,false,false,true,true,false,false,true,true,false,false] 1 n [.v (.t 0) T22,.v (.t 1) T3,.v (.t 2) T3,.v (.t 12) T22,.v (.t 13) T3,.v (.t 14) T3,.v (.t 21) T22,.v (.t 22) T3,.v (.t 23) T3,.obj (.t 8) false 32 3,.v (.c 0 0) T32] [(.exit 2,[.v (.t 0) T22,.v (.t 1) T3,.v (.t 2) T3,.v (.t 12) T22,.v (.t 13) T3,.v (.t 14) T3]),(.ret,[.v (.t 6) T4])] (by kernel_rfl)
def qrv(n:Nat):LK Try.prog false:=mkL tab (qj4 n) [qru n] Try.f30 [true,false,true,false,false] 0 n [.v (.t 0) T22,.v (.t 1) T3,.v (.t 2) T3,.v (.t 12) T22,.v (.t 13) T3,.v (.t 14) T3] [(.exit 0,[]),(.ret,[.v (.t 6) T4])] (by kernel_rfl)
def qsl(n:Nat):Ct Try.prog:=mkC tab (qj4 n) [qrv n] Try.func30 [.d T22,.d T3,.d T3] [T4] (by kernel_rfl)
def qqg(n:Nat):CL Try.prog:=⟨[],[],0,nof⟩
def qmg(n:Nat):Ct Try.prog:=mkC tab (qqg n) [] Try.func93 [.d T3] [T4] (by kernel_rfl)
def qoR(n:Nat):CL Try.prog:=⟨[qmg n],[],0,nof⟩
def qgl(n:Nat):Ct Try.prog:=mkC tab (qoR n) [] Try.func74 [.d T3,.d T3] [T3] (by kernel_rfl)
def qiT(n:Nat):CL Try.prog:=⟨[qgl n],[],0,nof⟩
def qmZ(n:Nat):LK Try.prog false:=mkL tab (qiT n) [] Try.f63 [true,false,true,false,false] 0 n [.v (.t 0) T23,.v (.t 1) T23,.v (.t 9) T23,.v (.t 10) T3,.v (.t 11) T3] [(.exit 0,[.v (.t 0) T23,.v (.t 1) T23]),(.ret,[.v (.t 4) T3])] (by kernel_rfl)
def qnL(n:Nat):Ct Try.prog:=mkC tab (qiT n) [qmZ n] Try.func63 [.d T23,.d T23] [T3] (by kernel_rfl)
def qjH(n:Nat):CL Try.prog:=⟨[],[],0,nof⟩
def qoc(n:Nat):LK Try.prog false:=mkL tab (qjH n) [] Try.f62 [true,false,true,false,false] 0 n [.v (.t 1) T3,.v (.t 7) T23,.v (.t 8) T3,.v (.t 9) T3,.row (.t 4) false T3 3] [(.exit 0,[.row (.t 4) false T3 3])] (by kernel_rfl)
def qoS(n:Nat):Ct Try.prog:=mkC tab (qjH n) [qoc n] Try.func62 [.d T23,.d T3] [T23] (by kernel_rfl)
def qh9(n:Nat):CL Try.prog:=⟨[],[],0,nof⟩
def qlL(n:Nat):LK Try.prog false:=mkL tab (qh9 n) [] Try.f33 [true,false,true,false,false] 0 n [.v (.t 1) T3,.v (.t 7) T22,.v (.t 8) T3,.v (.t 9) T3,.row (.t 4) false T32 32] [(.exit 0,[.row (.t 4) false T32 32])] (by kernel_rfl)
def qmu(n:Nat):Ct Try.prog:=mkC tab (qh9 n) [qlL n] Try.func33 [.d T22,.d T3] [T22] (by kernel_rfl)
end
section
def qmv(n:Nat):CL Try.prog:=⟨[qcP n,qjm n],[],0,nof⟩
def qeQ(n:Nat):Cw Try.prog:=mkW tab (qmv n) [] Try.func59 [.v (.t 0) T32,.obj (.t 1) true 3 1,.v (.c 0 0) T3] 2 [[.v (.t 0) T4,.obj (.t 1) true 3 1,.v (.c 0 0) T3]] (by kernel_rfl)
def qgq(n:Nat):CL Try.prog:=⟨[],[qeQ n],0,nof⟩
def qdZ(n:Nat):Cw Try.prog:=mkW tab (qgq n) [] Try.func86 [.v (.t 0) T32,.obj (.t 1) true 109 1,.fnc (.c 0 0) 59 [.box true 3 1],.v (.c 1 0) T3] 2 [[.v (.t 0) T4,.obj (.t 1) true 109 1,.fnc (.c 0 0) 59 [.box true 3 1],.v (.c 1 0) T3]] (by kernel_rfl)
def qbq(n:Nat):CL Try.prog:=⟨[],[qeQ n,qdZ n],0,nof⟩
def qds(n:Nat):LK Try.prog false:=mkL tab (qbq n) [] Try.f98 [true,false,true,false,false] 0 n [.v (.t 0) T22,.v (.t 7) T3,.v (.t 8) T3,.fnc (.t 1) 86 [.box true 109 1],.fnc (.c 0 0) 59 [.box true 3 1],.v (.c 1 0) T3] [(.exit 0,[.fnc (.t 1) 86 [.box true 109 1],.fnc (.c 0 0) 59 [.box true 3 1],.v (.c 1 0) T3]),(.ret,[.v (.t 4) T3,.fnc (.t 1) 86 [.box true 109 1],.fnc (.c 0 0) 59 [.box true 3 1],.v (.c 1 0) T3])] (by kernel_rfl)
def qdz(n:Nat):Cw Try.prog:=mkW tab (qbq n) [qds n] Try.func98 [.v (.t 0) T22,.fnc (.t 1) 86 [.box true 109 1],.fnc (.c 0 0) 59 [.box true 3 1],.v (.c 1 0) T3] 2 [[.v (.t 0) T3,.obj (.t 1) true 109 1,.fnc (.c 0 0) 59 [.box true 3 1],.v (.c 1 0) T3]] (by kernel_rfl)
def qc9(n:Nat):CL Try.prog:=⟨[],[qeQ n,qdZ n,qdz n],0,nof⟩
def qdc(n:Nat):Cw Try.prog:=mkW tab (qc9 n) [] Try.func85 [.v (.t 0) T22,.fnc (.t 1) 86 [.box true 109 1],.fnc (.c 0 0) 59 [.box true 3 1],.v (.c 1 0) T3] 2 [[.v (.t 0) T4,.obj (.t 1) true 109 1,.fnc (.c 0 0) 59 [.box true 3 1],.v (.c 1 0) T3]] (by kernel_rfl)
def qgL(n:Nat):CL Try.prog:=⟨[],[qeQ n,qdc n],0,nof⟩
def qgY(n:Nat):Cw Try.prog:=mkW tab (qgL n) [] Try.func61 [.v (.t 0) T22,.fnc (.t 1) 59 [.box true 3 1],.v (.c 0 0) T3] 2 [[.v (.t 0) T4,.obj (.t 1) true 3 1,.v (.c 0 0) T3]] (by kernel_rfl)
def qod(n:Nat):CL Try.prog:=⟨[],[qgY n],0,nof⟩
def qoT(n:Nat):Ct Try.prog:=mkC tab (qod n) [] Try.func28 [.d T22,.d T4] [T26] (by kernel_rfl)
def qqh(n:Nat):CL Try.prog:=⟨[qsl n,qmu n],[],0,nof⟩
def qqS(n:Nat):Cw Try.prog:=mkW tab (qqh n) [] Try.func32 [.v (.t 0) T3,.obj (.t 1) true 22 1,.v (.c 0 0) T22,.obj (.t 2) true 3 1,.v (.c 1 0) T3,.obj (.t 3) true 3 1,.v (.c 2 0) T3] 4 [[.v (.t 0) T4,.obj (.t 1) true 22 1,.v (.c 0 0) T22,.obj (.t 2) true 3 1,.v (.c 1 0) T3,.obj (.t 3) true 3 1,.v (.c 2 0) T3]] (by kernel_rfl)
def qeh(n:Nat):CL Try.prog:=⟨[qoS n,qnL n],[qqS n],0,nof⟩
def qjF(n:Nat):LK Try.prog false:=mkL tab (qeh n) [] Try.f31 [true,true,false,true,false,false] 0 n [.v (.t 0) T3,.v (.t 15) T3,.v (.t 16) T3,.fnc (.t 1) 32 [.box true 22 1,.box true 3 1,.box true 3 1],.v (.c 0 0) T22,.v (.c 1 0) T3,.v (.c 2 0) T3,.row (.t 6) false T3 3] [(.exit 0,[.v (.t 0) T3,.fnc (.t 1) 32 [.box true 22 1,.box true 3 1,.box true 3 1],.v (.c 0 0) T22,.v (.c 1 0) T3,.v (.c 2 0) T3,.row (.t 6) false T3 3])] (by kernel_rfl)
def qjG(n:Nat):LK Try.prog false:=mkL tab (qeh n) [] Try.f31 [true,true,true,true,true,false,true,false,false] 1 n [.v (.t 6) T23,.v (.t 8) T23,.v (.t 9) T4,.v (.t 25) T3,.v (.t 26) T3,.fnc (.t 1) 32 [.box true 22 1,.box true 3 1,.box true 3 1],.v (.c 0 0) T22,.v (.c 1 0) T3,.v (.c 2 0) T3] [(.exit 2,[.v (.t 8) T23,.v (.t 9) T4,.fnc (.t 1) 32 [.box true 22 1,.box true 3 1,.box true 3 1],.v (.c 0 0) T22,.v (.c 1 0) T3,.v (.c 2 0) T3])] (by kernel_rfl)
def qj5(n:Nat):Cw Try.prog:=mkW tab (qeh n) [qjF n,qjG n] Try.func31 [.v (.t 0) T3,.fnc (.t 1) 32 [.box true 22 1,.box true 3 1,.box true 3 1],.v (.c 0 0) T22,.v (.c 1 0) T3,.v (.c 2 0) T3] 2 [[.v (.t 0) T23,.v (.t 1) T4,.obj (.t 2) true 22 1,.obj (.t 3) true 3 1,.obj (.t 4) true 3 1,.v (.c 0 0) T22,.v (.c 1 0) T3,.v (.c 2 0) T3]] (by kernel_rfl)
def qsm(n:Nat):CL Try.prog:=⟨[qoT n,qcP n],[qj5 n],0,nof⟩
def qoU(n:Nat):Ct Try.prog:=mkC tab (qsm n) [] Try.func9 [.d T22,.d T3,.d T3] [T23,T26] (by kernel_rfl)
end
section
def qjI(n:Nat):CL Try.prog:=⟨[],[],0,nof⟩
def qjJ(n:Nat):LK Try.prog false:=mkL tab (qjI n) [] Try.f83 [true,true,false,true,false,false] 0 n [.v (.t 7) T3,.v (.t 8) T3,.v (.t 21) T42,.v (.t 22) T3,.v (.t 23) T3] [(.exit 0,[.v (.t 8) T3])] (by kernel_rfl)
def qks(n:Nat):Ct Try.prog:=mkC tab (qjI n) [qjJ n] Try.func83 [.d T99,.d T3,.d T3] [T3] (by kernel_rfl)
def qiU(n:Nat):CL Try.prog:=⟨[qks n],[],0,nof⟩
def qiV(n:Nat):LK Try.prog false:=mkL tab (qiU n) [] Try.f56 [true,false,true,false,false] 0 n [.v (.t 2) T3,.v (.t 10) T58,.v (.t 11) T3,.v (.t 12) T3,.obj (.t 3) false 99 4,.v (.c 0 0) T99,.obj (.t 6) false 30 2,.v (.c 1 0) T30] [(.exit 0,[.obj (.t 6) false 30 2,.v (.c 0 0) T30])] (by kernel_rfl)
def qfd(n:Nat):Ct Try.prog:=mkC tab (qiU n) [qiV n] Try.func56 [.d T99,.d T60,.d T3] [T30] (by kernel_rfl)
def qlr(n:Nat):CL Try.prog:=⟨[qcP n],[],0,nof⟩
def qls(n:Nat):LK Try.prog false:=mkL tab (qlr n) [] Try.f40 [true,true,false,true,false,false] 0 n [.v (.t 3) T3,.v (.t 4) T3,.v (.t 8) T42,.v (.t 9) T3,.v (.t 10) T3,.obj (.t 1) false 44 4,.v (.c 0 0) T44] [(.exit 0,[.obj (.t 1) false 44 4,.v (.c 0 0) T44]),(.ret,[.v (.t 2) T4])] (by kernel_rfl)
def qjn(n:Nat):Ct Try.prog:=mkC tab (qlr n) [qls n] Try.func40 [.d T44] [T4] (by kernel_rfl)
def qoV(n:Nat):CL Try.prog:=⟨[qcP n,qjm n],[],0,nof⟩
def qe6(n:Nat):Cw Try.prog:=mkW tab (qoV n) [] Try.func67 [.v (.t 0) T108,.obj (.t 1) true 3 1,.v (.c 0 0) T3] 2 [[.v (.t 0) T4,.obj (.t 1) true 3 1,.v (.c 0 0) T3]] (by kernel_rfl)
def qha(n:Nat):CL Try.prog:=⟨[],[qe6 n],0,nof⟩
def qc1(n:Nat):Cw Try.prog:=mkW tab (qha n) [] Try.func89 [.v (.t 0) T108,.obj (.t 1) true 114 1,.fnc (.c 0 0) 67 [.box true 3 1],.v (.c 1 0) T3] 2 [[.v (.t 0) T4,.obj (.t 1) true 114 1,.fnc (.c 0 0) 67 [.box true 3 1],.v (.c 1 0) T3]] (by kernel_rfl)
def qbO(n:Nat):CL Try.prog:=⟨[],[qe6 n,qc1 n],0,nof⟩
def qbP(n:Nat):LK Try.prog false:=mkL tab (qbO n) [] Try.f99 [true,false,true,false,false] 0 n [.v (.t 0) T58,.v (.t 7) T3,.v (.t 8) T3,.fnc (.t 1) 89 [.box true 114 1],.fnc (.c 0 0) 67 [.box true 3 1],.v (.c 1 0) T3] [(.exit 0,[.fnc (.t 1) 89 [.box true 114 1],.fnc (.c 0 0) 67 [.box true 3 1],.v (.c 1 0) T3]),(.ret,[.v (.t 4) T3,.fnc (.t 1) 89 [.box true 114 1],.fnc (.c 0 0) 67 [.box true 3 1],.v (.c 1 0) T3])] (by kernel_rfl)
def qbV(n:Nat):Cw Try.prog:=mkW tab (qbO n) [qbP n] Try.func99 [.v (.t 0) T58,.fnc (.t 1) 89 [.box true 114 1],.fnc (.c 0 0) 67 [.box true 3 1],.v (.c 1 0) T3] 2 [[.v (.t 0) T3,.obj (.t 1) true 114 1,.fnc (.c 0 0) 67 [.box true 3 1],.v (.c 1 0) T3]] (by kernel_rfl)
def qdA(n:Nat):CL Try.prog:=⟨[],[qe6 n,qc1 n,qbV n],0,nof⟩
def qbC(n:Nat):Cw Try.prog:=mkW tab (qdA n) [] Try.func88 [.v (.t 0) T58,.fnc (.t 1) 89 [.box true 114 1],.fnc (.c 0 0) 67 [.box true 3 1],.v (.c 1 0) T3] 2 [[.v (.t 0) T4,.obj (.t 1) true 114 1,.fnc (.c 0 0) 67 [.box true 3 1],.v (.c 1 0) T3]] (by kernel_rfl)
def qhE(n:Nat):CL Try.prog:=⟨[],[qe6 n,qbC n],0,nof⟩
def qeR(n:Nat):Cw Try.prog:=mkW tab (qhE n) [] Try.func66 [.v (.t 0) T58,.fnc (.t 1) 67 [.box true 3 1],.v (.c 0 0) T3] 2 [[.v (.t 0) T4,.obj (.t 1) true 3 1,.v (.c 0 0) T3]] (by kernel_rfl)
def qqT(n:Nat):CL Try.prog:=⟨[qcP n],[qeR n],0,nof⟩
def qfo(n:Nat):Ct Try.prog:=mkC tab (qqT n) [] Try.func42 [.d T60] [T4] (by kernel_rfl)
def qsn(n:Nat):CL Try.prog:=⟨[qjn n,qfo n],[],0,nof⟩
def qoW(n:Nat):Ct Try.prog:=mkC tab (qsn n) [] Try.func82 [.d T44,.d T60] [T99,T26] (by kernel_rfl)
def qtU(n:Nat):CL Try.prog:=⟨[qcP n,qoW n],[],0,nof⟩
def qnM(n:Nat):Ct Try.prog:=mkC tab (qtU n) [] Try.func55 [.d T44,.d T60,.d T3] [T99,T26] (by kernel_rfl)
def qqU(n:Nat):CL Try.prog:=⟨[qnM n,qfd n],[],0,nof⟩
def qm0(n:Nat):Ct Try.prog:=mkC tab (qqU n) [] Try.func25 [.d T44,.d T60,.d T3] [T30,T26] (by kernel_rfl)
def qoe(n:Nat):CL Try.prog:=⟨[],[],0,nof⟩
def qkt(n:Nat):Ct Try.prog:=mkC tab (qoe n) [] Try.func84 [.d T99,.d T60,.d T3] [T3] (by kernel_rfl)
def qoX(n:Nat):CL Try.prog:=⟨[qkt n],[],0,nof⟩
def qik(n:Nat):Ct Try.prog:=mkC tab (qoX n) [] Try.func57 [.d T99,.d T60,.d T3,.d T3] [T4] (by kernel_rfl)
def qpy(n:Nat):CL Try.prog:=⟨[qcP n],[],0,nof⟩
def qft(n:Nat):Cw Try.prog:=mkW tab (qpy n) [] Try.func37 [.v (.t 0) T79] 1 [[.v (.t 0) T4]] (by kernel_rfl)
def qpz(n:Nat):CL Try.prog:=⟨[qcP n],[],0,nof⟩
def qfu(n:Nat):Cw Try.prog:=mkW tab (qpz n) [] Try.func38 [.v (.t 0) T3] 1 [[.v (.t 0) T4]] (by kernel_rfl)
def qpA(n:Nat):CL Try.prog:=⟨[],[],0,nof⟩
def qfv(n:Nat):Cw Try.prog:=mkW tab (qpA n) [] Try.func39 [.v (.t 0) T60,.obj (.t 1) true 47 10,.v (.c 0 0) T47] 2 [[.v (.t 0) T4,.obj (.t 1) true 47 10,.v (.c 0 0) T47]] (by kernel_rfl)
def qhb(n:Nat):CL Try.prog:=⟨[],[qft n],0,nof⟩
def qc2(n:Nat):Cw Try.prog:=mkW tab (qhb n) [] Try.func69 [.v (.t 0) T79,.obj (.t 1) true 80 1,.fnc (.c 0 0) 37 []] 2 [[.v (.t 0) T4,.obj (.t 1) true 80 1,.fnc (.c 0 0) 37 []]] (by kernel_rfl)
def qbF(n:Nat):CL Try.prog:=⟨[],[qft n,qc2 n],0,nof⟩
def qbG(n:Nat):LK Try.prog false:=mkL tab (qbF n) [] Try.f90 [true,false,true,false,false] 0 n [.v (.t 0) T41,.v (.t 7) T3,.v (.t 8) T3,.fnc (.t 1) 69 [.box true 80 1],.fnc (.c 0 0) 37 []] [(.exit 0,[.fnc (.t 1) 69 [.box true 80 1],.fnc (.c 0 0) 37 []]),(.ret,[.v (.t 4) T3,.fnc (.t 1) 69 [.box true 80 1],.fnc (.c 0 0) 37 []])] (by kernel_rfl)
def qbQ(n:Nat):Cw Try.prog:=mkW tab (qbF n) [qbG n] Try.func90 [.v (.t 0) T41,.fnc (.t 1) 69 [.box true 80 1],.fnc (.c 0 0) 37 []] 2 [[.v (.t 0) T3,.obj (.t 1) true 80 1,.fnc (.c 0 0) 37 []]] (by kernel_rfl)
def qdt(n:Nat):CL Try.prog:=⟨[],[qft n,qc2 n,qbQ n],0,nof⟩
def qby(n:Nat):Cw Try.prog:=mkW tab (qdt n) [] Try.func68 [.v (.t 0) T41,.fnc (.t 1) 69 [.box true 80 1],.fnc (.c 0 0) 37 []] 2 [[.v (.t 0) T4,.obj (.t 1) true 80 1,.fnc (.c 0 0) 37 []]] (by kernel_rfl)
def qhF(n:Nat):CL Try.prog:=⟨[],[qft n,qby n],0,nof⟩
def qeS(n:Nat):Cw Try.prog:=mkW tab (qhF n) [] Try.func43 [.v (.t 0) T41,.fn (.t 1) 37 [] []] 2 [[.v (.t 0) T4]] (by kernel_rfl)
def qio(n:Nat):CL Try.prog:=⟨[],[qfu n],0,nof⟩
def qdL(n:Nat):Cw Try.prog:=mkW tab (qio n) [] Try.func71 [.v (.t 0) T3,.obj (.t 1) true 74 1,.fnc (.c 0 0) 38 []] 2 [[.v (.t 0) T4,.obj (.t 1) true 74 1,.fnc (.c 0 0) 38 []]] (by kernel_rfl)
def qcE(n:Nat):CL Try.prog:=⟨[],[qfu n,qdL n],0,nof⟩
def qcF(n:Nat):LK Try.prog false:=mkL tab (qcE n) [] Try.f91 [true,false,true,false,false] 0 n [.v (.t 0) T23,.v (.t 7) T3,.v (.t 8) T3,.fnc (.t 1) 71 [.box true 74 1],.fnc (.c 0 0) 38 []] [(.exit 0,[.fnc (.t 1) 71 [.box true 74 1],.fnc (.c 0 0) 38 []]),(.ret,[.v (.t 4) T3,.fnc (.t 1) 71 [.box true 74 1],.fnc (.c 0 0) 38 []])] (by kernel_rfl)
def qcI(n:Nat):Cw Try.prog:=mkW tab (qcE n) [qcF n] Try.func91 [.v (.t 0) T23,.fnc (.t 1) 71 [.box true 74 1],.fnc (.c 0 0) 38 []] 2 [[.v (.t 0) T3,.obj (.t 1) true 74 1,.fnc (.c 0 0) 38 []]] (by kernel_rfl)
def qep(n:Nat):CL Try.prog:=⟨[],[qfu n,qdL n,qcI n],0,nof⟩
def qcv(n:Nat):Cw Try.prog:=mkW tab (qep n) [] Try.func70 [.v (.t 0) T23,.fnc (.t 1) 71 [.box true 74 1],.fnc (.c 0 0) 38 []] 2 [[.v (.t 0) T4,.obj (.t 1) true 74 1,.fnc (.c 0 0) 38 []]] (by kernel_rfl)
def qjd(n:Nat):CL Try.prog:=⟨[],[qfu n,qcv n],0,nof⟩
def qf0(n:Nat):Cw Try.prog:=mkW tab (qjd n) [] Try.func44 [.v (.t 0) T23,.fn (.t 1) 38 [] []] 2 [[.v (.t 0) T4]] (by kernel_rfl)
def qht(n:Nat):CL Try.prog:=⟨[],[qfv n],0,nof⟩
def qcg(n:Nat):Cw Try.prog:=mkW tab (qht n) [] Try.func65 [.v (.t 0) T60,.obj (.t 1) true 81 1,.fnc (.c 0 0) 39 [.box true 47 10],.v (.c 1 0) T47] 2 [[.v (.t 0) T4,.obj (.t 1) true 81 1,.fnc (.c 0 0) 39 [.box true 47 10],.v (.c 1 0) T47]] (by kernel_rfl)
def qbW(n:Nat):CL Try.prog:=⟨[],[qfv n,qcg n],0,nof⟩
def qbX(n:Nat):LK Try.prog false:=mkL tab (qbW n) [] Try.f87 [true,false,true,false,false] 0 n [.v (.t 0) T45,.v (.t 7) T3,.v (.t 8) T3,.fnc (.t 1) 65 [.box true 81 1],.fnc (.c 0 0) 39 [.box true 47 10],.v (.c 1 0) T47] [(.exit 0,[.fnc (.t 1) 65 [.box true 81 1],.fnc (.c 0 0) 39 [.box true 47 10],.v (.c 1 0) T47]),(.ret,[.v (.t 4) T3,.fnc (.t 1) 65 [.box true 81 1],.fnc (.c 0 0) 39 [.box true 47 10],.v (.c 1 0) T47])] (by kernel_rfl)
def qb8(n:Nat):Cw Try.prog:=mkW tab (qbW n) [qbX n] Try.func87 [.v (.t 0) T45,.fnc (.t 1) 65 [.box true 81 1],.fnc (.c 0 0) 39 [.box true 47 10],.v (.c 1 0) T47] 2 [[.v (.t 0) T3,.obj (.t 1) true 81 1,.fnc (.c 0 0) 39 [.box true 47 10],.v (.c 1 0) T47]] (by kernel_rfl)
def qdH(n:Nat):CL Try.prog:=⟨[],[qfv n,qcg n,qb8 n],0,nof⟩
def qbH(n:Nat):Cw Try.prog:=mkW tab (qdH n) [] Try.func64 [.v (.t 0) T45,.fnc (.t 1) 65 [.box true 81 1],.fnc (.c 0 0) 39 [.box true 47 10],.v (.c 1 0) T47] 2 [[.v (.t 0) T4,.obj (.t 1) true 81 1,.fnc (.c 0 0) 39 [.box true 47 10],.v (.c 1 0) T47]] (by kernel_rfl)
def qh4(n:Nat):CL Try.prog:=⟨[],[qfv n,qbH n],0,nof⟩
def qe7(n:Nat):Cw Try.prog:=mkW tab (qh4 n) [] Try.func41 [.v (.t 0) T45,.fnc (.t 1) 39 [.box true 47 10],.v (.c 0 0) T47] 2 [[.v (.t 0) T4,.obj (.t 1) true 47 10,.v (.c 0 0) T47]] (by kernel_rfl)
def qhG(n:Nat):CL Try.prog:=⟨[qfo n],[],0,nof⟩
def qda(n:Nat):Cw Try.prog:=mkW tab (qhG n) [] Try.func65 [.v (.t 0) T60,.obj (.t 1) true 81 1,.fnc (.c 0 0) 42 []] 2 [[.v (.t 0) T4,.obj (.t 1) true 81 1,.fnc (.c 0 0) 42 []]] (by kernel_rfl)
def qb9(n:Nat):CL Try.prog:=⟨[qfo n],[qda n],0,nof⟩
def qca(n:Nat):LK Try.prog false:=mkL tab (qb9 n) [] Try.f87 [true,false,true,false,false] 0 n [.v (.t 0) T45,.v (.t 7) T3,.v (.t 8) T3,.fnc (.t 1) 65 [.box true 81 1],.fnc (.c 0 0) 42 []] [(.exit 0,[.fnc (.t 1) 65 [.box true 81 1],.fnc (.c 0 0) 42 []]),(.ret,[.v (.t 4) T3,.fnc (.t 1) 65 [.box true 81 1],.fnc (.c 0 0) 42 []])] (by kernel_rfl)
def qch(n:Nat):Cw Try.prog:=mkW tab (qb9 n) [qca n] Try.func87 [.v (.t 0) T45,.fnc (.t 1) 65 [.box true 81 1],.fnc (.c 0 0) 42 []] 2 [[.v (.t 0) T3,.obj (.t 1) true 81 1,.fnc (.c 0 0) 42 []]] (by kernel_rfl)
def qdM(n:Nat):CL Try.prog:=⟨[qfo n],[qcg n,qda n,qch n],0,nof⟩
def qbR(n:Nat):Cw Try.prog:=mkW tab (qdM n) [] Try.func64 [.v (.t 0) T45,.fnc (.t 1) 65 [.box true 81 1],.fnc (.c 0 0) 42 []] 2 [[.v (.t 0) T4,.obj (.t 1) true 81 1,.fnc (.c 0 0) 42 []]] (by kernel_rfl)
def qil(n:Nat):CL Try.prog:=⟨[qfo n],[qbR n],0,nof⟩
def qfl(n:Nat):Cw Try.prog:=mkW tab (qil n) [] Try.func41 [.v (.t 0) T45,.fn (.t 1) 42 [] []] 2 [[.v (.t 0) T4]] (by kernel_rfl)
def qrw(n:Nat):CL Try.prog:=⟨[qcP n,qjn n],[qe7 n,qfl n,qeS n,qf0 n],0,nof⟩
def qoa(n:Nat):Ct Try.prog:=mkC tab (qrw n) [] Try.func14 [.d T47] [T26] (by kernel_rfl)
end
end
end Go.Proofs.Ytbdockhccdkdiaa
