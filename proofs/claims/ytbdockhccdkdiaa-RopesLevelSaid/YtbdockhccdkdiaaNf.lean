/- Texts DnT, DnR, DnU, DnV in one. -/
import Derived.Test.YtbdockhccdkdiaaNd
import Derived.Test.YtbdockhccdkdiaaTy
/- The table of the types. -/
set_option linter.constructorNameAsVariable false
set_option linter.unusedSimpArgs false
set_option linter.unusedVariables false
set_option linter.unusedSectionVars false
namespace Go.Proofs.Ytbdockhccdkdiaa
open Go Go.Proofs Go.RowKit
noncomputable section
abbrev T2:Ty:=.i .i64
abbrev T3:Ty:=.i .i64
abbrev T4:Ty:=.b
abbrev T6:Ty:=.i .u8
abbrev T7:Ty:=.pr T2 (.pr T3 (.pr T4 T6))
abbrev T8:Ty:=.pr T2 (.pr T3 (.pr T4 T6))
abbrev T30:Ty:=.pr T3 T3
abbrev T32:Ty:=.pr T3 T30
abbrev T22:Ty:=.sl T32
abbrev T23:Ty:=.sl T3
abbrev T25:Ty:=.pr T3 (.pr T3 (.pr T3 T23))
abbrev T26:Ty:=.i .i64
abbrev T29:Ty:=.pr T3 T3
abbrev T31:Ty:=.pr T3 T30
abbrev T37:Ty:=.i .u64
abbrev T79:Ty:=.pr T3 (.pr T3 T3)
abbrev T41:Ty:=.sl T79
abbrev T106:Ty:=.pr T3 T3
abbrev T42:Ty:=.sl T106
abbrev T44:Ty:=.pr T3 (.pr T3 (.pr T3 T42))
abbrev T108:Ty:=.pr T3 (.pr T30 T30)
abbrev T58:Ty:=.sl T108
abbrev T60:Ty:=.pr T3 (.pr T3 (.pr T3 T58))
abbrev T45:Ty:=.sl T60
abbrev T47:Ty:=.pr T3 (.pr T3 (.pr T3 (.pr T41 (.pr T23 (.pr T44 T45)))))
abbrev T78:Ty:=.pr T3 (.pr T3 T3)
abbrev T86:Ty:=.pt (.pr (.pr (.i .i64) (.pr (.i .i64) (.pr (.i .i64) (.pr (.sl (.pr (.i .i64) (.pr (.i .i64) (.i .i64)))) (.pr (.sl (.i .i64)) (.pr (.pr (.i .i64) (.pr (.i .i64) (.pr (.i .i64) (.sl (.pr (.i .i64) (.i .i64)))))) (.sl (.pr (.i .i64) (.pr (.i .i64) (.pr (.i .i64) (.sl (.pr (.i .i64) (.pr (.pr (.i .i64) (.i .i64)) (.pr (.i .i64) (.i .i64))))))))))))))) (.sl (.i .i64)))
abbrev T99:Ty:=.pr T44 .u
abbrev T105:Ty:=.pr T3 T3
abbrev T107:Ty:=.pr T3 (.pr T30 T30)
abbrev T138:Ty:=.i .u64
def qut:List (Sigma (TyE Try.prog)):=[⟨1,⟨_,_,_,inferInstance⟩⟩,
 ⟨2,⟨_,_,_,inferInstance⟩⟩,
 ⟨3,⟨_,_,_,inferInstance⟩⟩,
 ⟨4,⟨_,_,_,inferInstance⟩⟩,
 ⟨5,⟨_,_,_,inferInstance⟩⟩,
 ⟨6,⟨_,_,_,inferInstance⟩⟩,
 ⟨7,⟨_,_,_,inferInstance⟩⟩,
 ⟨8,⟨_,_,_,inferInstance⟩⟩,
 ⟨12,⟨_,_,_,inferInstance⟩⟩,
 ⟨15,⟨_,_,_,inferInstance⟩⟩,
 ⟨16,⟨_,_,_,inferInstance⟩⟩,
 ⟨17,⟨_,_,_,inferInstance⟩⟩,
 ⟨18,⟨_,_,_,inferInstance⟩⟩,
 ⟨19,⟨_,_,_,inferInstance⟩⟩,
 ⟨20,⟨_,_,_,inferInstance⟩⟩,
 ⟨21,⟨_,_,_,inferInstance⟩⟩,
 ⟨22,⟨_,_,_,inferInstance⟩⟩,
 ⟨23,⟨_,_,_,inferInstance⟩⟩,
 ⟨24,⟨_,_,_,inferInstance⟩⟩,
 ⟨25,⟨_,_,_,inferInstance⟩⟩,
 ⟨26,⟨_,_,_,inferInstance⟩⟩,
 ⟨27,⟨_,_,_,inferInstance⟩⟩,
 ⟨28,⟨_,_,_,inferInstance⟩⟩,
 ⟨29,⟨_,_,_,inferInstance⟩⟩,
 ⟨30,⟨_,_,_,inferInstance⟩⟩,
 ⟨31,⟨_,_,_,inferInstance⟩⟩,
 ⟨32,⟨_,_,_,inferInstance⟩⟩,
 ⟨34,⟨_,_,_,inferInstance⟩⟩,
 ⟨36,⟨_,_,_,inferInstance⟩⟩,
 ⟨37,⟨_,_,_,inferInstance⟩⟩,
 ⟨38,⟨_,_,_,inferInstance⟩⟩,
 ⟨39,⟨_,_,_,inferInstance⟩⟩,
 ⟨40,⟨_,_,_,inferInstance⟩⟩,
 ⟨41,⟨_,_,_,inferInstance⟩⟩,
 ⟨42,⟨_,_,_,inferInstance⟩⟩,
 ⟨43,⟨_,_,_,inferInstance⟩⟩,
 ⟨44,⟨_,_,_,inferInstance⟩⟩,
 ⟨45,⟨_,_,_,inferInstance⟩⟩,
 ⟨46,⟨_,_,_,inferInstance⟩⟩,
 ⟨47,⟨_,_,_,inferInstance⟩⟩,
 ⟨48,⟨_,_,_,inferInstance⟩⟩,
 ⟨49,⟨_,_,_,inferInstance⟩⟩,
 ⟨50,⟨_,_,_,inferInstance⟩⟩,
 ⟨51,⟨_,_,_,inferInstance⟩⟩,
 ⟨53,⟨_,_,_,inferInstance⟩⟩,
 ⟨54,⟨_,_,_,inferInstance⟩⟩,
 ⟨55,⟨_,_,_,inferInstance⟩⟩,
 ⟨57,⟨_,_,_,inferInstance⟩⟩,
 ⟨58,⟨_,_,_,inferInstance⟩⟩,
 ⟨59,⟨_,_,_,inferInstance⟩⟩,
 ⟨60,⟨_,_,_,inferInstance⟩⟩,
 ⟨61,⟨_,_,_,inferInstance⟩⟩,
 ⟨62,⟨_,_,_,inferInstance⟩⟩,
 ⟨64,⟨_,_,_,inferInstance⟩⟩,
 ⟨66,⟨_,_,_,inferInstance⟩⟩,
 ⟨67,⟨_,_,_,inferInstance⟩⟩,
 ⟨68,⟨_,_,_,inferInstance⟩⟩,
 ⟨69,⟨_,_,_,inferInstance⟩⟩,
 ⟨70,⟨_,_,_,inferInstance⟩⟩,
 ⟨72,⟨_,_,_,inferInstance⟩⟩,
 ⟨73,⟨_,_,_,inferInstance⟩⟩,
 ⟨74,⟨_,_,_,inferInstance⟩⟩,
 ⟨75,⟨_,_,_,inferInstance⟩⟩,
 ⟨76,⟨_,_,_,inferInstance⟩⟩,
 ⟨77,⟨_,_,_,inferInstance⟩⟩,
 ⟨78,⟨_,_,_,inferInstance⟩⟩,
 ⟨79,⟨_,_,_,inferInstance⟩⟩,
 ⟨80,⟨_,_,_,inferInstance⟩⟩,
 ⟨81,⟨_,_,_,inferInstance⟩⟩,
 ⟨82,⟨_,_,_,inferInstance⟩⟩,
 ⟨83,⟨_,_,_,inferInstance⟩⟩,
 ⟨84,⟨_,_,_,inferInstance⟩⟩,
 ⟨85,⟨_,_,_,inferInstance⟩⟩,
 ⟨86,⟨_,_,_,inferInstance⟩⟩,
 ⟨88,⟨_,_,_,inferInstance⟩⟩,
 ⟨89,⟨_,_,_,inferInstance⟩⟩,
 ⟨90,⟨_,_,_,inferInstance⟩⟩,
 ⟨91,⟨_,_,_,inferInstance⟩⟩,
 ⟨92,⟨_,_,_,inferInstance⟩⟩,
 ⟨94,⟨_,_,_,inferInstance⟩⟩,
 ⟨95,⟨_,_,_,inferInstance⟩⟩,
 ⟨96,⟨_,_,_,inferInstance⟩⟩,
 ⟨97,⟨_,_,_,inferInstance⟩⟩,
 ⟨98,⟨_,_,_,inferInstance⟩⟩,
 ⟨99,⟨_,_,_,inferInstance⟩⟩,
 ⟨101,⟨_,_,_,inferInstance⟩⟩,
 ⟨102,⟨_,_,_,inferInstance⟩⟩,
 ⟨103,⟨_,_,_,inferInstance⟩⟩,
 ⟨104,⟨_,_,_,inferInstance⟩⟩,
 ⟨105,⟨_,_,_,inferInstance⟩⟩,
 ⟨106,⟨_,_,_,inferInstance⟩⟩,
 ⟨107,⟨_,_,_,inferInstance⟩⟩,
 ⟨108,⟨_,_,_,inferInstance⟩⟩,
 ⟨109,⟨_,_,_,inferInstance⟩⟩,
 ⟨110,⟨_,_,_,inferInstance⟩⟩,
 ⟨111,⟨_,_,_,inferInstance⟩⟩,
 ⟨112,⟨_,_,_,inferInstance⟩⟩,
 ⟨113,⟨_,_,_,inferInstance⟩⟩,
 ⟨114,⟨_,_,_,inferInstance⟩⟩,
 ⟨115,⟨_,_,_,inferInstance⟩⟩,
 ⟨116,⟨_,_,_,inferInstance⟩⟩,
 ⟨117,⟨_,_,_,inferInstance⟩⟩,
 ⟨118,⟨_,_,_,inferInstance⟩⟩,
 ⟨119,⟨_,_,_,inferInstance⟩⟩,
 ⟨120,⟨_,_,_,inferInstance⟩⟩,
 ⟨121,⟨_,_,_,inferInstance⟩⟩,
 ⟨122,⟨_,_,_,inferInstance⟩⟩,
 ⟨123,⟨_,_,_,inferInstance⟩⟩,
 ⟨124,⟨_,_,_,inferInstance⟩⟩,
 ⟨125,⟨_,_,_,inferInstance⟩⟩,
 ⟨126,⟨_,_,_,inferInstance⟩⟩,
 ⟨127,⟨_,_,_,inferInstance⟩⟩,
 ⟨128,⟨_,_,_,inferInstance⟩⟩,
 ⟨129,⟨_,_,_,inferInstance⟩⟩,
 ⟨130,⟨_,_,_,inferInstance⟩⟩,
 ⟨131,⟨_,_,_,inferInstance⟩⟩,
 ⟨132,⟨_,_,_,inferInstance⟩⟩,
 ⟨134,⟨_,_,_,inferInstance⟩⟩,
 ⟨135,⟨_,_,_,inferInstance⟩⟩,
 ⟨137,⟨_,_,_,inferInstance⟩⟩,
 ⟨138,⟨_,_,_,inferInstance⟩⟩,
 ⟨140,⟨_,_,_,inferInstance⟩⟩,
 ⟨141,⟨_,_,_,inferInstance⟩⟩,
 ⟨144,⟨_,_,_,inferInstance⟩⟩,
 ⟨145,⟨_,_,_,inferInstance⟩⟩,
 ⟨146,⟨_,_,_,inferInstance⟩⟩,
 ⟨147,⟨_,_,_,inferInstance⟩⟩,
 ⟨148,⟨_,_,_,inferInstance⟩⟩,
 ⟨149,⟨_,_,_,inferInstance⟩⟩,
 ⟨150,⟨_,_,_,inferInstance⟩⟩,
 ⟨151,⟨_,_,_,inferInstance⟩⟩,
 ⟨152,⟨_,_,_,inferInstance⟩⟩,
 ⟨153,⟨_,_,_,inferInstance⟩⟩,
 ⟨154,⟨_,_,_,inferInstance⟩⟩,
 ⟨155,⟨_,_,_,inferInstance⟩⟩,
 ⟨156,⟨_,_,_,inferInstance⟩⟩]
def quu:List (Sigma fun t=>Sigma fun f=>FdE Try.prog t f):=[⟨7,0,⟨_,_,_,inferInstance⟩⟩,
 ⟨7,1,⟨_,_,_,inferInstance⟩⟩,
 ⟨7,2,⟨_,_,_,inferInstance⟩⟩,
 ⟨7,3,⟨_,_,_,inferInstance⟩⟩,
 ⟨8,0,⟨_,_,_,inferInstance⟩⟩,
 ⟨8,1,⟨_,_,_,inferInstance⟩⟩,
 ⟨8,2,⟨_,_,_,inferInstance⟩⟩,
 ⟨8,3,⟨_,_,_,inferInstance⟩⟩,
 ⟨13,0,⟨_,_,_,inferInstance⟩⟩,
 ⟨13,1,⟨_,_,_,inferInstance⟩⟩,
 ⟨14,0,⟨_,_,_,inferInstance⟩⟩,
 ⟨14,1,⟨_,_,_,inferInstance⟩⟩,
 ⟨18,0,⟨_,_,_,inferInstance⟩⟩,
 ⟨19,0,⟨_,_,_,inferInstance⟩⟩,
 ⟨24,0,⟨_,_,_,inferInstance⟩⟩,
 ⟨24,1,⟨_,_,_,inferInstance⟩⟩,
 ⟨24,2,⟨_,_,_,inferInstance⟩⟩,
 ⟨24,3,⟨_,_,_,inferInstance⟩⟩,
 ⟨25,0,⟨_,_,_,inferInstance⟩⟩,
 ⟨25,1,⟨_,_,_,inferInstance⟩⟩,
 ⟨25,2,⟨_,_,_,inferInstance⟩⟩,
 ⟨25,3,⟨_,_,_,inferInstance⟩⟩,
 ⟨29,0,⟨_,_,_,inferInstance⟩⟩,
 ⟨29,1,⟨_,_,_,inferInstance⟩⟩,
 ⟨30,0,⟨_,_,_,inferInstance⟩⟩,
 ⟨30,1,⟨_,_,_,inferInstance⟩⟩,
 ⟨31,0,⟨_,_,_,inferInstance⟩⟩,
 ⟨31,1,⟨_,_,_,inferInstance⟩⟩,
 ⟨32,0,⟨_,_,_,inferInstance⟩⟩,
 ⟨32,1,⟨_,_,_,inferInstance⟩⟩,
 ⟨43,0,⟨_,_,_,inferInstance⟩⟩,
 ⟨43,1,⟨_,_,_,inferInstance⟩⟩,
 ⟨43,2,⟨_,_,_,inferInstance⟩⟩,
 ⟨43,3,⟨_,_,_,inferInstance⟩⟩,
 ⟨44,0,⟨_,_,_,inferInstance⟩⟩,
 ⟨44,1,⟨_,_,_,inferInstance⟩⟩,
 ⟨44,2,⟨_,_,_,inferInstance⟩⟩,
 ⟨44,3,⟨_,_,_,inferInstance⟩⟩,
 ⟨46,0,⟨_,_,_,inferInstance⟩⟩,
 ⟨46,1,⟨_,_,_,inferInstance⟩⟩,
 ⟨46,2,⟨_,_,_,inferInstance⟩⟩,
 ⟨46,3,⟨_,_,_,inferInstance⟩⟩,
 ⟨46,4,⟨_,_,_,inferInstance⟩⟩,
 ⟨46,5,⟨_,_,_,inferInstance⟩⟩,
 ⟨46,6,⟨_,_,_,inferInstance⟩⟩,
 ⟨47,0,⟨_,_,_,inferInstance⟩⟩,
 ⟨47,1,⟨_,_,_,inferInstance⟩⟩,
 ⟨47,2,⟨_,_,_,inferInstance⟩⟩,
 ⟨47,3,⟨_,_,_,inferInstance⟩⟩,
 ⟨47,4,⟨_,_,_,inferInstance⟩⟩,
 ⟨47,5,⟨_,_,_,inferInstance⟩⟩,
 ⟨47,6,⟨_,_,_,inferInstance⟩⟩,
 ⟨59,0,⟨_,_,_,inferInstance⟩⟩,
 ⟨59,1,⟨_,_,_,inferInstance⟩⟩,
 ⟨59,2,⟨_,_,_,inferInstance⟩⟩,
 ⟨59,3,⟨_,_,_,inferInstance⟩⟩,
 ⟨60,0,⟨_,_,_,inferInstance⟩⟩,
 ⟨60,1,⟨_,_,_,inferInstance⟩⟩,
 ⟨60,2,⟨_,_,_,inferInstance⟩⟩,
 ⟨60,3,⟨_,_,_,inferInstance⟩⟩,
 ⟨78,0,⟨_,_,_,inferInstance⟩⟩,
 ⟨78,1,⟨_,_,_,inferInstance⟩⟩,
 ⟨78,2,⟨_,_,_,inferInstance⟩⟩,
 ⟨79,0,⟨_,_,_,inferInstance⟩⟩,
 ⟨79,1,⟨_,_,_,inferInstance⟩⟩,
 ⟨79,2,⟨_,_,_,inferInstance⟩⟩,
 ⟨98,0,⟨_,_,_,inferInstance⟩⟩,
 ⟨99,0,⟨_,_,_,inferInstance⟩⟩,
 ⟨105,0,⟨_,_,_,inferInstance⟩⟩,
 ⟨105,1,⟨_,_,_,inferInstance⟩⟩,
 ⟨106,0,⟨_,_,_,inferInstance⟩⟩,
 ⟨106,1,⟨_,_,_,inferInstance⟩⟩,
 ⟨107,0,⟨_,_,_,inferInstance⟩⟩,
 ⟨107,1,⟨_,_,_,inferInstance⟩⟩,
 ⟨107,2,⟨_,_,_,inferInstance⟩⟩,
 ⟨108,0,⟨_,_,_,inferInstance⟩⟩,
 ⟨108,1,⟨_,_,_,inferInstance⟩⟩,
 ⟨108,2,⟨_,_,_,inferInstance⟩⟩,
 ⟨115,0,⟨_,_,_,inferInstance⟩⟩,
 ⟨115,1,⟨_,_,_,inferInstance⟩⟩,
 ⟨116,0,⟨_,_,_,inferInstance⟩⟩,
 ⟨116,1,⟨_,_,_,inferInstance⟩⟩,
 ⟨142,0,⟨_,_,_,inferInstance⟩⟩,
 ⟨142,1,⟨_,_,_,inferInstance⟩⟩,
 ⟨142,2,⟨_,_,_,inferInstance⟩⟩,
 ⟨142,3,⟨_,_,_,inferInstance⟩⟩,
 ⟨143,0,⟨_,_,_,inferInstance⟩⟩,
 ⟨143,1,⟨_,_,_,inferInstance⟩⟩,
 ⟨143,2,⟨_,_,_,inferInstance⟩⟩,
 ⟨143,3,⟨_,_,_,inferInstance⟩⟩,
 ⟨154,0,⟨_,_,_,inferInstance⟩⟩,
 ⟨154,1,⟨_,_,_,inferInstance⟩⟩,
 ⟨154,2,⟨_,_,_,inferInstance⟩⟩,
 ⟨154,3,⟨_,_,_,inferInstance⟩⟩,
 ⟨154,4,⟨_,_,_,inferInstance⟩⟩,
 ⟨154,5,⟨_,_,_,inferInstance⟩⟩,
 ⟨154,6,⟨_,_,_,inferInstance⟩⟩,
 ⟨154,7,⟨_,_,_,inferInstance⟩⟩,
 ⟨154,8,⟨_,_,_,inferInstance⟩⟩,
 ⟨154,9,⟨_,_,_,inferInstance⟩⟩,
 ⟨154,10,⟨_,_,_,inferInstance⟩⟩,
 ⟨155,0,⟨_,_,_,inferInstance⟩⟩,
 ⟨155,1,⟨_,_,_,inferInstance⟩⟩,
 ⟨155,2,⟨_,_,_,inferInstance⟩⟩,
 ⟨155,3,⟨_,_,_,inferInstance⟩⟩,
 ⟨155,4,⟨_,_,_,inferInstance⟩⟩,
 ⟨155,5,⟨_,_,_,inferInstance⟩⟩,
 ⟨155,6,⟨_,_,_,inferInstance⟩⟩,
 ⟨155,7,⟨_,_,_,inferInstance⟩⟩,
 ⟨155,8,⟨_,_,_,inferInstance⟩⟩,
 ⟨155,9,⟨_,_,_,inferInstance⟩⟩,
 ⟨155,10,⟨_,_,_,inferInstance⟩⟩]
def quv:List (Sigma (SlE Try.prog)):=[⟨22,SlE.mk' T32 inferInstance (by decide) (by decide) (by decide) rfl 5864062014805 rfl⟩,
 ⟨23,SlE.mk' T3 inferInstance (by decide) (by decide) (by decide) rfl 17592186044416 rfl⟩,
 ⟨41,SlE.mk' T79 inferInstance (by decide) (by decide) (by decide) rfl 5864062014805 rfl⟩,
 ⟨42,SlE.mk' T106 inferInstance (by decide) (by decide) (by decide) rfl 8796093022208 rfl⟩,
 ⟨45,SlE.mk' T60 inferInstance (by decide) (by decide) (by decide) rfl 2932031007402 rfl⟩,
 ⟨58,SlE.mk' T108 inferInstance (by decide) (by decide) (by decide) rfl 3518437208883 rfl⟩]
def quw:List (Sigma fun t=>{k:IntKind // IntTy Try.prog t k}):=[⟨2,.i64,inferInstance⟩,⟨3,.i64,inferInstance⟩,⟨5,.u8,inferInstance⟩,⟨6,.u8,inferInstance⟩,⟨12,.u64,inferInstance⟩,⟨21,.i32,inferInstance⟩,⟨26,.i64,inferInstance⟩,⟨37,.u64,inferInstance⟩,⟨135,.u32,inferInstance⟩,⟨138,.u64,inferInstance⟩,⟨148,.u8,inferInstance⟩,⟨149,.u8,inferInstance⟩,⟨152,.i32,inferInstance⟩,⟨153,.i32,inferInstance⟩]
def qux:List (Sigma fun t=>PLift (BoolTy Try.prog t)):=[⟨4,⟨inferInstance⟩⟩]
def quy:List (Sigma fun t=>PLift (StructTy Try.prog t)):=[⟨7,⟨inferInstance⟩⟩,⟨8,⟨inferInstance⟩⟩,⟨13,⟨inferInstance⟩⟩,⟨14,⟨inferInstance⟩⟩,⟨18,⟨inferInstance⟩⟩,⟨19,⟨inferInstance⟩⟩,⟨24,⟨inferInstance⟩⟩,⟨25,⟨inferInstance⟩⟩,⟨29,⟨inferInstance⟩⟩,⟨30,⟨inferInstance⟩⟩,⟨31,⟨inferInstance⟩⟩,⟨32,⟨inferInstance⟩⟩,⟨43,⟨inferInstance⟩⟩,⟨44,⟨inferInstance⟩⟩,⟨46,⟨inferInstance⟩⟩,⟨47,⟨inferInstance⟩⟩,⟨59,⟨inferInstance⟩⟩,⟨60,⟨inferInstance⟩⟩,⟨78,⟨inferInstance⟩⟩,⟨79,⟨inferInstance⟩⟩,⟨98,⟨inferInstance⟩⟩,⟨99,⟨inferInstance⟩⟩,⟨105,⟨inferInstance⟩⟩,⟨106,⟨inferInstance⟩⟩,⟨107,⟨inferInstance⟩⟩,⟨108,⟨inferInstance⟩⟩,⟨115,⟨inferInstance⟩⟩,⟨116,⟨inferInstance⟩⟩,⟨142,⟨inferInstance⟩⟩,⟨143,⟨inferInstance⟩⟩,⟨145,⟨inferInstance⟩⟩,⟨146,⟨inferInstance⟩⟩,⟨154,⟨inferInstance⟩⟩,⟨155,⟨inferInstance⟩⟩]
def quz:List (Sigma (EqE Try.prog)):=[⟨7,EqE.mk' T7 rfl (by kernel_rfl) (by kernel_rfl)⟩,
 ⟨8,EqE.mk' T8 rfl (by kernel_rfl) (by kernel_rfl)⟩,
 ⟨29,EqE.mk' T29 rfl (by kernel_rfl) (by kernel_rfl)⟩,
 ⟨30,EqE.mk' T30 rfl (by kernel_rfl) (by kernel_rfl)⟩,
 ⟨31,EqE.mk' T31 rfl (by kernel_rfl) (by kernel_rfl)⟩,
 ⟨32,EqE.mk' T32 rfl (by kernel_rfl) (by kernel_rfl)⟩,
 ⟨78,EqE.mk' T78 rfl (by kernel_rfl) (by kernel_rfl)⟩,
 ⟨79,EqE.mk' T79 rfl (by kernel_rfl) (by kernel_rfl)⟩,
 ⟨105,EqE.mk' T105 rfl (by kernel_rfl) (by kernel_rfl)⟩,
 ⟨106,EqE.mk' T106 rfl (by kernel_rfl) (by kernel_rfl)⟩,
 ⟨107,EqE.mk' T107 rfl (by kernel_rfl) (by kernel_rfl)⟩,
 ⟨108,EqE.mk' T108 rfl (by kernel_rfl) (by kernel_rfl)⟩]
def quA:List (Sigma fun t=>PLift (FuncTy Try.prog t)):=[⟨1,⟨FuncTy.mk' (by kernel_rfl)⟩⟩,⟨27,⟨FuncTy.mk' (by kernel_rfl)⟩⟩,⟨28,⟨FuncTy.mk' (by kernel_rfl)⟩⟩,⟨34,⟨FuncTy.mk' (by kernel_rfl)⟩⟩,⟨36,⟨FuncTy.mk' (by kernel_rfl)⟩⟩,⟨38,⟨FuncTy.mk' (by kernel_rfl)⟩⟩,⟨39,⟨FuncTy.mk' (by kernel_rfl)⟩⟩,⟨40,⟨FuncTy.mk' (by kernel_rfl)⟩⟩,⟨48,⟨FuncTy.mk' (by kernel_rfl)⟩⟩,⟨49,⟨FuncTy.mk' (by kernel_rfl)⟩⟩,⟨50,⟨FuncTy.mk' (by kernel_rfl)⟩⟩,⟨51,⟨FuncTy.mk' (by kernel_rfl)⟩⟩,⟨53,⟨FuncTy.mk' (by kernel_rfl)⟩⟩,⟨54,⟨FuncTy.mk' (by kernel_rfl)⟩⟩,⟨55,⟨FuncTy.mk' (by kernel_rfl)⟩⟩,⟨57,⟨FuncTy.mk' (by kernel_rfl)⟩⟩,⟨61,⟨FuncTy.mk' (by kernel_rfl)⟩⟩,⟨62,⟨FuncTy.mk' (by kernel_rfl)⟩⟩,⟨64,⟨FuncTy.mk' (by kernel_rfl)⟩⟩,⟨66,⟨FuncTy.mk' (by kernel_rfl)⟩⟩,⟨67,⟨FuncTy.mk' (by kernel_rfl)⟩⟩,⟨68,⟨FuncTy.mk' (by kernel_rfl)⟩⟩,⟨69,⟨FuncTy.mk' (by kernel_rfl)⟩⟩,⟨70,⟨FuncTy.mk' (by kernel_rfl)⟩⟩,⟨72,⟨FuncTy.mk' (by kernel_rfl)⟩⟩,⟨73,⟨FuncTy.mk' (by kernel_rfl)⟩⟩,⟨74,⟨FuncTy.mk' (by kernel_rfl)⟩⟩,⟨75,⟨FuncTy.mk' (by kernel_rfl)⟩⟩,⟨76,⟨FuncTy.mk' (by kernel_rfl)⟩⟩,⟨77,⟨FuncTy.mk' (by kernel_rfl)⟩⟩,⟨80,⟨FuncTy.mk' (by kernel_rfl)⟩⟩,⟨81,⟨FuncTy.mk' (by kernel_rfl)⟩⟩,⟨82,⟨FuncTy.mk' (by kernel_rfl)⟩⟩,⟨83,⟨FuncTy.mk' (by kernel_rfl)⟩⟩,⟨84,⟨FuncTy.mk' (by kernel_rfl)⟩⟩,⟨85,⟨FuncTy.mk' (by kernel_rfl)⟩⟩,⟨88,⟨FuncTy.mk' (by kernel_rfl)⟩⟩,⟨89,⟨FuncTy.mk' (by kernel_rfl)⟩⟩,⟨90,⟨FuncTy.mk' (by kernel_rfl)⟩⟩,⟨91,⟨FuncTy.mk' (by kernel_rfl)⟩⟩,⟨92,⟨FuncTy.mk' (by kernel_rfl)⟩⟩,⟨94,⟨FuncTy.mk' (by kernel_rfl)⟩⟩,⟨95,⟨FuncTy.mk' (by kernel_rfl)⟩⟩,⟨96,⟨FuncTy.mk' (by kernel_rfl)⟩⟩,⟨97,⟨FuncTy.mk' (by kernel_rfl)⟩⟩,⟨101,⟨FuncTy.mk' (by kernel_rfl)⟩⟩,⟨102,⟨FuncTy.mk' (by kernel_rfl)⟩⟩,⟨103,⟨FuncTy.mk' (by kernel_rfl)⟩⟩,⟨104,⟨FuncTy.mk' (by kernel_rfl)⟩⟩,⟨109,⟨FuncTy.mk' (by kernel_rfl)⟩⟩,⟨110,⟨FuncTy.mk' (by kernel_rfl)⟩⟩,⟨111,⟨FuncTy.mk' (by kernel_rfl)⟩⟩,⟨112,⟨FuncTy.mk' (by kernel_rfl)⟩⟩,⟨113,⟨FuncTy.mk' (by kernel_rfl)⟩⟩,⟨114,⟨FuncTy.mk' (by kernel_rfl)⟩⟩,⟨117,⟨FuncTy.mk' (by kernel_rfl)⟩⟩,⟨118,⟨FuncTy.mk' (by kernel_rfl)⟩⟩,⟨119,⟨FuncTy.mk' (by kernel_rfl)⟩⟩,⟨120,⟨FuncTy.mk' (by kernel_rfl)⟩⟩,⟨121,⟨FuncTy.mk' (by kernel_rfl)⟩⟩,⟨122,⟨FuncTy.mk' (by kernel_rfl)⟩⟩,⟨123,⟨FuncTy.mk' (by kernel_rfl)⟩⟩,⟨124,⟨FuncTy.mk' (by kernel_rfl)⟩⟩,⟨125,⟨FuncTy.mk' (by kernel_rfl)⟩⟩,⟨126,⟨FuncTy.mk' (by kernel_rfl)⟩⟩,⟨127,⟨FuncTy.mk' (by kernel_rfl)⟩⟩,⟨128,⟨FuncTy.mk' (by kernel_rfl)⟩⟩,⟨129,⟨FuncTy.mk' (by kernel_rfl)⟩⟩,⟨130,⟨FuncTy.mk' (by kernel_rfl)⟩⟩,⟨131,⟨FuncTy.mk' (by kernel_rfl)⟩⟩,⟨132,⟨FuncTy.mk' (by kernel_rfl)⟩⟩,⟨134,⟨FuncTy.mk' (by kernel_rfl)⟩⟩,⟨137,⟨FuncTy.mk' (by kernel_rfl)⟩⟩,⟨140,⟨FuncTy.mk' (by kernel_rfl)⟩⟩,⟨141,⟨FuncTy.mk' (by kernel_rfl)⟩⟩,⟨147,⟨FuncTy.mk' (by kernel_rfl)⟩⟩,⟨150,⟨FuncTy.mk' (by kernel_rfl)⟩⟩]
def quB:List (Sigma (MpE Try.prog)):=[]
def qt8:List (Sigma fun t=>PLift (Try.prog.underlying t=some .string)):=[⟨9,⟨by kernel_rfl⟩⟩,⟨10,⟨by kernel_rfl⟩⟩,⟨11,⟨by kernel_rfl⟩⟩]
def tab:Tab Try.prog:=⟨fun t=>qhv t qut,fun t f=>qqn t f quu,fun t=>qhv t quv,fun t=>qhv t quw,fun t=>qhv t qux,fun t=>qhv t quy,fun t=>qhv t quz,fun t=>qhv t quA,fun t=>qhv t quB,fun t=>qhv t qt8,mixed⟩
set_option maxRecDepth 20000
section
def qmK(n:Nat):CL Try.prog:=⟨[],[],0,nof⟩
def qbK(n:Nat):Ct Try.prog:=mkC tab (qmK n) [] Try.func29 [.d T3,.d T3,.d T3] [T4] (by kernel_rfl)
def ql6(n:Nat):CL Try.prog:=⟨[],[],0,nof⟩
def qgJ(n:Nat):Ct Try.prog:=mkC tab (ql6 n) [] Try.func60 [.d T30,.d T3,.d T3] [T4] (by kernel_rfl)
def qi2(n:Nat):CL Try.prog:=⟨[],[],0,nof⟩
def qeG(n:Nat):Ct Try.prog:=mkC tab (qi2 n) [] Try.func23 [.d T3,.d T3,.d T3] [T4] (by kernel_rfl)
def qi3(n:Nat):CL Try.prog:=⟨[],[],0,nof⟩
def qgr(n:Nat):Ct Try.prog:=mkC tab (qi3 n) [] Try.func58 [.d T30,.d T3,.d T3] [T4] (by kernel_rfl)
def qka(n:Nat):CL Try.prog:=⟨[],[],0,nof⟩
def qfi(n:Nat):Ct Try.prog:=mkC tab (qka n) [] Try.func26 [.d T3,.d T3] [T30] (by kernel_rfl)
def qiy(n:Nat):CL Try.prog:=⟨[qfi n],[],0,nof⟩
def qf6(n:Nat):Ct Try.prog:=mkC tab (qiy n) [] Try.func24 [] [T47,T22] (by kernel_rfl)
def qfB(n:Nat):CL Try.prog:=⟨[],[],0,nof⟩
def qim(n:Nat):LK Try.prog false:=mkL tab (qfB n) [] Try.f27 [true,true,false,true,false,false] 0 n [.v (.t 0) T23,.v (.t 1) T23,.v (.t 5) T3] [(.exit 0,[]),(.ret,[.v (.t 4) T4])] (by kernel_rfl)
def qfX(n:Nat):Ct Try.prog:=mkC tab (qfB n) [qim n] Try.func27 [.d T23,.d T23] [T4] (by kernel_rfl)
def qgK(n:Nat):CL Try.prog:=⟨[],[],0,nof⟩
def qgL(n:Nat):LK Try.prog false:=mkL tab (qgK n) [] Try.f11 [true,true,false,true,false,false] 0 n [.v (.t 0) T3,.v (.t 1) T3,.v (.t 5) T3,.v (.t 6) T3] [(.exit 0,[.v (.t 5) T3])] (by kernel_rfl)
def qg0(n:Nat):Ct Try.prog:=mkC tab (qgK n) [qgL n] Try.func11 [.d T3,.d T3] [T3] (by kernel_rfl)
def qiz(n:Nat):CL Try.prog:=⟨[],[],0,nof⟩
def qf7(n:Nat):Ct Try.prog:=mkC tab (qiz n) [] Try.func10 [.d T32,.d T32,.d T3,.d T3,.d T3,.d T3] [T4] (by kernel_rfl)
def qfC(n:Nat):CL Try.prog:=⟨[qeG n,qgr n],[],0,nof⟩
def qfD(n:Nat):LK Try.prog false:=mkL tab (qfC n) [] Try.f22 [true,false,true,false,false] 0 n [.v (.t 0) T22,.v (.t 3) T3] [(.exit 0,[.v (.t 0) T22]),(.ret,[.v (.t 2) T4])] (by kernel_rfl)
def qfY(n:Nat):Ct Try.prog:=mkC tab (qfC n) [qfD n] Try.func22 [.d T22] [T4] (by kernel_rfl)
def qhM(n:Nat):CL Try.prog:=⟨[qfY n,qeG n],[],0,nof⟩
def qfo(n:Nat):Ct Try.prog:=mkC tab (qhM n) [] Try.func6 [.d T22,.d T3,.d T4] [T26] (by kernel_rfl)
def qhg(n:Nat):CL Try.prog:=⟨[],[],0,nof⟩
def qjp(n:Nat):LK Try.prog false:=mkL tab (qhg n) [] Try.f30 [true,false,true,false,false,true,true,false,false,true,true,false,false] 1 n [.v (.t 0) T22,.v (.t 1) T3,.v (.t 2) T3,.v (.t 12) T22,.v (.t 13) T3,.v (.t 14) T3,.v (.t 21) T22,.v (.t 22) T3,.v (.t 23) T3,.obj (.t 8) false 32 3,.v (.c 0 0) T32] [(.exit 2,[.v (.t 0) T22,.v (.t 1) T3,.v (.t 2) T3,.v (.t 12) T22,.v (.t 13) T3,.v (.t 14) T3]),(.ret,[.v (.t 6) T4])] (by kernel_rfl)
def qjq(n:Nat):LK Try.prog false:=mkL tab (qhg n) [qjp n] Try.f30 [true,false,true,false,false] 0 n [.v (.t 0) T22,.v (.t 1) T3,.v (.t 2) T3,.v (.t 12) T22,.v (.t 13) T3,.v (.t 14) T3] [(.exit 0,[]),(.ret,[.v (.t 6) T4])] (by kernel_rfl)
def qhN(n:Nat):Ct Try.prog:=mkC tab (qhg n) [qjq n] Try.func30 [.d T22,.d T3,.d T3] [T4] (by kernel_rfl)
def ql7(n:Nat):CL Try.prog:=⟨[],[],0,nof⟩
def qiT(n:Nat):Ct Try.prog:=mkC tab (ql7 n) [] Try.func93 [.d T3] [T4] (by kernel_rfl)
def qkR(n:Nat):CL Try.prog:=⟨[qiT n],[],0,nof⟩
def qez(n:Nat):Ct Try.prog:=mkC tab (qkR n) [] Try.func74 [.d T3,.d T3] [T3] (by kernel_rfl)
def qgs(n:Nat):CL Try.prog:=⟨[qez n],[],0,nof⟩
def qgt(n:Nat):LK Try.prog false:=mkL tab (qgs n) [] Try.f63 [true,false,true,false,false] 0 n [.v (.t 0) T23,.v (.t 1) T23,.v (.t 9) T23,.v (.t 10) T3,.v (.t 11) T3] [(.exit 0,[.v (.t 0) T23,.v (.t 1) T23]),(.ret,[.v (.t 4) T3])] (by kernel_rfl)
def qgM(n:Nat):Ct Try.prog:=mkC tab (qgs n) [qgt n] Try.func63 [.d T23,.d T23] [T3] (by kernel_rfl)
def qg1(n:Nat):CL Try.prog:=⟨[],[],0,nof⟩
def qg2(n:Nat):LK Try.prog false:=mkL tab (qg1 n) [] Try.f62 [true,false,true,false,false] 0 n [.v (.t 1) T3,.v (.t 7) T23,.v (.t 8) T3,.v (.t 9) T3,.row (.t 4) false T3 3] [(.exit 0,[.row (.t 4) false T3 3])] (by kernel_rfl)
def qhE(n:Nat):Ct Try.prog:=mkC tab (qg1 n) [qg2 n] Try.func62 [.d T23,.d T3] [T23] (by kernel_rfl)
def qfZ(n:Nat):CL Try.prog:=⟨[],[],0,nof⟩
def qf0(n:Nat):LK Try.prog false:=mkL tab (qfZ n) [] Try.f33 [true,false,true,false,false] 0 n [.v (.t 1) T3,.v (.t 7) T22,.v (.t 8) T3,.v (.t 9) T3,.row (.t 4) false T32 32] [(.exit 0,[.row (.t 4) false T32 32])] (by kernel_rfl)
def qf8(n:Nat):Ct Try.prog:=mkC tab (qfZ n) [qf0 n] Try.func33 [.d T22,.d T3] [T22] (by kernel_rfl)
end
section
def qi4(n:Nat):CL Try.prog:=⟨[qbK n,qgJ n],[],0,nof⟩
def qcI(n:Nat):Cw Try.prog:=mkW tab (qi4 n) [] Try.func59 [.v (.t 0) T32,.obj (.t 1) true 3 1,.v (.c 0 0) T3] 2 [[.v (.t 0) T4,.obj (.t 1) true 3 1,.v (.c 0 0) T3]] (by kernel_rfl)
def qeH(n:Nat):CL Try.prog:=⟨[],[qcI n],0,nof⟩
def qbO(n:Nat):Cw Try.prog:=mkW tab (qeH n) [] Try.func86 [.v (.t 0) T32,.obj (.t 1) true 109 1,.fnc (.c 0 0) 59 [.box true 3 1],.v (.c 1 0) T3] 2 [[.v (.t 0) T4,.obj (.t 1) true 109 1,.fnc (.c 0 0) 59 [.box true 3 1],.v (.c 1 0) T3]] (by kernel_rfl)
def qba(n:Nat):CL Try.prog:=⟨[],[qcI n,qbO n],0,nof⟩
def qbb(n:Nat):LK Try.prog false:=mkL tab (qba n) [] Try.f98 [true,false,true,false,false] 0 n [.v (.t 0) T22,.v (.t 7) T3,.v (.t 8) T3,.fnc (.t 1) 86 [.box true 109 1],.fnc (.c 0 0) 59 [.box true 3 1],.v (.c 1 0) T3] [(.exit 0,[.fnc (.t 1) 86 [.box true 109 1],.fnc (.c 0 0) 59 [.box true 3 1],.v (.c 1 0) T3]),(.ret,[.v (.t 4) T3,.fnc (.t 1) 86 [.box true 109 1],.fnc (.c 0 0) 59 [.box true 3 1],.v (.c 1 0) T3])] (by kernel_rfl)
def qbd(n:Nat):Cw Try.prog:=mkW tab (qba n) [qbb n] Try.func98 [.v (.t 0) T22,.fnc (.t 1) 86 [.box true 109 1],.fnc (.c 0 0) 59 [.box true 3 1],.v (.c 1 0) T3] 2 [[.v (.t 0) T3,.obj (.t 1) true 109 1,.fnc (.c 0 0) 59 [.box true 3 1],.v (.c 1 0) T3]] (by kernel_rfl)
def qcg(n:Nat):CL Try.prog:=⟨[],[qcI n,qbO n,qbd n],0,nof⟩
def qX(n:Nat):Cw Try.prog:=mkW tab (qcg n) [] Try.func85 [.v (.t 0) T22,.fnc (.t 1) 86 [.box true 109 1],.fnc (.c 0 0) 59 [.box true 3 1],.v (.c 1 0) T3] 2 [[.v (.t 0) T4,.obj (.t 1) true 109 1,.fnc (.c 0 0) 59 [.box true 3 1],.v (.c 1 0) T3]] (by kernel_rfl)
def qeY(n:Nat):CL Try.prog:=⟨[],[qcI n,qX n],0,nof⟩
def qc9(n:Nat):Cw Try.prog:=mkW tab (qeY n) [] Try.func61 [.v (.t 0) T22,.fnc (.t 1) 59 [.box true 3 1],.v (.c 0 0) T3] 2 [[.v (.t 0) T4,.obj (.t 1) true 3 1,.v (.c 0 0) T3]] (by kernel_rfl)
def qko(n:Nat):CL Try.prog:=⟨[],[qc9 n],0,nof⟩
def qfE(n:Nat):Ct Try.prog:=mkC tab (qko n) [] Try.func28 [.d T22,.d T4] [T26] (by kernel_rfl)
def qjr(n:Nat):CL Try.prog:=⟨[qfE n,qbK n,qhN n],[],0,nof⟩
def qjs(n:Nat):LK Try.prog false:=mkL tab (qjr n) [] Try.f8 [true,true,true,false,false,false] 0 n [.v (.t 0) T22,.v (.t 1) T3,.v (.t 7) T3] [(.exit 0,[.v (.t 7) T3])] (by kernel_rfl)
def qkm(n:Nat):Ct Try.prog:=mkC tab (qjr n) [qjs n] Try.func8 [.d T22,.d T3] [T3,T26] (by kernel_rfl)
def ql8(n:Nat):CL Try.prog:=⟨[qhN n,qf8 n],[],0,nof⟩
def qiU(n:Nat):Cw Try.prog:=mkW tab (ql8 n) [] Try.func32 [.v (.t 0) T3,.obj (.t 1) true 22 1,.v (.c 0 0) T22,.obj (.t 2) true 3 1,.v (.c 1 0) T3,.obj (.t 3) true 3 1,.v (.c 2 0) T3] 4 [[.v (.t 0) T4,.obj (.t 1) true 22 1,.v (.c 0 0) T22,.obj (.t 2) true 3 1,.v (.c 1 0) T3,.obj (.t 3) true 3 1,.v (.c 2 0) T3]] (by kernel_rfl)
def qdc(n:Nat):CL Try.prog:=⟨[qhE n,qgM n],[qiU n],0,nof⟩
def qex(n:Nat):LK Try.prog false:=mkL tab (qdc n) [] Try.f31 [true,true,false,true,false,false] 0 n [.v (.t 0) T3,.v (.t 15) T3,.v (.t 16) T3,.fnc (.t 1) 32 [.box true 22 1,.box true 3 1,.box true 3 1],.v (.c 0 0) T22,.v (.c 1 0) T3,.v (.c 2 0) T3,.row (.t 6) false T3 3] [(.exit 0,[.v (.t 0) T3,.fnc (.t 1) 32 [.box true 22 1,.box true 3 1,.box true 3 1],.v (.c 0 0) T22,.v (.c 1 0) T3,.v (.c 2 0) T3,.row (.t 6) false T3 3])] (by kernel_rfl)
def qey(n:Nat):LK Try.prog false:=mkL tab (qdc n) [] Try.f31 [true,true,true,true,true,false,true,false,false] 1 n [.v (.t 6) T23,.v (.t 8) T23,.v (.t 9) T4,.v (.t 25) T3,.v (.t 26) T3,.fnc (.t 1) 32 [.box true 22 1,.box true 3 1,.box true 3 1],.v (.c 0 0) T22,.v (.c 1 0) T3,.v (.c 2 0) T3] [(.exit 2,[.v (.t 8) T23,.v (.t 9) T4,.fnc (.t 1) 32 [.box true 22 1,.box true 3 1,.box true 3 1],.v (.c 0 0) T22,.v (.c 1 0) T3,.v (.c 2 0) T3])] (by kernel_rfl)
def qeI(n:Nat):Cw Try.prog:=mkW tab (qdc n) [qex n,qey n] Try.func31 [.v (.t 0) T3,.fnc (.t 1) 32 [.box true 22 1,.box true 3 1,.box true 3 1],.v (.c 0 0) T22,.v (.c 1 0) T3,.v (.c 2 0) T3] 2 [[.v (.t 0) T23,.v (.t 1) T4,.obj (.t 2) true 22 1,.obj (.t 3) true 3 1,.obj (.t 4) true 3 1,.v (.c 0 0) T22,.v (.c 1 0) T3,.v (.c 2 0) T3]] (by kernel_rfl)
def qnV(n:Nat):CL Try.prog:=⟨[qfE n,qbK n],[qeI n],0,nof⟩
def qin(n:Nat):Ct Try.prog:=mkC tab (qnV n) [] Try.func9 [.d T22,.d T3,.d T3] [T23,T26] (by kernel_rfl)
end
section
def qg3(n:Nat):CL Try.prog:=⟨[],[],0,nof⟩
def qkp(n:Nat):LK Try.prog false:=mkL tab (qg3 n) [] Try.f83 [true,true,false,true,false,false] 0 n [.v (.t 7) T3,.v (.t 8) T3,.v (.t 21) T42,.v (.t 22) T3,.v (.t 23) T3] [(.exit 0,[.v (.t 8) T3])] (by kernel_rfl)
def qkS(n:Nat):Ct Try.prog:=mkC tab (qg3 n) [qkp n] Try.func83 [.d T99,.d T3,.d T3] [T3] (by kernel_rfl)
def qgu(n:Nat):CL Try.prog:=⟨[qkS n],[],0,nof⟩
def qjt(n:Nat):LK Try.prog false:=mkL tab (qgu n) [] Try.f56 [true,false,true,false,false] 0 n [.v (.t 2) T3,.v (.t 10) T58,.v (.t 11) T3,.v (.t 12) T3,.obj (.t 3) false 99 4,.v (.c 0 0) T99,.obj (.t 6) false 30 2,.v (.c 1 0) T30] [(.exit 0,[.obj (.t 6) false 30 2,.v (.c 0 0) T30])] (by kernel_rfl)
def qgN(n:Nat):Ct Try.prog:=mkC tab (qgu n) [qjt n] Try.func56 [.d T99,.d T60,.d T3] [T30] (by kernel_rfl)
def qio(n:Nat):CL Try.prog:=⟨[qbK n],[],0,nof⟩
def ql9(n:Nat):LK Try.prog false:=mkL tab (qio n) [] Try.f40 [true,true,false,true,false,false] 0 n [.v (.t 3) T3,.v (.t 4) T3,.v (.t 8) T42,.v (.t 9) T3,.v (.t 10) T3,.obj (.t 1) false 44 4,.v (.c 0 0) T44] [(.exit 0,[.obj (.t 1) false 44 4,.v (.c 0 0) T44]),(.ret,[.v (.t 2) T4])] (by kernel_rfl)
def qiV(n:Nat):Ct Try.prog:=mkC tab (qio n) [ql9 n] Try.func40 [.d T44] [T4] (by kernel_rfl)
def qkT(n:Nat):CL Try.prog:=⟨[qbK n,qgJ n],[],0,nof⟩
def qeA(n:Nat):Cw Try.prog:=mkW tab (qkT n) [] Try.func67 [.v (.t 0) T108,.obj (.t 1) true 3 1,.v (.c 0 0) T3] 2 [[.v (.t 0) T4,.obj (.t 1) true 3 1,.v (.c 0 0) T3]] (by kernel_rfl)
def qfj(n:Nat):CL Try.prog:=⟨[],[qeA n],0,nof⟩
def qdk(n:Nat):Cw Try.prog:=mkW tab (qfj n) [] Try.func89 [.v (.t 0) T108,.obj (.t 1) true 114 1,.fnc (.c 0 0) 67 [.box true 3 1],.v (.c 1 0) T3] 2 [[.v (.t 0) T4,.obj (.t 1) true 114 1,.fnc (.c 0 0) 67 [.box true 3 1],.v (.c 1 0) T3]] (by kernel_rfl)
def qbm(n:Nat):CL Try.prog:=⟨[],[qeA n,qdk n],0,nof⟩
def qcJ(n:Nat):LK Try.prog false:=mkL tab (qbm n) [] Try.f99 [true,false,true,false,false] 0 n [.v (.t 0) T58,.v (.t 7) T3,.v (.t 8) T3,.fnc (.t 1) 89 [.box true 114 1],.fnc (.c 0 0) 67 [.box true 3 1],.v (.c 1 0) T3] [(.exit 0,[.fnc (.t 1) 89 [.box true 114 1],.fnc (.c 0 0) 67 [.box true 3 1],.v (.c 1 0) T3]),(.ret,[.v (.t 4) T3,.fnc (.t 1) 89 [.box true 114 1],.fnc (.c 0 0) 67 [.box true 3 1],.v (.c 1 0) T3])] (by kernel_rfl)
def qcS(n:Nat):Cw Try.prog:=mkW tab (qbm n) [qcJ n] Try.func99 [.v (.t 0) T58,.fnc (.t 1) 89 [.box true 114 1],.fnc (.c 0 0) 67 [.box true 3 1],.v (.c 1 0) T3] 2 [[.v (.t 0) T3,.obj (.t 1) true 114 1,.fnc (.c 0 0) 67 [.box true 3 1],.v (.c 1 0) T3]] (by kernel_rfl)
def qcv(n:Nat):CL Try.prog:=⟨[],[qeA n,qdk n,qcS n],0,nof⟩
def qcz(n:Nat):Cw Try.prog:=mkW tab (qcv n) [] Try.func88 [.v (.t 0) T58,.fnc (.t 1) 89 [.box true 114 1],.fnc (.c 0 0) 67 [.box true 3 1],.v (.c 1 0) T3] 2 [[.v (.t 0) T4,.obj (.t 1) true 114 1,.fnc (.c 0 0) 67 [.box true 3 1],.v (.c 1 0) T3]] (by kernel_rfl)
def qfF(n:Nat):CL Try.prog:=⟨[],[qeA n,qcz n],0,nof⟩
def qfT(n:Nat):Cw Try.prog:=mkW tab (qfF n) [] Try.func66 [.v (.t 0) T58,.fnc (.t 1) 67 [.box true 3 1],.v (.c 0 0) T3] 2 [[.v (.t 0) T4,.obj (.t 1) true 3 1,.v (.c 0 0) T3]] (by kernel_rfl)
def qmL(n:Nat):CL Try.prog:=⟨[qbK n],[qfT n],0,nof⟩
def qeJ(n:Nat):Ct Try.prog:=mkC tab (qmL n) [] Try.func42 [.d T60] [T4] (by kernel_rfl)
def qnW(n:Nat):CL Try.prog:=⟨[qiV n,qeJ n],[],0,nof⟩
def qoX(n:Nat):Ct Try.prog:=mkC tab (qnW n) [] Try.func82 [.d T44,.d T60] [T99,T26] (by kernel_rfl)
def qpq(n:Nat):CL Try.prog:=⟨[qbK n,qoX n],[],0,nof⟩
def qqs(n:Nat):Ct Try.prog:=mkC tab (qpq n) [] Try.func55 [.d T44,.d T60,.d T3] [T99,T26] (by kernel_rfl)
def qmM(n:Nat):CL Try.prog:=⟨[qqs n,qgN n],[],0,nof⟩
def qju(n:Nat):Ct Try.prog:=mkC tab (qmM n) [] Try.func25 [.d T44,.d T60,.d T3] [T30,T26] (by kernel_rfl)
def qkq(n:Nat):CL Try.prog:=⟨[],[],0,nof⟩
def qkU(n:Nat):Ct Try.prog:=mkC tab (qkq n) [] Try.func84 [.d T99,.d T60,.d T3] [T3] (by kernel_rfl)
def qkV(n:Nat):CL Try.prog:=⟨[qkU n],[],0,nof⟩
def qlt(n:Nat):Ct Try.prog:=mkC tab (qkV n) [] Try.func57 [.d T99,.d T60,.d T3,.d T3] [T4] (by kernel_rfl)
def qlu(n:Nat):CL Try.prog:=⟨[qbK n],[],0,nof⟩
def qeZ(n:Nat):Cw Try.prog:=mkW tab (qlu n) [] Try.func37 [.v (.t 0) T79] 1 [[.v (.t 0) T4]] (by kernel_rfl)
def qlv(n:Nat):CL Try.prog:=⟨[qbK n],[],0,nof⟩
def qe0(n:Nat):Cw Try.prog:=mkW tab (qlv n) [] Try.func38 [.v (.t 0) T3] 1 [[.v (.t 0) T4]] (by kernel_rfl)
def qlw(n:Nat):CL Try.prog:=⟨[],[],0,nof⟩
def qe1(n:Nat):Cw Try.prog:=mkW tab (qlw n) [] Try.func39 [.v (.t 0) T60,.obj (.t 1) true 47 10,.v (.c 0 0) T47] 2 [[.v (.t 0) T4,.obj (.t 1) true 47 10,.v (.c 0 0) T47]] (by kernel_rfl)
def qfk(n:Nat):CL Try.prog:=⟨[],[qeZ n],0,nof⟩
def qdl(n:Nat):Cw Try.prog:=mkW tab (qfk n) [] Try.func69 [.v (.t 0) T79,.obj (.t 1) true 80 1,.fnc (.c 0 0) 37 []] 2 [[.v (.t 0) T4,.obj (.t 1) true 80 1,.fnc (.c 0 0) 37 []]] (by kernel_rfl)
def qbg(n:Nat):CL Try.prog:=⟨[],[qeZ n,qdl n],0,nof⟩
def qcD(n:Nat):LK Try.prog false:=mkL tab (qbg n) [] Try.f90 [true,false,true,false,false] 0 n [.v (.t 0) T41,.v (.t 7) T3,.v (.t 8) T3,.fnc (.t 1) 69 [.box true 80 1],.fnc (.c 0 0) 37 []] [(.exit 0,[.fnc (.t 1) 69 [.box true 80 1],.fnc (.c 0 0) 37 []]),(.ret,[.v (.t 4) T3,.fnc (.t 1) 69 [.box true 80 1],.fnc (.c 0 0) 37 []])] (by kernel_rfl)
def qcK(n:Nat):Cw Try.prog:=mkW tab (qbg n) [qcD n] Try.func90 [.v (.t 0) T41,.fnc (.t 1) 69 [.box true 80 1],.fnc (.c 0 0) 37 []] 2 [[.v (.t 0) T3,.obj (.t 1) true 80 1,.fnc (.c 0 0) 37 []]] (by kernel_rfl)
def qcq(n:Nat):CL Try.prog:=⟨[],[qeZ n,qdl n,qcK n],0,nof⟩
def qcw(n:Nat):Cw Try.prog:=mkW tab (qcq n) [] Try.func68 [.v (.t 0) T41,.fnc (.t 1) 69 [.box true 80 1],.fnc (.c 0 0) 37 []] 2 [[.v (.t 0) T4,.obj (.t 1) true 80 1,.fnc (.c 0 0) 37 []]] (by kernel_rfl)
def qfG(n:Nat):CL Try.prog:=⟨[],[qeZ n,qcw n],0,nof⟩
def qfU(n:Nat):Cw Try.prog:=mkW tab (qfG n) [] Try.func43 [.v (.t 0) T41,.fn (.t 1) 37 [] []] 2 [[.v (.t 0) T4]] (by kernel_rfl)
def qf9(n:Nat):CL Try.prog:=⟨[],[qe0 n],0,nof⟩
def qd1(n:Nat):Cw Try.prog:=mkW tab (qf9 n) [] Try.func71 [.v (.t 0) T3,.obj (.t 1) true 74 1,.fnc (.c 0 0) 38 []] 2 [[.v (.t 0) T4,.obj (.t 1) true 74 1,.fnc (.c 0 0) 38 []]] (by kernel_rfl)
def qbQ(n:Nat):CL Try.prog:=⟨[],[qe0 n,qd1 n],0,nof⟩
def qdt(n:Nat):LK Try.prog false:=mkL tab (qbQ n) [] Try.f91 [true,false,true,false,false] 0 n [.v (.t 0) T23,.v (.t 7) T3,.v (.t 8) T3,.fnc (.t 1) 71 [.box true 74 1],.fnc (.c 0 0) 38 []] [(.exit 0,[.fnc (.t 1) 71 [.box true 74 1],.fnc (.c 0 0) 38 []]),(.ret,[.v (.t 4) T3,.fnc (.t 1) 71 [.box true 74 1],.fnc (.c 0 0) 38 []])] (by kernel_rfl)
def qdz(n:Nat):Cw Try.prog:=mkW tab (qbQ n) [qdt n] Try.func91 [.v (.t 0) T23,.fnc (.t 1) 71 [.box true 74 1],.fnc (.c 0 0) 38 []] 2 [[.v (.t 0) T3,.obj (.t 1) true 74 1,.fnc (.c 0 0) 38 []]] (by kernel_rfl)
def qde(n:Nat):CL Try.prog:=⟨[],[qe0 n,qd1 n,qdz n],0,nof⟩
def qdi(n:Nat):Cw Try.prog:=mkW tab (qde n) [] Try.func70 [.v (.t 0) T23,.fnc (.t 1) 71 [.box true 74 1],.fnc (.c 0 0) 38 []] 2 [[.v (.t 0) T4,.obj (.t 1) true 74 1,.fnc (.c 0 0) 38 []]] (by kernel_rfl)
def qgz(n:Nat):CL Try.prog:=⟨[],[qe0 n,qdi n],0,nof⟩
def qgO(n:Nat):Cw Try.prog:=mkW tab (qgz n) [] Try.func44 [.v (.t 0) T23,.fn (.t 1) 38 [] []] 2 [[.v (.t 0) T4]] (by kernel_rfl)
def qfs(n:Nat):CL Try.prog:=⟨[],[qe1 n],0,nof⟩
def qcc(n:Nat):Cw Try.prog:=mkW tab (qfs n) [] Try.func65 [.v (.t 0) T60,.obj (.t 1) true 81 1,.fnc (.c 0 0) 39 [.box true 47 10],.v (.c 1 0) T47] 2 [[.v (.t 0) T4,.obj (.t 1) true 81 1,.fnc (.c 0 0) 39 [.box true 47 10],.v (.c 1 0) T47]] (by kernel_rfl)
def qbo(n:Nat):CL Try.prog:=⟨[],[qe1 n,qcc n],0,nof⟩
def qcT(n:Nat):LK Try.prog false:=mkL tab (qbo n) [] Try.f87 [true,false,true,false,false] 0 n [.v (.t 0) T45,.v (.t 7) T3,.v (.t 8) T3,.fnc (.t 1) 65 [.box true 81 1],.fnc (.c 0 0) 39 [.box true 47 10],.v (.c 1 0) T47] [(.exit 0,[.fnc (.t 1) 65 [.box true 81 1],.fnc (.c 0 0) 39 [.box true 47 10],.v (.c 1 0) T47]),(.ret,[.v (.t 4) T3,.fnc (.t 1) 65 [.box true 81 1],.fnc (.c 0 0) 39 [.box true 47 10],.v (.c 1 0) T47])] (by kernel_rfl)
def qcU(n:Nat):Cw Try.prog:=mkW tab (qbo n) [qcT n] Try.func87 [.v (.t 0) T45,.fnc (.t 1) 65 [.box true 81 1],.fnc (.c 0 0) 39 [.box true 47 10],.v (.c 1 0) T47] 2 [[.v (.t 0) T3,.obj (.t 1) true 81 1,.fnc (.c 0 0) 39 [.box true 47 10],.v (.c 1 0) T47]] (by kernel_rfl)
def qcA(n:Nat):CL Try.prog:=⟨[],[qe1 n,qcc n,qcU n],0,nof⟩
def qcE(n:Nat):Cw Try.prog:=mkW tab (qcA n) [] Try.func64 [.v (.t 0) T45,.fnc (.t 1) 65 [.box true 81 1],.fnc (.c 0 0) 39 [.box true 47 10],.v (.c 1 0) T47] 2 [[.v (.t 0) T4,.obj (.t 1) true 81 1,.fnc (.c 0 0) 39 [.box true 47 10],.v (.c 1 0) T47]] (by kernel_rfl)
def qfV(n:Nat):CL Try.prog:=⟨[],[qe1 n,qcE n],0,nof⟩
def qf3(n:Nat):Cw Try.prog:=mkW tab (qfV n) [] Try.func41 [.v (.t 0) T45,.fnc (.t 1) 39 [.box true 47 10],.v (.c 0 0) T47] 2 [[.v (.t 0) T4,.obj (.t 1) true 47 10,.v (.c 0 0) T47]] (by kernel_rfl)
def qfH(n:Nat):CL Try.prog:=⟨[qeJ n],[],0,nof⟩
def qdD(n:Nat):Cw Try.prog:=mkW tab (qfH n) [] Try.func65 [.v (.t 0) T60,.obj (.t 1) true 81 1,.fnc (.c 0 0) 42 []] 2 [[.v (.t 0) T4,.obj (.t 1) true 81 1,.fnc (.c 0 0) 42 []]] (by kernel_rfl)
def qbx(n:Nat):CL Try.prog:=⟨[qeJ n],[qdD n],0,nof⟩
def qcV(n:Nat):LK Try.prog false:=mkL tab (qbx n) [] Try.f87 [true,false,true,false,false] 0 n [.v (.t 0) T45,.v (.t 7) T3,.v (.t 8) T3,.fnc (.t 1) 65 [.box true 81 1],.fnc (.c 0 0) 42 []] [(.exit 0,[.fnc (.t 1) 65 [.box true 81 1],.fnc (.c 0 0) 42 []]),(.ret,[.v (.t 4) T3,.fnc (.t 1) 65 [.box true 81 1],.fnc (.c 0 0) 42 []])] (by kernel_rfl)
def qc0(n:Nat):Cw Try.prog:=mkW tab (qbx n) [qcV n] Try.func87 [.v (.t 0) T45,.fnc (.t 1) 65 [.box true 81 1],.fnc (.c 0 0) 42 []] 2 [[.v (.t 0) T3,.obj (.t 1) true 81 1,.fnc (.c 0 0) 42 []]] (by kernel_rfl)
def qcF(n:Nat):CL Try.prog:=⟨[qeJ n],[qcc n,qdD n,qc0 n],0,nof⟩
def qcL(n:Nat):Cw Try.prog:=mkW tab (qcF n) [] Try.func64 [.v (.t 0) T45,.fnc (.t 1) 65 [.box true 81 1],.fnc (.c 0 0) 42 []] 2 [[.v (.t 0) T4,.obj (.t 1) true 81 1,.fnc (.c 0 0) 42 []]] (by kernel_rfl)
def qf4(n:Nat):CL Try.prog:=⟨[qeJ n],[qcL n],0,nof⟩
def qga(n:Nat):Cw Try.prog:=mkW tab (qf4 n) [] Try.func41 [.v (.t 0) T45,.fn (.t 1) 42 [] []] 2 [[.v (.t 0) T4]] (by kernel_rfl)
def qng(n:Nat):CL Try.prog:=⟨[qbK n,qiV n],[qf3 n,qga n,qfU n,qgO n],0,nof⟩
def qnX(n:Nat):Ct Try.prog:=mkC tab (qng n) [] Try.func14 [.d T47] [T26] (by kernel_rfl)
end
end
end Go.Proofs.Ytbdockhccdkdiaa
