/- Texts DnT, DnR, DnU, DnV in one. -/
import Derived.Test.YtbdockhccdkdiaaGreatNd
import Derived.Test.YtbdockhccdkdiaaGreatTy
/- The table of the types. -/
set_option linter.constructorNameAsVariable false
set_option linter.unusedSimpArgs false
set_option linter.unusedVariables false
set_option linter.unusedSectionVars false
namespace Go.Proofs.YtbdockhccdkdiaaGreat
open Go Go.Proofs Go.RowKit
noncomputable section
abbrev T2:Ty:=.i .i64
abbrev T3:Ty:=.i .i64
abbrev T4:Ty:=.b
abbrev T6:Ty:=.i .u8
abbrev T7:Ty:=.pr T2 (.pr T3 (.pr T4 T6))
abbrev T8:Ty:=.pr T2 (.pr T3 (.pr T4 T6))
abbrev T25:Ty:=.pr T3 T3
abbrev T22:Ty:=.sl T25
abbrev T23:Ty:=.sl T3
abbrev T24:Ty:=.pr T3 T3
abbrev T27:Ty:=.pr T3 (.pr T3 (.pr T23 T25))
abbrev T28:Ty:=.i .i64
abbrev T44:Ty:=.i .u64
abbrev T81:Ty:=.pr T3 (.pr T3 T3)
abbrev T47:Ty:=.sl T81
abbrev T77:Ty:=.pr T3 T3
abbrev T48:Ty:=.sl T77
abbrev T50:Ty:=.pr T3 (.pr T3 (.pr T3 T48))
abbrev T79:Ty:=.pr T3 (.pr T25 T25)
abbrev T59:Ty:=.sl T79
abbrev T61:Ty:=.pr T3 (.pr T3 (.pr T3 T59))
abbrev T51:Ty:=.sl T61
abbrev T53:Ty:=.pr T3 (.pr T3 (.pr T3 (.pr T47 (.pr T23 (.pr T50 T51)))))
abbrev T83:Ty:=.pr T3 T25
abbrev T54:Ty:=.sl T83
abbrev T76:Ty:=.pr T3 T3
abbrev T78:Ty:=.pr T3 (.pr T25 T25)
abbrev T80:Ty:=.pr T3 (.pr T3 T3)
abbrev T82:Ty:=.pr T3 T25
abbrev T85:Ty:=.pr T50 .u
abbrev T92:Ty:=.pt (.pr (.pr (.i .i64) (.pr (.i .i64) (.pr (.i .i64) (.pr (.sl (.pr (.i .i64) (.pr (.i .i64) (.i .i64)))) (.pr (.sl (.i .i64)) (.pr (.pr (.i .i64) (.pr (.i .i64) (.pr (.i .i64) (.sl (.pr (.i .i64) (.i .i64)))))) (.sl (.pr (.i .i64) (.pr (.i .i64) (.pr (.i .i64) (.sl (.pr (.i .i64) (.pr (.pr (.i .i64) (.i .i64)) (.pr (.i .i64) (.i .i64))))))))))))))) (.sl (.i .i64)))
abbrev T136:Ty:=.i .u64
def qxP:List (Sigma (TyE Tryz.prog)):=[⟨1,⟨_,_,_,inferInstance⟩⟩,
 ⟨2,⟨_,_,_,inferInstance⟩⟩,
 ⟨3,⟨_,_,_,inferInstance⟩⟩,
 ⟨4,⟨_,_,_,inferInstance⟩⟩,
 ⟨5,⟨_,_,_,inferInstance⟩⟩,
 ⟨6,⟨_,_,_,inferInstance⟩⟩,
 ⟨7,⟨_,_,_,inferInstance⟩⟩,
 ⟨8,⟨_,_,_,inferInstance⟩⟩,
 ⟨12,⟨_,_,_,inferInstance⟩⟩,
 ⟨15,⟨_,_,_,inferInstance⟩⟩,
 ⟨16,⟨_,_,_,inferInstance⟩⟩,
 ⟨17,⟨_,_,_,inferInstance⟩⟩,
 ⟨18,⟨_,_,_,inferInstance⟩⟩,
 ⟨19,⟨_,_,_,inferInstance⟩⟩,
 ⟨20,⟨_,_,_,inferInstance⟩⟩,
 ⟨21,⟨_,_,_,inferInstance⟩⟩,
 ⟨22,⟨_,_,_,inferInstance⟩⟩,
 ⟨23,⟨_,_,_,inferInstance⟩⟩,
 ⟨24,⟨_,_,_,inferInstance⟩⟩,
 ⟨25,⟨_,_,_,inferInstance⟩⟩,
 ⟨26,⟨_,_,_,inferInstance⟩⟩,
 ⟨27,⟨_,_,_,inferInstance⟩⟩,
 ⟨28,⟨_,_,_,inferInstance⟩⟩,
 ⟨29,⟨_,_,_,inferInstance⟩⟩,
 ⟨30,⟨_,_,_,inferInstance⟩⟩,
 ⟨32,⟨_,_,_,inferInstance⟩⟩,
 ⟨33,⟨_,_,_,inferInstance⟩⟩,
 ⟨34,⟨_,_,_,inferInstance⟩⟩,
 ⟨35,⟨_,_,_,inferInstance⟩⟩,
 ⟨37,⟨_,_,_,inferInstance⟩⟩,
 ⟨39,⟨_,_,_,inferInstance⟩⟩,
 ⟨40,⟨_,_,_,inferInstance⟩⟩,
 ⟨41,⟨_,_,_,inferInstance⟩⟩,
 ⟨42,⟨_,_,_,inferInstance⟩⟩,
 ⟨43,⟨_,_,_,inferInstance⟩⟩,
 ⟨44,⟨_,_,_,inferInstance⟩⟩,
 ⟨45,⟨_,_,_,inferInstance⟩⟩,
 ⟨46,⟨_,_,_,inferInstance⟩⟩,
 ⟨47,⟨_,_,_,inferInstance⟩⟩,
 ⟨48,⟨_,_,_,inferInstance⟩⟩,
 ⟨49,⟨_,_,_,inferInstance⟩⟩,
 ⟨50,⟨_,_,_,inferInstance⟩⟩,
 ⟨51,⟨_,_,_,inferInstance⟩⟩,
 ⟨52,⟨_,_,_,inferInstance⟩⟩,
 ⟨53,⟨_,_,_,inferInstance⟩⟩,
 ⟨54,⟨_,_,_,inferInstance⟩⟩,
 ⟨56,⟨_,_,_,inferInstance⟩⟩,
 ⟨58,⟨_,_,_,inferInstance⟩⟩,
 ⟨59,⟨_,_,_,inferInstance⟩⟩,
 ⟨60,⟨_,_,_,inferInstance⟩⟩,
 ⟨61,⟨_,_,_,inferInstance⟩⟩,
 ⟨62,⟨_,_,_,inferInstance⟩⟩,
 ⟨63,⟨_,_,_,inferInstance⟩⟩,
 ⟨64,⟨_,_,_,inferInstance⟩⟩,
 ⟨65,⟨_,_,_,inferInstance⟩⟩,
 ⟨66,⟨_,_,_,inferInstance⟩⟩,
 ⟨67,⟨_,_,_,inferInstance⟩⟩,
 ⟨68,⟨_,_,_,inferInstance⟩⟩,
 ⟨69,⟨_,_,_,inferInstance⟩⟩,
 ⟨70,⟨_,_,_,inferInstance⟩⟩,
 ⟨71,⟨_,_,_,inferInstance⟩⟩,
 ⟨73,⟨_,_,_,inferInstance⟩⟩,
 ⟨74,⟨_,_,_,inferInstance⟩⟩,
 ⟨75,⟨_,_,_,inferInstance⟩⟩,
 ⟨76,⟨_,_,_,inferInstance⟩⟩,
 ⟨77,⟨_,_,_,inferInstance⟩⟩,
 ⟨78,⟨_,_,_,inferInstance⟩⟩,
 ⟨79,⟨_,_,_,inferInstance⟩⟩,
 ⟨80,⟨_,_,_,inferInstance⟩⟩,
 ⟨81,⟨_,_,_,inferInstance⟩⟩,
 ⟨82,⟨_,_,_,inferInstance⟩⟩,
 ⟨83,⟨_,_,_,inferInstance⟩⟩,
 ⟨84,⟨_,_,_,inferInstance⟩⟩,
 ⟨85,⟨_,_,_,inferInstance⟩⟩,
 ⟨87,⟨_,_,_,inferInstance⟩⟩,
 ⟨88,⟨_,_,_,inferInstance⟩⟩,
 ⟨89,⟨_,_,_,inferInstance⟩⟩,
 ⟨90,⟨_,_,_,inferInstance⟩⟩,
 ⟨91,⟨_,_,_,inferInstance⟩⟩,
 ⟨92,⟨_,_,_,inferInstance⟩⟩,
 ⟨94,⟨_,_,_,inferInstance⟩⟩,
 ⟨95,⟨_,_,_,inferInstance⟩⟩,
 ⟨96,⟨_,_,_,inferInstance⟩⟩,
 ⟨97,⟨_,_,_,inferInstance⟩⟩,
 ⟨98,⟨_,_,_,inferInstance⟩⟩,
 ⟨99,⟨_,_,_,inferInstance⟩⟩,
 ⟨100,⟨_,_,_,inferInstance⟩⟩,
 ⟨101,⟨_,_,_,inferInstance⟩⟩,
 ⟨102,⟨_,_,_,inferInstance⟩⟩,
 ⟨103,⟨_,_,_,inferInstance⟩⟩,
 ⟨104,⟨_,_,_,inferInstance⟩⟩,
 ⟨105,⟨_,_,_,inferInstance⟩⟩,
 ⟨106,⟨_,_,_,inferInstance⟩⟩,
 ⟨107,⟨_,_,_,inferInstance⟩⟩,
 ⟨108,⟨_,_,_,inferInstance⟩⟩,
 ⟨109,⟨_,_,_,inferInstance⟩⟩,
 ⟨110,⟨_,_,_,inferInstance⟩⟩,
 ⟨111,⟨_,_,_,inferInstance⟩⟩,
 ⟨112,⟨_,_,_,inferInstance⟩⟩,
 ⟨113,⟨_,_,_,inferInstance⟩⟩,
 ⟨114,⟨_,_,_,inferInstance⟩⟩,
 ⟨115,⟨_,_,_,inferInstance⟩⟩,
 ⟨116,⟨_,_,_,inferInstance⟩⟩,
 ⟨117,⟨_,_,_,inferInstance⟩⟩,
 ⟨118,⟨_,_,_,inferInstance⟩⟩,
 ⟨119,⟨_,_,_,inferInstance⟩⟩,
 ⟨120,⟨_,_,_,inferInstance⟩⟩,
 ⟨121,⟨_,_,_,inferInstance⟩⟩,
 ⟨122,⟨_,_,_,inferInstance⟩⟩,
 ⟨123,⟨_,_,_,inferInstance⟩⟩,
 ⟨124,⟨_,_,_,inferInstance⟩⟩,
 ⟨125,⟨_,_,_,inferInstance⟩⟩,
 ⟨127,⟨_,_,_,inferInstance⟩⟩,
 ⟨128,⟨_,_,_,inferInstance⟩⟩,
 ⟨129,⟨_,_,_,inferInstance⟩⟩,
 ⟨130,⟨_,_,_,inferInstance⟩⟩,
 ⟨132,⟨_,_,_,inferInstance⟩⟩,
 ⟨133,⟨_,_,_,inferInstance⟩⟩,
 ⟨134,⟨_,_,_,inferInstance⟩⟩,
 ⟨135,⟨_,_,_,inferInstance⟩⟩,
 ⟨136,⟨_,_,_,inferInstance⟩⟩,
 ⟨137,⟨_,_,_,inferInstance⟩⟩,
 ⟨138,⟨_,_,_,inferInstance⟩⟩,
 ⟨139,⟨_,_,_,inferInstance⟩⟩,
 ⟨140,⟨_,_,_,inferInstance⟩⟩,
 ⟨141,⟨_,_,_,inferInstance⟩⟩,
 ⟨143,⟨_,_,_,inferInstance⟩⟩,
 ⟨144,⟨_,_,_,inferInstance⟩⟩,
 ⟨145,⟨_,_,_,inferInstance⟩⟩,
 ⟨146,⟨_,_,_,inferInstance⟩⟩,
 ⟨147,⟨_,_,_,inferInstance⟩⟩,
 ⟨148,⟨_,_,_,inferInstance⟩⟩,
 ⟨149,⟨_,_,_,inferInstance⟩⟩,
 ⟨150,⟨_,_,_,inferInstance⟩⟩,
 ⟨151,⟨_,_,_,inferInstance⟩⟩,
 ⟨152,⟨_,_,_,inferInstance⟩⟩,
 ⟨154,⟨_,_,_,inferInstance⟩⟩,
 ⟨156,⟨_,_,_,inferInstance⟩⟩,
 ⟨157,⟨_,_,_,inferInstance⟩⟩,
 ⟨159,⟨_,_,_,inferInstance⟩⟩,
 ⟨160,⟨_,_,_,inferInstance⟩⟩,
 ⟨161,⟨_,_,_,inferInstance⟩⟩,
 ⟨164,⟨_,_,_,inferInstance⟩⟩,
 ⟨165,⟨_,_,_,inferInstance⟩⟩,
 ⟨166,⟨_,_,_,inferInstance⟩⟩,
 ⟨167,⟨_,_,_,inferInstance⟩⟩,
 ⟨168,⟨_,_,_,inferInstance⟩⟩,
 ⟨169,⟨_,_,_,inferInstance⟩⟩,
 ⟨170,⟨_,_,_,inferInstance⟩⟩,
 ⟨171,⟨_,_,_,inferInstance⟩⟩,
 ⟨172,⟨_,_,_,inferInstance⟩⟩,
 ⟨173,⟨_,_,_,inferInstance⟩⟩,
 ⟨174,⟨_,_,_,inferInstance⟩⟩,
 ⟨175,⟨_,_,_,inferInstance⟩⟩,
 ⟨176,⟨_,_,_,inferInstance⟩⟩]
def qxQ:List (Sigma fun t=>Sigma fun f=>FdE Tryz.prog t f):=[⟨7,0,⟨_,_,_,inferInstance⟩⟩,
 ⟨7,1,⟨_,_,_,inferInstance⟩⟩,
 ⟨7,2,⟨_,_,_,inferInstance⟩⟩,
 ⟨7,3,⟨_,_,_,inferInstance⟩⟩,
 ⟨8,0,⟨_,_,_,inferInstance⟩⟩,
 ⟨8,1,⟨_,_,_,inferInstance⟩⟩,
 ⟨8,2,⟨_,_,_,inferInstance⟩⟩,
 ⟨8,3,⟨_,_,_,inferInstance⟩⟩,
 ⟨13,0,⟨_,_,_,inferInstance⟩⟩,
 ⟨13,1,⟨_,_,_,inferInstance⟩⟩,
 ⟨14,0,⟨_,_,_,inferInstance⟩⟩,
 ⟨14,1,⟨_,_,_,inferInstance⟩⟩,
 ⟨18,0,⟨_,_,_,inferInstance⟩⟩,
 ⟨19,0,⟨_,_,_,inferInstance⟩⟩,
 ⟨24,0,⟨_,_,_,inferInstance⟩⟩,
 ⟨24,1,⟨_,_,_,inferInstance⟩⟩,
 ⟨25,0,⟨_,_,_,inferInstance⟩⟩,
 ⟨25,1,⟨_,_,_,inferInstance⟩⟩,
 ⟨26,0,⟨_,_,_,inferInstance⟩⟩,
 ⟨26,1,⟨_,_,_,inferInstance⟩⟩,
 ⟨26,2,⟨_,_,_,inferInstance⟩⟩,
 ⟨26,3,⟨_,_,_,inferInstance⟩⟩,
 ⟨27,0,⟨_,_,_,inferInstance⟩⟩,
 ⟨27,1,⟨_,_,_,inferInstance⟩⟩,
 ⟨27,2,⟨_,_,_,inferInstance⟩⟩,
 ⟨27,3,⟨_,_,_,inferInstance⟩⟩,
 ⟨49,0,⟨_,_,_,inferInstance⟩⟩,
 ⟨49,1,⟨_,_,_,inferInstance⟩⟩,
 ⟨49,2,⟨_,_,_,inferInstance⟩⟩,
 ⟨49,3,⟨_,_,_,inferInstance⟩⟩,
 ⟨50,0,⟨_,_,_,inferInstance⟩⟩,
 ⟨50,1,⟨_,_,_,inferInstance⟩⟩,
 ⟨50,2,⟨_,_,_,inferInstance⟩⟩,
 ⟨50,3,⟨_,_,_,inferInstance⟩⟩,
 ⟨52,0,⟨_,_,_,inferInstance⟩⟩,
 ⟨52,1,⟨_,_,_,inferInstance⟩⟩,
 ⟨52,2,⟨_,_,_,inferInstance⟩⟩,
 ⟨52,3,⟨_,_,_,inferInstance⟩⟩,
 ⟨52,4,⟨_,_,_,inferInstance⟩⟩,
 ⟨52,5,⟨_,_,_,inferInstance⟩⟩,
 ⟨52,6,⟨_,_,_,inferInstance⟩⟩,
 ⟨53,0,⟨_,_,_,inferInstance⟩⟩,
 ⟨53,1,⟨_,_,_,inferInstance⟩⟩,
 ⟨53,2,⟨_,_,_,inferInstance⟩⟩,
 ⟨53,3,⟨_,_,_,inferInstance⟩⟩,
 ⟨53,4,⟨_,_,_,inferInstance⟩⟩,
 ⟨53,5,⟨_,_,_,inferInstance⟩⟩,
 ⟨53,6,⟨_,_,_,inferInstance⟩⟩,
 ⟨60,0,⟨_,_,_,inferInstance⟩⟩,
 ⟨60,1,⟨_,_,_,inferInstance⟩⟩,
 ⟨60,2,⟨_,_,_,inferInstance⟩⟩,
 ⟨60,3,⟨_,_,_,inferInstance⟩⟩,
 ⟨61,0,⟨_,_,_,inferInstance⟩⟩,
 ⟨61,1,⟨_,_,_,inferInstance⟩⟩,
 ⟨61,2,⟨_,_,_,inferInstance⟩⟩,
 ⟨61,3,⟨_,_,_,inferInstance⟩⟩,
 ⟨76,0,⟨_,_,_,inferInstance⟩⟩,
 ⟨76,1,⟨_,_,_,inferInstance⟩⟩,
 ⟨77,0,⟨_,_,_,inferInstance⟩⟩,
 ⟨77,1,⟨_,_,_,inferInstance⟩⟩,
 ⟨78,0,⟨_,_,_,inferInstance⟩⟩,
 ⟨78,1,⟨_,_,_,inferInstance⟩⟩,
 ⟨78,2,⟨_,_,_,inferInstance⟩⟩,
 ⟨79,0,⟨_,_,_,inferInstance⟩⟩,
 ⟨79,1,⟨_,_,_,inferInstance⟩⟩,
 ⟨79,2,⟨_,_,_,inferInstance⟩⟩,
 ⟨80,0,⟨_,_,_,inferInstance⟩⟩,
 ⟨80,1,⟨_,_,_,inferInstance⟩⟩,
 ⟨80,2,⟨_,_,_,inferInstance⟩⟩,
 ⟨81,0,⟨_,_,_,inferInstance⟩⟩,
 ⟨81,1,⟨_,_,_,inferInstance⟩⟩,
 ⟨81,2,⟨_,_,_,inferInstance⟩⟩,
 ⟨82,0,⟨_,_,_,inferInstance⟩⟩,
 ⟨82,1,⟨_,_,_,inferInstance⟩⟩,
 ⟨83,0,⟨_,_,_,inferInstance⟩⟩,
 ⟨83,1,⟨_,_,_,inferInstance⟩⟩,
 ⟨84,0,⟨_,_,_,inferInstance⟩⟩,
 ⟨85,0,⟨_,_,_,inferInstance⟩⟩,
 ⟨108,0,⟨_,_,_,inferInstance⟩⟩,
 ⟨108,1,⟨_,_,_,inferInstance⟩⟩,
 ⟨109,0,⟨_,_,_,inferInstance⟩⟩,
 ⟨109,1,⟨_,_,_,inferInstance⟩⟩,
 ⟨162,0,⟨_,_,_,inferInstance⟩⟩,
 ⟨162,1,⟨_,_,_,inferInstance⟩⟩,
 ⟨162,2,⟨_,_,_,inferInstance⟩⟩,
 ⟨162,3,⟨_,_,_,inferInstance⟩⟩,
 ⟨163,0,⟨_,_,_,inferInstance⟩⟩,
 ⟨163,1,⟨_,_,_,inferInstance⟩⟩,
 ⟨163,2,⟨_,_,_,inferInstance⟩⟩,
 ⟨163,3,⟨_,_,_,inferInstance⟩⟩,
 ⟨174,0,⟨_,_,_,inferInstance⟩⟩,
 ⟨174,1,⟨_,_,_,inferInstance⟩⟩,
 ⟨174,2,⟨_,_,_,inferInstance⟩⟩,
 ⟨174,3,⟨_,_,_,inferInstance⟩⟩,
 ⟨174,4,⟨_,_,_,inferInstance⟩⟩,
 ⟨174,5,⟨_,_,_,inferInstance⟩⟩,
 ⟨174,6,⟨_,_,_,inferInstance⟩⟩,
 ⟨174,7,⟨_,_,_,inferInstance⟩⟩,
 ⟨174,8,⟨_,_,_,inferInstance⟩⟩,
 ⟨174,9,⟨_,_,_,inferInstance⟩⟩,
 ⟨174,10,⟨_,_,_,inferInstance⟩⟩,
 ⟨175,0,⟨_,_,_,inferInstance⟩⟩,
 ⟨175,1,⟨_,_,_,inferInstance⟩⟩,
 ⟨175,2,⟨_,_,_,inferInstance⟩⟩,
 ⟨175,3,⟨_,_,_,inferInstance⟩⟩,
 ⟨175,4,⟨_,_,_,inferInstance⟩⟩,
 ⟨175,5,⟨_,_,_,inferInstance⟩⟩,
 ⟨175,6,⟨_,_,_,inferInstance⟩⟩,
 ⟨175,7,⟨_,_,_,inferInstance⟩⟩,
 ⟨175,8,⟨_,_,_,inferInstance⟩⟩,
 ⟨175,9,⟨_,_,_,inferInstance⟩⟩,
 ⟨175,10,⟨_,_,_,inferInstance⟩⟩]
def qxR:List (Sigma (SlE Tryz.prog)):=[⟨22,SlE.mk' T25 inferInstance (by decide) (by decide) (by decide) rfl 8796093022208 rfl⟩,
 ⟨23,SlE.mk' T3 inferInstance (by decide) (by decide) (by decide) rfl 17592186044416 rfl⟩,
 ⟨47,SlE.mk' T81 inferInstance (by decide) (by decide) (by decide) rfl 5864062014805 rfl⟩,
 ⟨48,SlE.mk' T77 inferInstance (by decide) (by decide) (by decide) rfl 8796093022208 rfl⟩,
 ⟨51,SlE.mk' T61 inferInstance (by decide) (by decide) (by decide) rfl 2932031007402 rfl⟩,
 ⟨54,SlE.mk' T83 inferInstance (by decide) (by decide) (by decide) rfl 5864062014805 rfl⟩,
 ⟨59,SlE.mk' T79 inferInstance (by decide) (by decide) (by decide) rfl 3518437208883 rfl⟩]
def qxS:List (Sigma fun t=>{k:IntKind // IntTy Tryz.prog t k}):=[⟨2,.i64,inferInstance⟩,⟨3,.i64,inferInstance⟩,⟨5,.u8,inferInstance⟩,⟨6,.u8,inferInstance⟩,⟨12,.u64,inferInstance⟩,⟨21,.i32,inferInstance⟩,⟨28,.i64,inferInstance⟩,⟨44,.u64,inferInstance⟩,⟨125,.i64,inferInstance⟩,⟨134,.u32,inferInstance⟩,⟨136,.u64,inferInstance⟩,⟨144,.u64,inferInstance⟩,⟨168,.u8,inferInstance⟩,⟨169,.u8,inferInstance⟩,⟨172,.i32,inferInstance⟩,⟨173,.i32,inferInstance⟩]
def qxT:List (Sigma fun t=>PLift (BoolTy Tryz.prog t)):=[⟨4,⟨inferInstance⟩⟩]
def qxU:List (Sigma fun t=>PLift (StructTy Tryz.prog t)):=[⟨7,⟨inferInstance⟩⟩,⟨8,⟨inferInstance⟩⟩,⟨13,⟨inferInstance⟩⟩,⟨14,⟨inferInstance⟩⟩,⟨18,⟨inferInstance⟩⟩,⟨19,⟨inferInstance⟩⟩,⟨24,⟨inferInstance⟩⟩,⟨25,⟨inferInstance⟩⟩,⟨26,⟨inferInstance⟩⟩,⟨27,⟨inferInstance⟩⟩,⟨49,⟨inferInstance⟩⟩,⟨50,⟨inferInstance⟩⟩,⟨52,⟨inferInstance⟩⟩,⟨53,⟨inferInstance⟩⟩,⟨60,⟨inferInstance⟩⟩,⟨61,⟨inferInstance⟩⟩,⟨76,⟨inferInstance⟩⟩,⟨77,⟨inferInstance⟩⟩,⟨78,⟨inferInstance⟩⟩,⟨79,⟨inferInstance⟩⟩,⟨80,⟨inferInstance⟩⟩,⟨81,⟨inferInstance⟩⟩,⟨82,⟨inferInstance⟩⟩,⟨83,⟨inferInstance⟩⟩,⟨84,⟨inferInstance⟩⟩,⟨85,⟨inferInstance⟩⟩,⟨108,⟨inferInstance⟩⟩,⟨109,⟨inferInstance⟩⟩,⟨162,⟨inferInstance⟩⟩,⟨163,⟨inferInstance⟩⟩,⟨165,⟨inferInstance⟩⟩,⟨166,⟨inferInstance⟩⟩,⟨174,⟨inferInstance⟩⟩,⟨175,⟨inferInstance⟩⟩]
def qxV:List (Sigma (EqE Tryz.prog)):=[⟨7,EqE.mk' T7 rfl (by kernel_rfl) (by kernel_rfl)⟩,
 ⟨8,EqE.mk' T8 rfl (by kernel_rfl) (by kernel_rfl)⟩,
 ⟨24,EqE.mk' T24 rfl (by kernel_rfl) (by kernel_rfl)⟩,
 ⟨25,EqE.mk' T25 rfl (by kernel_rfl) (by kernel_rfl)⟩,
 ⟨76,EqE.mk' T76 rfl (by kernel_rfl) (by kernel_rfl)⟩,
 ⟨77,EqE.mk' T77 rfl (by kernel_rfl) (by kernel_rfl)⟩,
 ⟨78,EqE.mk' T78 rfl (by kernel_rfl) (by kernel_rfl)⟩,
 ⟨79,EqE.mk' T79 rfl (by kernel_rfl) (by kernel_rfl)⟩,
 ⟨80,EqE.mk' T80 rfl (by kernel_rfl) (by kernel_rfl)⟩,
 ⟨81,EqE.mk' T81 rfl (by kernel_rfl) (by kernel_rfl)⟩,
 ⟨82,EqE.mk' T82 rfl (by kernel_rfl) (by kernel_rfl)⟩,
 ⟨83,EqE.mk' T83 rfl (by kernel_rfl) (by kernel_rfl)⟩]
def qxW:List (Sigma fun t=>PLift (FuncTy Tryz.prog t)):=[⟨1,⟨FuncTy.mk' (by kernel_rfl)⟩⟩,⟨29,⟨FuncTy.mk' (by kernel_rfl)⟩⟩,⟨30,⟨FuncTy.mk' (by kernel_rfl)⟩⟩,⟨32,⟨FuncTy.mk' (by kernel_rfl)⟩⟩,⟨33,⟨FuncTy.mk' (by kernel_rfl)⟩⟩,⟨34,⟨FuncTy.mk' (by kernel_rfl)⟩⟩,⟨35,⟨FuncTy.mk' (by kernel_rfl)⟩⟩,⟨37,⟨FuncTy.mk' (by kernel_rfl)⟩⟩,⟨39,⟨FuncTy.mk' (by kernel_rfl)⟩⟩,⟨40,⟨FuncTy.mk' (by kernel_rfl)⟩⟩,⟨41,⟨FuncTy.mk' (by kernel_rfl)⟩⟩,⟨42,⟨FuncTy.mk' (by kernel_rfl)⟩⟩,⟨43,⟨FuncTy.mk' (by kernel_rfl)⟩⟩,⟨45,⟨FuncTy.mk' (by kernel_rfl)⟩⟩,⟨46,⟨FuncTy.mk' (by kernel_rfl)⟩⟩,⟨56,⟨FuncTy.mk' (by kernel_rfl)⟩⟩,⟨58,⟨FuncTy.mk' (by kernel_rfl)⟩⟩,⟨62,⟨FuncTy.mk' (by kernel_rfl)⟩⟩,⟨63,⟨FuncTy.mk' (by kernel_rfl)⟩⟩,⟨64,⟨FuncTy.mk' (by kernel_rfl)⟩⟩,⟨65,⟨FuncTy.mk' (by kernel_rfl)⟩⟩,⟨66,⟨FuncTy.mk' (by kernel_rfl)⟩⟩,⟨67,⟨FuncTy.mk' (by kernel_rfl)⟩⟩,⟨68,⟨FuncTy.mk' (by kernel_rfl)⟩⟩,⟨69,⟨FuncTy.mk' (by kernel_rfl)⟩⟩,⟨70,⟨FuncTy.mk' (by kernel_rfl)⟩⟩,⟨71,⟨FuncTy.mk' (by kernel_rfl)⟩⟩,⟨73,⟨FuncTy.mk' (by kernel_rfl)⟩⟩,⟨74,⟨FuncTy.mk' (by kernel_rfl)⟩⟩,⟨75,⟨FuncTy.mk' (by kernel_rfl)⟩⟩,⟨87,⟨FuncTy.mk' (by kernel_rfl)⟩⟩,⟨88,⟨FuncTy.mk' (by kernel_rfl)⟩⟩,⟨89,⟨FuncTy.mk' (by kernel_rfl)⟩⟩,⟨90,⟨FuncTy.mk' (by kernel_rfl)⟩⟩,⟨91,⟨FuncTy.mk' (by kernel_rfl)⟩⟩,⟨94,⟨FuncTy.mk' (by kernel_rfl)⟩⟩,⟨95,⟨FuncTy.mk' (by kernel_rfl)⟩⟩,⟨96,⟨FuncTy.mk' (by kernel_rfl)⟩⟩,⟨97,⟨FuncTy.mk' (by kernel_rfl)⟩⟩,⟨98,⟨FuncTy.mk' (by kernel_rfl)⟩⟩,⟨99,⟨FuncTy.mk' (by kernel_rfl)⟩⟩,⟨100,⟨FuncTy.mk' (by kernel_rfl)⟩⟩,⟨101,⟨FuncTy.mk' (by kernel_rfl)⟩⟩,⟨102,⟨FuncTy.mk' (by kernel_rfl)⟩⟩,⟨103,⟨FuncTy.mk' (by kernel_rfl)⟩⟩,⟨104,⟨FuncTy.mk' (by kernel_rfl)⟩⟩,⟨105,⟨FuncTy.mk' (by kernel_rfl)⟩⟩,⟨106,⟨FuncTy.mk' (by kernel_rfl)⟩⟩,⟨107,⟨FuncTy.mk' (by kernel_rfl)⟩⟩,⟨110,⟨FuncTy.mk' (by kernel_rfl)⟩⟩,⟨111,⟨FuncTy.mk' (by kernel_rfl)⟩⟩,⟨112,⟨FuncTy.mk' (by kernel_rfl)⟩⟩,⟨113,⟨FuncTy.mk' (by kernel_rfl)⟩⟩,⟨114,⟨FuncTy.mk' (by kernel_rfl)⟩⟩,⟨115,⟨FuncTy.mk' (by kernel_rfl)⟩⟩,⟨116,⟨FuncTy.mk' (by kernel_rfl)⟩⟩,⟨117,⟨FuncTy.mk' (by kernel_rfl)⟩⟩,⟨118,⟨FuncTy.mk' (by kernel_rfl)⟩⟩,⟨119,⟨FuncTy.mk' (by kernel_rfl)⟩⟩,⟨120,⟨FuncTy.mk' (by kernel_rfl)⟩⟩,⟨121,⟨FuncTy.mk' (by kernel_rfl)⟩⟩,⟨122,⟨FuncTy.mk' (by kernel_rfl)⟩⟩,⟨123,⟨FuncTy.mk' (by kernel_rfl)⟩⟩,⟨124,⟨FuncTy.mk' (by kernel_rfl)⟩⟩,⟨127,⟨FuncTy.mk' (by kernel_rfl)⟩⟩,⟨128,⟨FuncTy.mk' (by kernel_rfl)⟩⟩,⟨129,⟨FuncTy.mk' (by kernel_rfl)⟩⟩,⟨130,⟨FuncTy.mk' (by kernel_rfl)⟩⟩,⟨132,⟨FuncTy.mk' (by kernel_rfl)⟩⟩,⟨133,⟨FuncTy.mk' (by kernel_rfl)⟩⟩,⟨135,⟨FuncTy.mk' (by kernel_rfl)⟩⟩,⟨137,⟨FuncTy.mk' (by kernel_rfl)⟩⟩,⟨138,⟨FuncTy.mk' (by kernel_rfl)⟩⟩,⟨139,⟨FuncTy.mk' (by kernel_rfl)⟩⟩,⟨140,⟨FuncTy.mk' (by kernel_rfl)⟩⟩,⟨141,⟨FuncTy.mk' (by kernel_rfl)⟩⟩,⟨143,⟨FuncTy.mk' (by kernel_rfl)⟩⟩,⟨145,⟨FuncTy.mk' (by kernel_rfl)⟩⟩,⟨146,⟨FuncTy.mk' (by kernel_rfl)⟩⟩,⟨147,⟨FuncTy.mk' (by kernel_rfl)⟩⟩,⟨149,⟨FuncTy.mk' (by kernel_rfl)⟩⟩,⟨150,⟨FuncTy.mk' (by kernel_rfl)⟩⟩,⟨151,⟨FuncTy.mk' (by kernel_rfl)⟩⟩,⟨152,⟨FuncTy.mk' (by kernel_rfl)⟩⟩,⟨154,⟨FuncTy.mk' (by kernel_rfl)⟩⟩,⟨156,⟨FuncTy.mk' (by kernel_rfl)⟩⟩,⟨159,⟨FuncTy.mk' (by kernel_rfl)⟩⟩,⟨160,⟨FuncTy.mk' (by kernel_rfl)⟩⟩,⟨161,⟨FuncTy.mk' (by kernel_rfl)⟩⟩,⟨167,⟨FuncTy.mk' (by kernel_rfl)⟩⟩,⟨170,⟨FuncTy.mk' (by kernel_rfl)⟩⟩]
def qxX:List (Sigma (MpE Tryz.prog)):=[]
def qxm:List (Sigma fun t=>PLift (Tryz.prog.underlying t=some .string)):=[⟨9,⟨by kernel_rfl⟩⟩,⟨10,⟨by kernel_rfl⟩⟩,⟨11,⟨by kernel_rfl⟩⟩]
def tab:Tab Tryz.prog:=⟨fun t=>qjp t qxP,fun t f=>qtw t f qxQ,fun t=>qjp t qxR,fun t=>qjp t qxS,fun t=>qjp t qxT,fun t=>qjp t qxU,fun t=>qjp t qxV,fun t=>qjp t qxW,fun t=>qjp t qxX,fun t=>qjp t qxm,mixed⟩
set_option maxRecDepth 20000
section
def qps(n:Nat):CL Tryz.prog:=⟨[],[],0,nof⟩
def qbo(n:Nat):Ct Tryz.prog:=mkC tab (qps n) [] Tryz.func26 [.d T3,.d T3,.d T3] [T4] (by kernel_rfl)
def qoJ(n:Nat):CL Tryz.prog:=⟨[],[],0,nof⟩
def qgK(n:Nat):Ct Tryz.prog:=mkC tab (qoJ n) [] Tryz.func50 [.d T25,.d T3,.d T3] [T4] (by kernel_rfl)
def qlg(n:Nat):CL Tryz.prog:=⟨[],[],0,nof⟩
def qh2(n:Nat):Ct Tryz.prog:=mkC tab (qlg n) [] Tryz.func19 [.d T3,.d T3,.d T3] [T4] (by kernel_rfl)
def qlh(n:Nat):CL Tryz.prog:=⟨[],[],0,nof⟩
def qh3(n:Nat):Ct Tryz.prog:=mkC tab (qlh n) [] Tryz.func31 [.d T25,.d T3,.d T3] [T4] (by kernel_rfl)
def qmu(n:Nat):CL Tryz.prog:=⟨[],[],0,nof⟩
def qgE(n:Nat):Ct Tryz.prog:=mkC tab (qmu n) [] Tryz.func24 [.d T3,.d T3] [T25] (by kernel_rfl)
def qkJ(n:Nat):CL Tryz.prog:=⟨[qgE n],[],0,nof⟩
def qhy(n:Nat):Ct Tryz.prog:=mkC tab (qkJ n) [] Tryz.func20 [] [T53,T54] (by kernel_rfl)
def qg0(n:Nat):CL Tryz.prog:=⟨[],[],0,nof⟩
def qkv(n:Nat):LK Tryz.prog false:=mkL tab (qg0 n) [] Tryz.f16 [true,true,false,true,false,false] 0 n [.v (.t 0) T23,.v (.t 1) T23,.v (.t 5) T3] [(.exit 0,[]),(.ret,[.v (.t 4) T4])] (by kernel_rfl)
def qhn(n:Nat):Ct Tryz.prog:=mkC tab (qg0 n) [qkv n] Tryz.func16 [.d T23,.d T23] [T4] (by kernel_rfl)
def qiq(n:Nat):CL Tryz.prog:=⟨[],[],0,nof⟩
def qir(n:Nat):LK Tryz.prog false:=mkL tab (qiq n) [] Tryz.f17 [true,true,false,true,false,false] 0 n [.v (.t 0) T3,.v (.t 1) T3,.v (.t 5) T3,.v (.t 6) T3] [(.exit 0,[.v (.t 5) T3])] (by kernel_rfl)
def qiM(n:Nat):Ct Tryz.prog:=mkC tab (qiq n) [qir n] Tryz.func17 [.d T3,.d T3] [T3] (by kernel_rfl)
def qi4(n:Nat):CL Tryz.prog:=⟨[],[],0,nof⟩
def qp1(n:Nat):LK Tryz.prog false:=mkL tab (qi4 n) [] Tryz.f44 [true,false,true,false,false,true,true,false,false,true,true,false,false] 1 n [.v (.t 0) T54,.v (.t 1) T3,.v (.t 2) T3,.v (.t 12) T54,.v (.t 13) T3,.v (.t 14) T3,.v (.t 21) T54,.v (.t 22) T3,.v (.t 23) T3,.obj (.t 8) false 83 3,.v (.c 0 0) T83] [(.exit 2,[.v (.t 0) T54,.v (.t 1) T3,.v (.t 2) T3,.v (.t 12) T54,.v (.t 13) T3,.v (.t 14) T3]),(.ret,[.v (.t 6) T4])] (by kernel_rfl)
def qp2(n:Nat):LK Tryz.prog false:=mkL tab (qi4 n) [qp1 n] Tryz.f44 [true,false,true,false,false] 0 n [.v (.t 0) T54,.v (.t 1) T3,.v (.t 2) T3,.v (.t 12) T54,.v (.t 13) T3,.v (.t 14) T3] [(.exit 0,[]),(.ret,[.v (.t 6) T4])] (by kernel_rfl)
def qqR(n:Nat):Ct Tryz.prog:=mkC tab (qi4 n) [qp2 n] Tryz.func44 [.d T54,.d T3,.d T3] [T4] (by kernel_rfl)
def qoK(n:Nat):CL Tryz.prog:=⟨[],[],0,nof⟩
def qis(n:Nat):Ct Tryz.prog:=mkC tab (qoK n) [] Tryz.func86 [.d T3] [T4] (by kernel_rfl)
def qpt(n:Nat):CL Tryz.prog:=⟨[qis n],[],0,nof⟩
def qi5(n:Nat):Ct Tryz.prog:=mkC tab (qpt n) [] Tryz.func96 [.d T3,.d T3] [T4] (by kernel_rfl)
def qnl(n:Nat):CL Tryz.prog:=⟨[qis n],[],0,nof⟩
def qfI(n:Nat):Ct Tryz.prog:=mkC tab (qnl n) [] Tryz.func65 [.d T3,.d T3] [T3] (by kernel_rfl)
def qh4(n:Nat):CL Tryz.prog:=⟨[qfI n],[],0,nof⟩
def qh5(n:Nat):LK Tryz.prog false:=mkL tab (qh4 n) [] Tryz.f56 [true,false,true,false,false] 0 n [.v (.t 0) T23,.v (.t 1) T23,.v (.t 9) T23,.v (.t 10) T3,.v (.t 11) T3] [(.exit 0,[.v (.t 0) T23,.v (.t 1) T23]),(.ret,[.v (.t 4) T3])] (by kernel_rfl)
def qgh(n:Nat):Ct Tryz.prog:=mkC tab (qh4 n) [qh5 n] Tryz.func56 [.d T23,.d T23] [T3] (by kernel_rfl)
def qiN(n:Nat):CL Tryz.prog:=⟨[],[],0,nof⟩
def qiO(n:Nat):LK Tryz.prog false:=mkL tab (qiN n) [] Tryz.f54 [true,false,true,false,false] 0 n [.v (.t 1) T3,.v (.t 7) T23,.v (.t 8) T3,.v (.t 9) T3,.row (.t 4) false T3 3] [(.exit 0,[.row (.t 4) false T3 3])] (by kernel_rfl)
def qff(n:Nat):Ct Tryz.prog:=mkC tab (qiN n) [qiO n] Tryz.func54 [.d T23,.d T3] [T23] (by kernel_rfl)
def qho(n:Nat):CL Tryz.prog:=⟨[],[],0,nof⟩
def qkK(n:Nat):LK Tryz.prog false:=mkL tab (qho n) [] Tryz.f45 [true,false,true,false,false] 0 n [.v (.t 1) T3,.v (.t 7) T54,.v (.t 8) T3,.v (.t 9) T3,.row (.t 4) false T83 83] [(.exit 0,[.row (.t 4) false T83 83])] (by kernel_rfl)
def qli(n:Nat):Ct Tryz.prog:=mkC tab (qho n) [qkK n] Tryz.func45 [.d T54,.d T3] [T54] (by kernel_rfl)
end
section
def qlj(n:Nat):CL Tryz.prog:=⟨[qbo n,qgK n],[],0,nof⟩
def qeh(n:Nat):Cw Tryz.prog:=mkW tab (qlj n) [] Tryz.func59 [.v (.t 0) T83,.obj (.t 1) true 3 1,.v (.c 0 0) T3] 2 [[.v (.t 0) T4,.obj (.t 1) true 3 1,.v (.c 0 0) T3]] (by kernel_rfl)
def qfR(n:Nat):CL Tryz.prog:=⟨[],[qeh n],0,nof⟩
def qdq(n:Nat):Cw Tryz.prog:=mkW tab (qfR n) [] Tryz.func77 [.v (.t 0) T83,.obj (.t 1) true 105 1,.fnc (.c 0 0) 59 [.box true 3 1],.v (.c 1 0) T3] 2 [[.v (.t 0) T4,.obj (.t 1) true 105 1,.fnc (.c 0 0) 59 [.box true 3 1],.v (.c 1 0) T3]] (by kernel_rfl)
def qbj(n:Nat):CL Tryz.prog:=⟨[],[qeh n,qdq n],0,nof⟩
def qcJ(n:Nat):LK Tryz.prog false:=mkL tab (qbj n) [] Tryz.f103 [true,false,true,false,false] 0 n [.v (.t 0) T54,.v (.t 7) T3,.v (.t 8) T3,.fnc (.t 1) 77 [.box true 105 1],.fnc (.c 0 0) 59 [.box true 3 1],.v (.c 1 0) T3] [(.exit 0,[.fnc (.t 1) 77 [.box true 105 1],.fnc (.c 0 0) 59 [.box true 3 1],.v (.c 1 0) T3]),(.ret,[.v (.t 4) T3,.fnc (.t 1) 77 [.box true 105 1],.fnc (.c 0 0) 59 [.box true 3 1],.v (.c 1 0) T3])] (by kernel_rfl)
def qcR(n:Nat):Cw Tryz.prog:=mkW tab (qbj n) [qcJ n] Tryz.func103 [.v (.t 0) T54,.fnc (.t 1) 77 [.box true 105 1],.fnc (.c 0 0) 59 [.box true 3 1],.v (.c 1 0) T3] 2 [[.v (.t 0) T3,.obj (.t 1) true 105 1,.fnc (.c 0 0) 59 [.box true 3 1],.v (.c 1 0) T3]] (by kernel_rfl)
def qcu(n:Nat):CL Tryz.prog:=⟨[],[qeh n,qdq n,qcR n],0,nof⟩
def qcz(n:Nat):Cw Tryz.prog:=mkW tab (qcu n) [] Tryz.func76 [.v (.t 0) T54,.fnc (.t 1) 77 [.box true 105 1],.fnc (.c 0 0) 59 [.box true 3 1],.v (.c 1 0) T3] 2 [[.v (.t 0) T4,.obj (.t 1) true 105 1,.fnc (.c 0 0) 59 [.box true 3 1],.v (.c 1 0) T3]] (by kernel_rfl)
def qgi(n:Nat):CL Tryz.prog:=⟨[],[qeh n,qcz n],0,nof⟩
def qgs(n:Nat):Cw Tryz.prog:=mkW tab (qgi n) [] Tryz.func60 [.v (.t 0) T54,.fnc (.t 1) 59 [.box true 3 1],.v (.c 0 0) T3] 2 [[.v (.t 0) T4,.obj (.t 1) true 3 1,.v (.c 0 0) T3]] (by kernel_rfl)
def qmK(n:Nat):CL Tryz.prog:=⟨[],[qgs n],0,nof⟩
def qnm(n:Nat):Ct Tryz.prog:=mkC tab (qmK n) [] Tryz.func42 [.d T54,.d T4] [T28] (by kernel_rfl)
def qoL(n:Nat):CL Tryz.prog:=⟨[qqR n,qli n],[],0,nof⟩
def qpu(n:Nat):Cw Tryz.prog:=mkW tab (qoL n) [] Tryz.func43 [.v (.t 0) T3,.obj (.t 1) true 54 1,.v (.c 0 0) T54,.obj (.t 2) true 3 1,.v (.c 1 0) T3,.obj (.t 3) true 3 1,.v (.c 2 0) T3] 4 [[.v (.t 0) T4,.obj (.t 1) true 54 1,.v (.c 0 0) T54,.obj (.t 2) true 3 1,.v (.c 1 0) T3,.obj (.t 3) true 3 1,.v (.c 2 0) T3]] (by kernel_rfl)
def qdK(n:Nat):CL Tryz.prog:=⟨[qff n,qgh n],[qpu n],0,nof⟩
def qiD(n:Nat):LK Tryz.prog false:=mkL tab (qdK n) [] Tryz.f35 [true,true,false,true,false,false] 0 n [.v (.t 0) T3,.v (.t 15) T3,.v (.t 16) T3,.fnc (.t 1) 43 [.box true 54 1,.box true 3 1,.box true 3 1],.v (.c 0 0) T54,.v (.c 1 0) T3,.v (.c 2 0) T3,.row (.t 6) false T3 3] [(.exit 0,[.v (.t 0) T3,.fnc (.t 1) 43 [.box true 54 1,.box true 3 1,.box true 3 1],.v (.c 0 0) T54,.v (.c 1 0) T3,.v (.c 2 0) T3,.row (.t 6) false T3 3])] (by kernel_rfl)
def qiE(n:Nat):LK Tryz.prog false:=mkL tab (qdK n) [] Tryz.f35 [true,true,true,true,true,false,true,false,false] 1 n [.v (.t 6) T23,.v (.t 8) T23,.v (.t 9) T4,.v (.t 25) T3,.v (.t 26) T3,.fnc (.t 1) 43 [.box true 54 1,.box true 3 1,.box true 3 1],.v (.c 0 0) T54,.v (.c 1 0) T3,.v (.c 2 0) T3] [(.exit 2,[.v (.t 8) T23,.v (.t 9) T4,.fnc (.t 1) 43 [.box true 54 1,.box true 3 1,.box true 3 1],.v (.c 0 0) T54,.v (.c 1 0) T3,.v (.c 2 0) T3])] (by kernel_rfl)
def qfS(n:Nat):Cw Tryz.prog:=mkW tab (qdK n) [qiD n,qiE n] Tryz.func35 [.v (.t 0) T3,.fnc (.t 1) 43 [.box true 54 1,.box true 3 1,.box true 3 1],.v (.c 0 0) T54,.v (.c 1 0) T3,.v (.c 2 0) T3] 2 [[.v (.t 0) T23,.v (.t 1) T4,.obj (.t 2) true 54 1,.obj (.t 3) true 3 1,.obj (.t 4) true 3 1,.v (.c 0 0) T54,.v (.c 1 0) T3,.v (.c 2 0) T3]] (by kernel_rfl)
def qqS(n:Nat):CL Tryz.prog:=⟨[qbo n,qnm n],[qfS n],0,nof⟩
def qnn(n:Nat):Ct Tryz.prog:=mkC tab (qqS n) [] Tryz.func22 [.d T54,.d T3,.d T3] [T23,T28] (by kernel_rfl)
end
section
def qiP(n:Nat):CL Tryz.prog:=⟨[],[],0,nof⟩
def qmL(n:Nat):LK Tryz.prog false:=mkL tab (qiP n) [] Tryz.f58 [true,true,false,true,false,false] 0 n [.v (.t 7) T3,.v (.t 8) T3,.v (.t 21) T48,.v (.t 22) T3,.v (.t 23) T3] [(.exit 0,[.v (.t 8) T3])] (by kernel_rfl)
def qno(n:Nat):Ct Tryz.prog:=mkC tab (qiP n) [qmL n] Tryz.func58 [.d T85,.d T3,.d T3] [T3] (by kernel_rfl)
def qh6(n:Nat):CL Tryz.prog:=⟨[qno n],[],0,nof⟩
def qlH(n:Nat):LK Tryz.prog false:=mkL tab (qh6 n) [] Tryz.f41 [true,false,true,false,false] 0 n [.v (.t 2) T3,.v (.t 10) T59,.v (.t 11) T3,.v (.t 12) T3,.obj (.t 3) false 85 4,.v (.c 0 0) T85,.obj (.t 6) false 25 2,.v (.c 1 0) T25] [(.exit 0,[.obj (.t 6) false 25 2,.v (.c 0 0) T25])] (by kernel_rfl)
def qit(n:Nat):Ct Tryz.prog:=mkC tab (qh6 n) [qlH n] Tryz.func41 [.d T85,.d T61,.d T3] [T25] (by kernel_rfl)
def qkw(n:Nat):CL Tryz.prog:=⟨[qbo n],[],0,nof⟩
def qoM(n:Nat):LK Tryz.prog false:=mkL tab (qkw n) [] Tryz.f74 [true,true,false,true,false,false] 0 n [.v (.t 3) T3,.v (.t 4) T3,.v (.t 8) T48,.v (.t 9) T3,.v (.t 10) T3,.obj (.t 1) false 50 4,.v (.c 0 0) T50] [(.exit 0,[.obj (.t 1) false 50 4,.v (.c 0 0) T50]),(.ret,[.v (.t 2) T4])] (by kernel_rfl)
def qk8(n:Nat):Ct Tryz.prog:=mkC tab (qkw n) [qoM n] Tryz.func74 [.d T50] [T4] (by kernel_rfl)
def qnp(n:Nat):CL Tryz.prog:=⟨[qbo n,qgK n],[],0,nof⟩
def qfJ(n:Nat):Cw Tryz.prog:=mkW tab (qnp n) [] Tryz.func102 [.v (.t 0) T79,.obj (.t 1) true 3 1,.v (.c 0 0) T3] 2 [[.v (.t 0) T4,.obj (.t 1) true 3 1,.v (.c 0 0) T3]] (by kernel_rfl)
def qgF(n:Nat):CL Tryz.prog:=⟨[],[qfJ n],0,nof⟩
def qd0(n:Nat):Cw Tryz.prog:=mkW tab (qgF n) [] Tryz.func119 [.v (.t 0) T79,.obj (.t 1) true 138 1,.fnc (.c 0 0) 102 [.box true 3 1],.v (.c 1 0) T3] 2 [[.v (.t 0) T4,.obj (.t 1) true 138 1,.fnc (.c 0 0) 102 [.box true 3 1],.v (.c 1 0) T3]] (by kernel_rfl)
def qbv(n:Nat):CL Tryz.prog:=⟨[],[qfJ n,qd0 n],0,nof⟩
def qc9(n:Nat):LK Tryz.prog false:=mkL tab (qbv n) [] Tryz.f127 [true,false,true,false,false] 0 n [.v (.t 0) T59,.v (.t 7) T3,.v (.t 8) T3,.fnc (.t 1) 119 [.box true 138 1],.fnc (.c 0 0) 102 [.box true 3 1],.v (.c 1 0) T3] [(.exit 0,[.fnc (.t 1) 119 [.box true 138 1],.fnc (.c 0 0) 102 [.box true 3 1],.v (.c 1 0) T3]),(.ret,[.v (.t 4) T3,.fnc (.t 1) 119 [.box true 138 1],.fnc (.c 0 0) 102 [.box true 3 1],.v (.c 1 0) T3])] (by kernel_rfl)
def qdj(n:Nat):Cw Tryz.prog:=mkW tab (qbv n) [qc9 n] Tryz.func127 [.v (.t 0) T59,.fnc (.t 1) 119 [.box true 138 1],.fnc (.c 0 0) 102 [.box true 3 1],.v (.c 1 0) T3] 2 [[.v (.t 0) T3,.obj (.t 1) true 138 1,.fnc (.c 0 0) 102 [.box true 3 1],.v (.c 1 0) T3]] (by kernel_rfl)
def qcS(n:Nat):CL Tryz.prog:=⟨[],[qfJ n,qd0 n,qdj n],0,nof⟩
def qcV(n:Nat):Cw Tryz.prog:=mkW tab (qcS n) [] Tryz.func118 [.v (.t 0) T59,.fnc (.t 1) 119 [.box true 138 1],.fnc (.c 0 0) 102 [.box true 3 1],.v (.c 1 0) T3] 2 [[.v (.t 0) T4,.obj (.t 1) true 138 1,.fnc (.c 0 0) 102 [.box true 3 1],.v (.c 1 0) T3]] (by kernel_rfl)
def qg1(n:Nat):CL Tryz.prog:=⟨[],[qfJ n,qcV n],0,nof⟩
def qhh(n:Nat):Cw Tryz.prog:=mkW tab (qg1 n) [] Tryz.func101 [.v (.t 0) T59,.fnc (.t 1) 102 [.box true 3 1],.v (.c 0 0) T3] 2 [[.v (.t 0) T4,.obj (.t 1) true 3 1,.v (.c 0 0) T3]] (by kernel_rfl)
def qpv(n:Nat):CL Tryz.prog:=⟨[qbo n],[qhh n],0,nof⟩
def qfT(n:Nat):Ct Tryz.prog:=mkC tab (qpv n) [] Tryz.func75 [.d T61] [T4] (by kernel_rfl)
def qqT(n:Nat):CL Tryz.prog:=⟨[qk8 n,qfT n],[],0,nof⟩
def qrU(n:Nat):Ct Tryz.prog:=mkC tab (qqT n) [] Tryz.func57 [.d T50,.d T61] [T85,T28] (by kernel_rfl)
def qst(n:Nat):CL Tryz.prog:=⟨[qbo n,qrU n],[],0,nof⟩
def qtC(n:Nat):Ct Tryz.prog:=mkC tab (qst n) [] Tryz.func40 [.d T50,.d T61,.d T3] [T85,T28] (by kernel_rfl)
def qpw(n:Nat):CL Tryz.prog:=⟨[qtC n,qit n],[],0,nof⟩
def qlI(n:Nat):Ct Tryz.prog:=mkC tab (qpw n) [] Tryz.func21 [.d T50,.d T61,.d T3] [T25,T28] (by kernel_rfl)
def qmM(n:Nat):CL Tryz.prog:=⟨[],[],0,nof⟩
def qnq(n:Nat):Ct Tryz.prog:=mkC tab (qmM n) [] Tryz.func84 [.d T85,.d T61,.d T3] [T3] (by kernel_rfl)
def qnr(n:Nat):CL Tryz.prog:=⟨[qnq n],[],0,nof⟩
def qnZ(n:Nat):Ct Tryz.prog:=mkC tab (qnr n) [] Tryz.func62 [.d T85,.d T61,.d T3,.d T3] [T4] (by kernel_rfl)
def qn0(n:Nat):CL Tryz.prog:=⟨[qbo n],[],0,nof⟩
def qgj(n:Nat):Cw Tryz.prog:=mkW tab (qn0 n) [] Tryz.func78 [.v (.t 0) T81] 1 [[.v (.t 0) T4]] (by kernel_rfl)
def qn1(n:Nat):CL Tryz.prog:=⟨[qbo n],[],0,nof⟩
def qgk(n:Nat):Cw Tryz.prog:=mkW tab (qn1 n) [] Tryz.func79 [.v (.t 0) T3] 1 [[.v (.t 0) T4]] (by kernel_rfl)
def qn2(n:Nat):CL Tryz.prog:=⟨[],[],0,nof⟩
def qgl(n:Nat):Cw Tryz.prog:=mkW tab (qn2 n) [] Tryz.func80 [.v (.t 0) T61,.obj (.t 1) true 53 10,.v (.c 0 0) T53] 2 [[.v (.t 0) T4,.obj (.t 1) true 53 10,.v (.c 0 0) T53]] (by kernel_rfl)
def qgG(n:Nat):CL Tryz.prog:=⟨[],[qgj n],0,nof⟩
def qd1(n:Nat):Cw Tryz.prog:=mkW tab (qgG n) [] Tryz.func107 [.v (.t 0) T81,.obj (.t 1) true 117 1,.fnc (.c 0 0) 78 []] 2 [[.v (.t 0) T4,.obj (.t 1) true 117 1,.fnc (.c 0 0) 78 []]] (by kernel_rfl)
def qbp(n:Nat):CL Tryz.prog:=⟨[],[qgj n,qd1 n],0,nof⟩
def qc1(n:Nat):LK Tryz.prog false:=mkL tab (qbp n) [] Tryz.f121 [true,false,true,false,false] 0 n [.v (.t 0) T47,.v (.t 7) T3,.v (.t 8) T3,.fnc (.t 1) 107 [.box true 117 1],.fnc (.c 0 0) 78 []] [(.exit 0,[.fnc (.t 1) 107 [.box true 117 1],.fnc (.c 0 0) 78 []]),(.ret,[.v (.t 4) T3,.fnc (.t 1) 107 [.box true 117 1],.fnc (.c 0 0) 78 []])] (by kernel_rfl)
def qda(n:Nat):Cw Tryz.prog:=mkW tab (qbp n) [qc1 n] Tryz.func121 [.v (.t 0) T47,.fnc (.t 1) 107 [.box true 117 1],.fnc (.c 0 0) 78 []] 2 [[.v (.t 0) T3,.obj (.t 1) true 117 1,.fnc (.c 0 0) 78 []]] (by kernel_rfl)
def qcK(n:Nat):CL Tryz.prog:=⟨[],[qgj n,qd1 n,qda n],0,nof⟩
def qcT(n:Nat):Cw Tryz.prog:=mkW tab (qcK n) [] Tryz.func106 [.v (.t 0) T47,.fnc (.t 1) 107 [.box true 117 1],.fnc (.c 0 0) 78 []] 2 [[.v (.t 0) T4,.obj (.t 1) true 117 1,.fnc (.c 0 0) 78 []]] (by kernel_rfl)
def qg2(n:Nat):CL Tryz.prog:=⟨[],[qgj n,qcT n],0,nof⟩
def qhi(n:Nat):Cw Tryz.prog:=mkW tab (qg2 n) [] Tryz.func82 [.v (.t 0) T47,.fn (.t 1) 78 [] []] 2 [[.v (.t 0) T4]] (by kernel_rfl)
def qhz(n:Nat):CL Tryz.prog:=⟨[],[qgk n],0,nof⟩
def qeO(n:Nat):Cw Tryz.prog:=mkW tab (qhz n) [] Tryz.func109 [.v (.t 0) T3,.obj (.t 1) true 74 1,.fnc (.c 0 0) 79 []] 2 [[.v (.t 0) T4,.obj (.t 1) true 74 1,.fnc (.c 0 0) 79 []]] (by kernel_rfl)
def qbZ(n:Nat):CL Tryz.prog:=⟨[],[qgk n,qeO n],0,nof⟩
def qd8(n:Nat):LK Tryz.prog false:=mkL tab (qbZ n) [] Tryz.f122 [true,false,true,false,false] 0 n [.v (.t 0) T23,.v (.t 7) T3,.v (.t 8) T3,.fnc (.t 1) 109 [.box true 74 1],.fnc (.c 0 0) 79 []] [(.exit 0,[.fnc (.t 1) 109 [.box true 74 1],.fnc (.c 0 0) 79 []]),(.ret,[.v (.t 4) T3,.fnc (.t 1) 109 [.box true 74 1],.fnc (.c 0 0) 79 []])] (by kernel_rfl)
def qec(n:Nat):Cw Tryz.prog:=mkW tab (qbZ n) [qd8 n] Tryz.func122 [.v (.t 0) T23,.fnc (.t 1) 109 [.box true 74 1],.fnc (.c 0 0) 79 []] 2 [[.v (.t 0) T3,.obj (.t 1) true 74 1,.fnc (.c 0 0) 79 []]] (by kernel_rfl)
def qdS(n:Nat):CL Tryz.prog:=⟨[],[qgk n,qeO n,qec n],0,nof⟩
def qdX(n:Nat):Cw Tryz.prog:=mkW tab (qdS n) [] Tryz.func108 [.v (.t 0) T23,.fnc (.t 1) 109 [.box true 74 1],.fnc (.c 0 0) 79 []] 2 [[.v (.t 0) T4,.obj (.t 1) true 74 1,.fnc (.c 0 0) 79 []]] (by kernel_rfl)
def qic(n:Nat):CL Tryz.prog:=⟨[],[qgk n,qdX n],0,nof⟩
def qiu(n:Nat):Cw Tryz.prog:=mkW tab (qic n) [] Tryz.func83 [.v (.t 0) T23,.fn (.t 1) 79 [] []] 2 [[.v (.t 0) T4]] (by kernel_rfl)
def qgQ(n:Nat):CL Tryz.prog:=⟨[],[qgl n],0,nof⟩
def qcs(n:Nat):Cw Tryz.prog:=mkW tab (qgQ n) [] Tryz.func105 [.v (.t 0) T61,.obj (.t 1) true 116 1,.fnc (.c 0 0) 80 [.box true 53 10],.v (.c 1 0) T53] 2 [[.v (.t 0) T4,.obj (.t 1) true 116 1,.fnc (.c 0 0) 80 [.box true 53 10],.v (.c 1 0) T53]] (by kernel_rfl)
def qbw(n:Nat):CL Tryz.prog:=⟨[],[qgl n,qcs n],0,nof⟩
def qdk(n:Nat):LK Tryz.prog false:=mkL tab (qbw n) [] Tryz.f120 [true,false,true,false,false] 0 n [.v (.t 0) T51,.v (.t 7) T3,.v (.t 8) T3,.fnc (.t 1) 105 [.box true 116 1],.fnc (.c 0 0) 80 [.box true 53 10],.v (.c 1 0) T53] [(.exit 0,[.fnc (.t 1) 105 [.box true 116 1],.fnc (.c 0 0) 80 [.box true 53 10],.v (.c 1 0) T53]),(.ret,[.v (.t 4) T3,.fnc (.t 1) 105 [.box true 116 1],.fnc (.c 0 0) 80 [.box true 53 10],.v (.c 1 0) T53])] (by kernel_rfl)
def qdr(n:Nat):Cw Tryz.prog:=mkW tab (qbw n) [qdk n] Tryz.func120 [.v (.t 0) T51,.fnc (.t 1) 105 [.box true 116 1],.fnc (.c 0 0) 80 [.box true 53 10],.v (.c 1 0) T53] 2 [[.v (.t 0) T3,.obj (.t 1) true 116 1,.fnc (.c 0 0) 80 [.box true 53 10],.v (.c 1 0) T53]] (by kernel_rfl)
def qcW(n:Nat):CL Tryz.prog:=⟨[],[qgl n,qcs n,qdr n],0,nof⟩
def qc2(n:Nat):Cw Tryz.prog:=mkW tab (qcW n) [] Tryz.func104 [.v (.t 0) T51,.fnc (.t 1) 105 [.box true 116 1],.fnc (.c 0 0) 80 [.box true 53 10],.v (.c 1 0) T53] 2 [[.v (.t 0) T4,.obj (.t 1) true 116 1,.fnc (.c 0 0) 80 [.box true 53 10],.v (.c 1 0) T53]] (by kernel_rfl)
def qhj(n:Nat):CL Tryz.prog:=⟨[],[qgl n,qc2 n],0,nof⟩
def qhu(n:Nat):Cw Tryz.prog:=mkW tab (qhj n) [] Tryz.func81 [.v (.t 0) T51,.fnc (.t 1) 80 [.box true 53 10],.v (.c 0 0) T53] 2 [[.v (.t 0) T4,.obj (.t 1) true 53 10,.v (.c 0 0) T53]] (by kernel_rfl)
def qg3(n:Nat):CL Tryz.prog:=⟨[qfT n],[],0,nof⟩
def qei(n:Nat):Cw Tryz.prog:=mkW tab (qg3 n) [] Tryz.func105 [.v (.t 0) T61,.obj (.t 1) true 116 1,.fnc (.c 0 0) 75 []] 2 [[.v (.t 0) T4,.obj (.t 1) true 116 1,.fnc (.c 0 0) 75 []]] (by kernel_rfl)
def qbF(n:Nat):CL Tryz.prog:=⟨[qfT n],[qei n],0,nof⟩
def qds(n:Nat):LK Tryz.prog false:=mkL tab (qbF n) [] Tryz.f120 [true,false,true,false,false] 0 n [.v (.t 0) T51,.v (.t 7) T3,.v (.t 8) T3,.fnc (.t 1) 105 [.box true 116 1],.fnc (.c 0 0) 75 []] [(.exit 0,[.fnc (.t 1) 105 [.box true 116 1],.fnc (.c 0 0) 75 []]),(.ret,[.v (.t 4) T3,.fnc (.t 1) 105 [.box true 116 1],.fnc (.c 0 0) 75 []])] (by kernel_rfl)
def qdx(n:Nat):Cw Tryz.prog:=mkW tab (qbF n) [qds n] Tryz.func120 [.v (.t 0) T51,.fnc (.t 1) 105 [.box true 116 1],.fnc (.c 0 0) 75 []] 2 [[.v (.t 0) T3,.obj (.t 1) true 116 1,.fnc (.c 0 0) 75 []]] (by kernel_rfl)
def qc3(n:Nat):CL Tryz.prog:=⟨[qfT n],[qcs n,qei n,qdx n],0,nof⟩
def qdb(n:Nat):Cw Tryz.prog:=mkW tab (qc3 n) [] Tryz.func104 [.v (.t 0) T51,.fnc (.t 1) 105 [.box true 116 1],.fnc (.c 0 0) 75 []] 2 [[.v (.t 0) T4,.obj (.t 1) true 116 1,.fnc (.c 0 0) 75 []]] (by kernel_rfl)
def qhv(n:Nat):CL Tryz.prog:=⟨[qfT n],[qdb n],0,nof⟩
def qhA(n:Nat):Cw Tryz.prog:=mkW tab (qhv n) [] Tryz.func81 [.v (.t 0) T51,.fn (.t 1) 75 [] []] 2 [[.v (.t 0) T4]] (by kernel_rfl)
def qp3(n:Nat):CL Tryz.prog:=⟨[qbo n,qk8 n],[qhu n,qhA n,qhi n,qiu n],0,nof⟩
def qqU(n:Nat):Ct Tryz.prog:=mkC tab (qp3 n) [] Tryz.func61 [.d T53] [T28] (by kernel_rfl)
end
end
end Go.Proofs.YtbdockhccdkdiaaGreat
