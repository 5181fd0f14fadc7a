/- Texts DnT, DnR, DnU, DnV in one. -/
import Derived.Test.YtbdockhccdkdiaaGreatNd
import Derived.Test.YtbdockhccdkdiaaGreatTy
/- The table of the types. -/
set_option linter.constructorNameAsVariable false
set_option linter.unusedSimpArgs false
set_option linter.unusedVariables false
set_option linter.unusedSectionVars false
namespace Go.Proofs.YtbdockhccdkdiaaGreat
open Go Go.Proofs Go.RowKit
noncomputable section
abbrev T2:Ty:=.i .i64
abbrev T3:Ty:=.i .i64
abbrev T4:Ty:=.b
abbrev T6:Ty:=.i .u8
abbrev T7:Ty:=.pr T2 (.pr T3 (.pr T4 T6))
abbrev T8:Ty:=.pr T2 (.pr T3 (.pr T4 T6))
abbrev T25:Ty:=.pr T3 T3
abbrev T22:Ty:=.sl T25
abbrev T23:Ty:=.sl T3
abbrev T24:Ty:=.pr T3 T3
abbrev T27:Ty:=.pr T3 (.pr T3 (.pr T23 T25))
abbrev T28:Ty:=.i .i64
abbrev T44:Ty:=.i .u64
abbrev T81:Ty:=.pr T3 (.pr T3 T3)
abbrev T47:Ty:=.sl T81
abbrev T77:Ty:=.pr T3 T3
abbrev T48:Ty:=.sl T77
abbrev T50:Ty:=.pr T3 (.pr T3 (.pr T3 T48))
abbrev T79:Ty:=.pr T3 (.pr T25 T25)
abbrev T59:Ty:=.sl T79
abbrev T61:Ty:=.pr T3 (.pr T3 (.pr T3 T59))
abbrev T51:Ty:=.sl T61
abbrev T53:Ty:=.pr T3 (.pr T3 (.pr T3 (.pr T47 (.pr T23 (.pr T50 T51)))))
abbrev T83:Ty:=.pr T3 T25
abbrev T54:Ty:=.sl T83
abbrev T76:Ty:=.pr T3 T3
abbrev T78:Ty:=.pr T3 (.pr T25 T25)
abbrev T80:Ty:=.pr T3 (.pr T3 T3)
abbrev T82:Ty:=.pr T3 T25
abbrev T85:Ty:=.pr T50 .u
abbrev T92:Ty:=.pt (.pr (.pr (.i .i64) (.pr (.i .i64) (.pr (.i .i64) (.pr (.sl (.pr (.i .i64) (.pr (.i .i64) (.i .i64)))) (.pr (.sl (.i .i64)) (.pr (.pr (.i .i64) (.pr (.i .i64) (.pr (.i .i64) (.sl (.pr (.i .i64) (.i .i64)))))) (.sl (.pr (.i .i64) (.pr (.i .i64) (.pr (.i .i64) (.sl (.pr (.i .i64) (.pr (.pr (.i .i64) (.i .i64)) (.pr (.i .i64) (.i .i64))))))))))))))) (.sl (.i .i64)))
abbrev T136:Ty:=.i .u64
def qvg:List (Sigma (TyE Tryz.prog)):=[⟨1,⟨_,_,_,inferInstance⟩⟩,
 ⟨2,⟨_,_,_,inferInstance⟩⟩,
 ⟨3,⟨_,_,_,inferInstance⟩⟩,
 ⟨4,⟨_,_,_,inferInstance⟩⟩,
 ⟨5,⟨_,_,_,inferInstance⟩⟩,
 ⟨6,⟨_,_,_,inferInstance⟩⟩,
 ⟨7,⟨_,_,_,inferInstance⟩⟩,
 ⟨8,⟨_,_,_,inferInstance⟩⟩,
 ⟨12,⟨_,_,_,inferInstance⟩⟩,
 ⟨15,⟨_,_,_,inferInstance⟩⟩,
 ⟨16,⟨_,_,_,inferInstance⟩⟩,
 ⟨17,⟨_,_,_,inferInstance⟩⟩,
 ⟨18,⟨_,_,_,inferInstance⟩⟩,
 ⟨19,⟨_,_,_,inferInstance⟩⟩,
 ⟨20,⟨_,_,_,inferInstance⟩⟩,
 ⟨21,⟨_,_,_,inferInstance⟩⟩,
 ⟨22,⟨_,_,_,inferInstance⟩⟩,
 ⟨23,⟨_,_,_,inferInstance⟩⟩,
 ⟨24,⟨_,_,_,inferInstance⟩⟩,
 ⟨25,⟨_,_,_,inferInstance⟩⟩,
 ⟨26,⟨_,_,_,inferInstance⟩⟩,
 ⟨27,⟨_,_,_,inferInstance⟩⟩,
 ⟨28,⟨_,_,_,inferInstance⟩⟩,
 ⟨29,⟨_,_,_,inferInstance⟩⟩,
 ⟨30,⟨_,_,_,inferInstance⟩⟩,
 ⟨32,⟨_,_,_,inferInstance⟩⟩,
 ⟨33,⟨_,_,_,inferInstance⟩⟩,
 ⟨34,⟨_,_,_,inferInstance⟩⟩,
 ⟨35,⟨_,_,_,inferInstance⟩⟩,
 ⟨37,⟨_,_,_,inferInstance⟩⟩,
 ⟨39,⟨_,_,_,inferInstance⟩⟩,
 ⟨40,⟨_,_,_,inferInstance⟩⟩,
 ⟨41,⟨_,_,_,inferInstance⟩⟩,
 ⟨42,⟨_,_,_,inferInstance⟩⟩,
 ⟨43,⟨_,_,_,inferInstance⟩⟩,
 ⟨44,⟨_,_,_,inferInstance⟩⟩,
 ⟨45,⟨_,_,_,inferInstance⟩⟩,
 ⟨46,⟨_,_,_,inferInstance⟩⟩,
 ⟨47,⟨_,_,_,inferInstance⟩⟩,
 ⟨48,⟨_,_,_,inferInstance⟩⟩,
 ⟨49,⟨_,_,_,inferInstance⟩⟩,
 ⟨50,⟨_,_,_,inferInstance⟩⟩,
 ⟨51,⟨_,_,_,inferInstance⟩⟩,
 ⟨52,⟨_,_,_,inferInstance⟩⟩,
 ⟨53,⟨_,_,_,inferInstance⟩⟩,
 ⟨54,⟨_,_,_,inferInstance⟩⟩,
 ⟨56,⟨_,_,_,inferInstance⟩⟩,
 ⟨58,⟨_,_,_,inferInstance⟩⟩,
 ⟨59,⟨_,_,_,inferInstance⟩⟩,
 ⟨60,⟨_,_,_,inferInstance⟩⟩,
 ⟨61,⟨_,_,_,inferInstance⟩⟩,
 ⟨62,⟨_,_,_,inferInstance⟩⟩,
 ⟨63,⟨_,_,_,inferInstance⟩⟩,
 ⟨64,⟨_,_,_,inferInstance⟩⟩,
 ⟨65,⟨_,_,_,inferInstance⟩⟩,
 ⟨66,⟨_,_,_,inferInstance⟩⟩,
 ⟨67,⟨_,_,_,inferInstance⟩⟩,
 ⟨68,⟨_,_,_,inferInstance⟩⟩,
 ⟨69,⟨_,_,_,inferInstance⟩⟩,
 ⟨70,⟨_,_,_,inferInstance⟩⟩,
 ⟨71,⟨_,_,_,inferInstance⟩⟩,
 ⟨73,⟨_,_,_,inferInstance⟩⟩,
 ⟨74,⟨_,_,_,inferInstance⟩⟩,
 ⟨75,⟨_,_,_,inferInstance⟩⟩,
 ⟨76,⟨_,_,_,inferInstance⟩⟩,
 ⟨77,⟨_,_,_,inferInstance⟩⟩,
 ⟨78,⟨_,_,_,inferInstance⟩⟩,
 ⟨79,⟨_,_,_,inferInstance⟩⟩,
 ⟨80,⟨_,_,_,inferInstance⟩⟩,
 ⟨81,⟨_,_,_,inferInstance⟩⟩,
 ⟨82,⟨_,_,_,inferInstance⟩⟩,
 ⟨83,⟨_,_,_,inferInstance⟩⟩,
 ⟨84,⟨_,_,_,inferInstance⟩⟩,
 ⟨85,⟨_,_,_,inferInstance⟩⟩,
 ⟨87,⟨_,_,_,inferInstance⟩⟩,
 ⟨88,⟨_,_,_,inferInstance⟩⟩,
 ⟨89,⟨_,_,_,inferInstance⟩⟩,
 ⟨90,⟨_,_,_,inferInstance⟩⟩,
 ⟨91,⟨_,_,_,inferInstance⟩⟩,
 ⟨92,⟨_,_,_,inferInstance⟩⟩,
 ⟨94,⟨_,_,_,inferInstance⟩⟩,
 ⟨95,⟨_,_,_,inferInstance⟩⟩,
 ⟨96,⟨_,_,_,inferInstance⟩⟩,
 ⟨97,⟨_,_,_,inferInstance⟩⟩,
 ⟨98,⟨_,_,_,inferInstance⟩⟩,
 ⟨99,⟨_,_,_,inferInstance⟩⟩,
 ⟨100,⟨_,_,_,inferInstance⟩⟩,
 ⟨101,⟨_,_,_,inferInstance⟩⟩,
 ⟨102,⟨_,_,_,inferInstance⟩⟩,
 ⟨103,⟨_,_,_,inferInstance⟩⟩,
 ⟨104,⟨_,_,_,inferInstance⟩⟩,
 ⟨105,⟨_,_,_,inferInstance⟩⟩,
 ⟨106,⟨_,_,_,inferInstance⟩⟩,
 ⟨107,⟨_,_,_,inferInstance⟩⟩,
 ⟨108,⟨_,_,_,inferInstance⟩⟩,
 ⟨109,⟨_,_,_,inferInstance⟩⟩,
 ⟨110,⟨_,_,_,inferInstance⟩⟩,
 ⟨111,⟨_,_,_,inferInstance⟩⟩,
 ⟨112,⟨_,_,_,inferInstance⟩⟩,
 ⟨113,⟨_,_,_,inferInstance⟩⟩,
 ⟨114,⟨_,_,_,inferInstance⟩⟩,
 ⟨115,⟨_,_,_,inferInstance⟩⟩,
 ⟨116,⟨_,_,_,inferInstance⟩⟩,
 ⟨117,⟨_,_,_,inferInstance⟩⟩,
 ⟨118,⟨_,_,_,inferInstance⟩⟩,
 ⟨119,⟨_,_,_,inferInstance⟩⟩,
 ⟨120,⟨_,_,_,inferInstance⟩⟩,
 ⟨121,⟨_,_,_,inferInstance⟩⟩,
 ⟨122,⟨_,_,_,inferInstance⟩⟩,
 ⟨123,⟨_,_,_,inferInstance⟩⟩,
 ⟨124,⟨_,_,_,inferInstance⟩⟩,
 ⟨125,⟨_,_,_,inferInstance⟩⟩,
 ⟨127,⟨_,_,_,inferInstance⟩⟩,
 ⟨128,⟨_,_,_,inferInstance⟩⟩,
 ⟨129,⟨_,_,_,inferInstance⟩⟩,
 ⟨130,⟨_,_,_,inferInstance⟩⟩,
 ⟨132,⟨_,_,_,inferInstance⟩⟩,
 ⟨133,⟨_,_,_,inferInstance⟩⟩,
 ⟨134,⟨_,_,_,inferInstance⟩⟩,
 ⟨135,⟨_,_,_,inferInstance⟩⟩,
 ⟨136,⟨_,_,_,inferInstance⟩⟩,
 ⟨137,⟨_,_,_,inferInstance⟩⟩,
 ⟨138,⟨_,_,_,inferInstance⟩⟩,
 ⟨139,⟨_,_,_,inferInstance⟩⟩,
 ⟨140,⟨_,_,_,inferInstance⟩⟩,
 ⟨141,⟨_,_,_,inferInstance⟩⟩,
 ⟨143,⟨_,_,_,inferInstance⟩⟩,
 ⟨144,⟨_,_,_,inferInstance⟩⟩,
 ⟨145,⟨_,_,_,inferInstance⟩⟩,
 ⟨146,⟨_,_,_,inferInstance⟩⟩,
 ⟨147,⟨_,_,_,inferInstance⟩⟩,
 ⟨148,⟨_,_,_,inferInstance⟩⟩,
 ⟨149,⟨_,_,_,inferInstance⟩⟩,
 ⟨150,⟨_,_,_,inferInstance⟩⟩,
 ⟨151,⟨_,_,_,inferInstance⟩⟩,
 ⟨152,⟨_,_,_,inferInstance⟩⟩,
 ⟨154,⟨_,_,_,inferInstance⟩⟩,
 ⟨156,⟨_,_,_,inferInstance⟩⟩,
 ⟨157,⟨_,_,_,inferInstance⟩⟩,
 ⟨159,⟨_,_,_,inferInstance⟩⟩,
 ⟨160,⟨_,_,_,inferInstance⟩⟩,
 ⟨161,⟨_,_,_,inferInstance⟩⟩,
 ⟨164,⟨_,_,_,inferInstance⟩⟩,
 ⟨165,⟨_,_,_,inferInstance⟩⟩,
 ⟨166,⟨_,_,_,inferInstance⟩⟩,
 ⟨167,⟨_,_,_,inferInstance⟩⟩,
 ⟨168,⟨_,_,_,inferInstance⟩⟩,
 ⟨169,⟨_,_,_,inferInstance⟩⟩,
 ⟨170,⟨_,_,_,inferInstance⟩⟩,
 ⟨171,⟨_,_,_,inferInstance⟩⟩,
 ⟨172,⟨_,_,_,inferInstance⟩⟩,
 ⟨173,⟨_,_,_,inferInstance⟩⟩,
 ⟨174,⟨_,_,_,inferInstance⟩⟩,
 ⟨175,⟨_,_,_,inferInstance⟩⟩,
 ⟨176,⟨_,_,_,inferInstance⟩⟩]
def qvh:List (Sigma fun t=>Sigma fun f=>FdE Tryz.prog t f):=[⟨7,0,⟨_,_,_,inferInstance⟩⟩,
 ⟨7,1,⟨_,_,_,inferInstance⟩⟩,
 ⟨7,2,⟨_,_,_,inferInstance⟩⟩,
 ⟨7,3,⟨_,_,_,inferInstance⟩⟩,
 ⟨8,0,⟨_,_,_,inferInstance⟩⟩,
 ⟨8,1,⟨_,_,_,inferInstance⟩⟩,
 ⟨8,2,⟨_,_,_,inferInstance⟩⟩,
 ⟨8,3,⟨_,_,_,inferInstance⟩⟩,
 ⟨13,0,⟨_,_,_,inferInstance⟩⟩,
 ⟨13,1,⟨_,_,_,inferInstance⟩⟩,
 ⟨14,0,⟨_,_,_,inferInstance⟩⟩,
 ⟨14,1,⟨_,_,_,inferInstance⟩⟩,
 ⟨18,0,⟨_,_,_,inferInstance⟩⟩,
 ⟨19,0,⟨_,_,_,inferInstance⟩⟩,
 ⟨24,0,⟨_,_,_,inferInstance⟩⟩,
 ⟨24,1,⟨_,_,_,inferInstance⟩⟩,
 ⟨25,0,⟨_,_,_,inferInstance⟩⟩,
 ⟨25,1,⟨_,_,_,inferInstance⟩⟩,
 ⟨26,0,⟨_,_,_,inferInstance⟩⟩,
 ⟨26,1,⟨_,_,_,inferInstance⟩⟩,
 ⟨26,2,⟨_,_,_,inferInstance⟩⟩,
 ⟨26,3,⟨_,_,_,inferInstance⟩⟩,
 ⟨27,0,⟨_,_,_,inferInstance⟩⟩,
 ⟨27,1,⟨_,_,_,inferInstance⟩⟩,
 ⟨27,2,⟨_,_,_,inferInstance⟩⟩,
 ⟨27,3,⟨_,_,_,inferInstance⟩⟩,
 ⟨49,0,⟨_,_,_,inferInstance⟩⟩,
 ⟨49,1,⟨_,_,_,inferInstance⟩⟩,
 ⟨49,2,⟨_,_,_,inferInstance⟩⟩,
 ⟨49,3,⟨_,_,_,inferInstance⟩⟩,
 ⟨50,0,⟨_,_,_,inferInstance⟩⟩,
 ⟨50,1,⟨_,_,_,inferInstance⟩⟩,
 ⟨50,2,⟨_,_,_,inferInstance⟩⟩,
 ⟨50,3,⟨_,_,_,inferInstance⟩⟩,
 ⟨52,0,⟨_,_,_,inferInstance⟩⟩,
 ⟨52,1,⟨_,_,_,inferInstance⟩⟩,
 ⟨52,2,⟨_,_,_,inferInstance⟩⟩,
 ⟨52,3,⟨_,_,_,inferInstance⟩⟩,
 ⟨52,4,⟨_,_,_,inferInstance⟩⟩,
 ⟨52,5,⟨_,_,_,inferInstance⟩⟩,
 ⟨52,6,⟨_,_,_,inferInstance⟩⟩,
 ⟨53,0,⟨_,_,_,inferInstance⟩⟩,
 ⟨53,1,⟨_,_,_,inferInstance⟩⟩,
 ⟨53,2,⟨_,_,_,inferInstance⟩⟩,
 ⟨53,3,⟨_,_,_,inferInstance⟩⟩,
 ⟨53,4,⟨_,_,_,inferInstance⟩⟩,
 ⟨53,5,⟨_,_,_,inferInstance⟩⟩,
 ⟨53,6,⟨_,_,_,inferInstance⟩⟩,
 ⟨60,0,⟨_,_,_,inferInstance⟩⟩,
 ⟨60,1,⟨_,_,_,inferInstance⟩⟩,
 ⟨60,2,⟨_,_,_,inferInstance⟩⟩,
 ⟨60,3,⟨_,_,_,inferInstance⟩⟩,
 ⟨61,0,⟨_,_,_,inferInstance⟩⟩,
 ⟨61,1,⟨_,_,_,inferInstance⟩⟩,
 ⟨61,2,⟨_,_,_,inferInstance⟩⟩,
 ⟨61,3,⟨_,_,_,inferInstance⟩⟩,
 ⟨76,0,⟨_,_,_,inferInstance⟩⟩,
 ⟨76,1,⟨_,_,_,inferInstance⟩⟩,
 ⟨77,0,⟨_,_,_,inferInstance⟩⟩,
 ⟨77,1,⟨_,_,_,inferInstance⟩⟩,
 ⟨78,0,⟨_,_,_,inferInstance⟩⟩,
 ⟨78,1,⟨_,_,_,inferInstance⟩⟩,
 ⟨78,2,⟨_,_,_,inferInstance⟩⟩,
 ⟨79,0,⟨_,_,_,inferInstance⟩⟩,
 ⟨79,1,⟨_,_,_,inferInstance⟩⟩,
 ⟨79,2,⟨_,_,_,inferInstance⟩⟩,
 ⟨80,0,⟨_,_,_,inferInstance⟩⟩,
 ⟨80,1,⟨_,_,_,inferInstance⟩⟩,
 ⟨80,2,⟨_,_,_,inferInstance⟩⟩,
 ⟨81,0,⟨_,_,_,inferInstance⟩⟩,
 ⟨81,1,⟨_,_,_,inferInstance⟩⟩,
 ⟨81,2,⟨_,_,_,inferInstance⟩⟩,
 ⟨82,0,⟨_,_,_,inferInstance⟩⟩,
 ⟨82,1,⟨_,_,_,inferInstance⟩⟩,
 ⟨83,0,⟨_,_,_,inferInstance⟩⟩,
 ⟨83,1,⟨_,_,_,inferInstance⟩⟩,
 ⟨84,0,⟨_,_,_,inferInstance⟩⟩,
 ⟨85,0,⟨_,_,_,inferInstance⟩⟩,
 ⟨108,0,⟨_,_,_,inferInstance⟩⟩,
 ⟨108,1,⟨_,_,_,inferInstance⟩⟩,
 ⟨109,0,⟨_,_,_,inferInstance⟩⟩,
 ⟨109,1,⟨_,_,_,inferInstance⟩⟩,
 ⟨162,0,⟨_,_,_,inferInstance⟩⟩,
 ⟨162,1,⟨_,_,_,inferInstance⟩⟩,
 ⟨162,2,⟨_,_,_,inferInstance⟩⟩,
 ⟨162,3,⟨_,_,_,inferInstance⟩⟩,
 ⟨163,0,⟨_,_,_,inferInstance⟩⟩,
 ⟨163,1,⟨_,_,_,inferInstance⟩⟩,
 ⟨163,2,⟨_,_,_,inferInstance⟩⟩,
 ⟨163,3,⟨_,_,_,inferInstance⟩⟩,
 ⟨174,0,⟨_,_,_,inferInstance⟩⟩,
 ⟨174,1,⟨_,_,_,inferInstance⟩⟩,
 ⟨174,2,⟨_,_,_,inferInstance⟩⟩,
 ⟨174,3,⟨_,_,_,inferInstance⟩⟩,
 ⟨174,4,⟨_,_,_,inferInstance⟩⟩,
 ⟨174,5,⟨_,_,_,inferInstance⟩⟩,
 ⟨174,6,⟨_,_,_,inferInstance⟩⟩,
 ⟨174,7,⟨_,_,_,inferInstance⟩⟩,
 ⟨174,8,⟨_,_,_,inferInstance⟩⟩,
 ⟨174,9,⟨_,_,_,inferInstance⟩⟩,
 ⟨174,10,⟨_,_,_,inferInstance⟩⟩,
 ⟨175,0,⟨_,_,_,inferInstance⟩⟩,
 ⟨175,1,⟨_,_,_,inferInstance⟩⟩,
 ⟨175,2,⟨_,_,_,inferInstance⟩⟩,
 ⟨175,3,⟨_,_,_,inferInstance⟩⟩,
 ⟨175,4,⟨_,_,_,inferInstance⟩⟩,
 ⟨175,5,⟨_,_,_,inferInstance⟩⟩,
 ⟨175,6,⟨_,_,_,inferInstance⟩⟩,
 ⟨175,7,⟨_,_,_,inferInstance⟩⟩,
 ⟨175,8,⟨_,_,_,inferInstance⟩⟩,
 ⟨175,9,⟨_,_,_,inferInstance⟩⟩,
 ⟨175,10,⟨_,_,_,inferInstance⟩⟩]
def qvi:List (Sigma (SlE Tryz.prog)):=[⟨22,SlE.mk' T25 inferInstance (by decide) (by decide) (by decide) rfl 8796093022208 rfl⟩,
 ⟨23,SlE.mk' T3 inferInstance (by decide) (by decide) (by decide) rfl 17592186044416 rfl⟩,
 ⟨47,SlE.mk' T81 inferInstance (by decide) (by decide) (by decide) rfl 5864062014805 rfl⟩,
 ⟨48,SlE.mk' T77 inferInstance (by decide) (by decide) (by decide) rfl 8796093022208 rfl⟩,
 ⟨51,SlE.mk' T61 inferInstance (by decide) (by decide) (by decide) rfl 2932031007402 rfl⟩,
 ⟨54,SlE.mk' T83 inferInstance (by decide) (by decide) (by decide) rfl 5864062014805 rfl⟩,
 ⟨59,SlE.mk' T79 inferInstance (by decide) (by decide) (by decide) rfl 3518437208883 rfl⟩]
def qvj:List (Sigma fun t=>{k:IntKind // IntTy Tryz.prog t k}):=[⟨2,.i64,inferInstance⟩,⟨3,.i64,inferInstance⟩,⟨5,.u8,inferInstance⟩,⟨6,.u8,inferInstance⟩,⟨12,.u64,inferInstance⟩,⟨21,.i32,inferInstance⟩,⟨28,.i64,inferInstance⟩,⟨44,.u64,inferInstance⟩,⟨125,.i64,inferInstance⟩,⟨134,.u32,inferInstance⟩,⟨136,.u64,inferInstance⟩,⟨144,.u64,inferInstance⟩,⟨168,.u8,inferInstance⟩,⟨169,.u8,inferInstance⟩,⟨172,.i32,inferInstance⟩,⟨173,.i32,inferInstance⟩]
def qvk:List (Sigma fun t=>PLift (BoolTy Tryz.prog t)):=[⟨4,⟨inferInstance⟩⟩]
def qvl:List (Sigma fun t=>PLift (StructTy Tryz.prog t)):=[⟨7,⟨inferInstance⟩⟩,⟨8,⟨inferInstance⟩⟩,⟨13,⟨inferInstance⟩⟩,⟨14,⟨inferInstance⟩⟩,⟨18,⟨inferInstance⟩⟩,⟨19,⟨inferInstance⟩⟩,⟨24,⟨inferInstance⟩⟩,⟨25,⟨inferInstance⟩⟩,⟨26,⟨inferInstance⟩⟩,⟨27,⟨inferInstance⟩⟩,⟨49,⟨inferInstance⟩⟩,⟨50,⟨inferInstance⟩⟩,⟨52,⟨inferInstance⟩⟩,⟨53,⟨inferInstance⟩⟩,⟨60,⟨inferInstance⟩⟩,⟨61,⟨inferInstance⟩⟩,⟨76,⟨inferInstance⟩⟩,⟨77,⟨inferInstance⟩⟩,⟨78,⟨inferInstance⟩⟩,⟨79,⟨inferInstance⟩⟩,⟨80,⟨inferInstance⟩⟩,⟨81,⟨inferInstance⟩⟩,⟨82,⟨inferInstance⟩⟩,⟨83,⟨inferInstance⟩⟩,⟨84,⟨inferInstance⟩⟩,⟨85,⟨inferInstance⟩⟩,⟨108,⟨inferInstance⟩⟩,⟨109,⟨inferInstance⟩⟩,⟨162,⟨inferInstance⟩⟩,⟨163,⟨inferInstance⟩⟩,⟨165,⟨inferInstance⟩⟩,⟨166,⟨inferInstance⟩⟩,⟨174,⟨inferInstance⟩⟩,⟨175,⟨inferInstance⟩⟩]
def qvm:List (Sigma (EqE Tryz.prog)):=[⟨7,EqE.mk' T7 rfl (by kernel_rfl) (by kernel_rfl)⟩,
 ⟨8,EqE.mk' T8 rfl (by kernel_rfl) (by kernel_rfl)⟩,
 ⟨24,EqE.mk' T24 rfl (by kernel_rfl) (by kernel_rfl)⟩,
 ⟨25,EqE.mk' T25 rfl (by kernel_rfl) (by kernel_rfl)⟩,
 ⟨76,EqE.mk' T76 rfl (by kernel_rfl) (by kernel_rfl)⟩,
 ⟨77,EqE.mk' T77 rfl (by kernel_rfl) (by kernel_rfl)⟩,
 ⟨78,EqE.mk' T78 rfl (by kernel_rfl) (by kernel_rfl)⟩,
 ⟨79,EqE.mk' T79 rfl (by kernel_rfl) (by kernel_rfl)⟩,
 ⟨80,EqE.mk' T80 rfl (by kernel_rfl) (by kernel_rfl)⟩,
 ⟨81,EqE.mk' T81 rfl (by kernel_rfl) (by kernel_rfl)⟩,
 ⟨82,EqE.mk' T82 rfl (by kernel_rfl) (by kernel_rfl)⟩,
 ⟨83,EqE.mk' T83 rfl (by kernel_rfl) (by kernel_rfl)⟩]
def qvn:List (Sigma fun t=>PLift (FuncTy Tryz.prog t)):=[⟨1,⟨FuncTy.mk' (by kernel_rfl)⟩⟩,⟨29,⟨FuncTy.mk' (by kernel_rfl)⟩⟩,⟨30,⟨FuncTy.mk' (by kernel_rfl)⟩⟩,⟨32,⟨FuncTy.mk' (by kernel_rfl)⟩⟩,⟨33,⟨FuncTy.mk' (by kernel_rfl)⟩⟩,⟨34,⟨FuncTy.mk' (by kernel_rfl)⟩⟩,⟨35,⟨FuncTy.mk' (by kernel_rfl)⟩⟩,⟨37,⟨FuncTy.mk' (by kernel_rfl)⟩⟩,⟨39,⟨FuncTy.mk' (by kernel_rfl)⟩⟩,⟨40,⟨FuncTy.mk' (by kernel_rfl)⟩⟩,⟨41,⟨FuncTy.mk' (by kernel_rfl)⟩⟩,⟨42,⟨FuncTy.mk' (by kernel_rfl)⟩⟩,⟨43,⟨FuncTy.mk' (by kernel_rfl)⟩⟩,⟨45,⟨FuncTy.mk' (by kernel_rfl)⟩⟩,⟨46,⟨FuncTy.mk' (by kernel_rfl)⟩⟩,⟨56,⟨FuncTy.mk' (by kernel_rfl)⟩⟩,⟨58,⟨FuncTy.mk' (by kernel_rfl)⟩⟩,⟨62,⟨FuncTy.mk' (by kernel_rfl)⟩⟩,⟨63,⟨FuncTy.mk' (by kernel_rfl)⟩⟩,⟨64,⟨FuncTy.mk' (by kernel_rfl)⟩⟩,⟨65,⟨FuncTy.mk' (by kernel_rfl)⟩⟩,⟨66,⟨FuncTy.mk' (by kernel_rfl)⟩⟩,⟨67,⟨FuncTy.mk' (by kernel_rfl)⟩⟩,⟨68,⟨FuncTy.mk' (by kernel_rfl)⟩⟩,⟨69,⟨FuncTy.mk' (by kernel_rfl)⟩⟩,⟨70,⟨FuncTy.mk' (by kernel_rfl)⟩⟩,⟨71,⟨FuncTy.mk' (by kernel_rfl)⟩⟩,⟨73,⟨FuncTy.mk' (by kernel_rfl)⟩⟩,⟨74,⟨FuncTy.mk' (by kernel_rfl)⟩⟩,⟨75,⟨FuncTy.mk' (by kernel_rfl)⟩⟩,⟨87,⟨FuncTy.mk' (by kernel_rfl)⟩⟩,⟨88,⟨FuncTy.mk' (by kernel_rfl)⟩⟩,⟨89,⟨FuncTy.mk' (by kernel_rfl)⟩⟩,⟨90,⟨FuncTy.mk' (by kernel_rfl)⟩⟩,⟨91,⟨FuncTy.mk' (by kernel_rfl)⟩⟩,⟨94,⟨FuncTy.mk' (by kernel_rfl)⟩⟩,⟨95,⟨FuncTy.mk' (by kernel_rfl)⟩⟩,⟨96,⟨FuncTy.mk' (by kernel_rfl)⟩⟩,⟨97,⟨FuncTy.mk' (by kernel_rfl)⟩⟩,⟨98,⟨FuncTy.mk' (by kernel_rfl)⟩⟩,⟨99,⟨FuncTy.mk' (by kernel_rfl)⟩⟩,⟨100,⟨FuncTy.mk' (by kernel_rfl)⟩⟩,⟨101,⟨FuncTy.mk' (by kernel_rfl)⟩⟩,⟨102,⟨FuncTy.mk' (by kernel_rfl)⟩⟩,⟨103,⟨FuncTy.mk' (by kernel_rfl)⟩⟩,⟨104,⟨FuncTy.mk' (by kernel_rfl)⟩⟩,⟨105,⟨FuncTy.mk' (by kernel_rfl)⟩⟩,⟨106,⟨FuncTy.mk' (by kernel_rfl)⟩⟩,⟨107,⟨FuncTy.mk' (by kernel_rfl)⟩⟩,⟨110,⟨FuncTy.mk' (by kernel_rfl)⟩⟩,⟨111,⟨FuncTy.mk' (by kernel_rfl)⟩⟩,⟨112,⟨FuncTy.mk' (by kernel_rfl)⟩⟩,⟨113,⟨FuncTy.mk' (by kernel_rfl)⟩⟩,⟨114,⟨FuncTy.mk' (by kernel_rfl)⟩⟩,⟨115,⟨FuncTy.mk' (by kernel_rfl)⟩⟩,⟨116,⟨FuncTy.mk' (by kernel_rfl)⟩⟩,⟨117,⟨FuncTy.mk' (by kernel_rfl)⟩⟩,⟨118,⟨FuncTy.mk' (by kernel_rfl)⟩⟩,⟨119,⟨FuncTy.mk' (by kernel_rfl)⟩⟩,⟨120,⟨FuncTy.mk' (by kernel_rfl)⟩⟩,⟨121,⟨FuncTy.mk' (by kernel_rfl)⟩⟩,⟨122,⟨FuncTy.mk' (by kernel_rfl)⟩⟩,⟨123,⟨FuncTy.mk' (by kernel_rfl)⟩⟩,⟨124,⟨FuncTy.mk' (by kernel_rfl)⟩⟩,⟨127,⟨FuncTy.mk' (by kernel_rfl)⟩⟩,⟨128,⟨FuncTy.mk' (by kernel_rfl)⟩⟩,⟨129,⟨FuncTy.mk' (by kernel_rfl)⟩⟩,⟨130,⟨FuncTy.mk' (by kernel_rfl)⟩⟩,⟨132,⟨FuncTy.mk' (by kernel_rfl)⟩⟩,⟨133,⟨FuncTy.mk' (by kernel_rfl)⟩⟩,⟨135,⟨FuncTy.mk' (by kernel_rfl)⟩⟩,⟨137,⟨FuncTy.mk' (by kernel_rfl)⟩⟩,⟨138,⟨FuncTy.mk' (by kernel_rfl)⟩⟩,⟨139,⟨FuncTy.mk' (by kernel_rfl)⟩⟩,⟨140,⟨FuncTy.mk' (by kernel_rfl)⟩⟩,⟨141,⟨FuncTy.mk' (by kernel_rfl)⟩⟩,⟨143,⟨FuncTy.mk' (by kernel_rfl)⟩⟩,⟨145,⟨FuncTy.mk' (by kernel_rfl)⟩⟩,⟨146,⟨FuncTy.mk' (by kernel_rfl)⟩⟩,⟨147,⟨FuncTy.mk' (by kernel_rfl)⟩⟩,⟨149,⟨FuncTy.mk' (by kernel_rfl)⟩⟩,⟨150,⟨FuncTy.mk' (by kernel_rfl)⟩⟩,⟨151,⟨FuncTy.mk' (by kernel_rfl)⟩⟩,⟨152,⟨FuncTy.mk' (by kernel_rfl)⟩⟩,⟨154,⟨FuncTy.mk' (by kernel_rfl)⟩⟩,⟨156,⟨FuncTy.mk' (by kernel_rfl)⟩⟩,⟨159,⟨FuncTy.mk' (by kernel_rfl)⟩⟩,⟨160,⟨FuncTy.mk' (by kernel_rfl)⟩⟩,⟨161,⟨FuncTy.mk' (by kernel_rfl)⟩⟩,⟨167,⟨FuncTy.mk' (by kernel_rfl)⟩⟩,⟨170,⟨FuncTy.mk' (by kernel_rfl)⟩⟩]
def qvo:List (Sigma (MpE Tryz.prog)):=[]
def quZ:List (Sigma fun t=>PLift (Tryz.prog.underlying t=some .string)):=[⟨9,⟨by kernel_rfl⟩⟩,⟨10,⟨by kernel_rfl⟩⟩,⟨11,⟨by kernel_rfl⟩⟩]
def tab:Tab Tryz.prog:=⟨fun t=>qim t qvg,fun t f=>qrt t f qvh,fun t=>qim t qvi,fun t=>qim t qvj,fun t=>qim t qvk,fun t=>qim t qvl,fun t=>qim t qvm,fun t=>qim t qvn,fun t=>qim t qvo,fun t=>qim t quZ,mixed⟩
set_option maxRecDepth 20000
section
def qnS(n:Nat):CL Tryz.prog:=⟨[],[],0,nof⟩
def qbS(n:Nat):Ct Tryz.prog:=mkC tab (qnS n) [] Tryz.func26 [.d T3,.d T3,.d T3] [T4] (by kernel_rfl)
def qnd(n:Nat):CL Tryz.prog:=⟨[],[],0,nof⟩
def qf2(n:Nat):Ct Tryz.prog:=mkC tab (qnd n) [] Tryz.func50 [.d T25,.d T3,.d T3] [T4] (by kernel_rfl)
def qjU(n:Nat):CL Tryz.prog:=⟨[],[],0,nof⟩
def qg8(n:Nat):Ct Tryz.prog:=mkC tab (qjU n) [] Tryz.func19 [.d T3,.d T3,.d T3] [T4] (by kernel_rfl)
def qjV(n:Nat):CL Tryz.prog:=⟨[],[],0,nof⟩
def qg9(n:Nat):Ct Tryz.prog:=mkC tab (qjV n) [] Tryz.func31 [.d T25,.d T3,.d T3] [T4] (by kernel_rfl)
def qk3(n:Nat):CL Tryz.prog:=⟨[],[],0,nof⟩
def qfV(n:Nat):Ct Tryz.prog:=mkC tab (qk3 n) [] Tryz.func24 [.d T3,.d T3] [T25] (by kernel_rfl)
def qjn(n:Nat):CL Tryz.prog:=⟨[qfV n],[],0,nof⟩
def qgL(n:Nat):Ct Tryz.prog:=mkC tab (qjn n) [] Tryz.func20 [] [T53,T54] (by kernel_rfl)
def qgj(n:Nat):CL Tryz.prog:=⟨[],[],0,nof⟩
def qja(n:Nat):LK Tryz.prog false:=mkL tab (qgj n) [] Tryz.f16 [true,true,false,true,false,false] 0 n [.v (.t 0) T23,.v (.t 1) T23,.v (.t 5) T3] [(.exit 0,[]),(.ret,[.v (.t 4) T4])] (by kernel_rfl)
def qgC(n:Nat):Ct Tryz.prog:=mkC tab (qgj n) [qja n] Tryz.func16 [.d T23,.d T23] [T4] (by kernel_rfl)
def qh1(n:Nat):CL Tryz.prog:=⟨[],[],0,nof⟩
def qom(n:Nat):LK Tryz.prog false:=mkL tab (qh1 n) [] Tryz.f44 [true,false,true,false,false,true,true,false,false,true,true,false,false] 1 n [.v (.t 0) T54,.v (.t 1) T3,.v (.t 2) T3,.v (.t 12) T54,.v (.t 13) T3,.v (.t 14) T3,.v (.t 21) T54,.v (.t 22) T3,.v (.t 23) T3,.obj (.t 8) false 83 3,.v (.c 0 0) T83] [(.exit 2,[.v (.t 0) T54,.v (.t 1) T3,.v (.t 2) T3,.v (.t 12) T54,.v (.t 13) T3,.v (.t 14) T3]),(.ret,[.v (.t 6) T4])] (by kernel_rfl)
def qon(n:Nat):LK Tryz.prog false:=mkL tab (qh1 n) [qom n] Tryz.f44 [true,false,true,false,false] 0 n [.v (.t 0) T54,.v (.t 1) T3,.v (.t 2) T3,.v (.t 12) T54,.v (.t 13) T3,.v (.t 14) T3] [(.exit 0,[]),(.ret,[.v (.t 6) T4])] (by kernel_rfl)
def qo7(n:Nat):Ct Tryz.prog:=mkC tab (qh1 n) [qon n] Tryz.func44 [.d T54,.d T3,.d T3] [T4] (by kernel_rfl)
def qne(n:Nat):CL Tryz.prog:=⟨[],[],0,nof⟩
def qhv(n:Nat):Ct Tryz.prog:=mkC tab (qne n) [] Tryz.func86 [.d T3] [T4] (by kernel_rfl)
def qnT(n:Nat):CL Tryz.prog:=⟨[qhv n],[],0,nof⟩
def qh2(n:Nat):Ct Tryz.prog:=mkC tab (qnT n) [] Tryz.func96 [.d T3,.d T3] [T4] (by kernel_rfl)
def qlS(n:Nat):CL Tryz.prog:=⟨[qhv n],[],0,nof⟩
def qe8(n:Nat):Ct Tryz.prog:=mkC tab (qlS n) [] Tryz.func65 [.d T3,.d T3] [T3] (by kernel_rfl)
def qha(n:Nat):CL Tryz.prog:=⟨[qe8 n],[],0,nof⟩
def qkl(n:Nat):LK Tryz.prog false:=mkL tab (qha n) [] Tryz.f56 [true,false,true,false,false] 0 n [.v (.t 0) T23,.v (.t 1) T23,.v (.t 9) T23,.v (.t 10) T3,.v (.t 11) T3] [(.exit 0,[.v (.t 0) T23,.v (.t 1) T23]),(.ret,[.v (.t 4) T3])] (by kernel_rfl)
def qk4(n:Nat):Ct Tryz.prog:=mkC tab (qha n) [qkl n] Tryz.func56 [.d T23,.d T23] [T3] (by kernel_rfl)
def qhK(n:Nat):CL Tryz.prog:=⟨[],[],0,nof⟩
def qlh(n:Nat):LK Tryz.prog false:=mkL tab (qhK n) [] Tryz.f54 [true,false,true,false,false] 0 n [.v (.t 1) T3,.v (.t 7) T23,.v (.t 8) T3,.v (.t 9) T3,.row (.t 4) false T3 3] [(.exit 0,[.row (.t 4) false T3 3])] (by kernel_rfl)
def qlT(n:Nat):Ct Tryz.prog:=mkC tab (qhK n) [qlh n] Tryz.func54 [.d T23,.d T3] [T23] (by kernel_rfl)
def qgD(n:Nat):CL Tryz.prog:=⟨[],[],0,nof⟩
def qjo(n:Nat):LK Tryz.prog false:=mkL tab (qgD n) [] Tryz.f45 [true,false,true,false,false] 0 n [.v (.t 1) T3,.v (.t 7) T54,.v (.t 8) T3,.v (.t 9) T3,.row (.t 4) false T83 83] [(.exit 0,[.row (.t 4) false T83 83])] (by kernel_rfl)
def qjW(n:Nat):Ct Tryz.prog:=mkC tab (qgD n) [qjo n] Tryz.func45 [.d T54,.d T3] [T54] (by kernel_rfl)
end
section
def qjX(n:Nat):CL Tryz.prog:=⟨[qbS n,qf2 n],[],0,nof⟩
def qdX(n:Nat):Cw Tryz.prog:=mkW tab (qjX n) [] Tryz.func59 [.v (.t 0) T83,.obj (.t 1) true 3 1,.v (.c 0 0) T3] 2 [[.v (.t 0) T4,.obj (.t 1) true 3 1,.v (.c 0 0) T3]] (by kernel_rfl)
def qfg(n:Nat):CL Tryz.prog:=⟨[],[qdX n],0,nof⟩
def qc6(n:Nat):Cw Tryz.prog:=mkW tab (qfg n) [] Tryz.func77 [.v (.t 0) T83,.obj (.t 1) true 105 1,.fnc (.c 0 0) 59 [.box true 3 1],.v (.c 1 0) T3] 2 [[.v (.t 0) T4,.obj (.t 1) true 105 1,.fnc (.c 0 0) 59 [.box true 3 1],.v (.c 1 0) T3]] (by kernel_rfl)
def qbk(n:Nat):CL Tryz.prog:=⟨[],[qdX n,qc6 n],0,nof⟩
def qcx(n:Nat):LK Tryz.prog false:=mkL tab (qbk n) [] Tryz.f103 [true,false,true,false,false] 0 n [.v (.t 0) T54,.v (.t 7) T3,.v (.t 8) T3,.fnc (.t 1) 77 [.box true 105 1],.fnc (.c 0 0) 59 [.box true 3 1],.v (.c 1 0) T3] [(.exit 0,[.fnc (.t 1) 77 [.box true 105 1],.fnc (.c 0 0) 59 [.box true 3 1],.v (.c 1 0) T3]),(.ret,[.v (.t 4) T3,.fnc (.t 1) 77 [.box true 105 1],.fnc (.c 0 0) 59 [.box true 3 1],.v (.c 1 0) T3])] (by kernel_rfl)
def qcD(n:Nat):Cw Tryz.prog:=mkW tab (qbk n) [qcx n] Tryz.func103 [.v (.t 0) T54,.fnc (.t 1) 77 [.box true 105 1],.fnc (.c 0 0) 59 [.box true 3 1],.v (.c 1 0) T3] 2 [[.v (.t 0) T3,.obj (.t 1) true 105 1,.fnc (.c 0 0) 59 [.box true 3 1],.v (.c 1 0) T3]] (by kernel_rfl)
def qcm(n:Nat):CL Tryz.prog:=⟨[],[qdX n,qc6 n,qcD n],0,nof⟩
def qcq(n:Nat):Cw Tryz.prog:=mkW tab (qcm n) [] Tryz.func76 [.v (.t 0) T54,.fnc (.t 1) 77 [.box true 105 1],.fnc (.c 0 0) 59 [.box true 3 1],.v (.c 1 0) T3] 2 [[.v (.t 0) T4,.obj (.t 1) true 105 1,.fnc (.c 0 0) 59 [.box true 3 1],.v (.c 1 0) T3]] (by kernel_rfl)
def qfD(n:Nat):CL Tryz.prog:=⟨[],[qdX n,qcq n],0,nof⟩
def qfL(n:Nat):Cw Tryz.prog:=mkW tab (qfD n) [] Tryz.func60 [.v (.t 0) T54,.fnc (.t 1) 59 [.box true 3 1],.v (.c 0 0) T3] 2 [[.v (.t 0) T4,.obj (.t 1) true 3 1,.v (.c 0 0) T3]] (by kernel_rfl)
def qli(n:Nat):CL Tryz.prog:=⟨[],[qfL n],0,nof⟩
def qlU(n:Nat):Ct Tryz.prog:=mkC tab (qli n) [] Tryz.func42 [.d T54,.d T4] [T28] (by kernel_rfl)
def qnf(n:Nat):CL Tryz.prog:=⟨[qo7 n,qjW n],[],0,nof⟩
def qnU(n:Nat):Cw Tryz.prog:=mkW tab (qnf n) [] Tryz.func43 [.v (.t 0) T3,.obj (.t 1) true 54 1,.v (.c 0 0) T54,.obj (.t 2) true 3 1,.v (.c 1 0) T3,.obj (.t 3) true 3 1,.v (.c 2 0) T3] 4 [[.v (.t 0) T4,.obj (.t 1) true 54 1,.v (.c 0 0) T54,.obj (.t 2) true 3 1,.v (.c 1 0) T3,.obj (.t 3) true 3 1,.v (.c 2 0) T3]] (by kernel_rfl)
def qdp(n:Nat):CL Tryz.prog:=⟨[qlT n,qk4 n],[qnU n],0,nof⟩
def qhF(n:Nat):LK Tryz.prog false:=mkL tab (qdp n) [] Tryz.f35 [true,true,false,true,false,false] 0 n [.v (.t 0) T3,.v (.t 15) T3,.v (.t 16) T3,.fnc (.t 1) 43 [.box true 54 1,.box true 3 1,.box true 3 1],.v (.c 0 0) T54,.v (.c 1 0) T3,.v (.c 2 0) T3,.row (.t 6) false T3 3] [(.exit 0,[.v (.t 0) T3,.fnc (.t 1) 43 [.box true 54 1,.box true 3 1,.box true 3 1],.v (.c 0 0) T54,.v (.c 1 0) T3,.v (.c 2 0) T3,.row (.t 6) false T3 3])] (by kernel_rfl)
def qhG(n:Nat):LK Tryz.prog false:=mkL tab (qdp n) [] Tryz.f35 [true,true,true,true,true,false,true,false,false] 1 n [.v (.t 6) T23,.v (.t 8) T23,.v (.t 9) T4,.v (.t 25) T3,.v (.t 26) T3,.fnc (.t 1) 43 [.box true 54 1,.box true 3 1,.box true 3 1],.v (.c 0 0) T54,.v (.c 1 0) T3,.v (.c 2 0) T3] [(.exit 2,[.v (.t 8) T23,.v (.t 9) T4,.fnc (.t 1) 43 [.box true 54 1,.box true 3 1,.box true 3 1],.v (.c 0 0) T54,.v (.c 1 0) T3,.v (.c 2 0) T3])] (by kernel_rfl)
def qh3(n:Nat):Cw Tryz.prog:=mkW tab (qdp n) [qhF n,qhG n] Tryz.func35 [.v (.t 0) T3,.fnc (.t 1) 43 [.box true 54 1,.box true 3 1,.box true 3 1],.v (.c 0 0) T54,.v (.c 1 0) T3,.v (.c 2 0) T3] 2 [[.v (.t 0) T23,.v (.t 1) T4,.obj (.t 2) true 54 1,.obj (.t 3) true 3 1,.obj (.t 4) true 3 1,.v (.c 0 0) T54,.v (.c 1 0) T3,.v (.c 2 0) T3]] (by kernel_rfl)
def qo8(n:Nat):CL Tryz.prog:=⟨[qbS n,qlU n],[qh3 n],0,nof⟩
def qlV(n:Nat):Ct Tryz.prog:=mkC tab (qo8 n) [] Tryz.func22 [.d T54,.d T3,.d T3] [T23,T28] (by kernel_rfl)
end
section
def qhL(n:Nat):CL Tryz.prog:=⟨[],[],0,nof⟩
def qlj(n:Nat):LK Tryz.prog false:=mkL tab (qhL n) [] Tryz.f58 [true,true,false,true,false,false] 0 n [.v (.t 7) T3,.v (.t 8) T3,.v (.t 21) T48,.v (.t 22) T3,.v (.t 23) T3] [(.exit 0,[.v (.t 8) T3])] (by kernel_rfl)
def qlW(n:Nat):Ct Tryz.prog:=mkC tab (qhL n) [qlj n] Tryz.func58 [.d T85,.d T3,.d T3] [T3] (by kernel_rfl)
def qhb(n:Nat):CL Tryz.prog:=⟨[qlW n],[],0,nof⟩
def qkm(n:Nat):LK Tryz.prog false:=mkL tab (qhb n) [] Tryz.f41 [true,false,true,false,false] 0 n [.v (.t 2) T3,.v (.t 10) T59,.v (.t 11) T3,.v (.t 12) T3,.obj (.t 3) false 85 4,.v (.c 0 0) T85,.obj (.t 6) false 25 2,.v (.c 1 0) T25] [(.exit 0,[.obj (.t 6) false 25 2,.v (.c 0 0) T25])] (by kernel_rfl)
def qhw(n:Nat):Ct Tryz.prog:=mkC tab (qhb n) [qkm n] Tryz.func41 [.d T85,.d T61,.d T3] [T25] (by kernel_rfl)
def qjb(n:Nat):CL Tryz.prog:=⟨[qbS n],[],0,nof⟩
def qng(n:Nat):LK Tryz.prog false:=mkL tab (qjb n) [] Tryz.f74 [true,true,false,true,false,false] 0 n [.v (.t 3) T3,.v (.t 4) T3,.v (.t 8) T48,.v (.t 9) T3,.v (.t 10) T3,.obj (.t 1) false 50 4,.v (.c 0 0) T50] [(.exit 0,[.obj (.t 1) false 50 4,.v (.c 0 0) T50]),(.ret,[.v (.t 2) T4])] (by kernel_rfl)
def qjN(n:Nat):Ct Tryz.prog:=mkC tab (qjb n) [qng n] Tryz.func74 [.d T50] [T4] (by kernel_rfl)
def qlX(n:Nat):CL Tryz.prog:=⟨[qbS n,qf2 n],[],0,nof⟩
def qe9(n:Nat):Cw Tryz.prog:=mkW tab (qlX n) [] Tryz.func102 [.v (.t 0) T79,.obj (.t 1) true 3 1,.v (.c 0 0) T3] 2 [[.v (.t 0) T4,.obj (.t 1) true 3 1,.v (.c 0 0) T3]] (by kernel_rfl)
def qfW(n:Nat):CL Tryz.prog:=⟨[],[qe9 n],0,nof⟩
def qdF(n:Nat):Cw Tryz.prog:=mkW tab (qfW n) [] Tryz.func119 [.v (.t 0) T79,.obj (.t 1) true 138 1,.fnc (.c 0 0) 102 [.box true 3 1],.v (.c 1 0) T3] 2 [[.v (.t 0) T4,.obj (.t 1) true 138 1,.fnc (.c 0 0) 102 [.box true 3 1],.v (.c 1 0) T3]] (by kernel_rfl)
def qbv(n:Nat):CL Tryz.prog:=⟨[],[qe9 n,qdF n],0,nof⟩
def qcQ(n:Nat):LK Tryz.prog false:=mkL tab (qbv n) [] Tryz.f127 [true,false,true,false,false] 0 n [.v (.t 0) T59,.v (.t 7) T3,.v (.t 8) T3,.fnc (.t 1) 119 [.box true 138 1],.fnc (.c 0 0) 102 [.box true 3 1],.v (.c 1 0) T3] [(.exit 0,[.fnc (.t 1) 119 [.box true 138 1],.fnc (.c 0 0) 102 [.box true 3 1],.v (.c 1 0) T3]),(.ret,[.v (.t 4) T3,.fnc (.t 1) 119 [.box true 138 1],.fnc (.c 0 0) 102 [.box true 3 1],.v (.c 1 0) T3])] (by kernel_rfl)
def qcY(n:Nat):Cw Tryz.prog:=mkW tab (qbv n) [qcQ n] Tryz.func127 [.v (.t 0) T59,.fnc (.t 1) 119 [.box true 138 1],.fnc (.c 0 0) 102 [.box true 3 1],.v (.c 1 0) T3] 2 [[.v (.t 0) T3,.obj (.t 1) true 138 1,.fnc (.c 0 0) 102 [.box true 3 1],.v (.c 1 0) T3]] (by kernel_rfl)
def qcE(n:Nat):CL Tryz.prog:=⟨[],[qe9 n,qdF n,qcY n],0,nof⟩
def qcH(n:Nat):Cw Tryz.prog:=mkW tab (qcE n) [] Tryz.func118 [.v (.t 0) T59,.fnc (.t 1) 119 [.box true 138 1],.fnc (.c 0 0) 102 [.box true 3 1],.v (.c 1 0) T3] 2 [[.v (.t 0) T4,.obj (.t 1) true 138 1,.fnc (.c 0 0) 102 [.box true 3 1],.v (.c 1 0) T3]] (by kernel_rfl)
def qgk(n:Nat):CL Tryz.prog:=⟨[],[qe9 n,qcH n],0,nof⟩
def qgz(n:Nat):Cw Tryz.prog:=mkW tab (qgk n) [] Tryz.func101 [.v (.t 0) T59,.fnc (.t 1) 102 [.box true 3 1],.v (.c 0 0) T3] 2 [[.v (.t 0) T4,.obj (.t 1) true 3 1,.v (.c 0 0) T3]] (by kernel_rfl)
def qnV(n:Nat):CL Tryz.prog:=⟨[qbS n],[qgz n],0,nof⟩
def qfh(n:Nat):Ct Tryz.prog:=mkC tab (qnV n) [] Tryz.func75 [.d T61] [T4] (by kernel_rfl)
def qo9(n:Nat):CL Tryz.prog:=⟨[qjN n,qfh n],[],0,nof⟩
def qqa(n:Nat):Ct Tryz.prog:=mkC tab (qo9 n) [] Tryz.func57 [.d T50,.d T61] [T85,T28] (by kernel_rfl)
def qqA(n:Nat):CL Tryz.prog:=⟨[qbS n,qqa n],[],0,nof⟩
def qrz(n:Nat):Ct Tryz.prog:=mkC tab (qqA n) [] Tryz.func40 [.d T50,.d T61,.d T3] [T85,T28] (by kernel_rfl)
def qnW(n:Nat):CL Tryz.prog:=⟨[qrz n,qhw n],[],0,nof⟩
def qkn(n:Nat):Ct Tryz.prog:=mkC tab (qnW n) [] Tryz.func21 [.d T50,.d T61,.d T3] [T25,T28] (by kernel_rfl)
def qlk(n:Nat):CL Tryz.prog:=⟨[],[],0,nof⟩
def qlY(n:Nat):Ct Tryz.prog:=mkC tab (qlk n) [] Tryz.func84 [.d T85,.d T61,.d T3] [T3] (by kernel_rfl)
def qlZ(n:Nat):CL Tryz.prog:=⟨[qlY n],[],0,nof⟩
def qmu(n:Nat):Ct Tryz.prog:=mkC tab (qlZ n) [] Tryz.func62 [.d T85,.d T61,.d T3,.d T3] [T4] (by kernel_rfl)
def qmv(n:Nat):CL Tryz.prog:=⟨[qbS n],[],0,nof⟩
def qfE(n:Nat):Cw Tryz.prog:=mkW tab (qmv n) [] Tryz.func78 [.v (.t 0) T81] 1 [[.v (.t 0) T4]] (by kernel_rfl)
def qmw(n:Nat):CL Tryz.prog:=⟨[qbS n],[],0,nof⟩
def qfF(n:Nat):Cw Tryz.prog:=mkW tab (qmw n) [] Tryz.func79 [.v (.t 0) T3] 1 [[.v (.t 0) T4]] (by kernel_rfl)
def qmx(n:Nat):CL Tryz.prog:=⟨[],[],0,nof⟩
def qfG(n:Nat):Cw Tryz.prog:=mkW tab (qmx n) [] Tryz.func80 [.v (.t 0) T61,.obj (.t 1) true 53 10,.v (.c 0 0) T53] 2 [[.v (.t 0) T4,.obj (.t 1) true 53 10,.v (.c 0 0) T53]] (by kernel_rfl)
def qfX(n:Nat):CL Tryz.prog:=⟨[],[qfE n],0,nof⟩
def qdG(n:Nat):Cw Tryz.prog:=mkW tab (qfX n) [] Tryz.func107 [.v (.t 0) T81,.obj (.t 1) true 117 1,.fnc (.c 0 0) 78 []] 2 [[.v (.t 0) T4,.obj (.t 1) true 117 1,.fnc (.c 0 0) 78 []]] (by kernel_rfl)
def qbo(n:Nat):CL Tryz.prog:=⟨[],[qfE n,qdG n],0,nof⟩
def qcL(n:Nat):LK Tryz.prog false:=mkL tab (qbo n) [] Tryz.f121 [true,false,true,false,false] 0 n [.v (.t 0) T47,.v (.t 7) T3,.v (.t 8) T3,.fnc (.t 1) 107 [.box true 117 1],.fnc (.c 0 0) 78 []] [(.exit 0,[.fnc (.t 1) 107 [.box true 117 1],.fnc (.c 0 0) 78 []]),(.ret,[.v (.t 4) T3,.fnc (.t 1) 107 [.box true 117 1],.fnc (.c 0 0) 78 []])] (by kernel_rfl)
def qcR(n:Nat):Cw Tryz.prog:=mkW tab (qbo n) [qcL n] Tryz.func121 [.v (.t 0) T47,.fnc (.t 1) 107 [.box true 117 1],.fnc (.c 0 0) 78 []] 2 [[.v (.t 0) T3,.obj (.t 1) true 117 1,.fnc (.c 0 0) 78 []]] (by kernel_rfl)
def qcy(n:Nat):CL Tryz.prog:=⟨[],[qfE n,qdG n,qcR n],0,nof⟩
def qcF(n:Nat):Cw Tryz.prog:=mkW tab (qcy n) [] Tryz.func106 [.v (.t 0) T47,.fnc (.t 1) 107 [.box true 117 1],.fnc (.c 0 0) 78 []] 2 [[.v (.t 0) T4,.obj (.t 1) true 117 1,.fnc (.c 0 0) 78 []]] (by kernel_rfl)
def qgl(n:Nat):CL Tryz.prog:=⟨[],[qfE n,qcF n],0,nof⟩
def qgA(n:Nat):Cw Tryz.prog:=mkW tab (qgl n) [] Tryz.func82 [.v (.t 0) T47,.fn (.t 1) 78 [] []] 2 [[.v (.t 0) T4]] (by kernel_rfl)
def qgM(n:Nat):CL Tryz.prog:=⟨[],[qfF n],0,nof⟩
def qej(n:Nat):Cw Tryz.prog:=mkW tab (qgM n) [] Tryz.func109 [.v (.t 0) T3,.obj (.t 1) true 74 1,.fnc (.c 0 0) 79 []] 2 [[.v (.t 0) T4,.obj (.t 1) true 74 1,.fnc (.c 0 0) 79 []]] (by kernel_rfl)
def qbY(n:Nat):CL Tryz.prog:=⟨[],[qfF n,qej n],0,nof⟩
def qdN(n:Nat):LK Tryz.prog false:=mkL tab (qbY n) [] Tryz.f122 [true,false,true,false,false] 0 n [.v (.t 0) T23,.v (.t 7) T3,.v (.t 8) T3,.fnc (.t 1) 109 [.box true 74 1],.fnc (.c 0 0) 79 []] [(.exit 0,[.fnc (.t 1) 109 [.box true 74 1],.fnc (.c 0 0) 79 []]),(.ret,[.v (.t 4) T3,.fnc (.t 1) 109 [.box true 74 1],.fnc (.c 0 0) 79 []])] (by kernel_rfl)
def qdS(n:Nat):Cw Tryz.prog:=mkW tab (qbY n) [qdN n] Tryz.func122 [.v (.t 0) T23,.fnc (.t 1) 109 [.box true 74 1],.fnc (.c 0 0) 79 []] 2 [[.v (.t 0) T3,.obj (.t 1) true 74 1,.fnc (.c 0 0) 79 []]] (by kernel_rfl)
def qdw(n:Nat):CL Tryz.prog:=⟨[],[qfF n,qej n,qdS n],0,nof⟩
def qdB(n:Nat):Cw Tryz.prog:=mkW tab (qdw n) [] Tryz.func108 [.v (.t 0) T23,.fnc (.t 1) 109 [.box true 74 1],.fnc (.c 0 0) 79 []] 2 [[.v (.t 0) T4,.obj (.t 1) true 74 1,.fnc (.c 0 0) 79 []]] (by kernel_rfl)
def qhi(n:Nat):CL Tryz.prog:=⟨[],[qfF n,qdB n],0,nof⟩
def qhx(n:Nat):Cw Tryz.prog:=mkW tab (qhi n) [] Tryz.func83 [.v (.t 0) T23,.fn (.t 1) 79 [] []] 2 [[.v (.t 0) T4]] (by kernel_rfl)
def qf9(n:Nat):CL Tryz.prog:=⟨[],[qfG n],0,nof⟩
def qck(n:Nat):Cw Tryz.prog:=mkW tab (qf9 n) [] Tryz.func105 [.v (.t 0) T61,.obj (.t 1) true 116 1,.fnc (.c 0 0) 80 [.box true 53 10],.v (.c 1 0) T53] 2 [[.v (.t 0) T4,.obj (.t 1) true 116 1,.fnc (.c 0 0) 80 [.box true 53 10],.v (.c 1 0) T53]] (by kernel_rfl)
def qbw(n:Nat):CL Tryz.prog:=⟨[],[qfG n,qck n],0,nof⟩
def qcZ(n:Nat):LK Tryz.prog false:=mkL tab (qbw n) [] Tryz.f120 [true,false,true,false,false] 0 n [.v (.t 0) T51,.v (.t 7) T3,.v (.t 8) T3,.fnc (.t 1) 105 [.box true 116 1],.fnc (.c 0 0) 80 [.box true 53 10],.v (.c 1 0) T53] [(.exit 0,[.fnc (.t 1) 105 [.box true 116 1],.fnc (.c 0 0) 80 [.box true 53 10],.v (.c 1 0) T53]),(.ret,[.v (.t 4) T3,.fnc (.t 1) 105 [.box true 116 1],.fnc (.c 0 0) 80 [.box true 53 10],.v (.c 1 0) T53])] (by kernel_rfl)
def qc7(n:Nat):Cw Tryz.prog:=mkW tab (qbw n) [qcZ n] Tryz.func120 [.v (.t 0) T51,.fnc (.t 1) 105 [.box true 116 1],.fnc (.c 0 0) 80 [.box true 53 10],.v (.c 1 0) T53] 2 [[.v (.t 0) T3,.obj (.t 1) true 116 1,.fnc (.c 0 0) 80 [.box true 53 10],.v (.c 1 0) T53]] (by kernel_rfl)
def qcI(n:Nat):CL Tryz.prog:=⟨[],[qfG n,qck n,qc7 n],0,nof⟩
def qcM(n:Nat):Cw Tryz.prog:=mkW tab (qcI n) [] Tryz.func104 [.v (.t 0) T51,.fnc (.t 1) 105 [.box true 116 1],.fnc (.c 0 0) 80 [.box true 53 10],.v (.c 1 0) T53] 2 [[.v (.t 0) T4,.obj (.t 1) true 116 1,.fnc (.c 0 0) 80 [.box true 53 10],.v (.c 1 0) T53]] (by kernel_rfl)
def qgB(n:Nat):CL Tryz.prog:=⟨[],[qfG n,qcM n],0,nof⟩
def qgE(n:Nat):Cw Tryz.prog:=mkW tab (qgB n) [] Tryz.func81 [.v (.t 0) T51,.fnc (.t 1) 80 [.box true 53 10],.v (.c 0 0) T53] 2 [[.v (.t 0) T4,.obj (.t 1) true 53 10,.v (.c 0 0) T53]] (by kernel_rfl)
def qgm(n:Nat):CL Tryz.prog:=⟨[qfh n],[],0,nof⟩
def qdY(n:Nat):Cw Tryz.prog:=mkW tab (qgm n) [] Tryz.func105 [.v (.t 0) T61,.obj (.t 1) true 116 1,.fnc (.c 0 0) 75 []] 2 [[.v (.t 0) T4,.obj (.t 1) true 116 1,.fnc (.c 0 0) 75 []]] (by kernel_rfl)
def qbF(n:Nat):CL Tryz.prog:=⟨[qfh n],[qdY n],0,nof⟩
def qc8(n:Nat):LK Tryz.prog false:=mkL tab (qbF n) [] Tryz.f120 [true,false,true,false,false] 0 n [.v (.t 0) T51,.v (.t 7) T3,.v (.t 8) T3,.fnc (.t 1) 105 [.box true 116 1],.fnc (.c 0 0) 75 []] [(.exit 0,[.fnc (.t 1) 105 [.box true 116 1],.fnc (.c 0 0) 75 []]),(.ret,[.v (.t 4) T3,.fnc (.t 1) 105 [.box true 116 1],.fnc (.c 0 0) 75 []])] (by kernel_rfl)
def qdd(n:Nat):Cw Tryz.prog:=mkW tab (qbF n) [qc8 n] Tryz.func120 [.v (.t 0) T51,.fnc (.t 1) 105 [.box true 116 1],.fnc (.c 0 0) 75 []] 2 [[.v (.t 0) T3,.obj (.t 1) true 116 1,.fnc (.c 0 0) 75 []]] (by kernel_rfl)
def qcN(n:Nat):CL Tryz.prog:=⟨[qfh n],[qck n,qdY n,qdd n],0,nof⟩
def qcS(n:Nat):Cw Tryz.prog:=mkW tab (qcN n) [] Tryz.func104 [.v (.t 0) T51,.fnc (.t 1) 105 [.box true 116 1],.fnc (.c 0 0) 75 []] 2 [[.v (.t 0) T4,.obj (.t 1) true 116 1,.fnc (.c 0 0) 75 []]] (by kernel_rfl)
def qgF(n:Nat):CL Tryz.prog:=⟨[qfh n],[qcS n],0,nof⟩
def qgN(n:Nat):Cw Tryz.prog:=mkW tab (qgF n) [] Tryz.func81 [.v (.t 0) T51,.fn (.t 1) 75 [] []] 2 [[.v (.t 0) T4]] (by kernel_rfl)
def qoo(n:Nat):CL Tryz.prog:=⟨[qbS n,qjN n],[qgE n,qgN n,qgA n,qhx n],0,nof⟩
def qpa(n:Nat):Ct Tryz.prog:=mkC tab (qoo n) [] Tryz.func61 [.d T53] [T28] (by kernel_rfl)
end
end
end Go.Proofs.YtbdockhccdkdiaaGreat
