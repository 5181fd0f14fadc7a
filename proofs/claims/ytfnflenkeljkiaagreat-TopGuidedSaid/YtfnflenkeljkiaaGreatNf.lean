/- Texts DnT, DnR, DnU, DnV in one. -/
import Derived.Test.YtfnflenkeljkiaaGreatNd
import Derived.Test.YtfnflenkeljkiaaGreatTy
/- The table of the types. -/
set_option linter.constructorNameAsVariable false
set_option linter.unusedSimpArgs false
set_option linter.unusedVariables false
set_option linter.unusedSectionVars false
namespace Go.Proofs.YtfnflenkeljkiaaGreat
open Go Go.Proofs Go.RowKit
noncomputable section
abbrev T2:Ty:=.i .i64
abbrev T3:Ty:=.i .i64
abbrev T4:Ty:=.b
abbrev T6:Ty:=.i .u8
abbrev T7:Ty:=.pr T2 (.pr T3 (.pr T4 T6))
abbrev T8:Ty:=.pr T2 (.pr T3 (.pr T4 T6))
abbrev T52:Ty:=.pr T3 (.pr T3 T3)
abbrev T22:Ty:=.sl T52
abbrev T23:Ty:=.sl T3
abbrev T96:Ty:=.pr T3 T3
abbrev T24:Ty:=.sl T96
abbrev T26:Ty:=.pr T3 (.pr T3 (.pr T3 T24))
abbrev T47:Ty:=.pr T3 T3
abbrev T98:Ty:=.pr T3 (.pr T47 T47)
abbrev T60:Ty:=.sl T98
abbrev T62:Ty:=.pr T3 (.pr T3 (.pr T3 T60))
abbrev T27:Ty:=.sl T62
abbrev T29:Ty:=.pr T3 (.pr T3 (.pr T3 (.pr T22 (.pr T23 (.pr T26 T27)))))
abbrev T55:Ty:=.sl T47
abbrev T57:Ty:=.pr T3 (.pr T3 (.pr T3 (.pr T47 (.pr T47 T55))))
abbrev T30:Ty:=.sl T57
abbrev T32:Ty:=.pr T3 T30
abbrev T33:Ty:=.pr T3 (.pr T3 T3)
abbrev T34:Ty:=.pr T3 (.pr T3 T3)
abbrev T36:Ty:=.i .i64
abbrev T46:Ty:=.pr T3 T3
abbrev T48:Ty:=.pr T3 (.pr T3 T47)
abbrev T49:Ty:=.pr T3 (.pr T3 T47)
abbrev T51:Ty:=.pr T3 (.pr T3 T3)
abbrev T101:Ty:=.pr T3 T47
abbrev T67:Ty:=.sl T101
abbrev T74:Ty:=.pt (.pr (.pr (.i .i64) (.pr (.i .i64) (.pr (.i .i64) (.pr (.sl (.pr (.i .i64) (.pr (.i .i64) (.i .i64)))) (.pr (.sl (.i .i64)) (.pr (.pr (.i .i64) (.pr (.i .i64) (.pr (.i .i64) (.sl (.pr (.i .i64) (.i .i64)))))) (.sl (.pr (.i .i64) (.pr (.i .i64) (.pr (.i .i64) (.sl (.pr (.i .i64) (.pr (.pr (.i .i64) (.i .i64)) (.pr (.i .i64) (.i .i64))))))))))))))) (.sl (.i .i64)))
abbrev T86:Ty:=.pr T32 T49
abbrev T90:Ty:=.pr T23 T23
abbrev T95:Ty:=.pr T3 T3
abbrev T97:Ty:=.pr T3 (.pr T47 T47)
abbrev T100:Ty:=.pr T3 T47
abbrev T105:Ty:=.pr T26 .u
abbrev T127:Ty:=.i .u64
abbrev T142:Ty:=.i .u64
def qA5:List (Sigma (TyE Tryz.prog)):=[⟨1,⟨_,_,_,inferInstance⟩⟩,
 ⟨2,⟨_,_,_,inferInstance⟩⟩,
 ⟨3,⟨_,_,_,inferInstance⟩⟩,
 ⟨4,⟨_,_,_,inferInstance⟩⟩,
 ⟨5,⟨_,_,_,inferInstance⟩⟩,
 ⟨6,⟨_,_,_,inferInstance⟩⟩,
 ⟨7,⟨_,_,_,inferInstance⟩⟩,
 ⟨8,⟨_,_,_,inferInstance⟩⟩,
 ⟨12,⟨_,_,_,inferInstance⟩⟩,
 ⟨15,⟨_,_,_,inferInstance⟩⟩,
 ⟨16,⟨_,_,_,inferInstance⟩⟩,
 ⟨17,⟨_,_,_,inferInstance⟩⟩,
 ⟨18,⟨_,_,_,inferInstance⟩⟩,
 ⟨19,⟨_,_,_,inferInstance⟩⟩,
 ⟨20,⟨_,_,_,inferInstance⟩⟩,
 ⟨21,⟨_,_,_,inferInstance⟩⟩,
 ⟨22,⟨_,_,_,inferInstance⟩⟩,
 ⟨23,⟨_,_,_,inferInstance⟩⟩,
 ⟨24,⟨_,_,_,inferInstance⟩⟩,
 ⟨25,⟨_,_,_,inferInstance⟩⟩,
 ⟨26,⟨_,_,_,inferInstance⟩⟩,
 ⟨27,⟨_,_,_,inferInstance⟩⟩,
 ⟨28,⟨_,_,_,inferInstance⟩⟩,
 ⟨29,⟨_,_,_,inferInstance⟩⟩,
 ⟨30,⟨_,_,_,inferInstance⟩⟩,
 ⟨31,⟨_,_,_,inferInstance⟩⟩,
 ⟨32,⟨_,_,_,inferInstance⟩⟩,
 ⟨33,⟨_,_,_,inferInstance⟩⟩,
 ⟨34,⟨_,_,_,inferInstance⟩⟩,
 ⟨35,⟨_,_,_,inferInstance⟩⟩,
 ⟨36,⟨_,_,_,inferInstance⟩⟩,
 ⟨37,⟨_,_,_,inferInstance⟩⟩,
 ⟨38,⟨_,_,_,inferInstance⟩⟩,
 ⟨39,⟨_,_,_,inferInstance⟩⟩,
 ⟨40,⟨_,_,_,inferInstance⟩⟩,
 ⟨41,⟨_,_,_,inferInstance⟩⟩,
 ⟨42,⟨_,_,_,inferInstance⟩⟩,
 ⟨44,⟨_,_,_,inferInstance⟩⟩,
 ⟨45,⟨_,_,_,inferInstance⟩⟩,
 ⟨46,⟨_,_,_,inferInstance⟩⟩,
 ⟨47,⟨_,_,_,inferInstance⟩⟩,
 ⟨48,⟨_,_,_,inferInstance⟩⟩,
 ⟨49,⟨_,_,_,inferInstance⟩⟩,
 ⟨50,⟨_,_,_,inferInstance⟩⟩,
 ⟨51,⟨_,_,_,inferInstance⟩⟩,
 ⟨52,⟨_,_,_,inferInstance⟩⟩,
 ⟨54,⟨_,_,_,inferInstance⟩⟩,
 ⟨55,⟨_,_,_,inferInstance⟩⟩,
 ⟨56,⟨_,_,_,inferInstance⟩⟩,
 ⟨57,⟨_,_,_,inferInstance⟩⟩,
 ⟨58,⟨_,_,_,inferInstance⟩⟩,
 ⟨59,⟨_,_,_,inferInstance⟩⟩,
 ⟨60,⟨_,_,_,inferInstance⟩⟩,
 ⟨61,⟨_,_,_,inferInstance⟩⟩,
 ⟨62,⟨_,_,_,inferInstance⟩⟩,
 ⟨63,⟨_,_,_,inferInstance⟩⟩,
 ⟨64,⟨_,_,_,inferInstance⟩⟩,
 ⟨65,⟨_,_,_,inferInstance⟩⟩,
 ⟨66,⟨_,_,_,inferInstance⟩⟩,
 ⟨67,⟨_,_,_,inferInstance⟩⟩,
 ⟨69,⟨_,_,_,inferInstance⟩⟩,
 ⟨71,⟨_,_,_,inferInstance⟩⟩,
 ⟨73,⟨_,_,_,inferInstance⟩⟩,
 ⟨74,⟨_,_,_,inferInstance⟩⟩,
 ⟨76,⟨_,_,_,inferInstance⟩⟩,
 ⟨77,⟨_,_,_,inferInstance⟩⟩,
 ⟨78,⟨_,_,_,inferInstance⟩⟩,
 ⟨79,⟨_,_,_,inferInstance⟩⟩,
 ⟨81,⟨_,_,_,inferInstance⟩⟩,
 ⟨82,⟨_,_,_,inferInstance⟩⟩,
 ⟨83,⟨_,_,_,inferInstance⟩⟩,
 ⟨84,⟨_,_,_,inferInstance⟩⟩,
 ⟨85,⟨_,_,_,inferInstance⟩⟩,
 ⟨86,⟨_,_,_,inferInstance⟩⟩,
 ⟨88,⟨_,_,_,inferInstance⟩⟩,
 ⟨89,⟨_,_,_,inferInstance⟩⟩,
 ⟨90,⟨_,_,_,inferInstance⟩⟩,
 ⟨91,⟨_,_,_,inferInstance⟩⟩,
 ⟨92,⟨_,_,_,inferInstance⟩⟩,
 ⟨93,⟨_,_,_,inferInstance⟩⟩,
 ⟨94,⟨_,_,_,inferInstance⟩⟩,
 ⟨95,⟨_,_,_,inferInstance⟩⟩,
 ⟨96,⟨_,_,_,inferInstance⟩⟩,
 ⟨97,⟨_,_,_,inferInstance⟩⟩,
 ⟨98,⟨_,_,_,inferInstance⟩⟩,
 ⟨99,⟨_,_,_,inferInstance⟩⟩,
 ⟨100,⟨_,_,_,inferInstance⟩⟩,
 ⟨101,⟨_,_,_,inferInstance⟩⟩,
 ⟨102,⟨_,_,_,inferInstance⟩⟩,
 ⟨103,⟨_,_,_,inferInstance⟩⟩,
 ⟨104,⟨_,_,_,inferInstance⟩⟩,
 ⟨105,⟨_,_,_,inferInstance⟩⟩,
 ⟨106,⟨_,_,_,inferInstance⟩⟩,
 ⟨107,⟨_,_,_,inferInstance⟩⟩,
 ⟨108,⟨_,_,_,inferInstance⟩⟩,
 ⟨109,⟨_,_,_,inferInstance⟩⟩,
 ⟨110,⟨_,_,_,inferInstance⟩⟩,
 ⟨112,⟨_,_,_,inferInstance⟩⟩,
 ⟨113,⟨_,_,_,inferInstance⟩⟩,
 ⟨114,⟨_,_,_,inferInstance⟩⟩,
 ⟨115,⟨_,_,_,inferInstance⟩⟩,
 ⟨116,⟨_,_,_,inferInstance⟩⟩,
 ⟨117,⟨_,_,_,inferInstance⟩⟩,
 ⟨118,⟨_,_,_,inferInstance⟩⟩,
 ⟨119,⟨_,_,_,inferInstance⟩⟩,
 ⟨120,⟨_,_,_,inferInstance⟩⟩,
 ⟨121,⟨_,_,_,inferInstance⟩⟩,
 ⟨122,⟨_,_,_,inferInstance⟩⟩,
 ⟨123,⟨_,_,_,inferInstance⟩⟩,
 ⟨124,⟨_,_,_,inferInstance⟩⟩,
 ⟨125,⟨_,_,_,inferInstance⟩⟩,
 ⟨126,⟨_,_,_,inferInstance⟩⟩,
 ⟨127,⟨_,_,_,inferInstance⟩⟩,
 ⟨129,⟨_,_,_,inferInstance⟩⟩,
 ⟨130,⟨_,_,_,inferInstance⟩⟩,
 ⟨131,⟨_,_,_,inferInstance⟩⟩,
 ⟨132,⟨_,_,_,inferInstance⟩⟩,
 ⟨133,⟨_,_,_,inferInstance⟩⟩,
 ⟨134,⟨_,_,_,inferInstance⟩⟩,
 ⟨135,⟨_,_,_,inferInstance⟩⟩,
 ⟨136,⟨_,_,_,inferInstance⟩⟩,
 ⟨137,⟨_,_,_,inferInstance⟩⟩,
 ⟨138,⟨_,_,_,inferInstance⟩⟩,
 ⟨139,⟨_,_,_,inferInstance⟩⟩,
 ⟨141,⟨_,_,_,inferInstance⟩⟩,
 ⟨142,⟨_,_,_,inferInstance⟩⟩,
 ⟨144,⟨_,_,_,inferInstance⟩⟩,
 ⟨145,⟨_,_,_,inferInstance⟩⟩,
 ⟨146,⟨_,_,_,inferInstance⟩⟩,
 ⟨147,⟨_,_,_,inferInstance⟩⟩,
 ⟨148,⟨_,_,_,inferInstance⟩⟩,
 ⟨149,⟨_,_,_,inferInstance⟩⟩,
 ⟨150,⟨_,_,_,inferInstance⟩⟩,
 ⟨153,⟨_,_,_,inferInstance⟩⟩,
 ⟨154,⟨_,_,_,inferInstance⟩⟩,
 ⟨155,⟨_,_,_,inferInstance⟩⟩,
 ⟨156,⟨_,_,_,inferInstance⟩⟩,
 ⟨157,⟨_,_,_,inferInstance⟩⟩,
 ⟨158,⟨_,_,_,inferInstance⟩⟩,
 ⟨159,⟨_,_,_,inferInstance⟩⟩,
 ⟨160,⟨_,_,_,inferInstance⟩⟩,
 ⟨161,⟨_,_,_,inferInstance⟩⟩,
 ⟨162,⟨_,_,_,inferInstance⟩⟩,
 ⟨163,⟨_,_,_,inferInstance⟩⟩,
 ⟨164,⟨_,_,_,inferInstance⟩⟩,
 ⟨165,⟨_,_,_,inferInstance⟩⟩]
def qA6:List (Sigma fun t=>Sigma fun f=>FdE Tryz.prog t f):=[⟨7,0,⟨_,_,_,inferInstance⟩⟩,
 ⟨7,1,⟨_,_,_,inferInstance⟩⟩,
 ⟨7,2,⟨_,_,_,inferInstance⟩⟩,
 ⟨7,3,⟨_,_,_,inferInstance⟩⟩,
 ⟨8,0,⟨_,_,_,inferInstance⟩⟩,
 ⟨8,1,⟨_,_,_,inferInstance⟩⟩,
 ⟨8,2,⟨_,_,_,inferInstance⟩⟩,
 ⟨8,3,⟨_,_,_,inferInstance⟩⟩,
 ⟨13,0,⟨_,_,_,inferInstance⟩⟩,
 ⟨13,1,⟨_,_,_,inferInstance⟩⟩,
 ⟨14,0,⟨_,_,_,inferInstance⟩⟩,
 ⟨14,1,⟨_,_,_,inferInstance⟩⟩,
 ⟨18,0,⟨_,_,_,inferInstance⟩⟩,
 ⟨19,0,⟨_,_,_,inferInstance⟩⟩,
 ⟨25,0,⟨_,_,_,inferInstance⟩⟩,
 ⟨25,1,⟨_,_,_,inferInstance⟩⟩,
 ⟨25,2,⟨_,_,_,inferInstance⟩⟩,
 ⟨25,3,⟨_,_,_,inferInstance⟩⟩,
 ⟨26,0,⟨_,_,_,inferInstance⟩⟩,
 ⟨26,1,⟨_,_,_,inferInstance⟩⟩,
 ⟨26,2,⟨_,_,_,inferInstance⟩⟩,
 ⟨26,3,⟨_,_,_,inferInstance⟩⟩,
 ⟨28,0,⟨_,_,_,inferInstance⟩⟩,
 ⟨28,1,⟨_,_,_,inferInstance⟩⟩,
 ⟨28,2,⟨_,_,_,inferInstance⟩⟩,
 ⟨28,3,⟨_,_,_,inferInstance⟩⟩,
 ⟨28,4,⟨_,_,_,inferInstance⟩⟩,
 ⟨28,5,⟨_,_,_,inferInstance⟩⟩,
 ⟨28,6,⟨_,_,_,inferInstance⟩⟩,
 ⟨29,0,⟨_,_,_,inferInstance⟩⟩,
 ⟨29,1,⟨_,_,_,inferInstance⟩⟩,
 ⟨29,2,⟨_,_,_,inferInstance⟩⟩,
 ⟨29,3,⟨_,_,_,inferInstance⟩⟩,
 ⟨29,4,⟨_,_,_,inferInstance⟩⟩,
 ⟨29,5,⟨_,_,_,inferInstance⟩⟩,
 ⟨29,6,⟨_,_,_,inferInstance⟩⟩,
 ⟨31,0,⟨_,_,_,inferInstance⟩⟩,
 ⟨31,1,⟨_,_,_,inferInstance⟩⟩,
 ⟨32,0,⟨_,_,_,inferInstance⟩⟩,
 ⟨32,1,⟨_,_,_,inferInstance⟩⟩,
 ⟨33,0,⟨_,_,_,inferInstance⟩⟩,
 ⟨33,1,⟨_,_,_,inferInstance⟩⟩,
 ⟨33,2,⟨_,_,_,inferInstance⟩⟩,
 ⟨34,0,⟨_,_,_,inferInstance⟩⟩,
 ⟨34,1,⟨_,_,_,inferInstance⟩⟩,
 ⟨34,2,⟨_,_,_,inferInstance⟩⟩,
 ⟨46,0,⟨_,_,_,inferInstance⟩⟩,
 ⟨46,1,⟨_,_,_,inferInstance⟩⟩,
 ⟨47,0,⟨_,_,_,inferInstance⟩⟩,
 ⟨47,1,⟨_,_,_,inferInstance⟩⟩,
 ⟨48,0,⟨_,_,_,inferInstance⟩⟩,
 ⟨48,1,⟨_,_,_,inferInstance⟩⟩,
 ⟨48,2,⟨_,_,_,inferInstance⟩⟩,
 ⟨49,0,⟨_,_,_,inferInstance⟩⟩,
 ⟨49,1,⟨_,_,_,inferInstance⟩⟩,
 ⟨49,2,⟨_,_,_,inferInstance⟩⟩,
 ⟨51,0,⟨_,_,_,inferInstance⟩⟩,
 ⟨51,1,⟨_,_,_,inferInstance⟩⟩,
 ⟨51,2,⟨_,_,_,inferInstance⟩⟩,
 ⟨52,0,⟨_,_,_,inferInstance⟩⟩,
 ⟨52,1,⟨_,_,_,inferInstance⟩⟩,
 ⟨52,2,⟨_,_,_,inferInstance⟩⟩,
 ⟨56,0,⟨_,_,_,inferInstance⟩⟩,
 ⟨56,1,⟨_,_,_,inferInstance⟩⟩,
 ⟨56,2,⟨_,_,_,inferInstance⟩⟩,
 ⟨56,3,⟨_,_,_,inferInstance⟩⟩,
 ⟨56,4,⟨_,_,_,inferInstance⟩⟩,
 ⟨56,5,⟨_,_,_,inferInstance⟩⟩,
 ⟨57,0,⟨_,_,_,inferInstance⟩⟩,
 ⟨57,1,⟨_,_,_,inferInstance⟩⟩,
 ⟨57,2,⟨_,_,_,inferInstance⟩⟩,
 ⟨57,3,⟨_,_,_,inferInstance⟩⟩,
 ⟨57,4,⟨_,_,_,inferInstance⟩⟩,
 ⟨57,5,⟨_,_,_,inferInstance⟩⟩,
 ⟨61,0,⟨_,_,_,inferInstance⟩⟩,
 ⟨61,1,⟨_,_,_,inferInstance⟩⟩,
 ⟨61,2,⟨_,_,_,inferInstance⟩⟩,
 ⟨61,3,⟨_,_,_,inferInstance⟩⟩,
 ⟨62,0,⟨_,_,_,inferInstance⟩⟩,
 ⟨62,1,⟨_,_,_,inferInstance⟩⟩,
 ⟨62,2,⟨_,_,_,inferInstance⟩⟩,
 ⟨62,3,⟨_,_,_,inferInstance⟩⟩,
 ⟨85,0,⟨_,_,_,inferInstance⟩⟩,
 ⟨85,1,⟨_,_,_,inferInstance⟩⟩,
 ⟨86,0,⟨_,_,_,inferInstance⟩⟩,
 ⟨86,1,⟨_,_,_,inferInstance⟩⟩,
 ⟨89,0,⟨_,_,_,inferInstance⟩⟩,
 ⟨89,1,⟨_,_,_,inferInstance⟩⟩,
 ⟨90,0,⟨_,_,_,inferInstance⟩⟩,
 ⟨90,1,⟨_,_,_,inferInstance⟩⟩,
 ⟨95,0,⟨_,_,_,inferInstance⟩⟩,
 ⟨95,1,⟨_,_,_,inferInstance⟩⟩,
 ⟨96,0,⟨_,_,_,inferInstance⟩⟩,
 ⟨96,1,⟨_,_,_,inferInstance⟩⟩,
 ⟨97,0,⟨_,_,_,inferInstance⟩⟩,
 ⟨97,1,⟨_,_,_,inferInstance⟩⟩,
 ⟨97,2,⟨_,_,_,inferInstance⟩⟩,
 ⟨98,0,⟨_,_,_,inferInstance⟩⟩,
 ⟨98,1,⟨_,_,_,inferInstance⟩⟩,
 ⟨98,2,⟨_,_,_,inferInstance⟩⟩,
 ⟨100,0,⟨_,_,_,inferInstance⟩⟩,
 ⟨100,1,⟨_,_,_,inferInstance⟩⟩,
 ⟨101,0,⟨_,_,_,inferInstance⟩⟩,
 ⟨101,1,⟨_,_,_,inferInstance⟩⟩,
 ⟨102,0,⟨_,_,_,inferInstance⟩⟩,
 ⟨102,1,⟨_,_,_,inferInstance⟩⟩,
 ⟨103,0,⟨_,_,_,inferInstance⟩⟩,
 ⟨103,1,⟨_,_,_,inferInstance⟩⟩,
 ⟨104,0,⟨_,_,_,inferInstance⟩⟩,
 ⟨105,0,⟨_,_,_,inferInstance⟩⟩,
 ⟨151,0,⟨_,_,_,inferInstance⟩⟩,
 ⟨151,1,⟨_,_,_,inferInstance⟩⟩,
 ⟨151,2,⟨_,_,_,inferInstance⟩⟩,
 ⟨151,3,⟨_,_,_,inferInstance⟩⟩,
 ⟨152,0,⟨_,_,_,inferInstance⟩⟩,
 ⟨152,1,⟨_,_,_,inferInstance⟩⟩,
 ⟨152,2,⟨_,_,_,inferInstance⟩⟩,
 ⟨152,3,⟨_,_,_,inferInstance⟩⟩,
 ⟨163,0,⟨_,_,_,inferInstance⟩⟩,
 ⟨163,1,⟨_,_,_,inferInstance⟩⟩,
 ⟨163,2,⟨_,_,_,inferInstance⟩⟩,
 ⟨163,3,⟨_,_,_,inferInstance⟩⟩,
 ⟨163,4,⟨_,_,_,inferInstance⟩⟩,
 ⟨163,5,⟨_,_,_,inferInstance⟩⟩,
 ⟨163,6,⟨_,_,_,inferInstance⟩⟩,
 ⟨163,7,⟨_,_,_,inferInstance⟩⟩,
 ⟨163,8,⟨_,_,_,inferInstance⟩⟩,
 ⟨163,9,⟨_,_,_,inferInstance⟩⟩,
 ⟨163,10,⟨_,_,_,inferInstance⟩⟩,
 ⟨164,0,⟨_,_,_,inferInstance⟩⟩,
 ⟨164,1,⟨_,_,_,inferInstance⟩⟩,
 ⟨164,2,⟨_,_,_,inferInstance⟩⟩,
 ⟨164,3,⟨_,_,_,inferInstance⟩⟩,
 ⟨164,4,⟨_,_,_,inferInstance⟩⟩,
 ⟨164,5,⟨_,_,_,inferInstance⟩⟩,
 ⟨164,6,⟨_,_,_,inferInstance⟩⟩,
 ⟨164,7,⟨_,_,_,inferInstance⟩⟩,
 ⟨164,8,⟨_,_,_,inferInstance⟩⟩,
 ⟨164,9,⟨_,_,_,inferInstance⟩⟩,
 ⟨164,10,⟨_,_,_,inferInstance⟩⟩]
def qA7:List (Sigma (SlE Tryz.prog)):=[⟨22,SlE.mk' T52 inferInstance (by decide) (by decide) (by decide) rfl 5864062014805 rfl⟩,
 ⟨23,SlE.mk' T3 inferInstance (by decide) (by decide) (by decide) rfl 17592186044416 rfl⟩,
 ⟨24,SlE.mk' T96 inferInstance (by decide) (by decide) (by decide) rfl 8796093022208 rfl⟩,
 ⟨27,SlE.mk' T62 inferInstance (by decide) (by decide) (by decide) rfl 2932031007402 rfl⟩,
 ⟨30,SlE.mk' T57 inferInstance (by decide) (by decide) (by decide) rfl 1759218604441 rfl⟩,
 ⟨55,SlE.mk' T47 inferInstance (by decide) (by decide) (by decide) rfl 8796093022208 rfl⟩,
 ⟨60,SlE.mk' T98 inferInstance (by decide) (by decide) (by decide) rfl 3518437208883 rfl⟩,
 ⟨67,SlE.mk' T101 inferInstance (by decide) (by decide) (by decide) rfl 5864062014805 rfl⟩]
def qA8:List (Sigma fun t=>{k:IntKind // IntTy Tryz.prog t k}):=[⟨2,.i64,inferInstance⟩,⟨3,.i64,inferInstance⟩,⟨5,.u8,inferInstance⟩,⟨6,.u8,inferInstance⟩,⟨12,.u64,inferInstance⟩,⟨21,.i32,inferInstance⟩,⟨36,.i64,inferInstance⟩,⟨127,.u64,inferInstance⟩,⟨139,.u32,inferInstance⟩,⟨142,.u64,inferInstance⟩,⟨157,.u8,inferInstance⟩,⟨158,.u8,inferInstance⟩,⟨161,.i32,inferInstance⟩,⟨162,.i32,inferInstance⟩]
def qA9:List (Sigma fun t=>PLift (BoolTy Tryz.prog t)):=[⟨4,⟨inferInstance⟩⟩]
def qBa:List (Sigma fun t=>PLift (StructTy Tryz.prog t)):=[⟨7,⟨inferInstance⟩⟩,⟨8,⟨inferInstance⟩⟩,⟨13,⟨inferInstance⟩⟩,⟨14,⟨inferInstance⟩⟩,⟨18,⟨inferInstance⟩⟩,⟨19,⟨inferInstance⟩⟩,⟨25,⟨inferInstance⟩⟩,⟨26,⟨inferInstance⟩⟩,⟨28,⟨inferInstance⟩⟩,⟨29,⟨inferInstance⟩⟩,⟨31,⟨inferInstance⟩⟩,⟨32,⟨inferInstance⟩⟩,⟨33,⟨inferInstance⟩⟩,⟨34,⟨inferInstance⟩⟩,⟨46,⟨inferInstance⟩⟩,⟨47,⟨inferInstance⟩⟩,⟨48,⟨inferInstance⟩⟩,⟨49,⟨inferInstance⟩⟩,⟨51,⟨inferInstance⟩⟩,⟨52,⟨inferInstance⟩⟩,⟨56,⟨inferInstance⟩⟩,⟨57,⟨inferInstance⟩⟩,⟨61,⟨inferInstance⟩⟩,⟨62,⟨inferInstance⟩⟩,⟨85,⟨inferInstance⟩⟩,⟨86,⟨inferInstance⟩⟩,⟨89,⟨inferInstance⟩⟩,⟨90,⟨inferInstance⟩⟩,⟨95,⟨inferInstance⟩⟩,⟨96,⟨inferInstance⟩⟩,⟨97,⟨inferInstance⟩⟩,⟨98,⟨inferInstance⟩⟩,⟨100,⟨inferInstance⟩⟩,⟨101,⟨inferInstance⟩⟩,⟨102,⟨inferInstance⟩⟩,⟨103,⟨inferInstance⟩⟩,⟨104,⟨inferInstance⟩⟩,⟨105,⟨inferInstance⟩⟩,⟨151,⟨inferInstance⟩⟩,⟨152,⟨inferInstance⟩⟩,⟨154,⟨inferInstance⟩⟩,⟨155,⟨inferInstance⟩⟩,⟨163,⟨inferInstance⟩⟩,⟨164,⟨inferInstance⟩⟩]
def qBb:List (Sigma (EqE Tryz.prog)):=[⟨7,EqE.mk' T7 rfl (by kernel_rfl) (by kernel_rfl)⟩,
 ⟨8,EqE.mk' T8 rfl (by kernel_rfl) (by kernel_rfl)⟩,
 ⟨33,EqE.mk' T33 rfl (by kernel_rfl) (by kernel_rfl)⟩,
 ⟨34,EqE.mk' T34 rfl (by kernel_rfl) (by kernel_rfl)⟩,
 ⟨46,EqE.mk' T46 rfl (by kernel_rfl) (by kernel_rfl)⟩,
 ⟨47,EqE.mk' T47 rfl (by kernel_rfl) (by kernel_rfl)⟩,
 ⟨48,EqE.mk' T48 rfl (by kernel_rfl) (by kernel_rfl)⟩,
 ⟨49,EqE.mk' T49 rfl (by kernel_rfl) (by kernel_rfl)⟩,
 ⟨51,EqE.mk' T51 rfl (by kernel_rfl) (by kernel_rfl)⟩,
 ⟨52,EqE.mk' T52 rfl (by kernel_rfl) (by kernel_rfl)⟩,
 ⟨95,EqE.mk' T95 rfl (by kernel_rfl) (by kernel_rfl)⟩,
 ⟨96,EqE.mk' T96 rfl (by kernel_rfl) (by kernel_rfl)⟩,
 ⟨97,EqE.mk' T97 rfl (by kernel_rfl) (by kernel_rfl)⟩,
 ⟨98,EqE.mk' T98 rfl (by kernel_rfl) (by kernel_rfl)⟩,
 ⟨100,EqE.mk' T100 rfl (by kernel_rfl) (by kernel_rfl)⟩,
 ⟨101,EqE.mk' T101 rfl (by kernel_rfl) (by kernel_rfl)⟩]
def qBc:List (Sigma fun t=>PLift (FuncTy Tryz.prog t)):=[⟨1,⟨FuncTy.mk' (by kernel_rfl)⟩⟩,⟨35,⟨FuncTy.mk' (by kernel_rfl)⟩⟩,⟨37,⟨FuncTy.mk' (by kernel_rfl)⟩⟩,⟨38,⟨FuncTy.mk' (by kernel_rfl)⟩⟩,⟨39,⟨FuncTy.mk' (by kernel_rfl)⟩⟩,⟨40,⟨FuncTy.mk' (by kernel_rfl)⟩⟩,⟨41,⟨FuncTy.mk' (by kernel_rfl)⟩⟩,⟨42,⟨FuncTy.mk' (by kernel_rfl)⟩⟩,⟨44,⟨FuncTy.mk' (by kernel_rfl)⟩⟩,⟨45,⟨FuncTy.mk' (by kernel_rfl)⟩⟩,⟨50,⟨FuncTy.mk' (by kernel_rfl)⟩⟩,⟨54,⟨FuncTy.mk' (by kernel_rfl)⟩⟩,⟨58,⟨FuncTy.mk' (by kernel_rfl)⟩⟩,⟨59,⟨FuncTy.mk' (by kernel_rfl)⟩⟩,⟨63,⟨FuncTy.mk' (by kernel_rfl)⟩⟩,⟨64,⟨FuncTy.mk' (by kernel_rfl)⟩⟩,⟨65,⟨FuncTy.mk' (by kernel_rfl)⟩⟩,⟨66,⟨FuncTy.mk' (by kernel_rfl)⟩⟩,⟨69,⟨FuncTy.mk' (by kernel_rfl)⟩⟩,⟨71,⟨FuncTy.mk' (by kernel_rfl)⟩⟩,⟨73,⟨FuncTy.mk' (by kernel_rfl)⟩⟩,⟨76,⟨FuncTy.mk' (by kernel_rfl)⟩⟩,⟨77,⟨FuncTy.mk' (by kernel_rfl)⟩⟩,⟨78,⟨FuncTy.mk' (by kernel_rfl)⟩⟩,⟨79,⟨FuncTy.mk' (by kernel_rfl)⟩⟩,⟨81,⟨FuncTy.mk' (by kernel_rfl)⟩⟩,⟨82,⟨FuncTy.mk' (by kernel_rfl)⟩⟩,⟨83,⟨FuncTy.mk' (by kernel_rfl)⟩⟩,⟨84,⟨FuncTy.mk' (by kernel_rfl)⟩⟩,⟨88,⟨FuncTy.mk' (by kernel_rfl)⟩⟩,⟨91,⟨FuncTy.mk' (by kernel_rfl)⟩⟩,⟨92,⟨FuncTy.mk' (by kernel_rfl)⟩⟩,⟨93,⟨FuncTy.mk' (by kernel_rfl)⟩⟩,⟨94,⟨FuncTy.mk' (by kernel_rfl)⟩⟩,⟨99,⟨FuncTy.mk' (by kernel_rfl)⟩⟩,⟨106,⟨FuncTy.mk' (by kernel_rfl)⟩⟩,⟨107,⟨FuncTy.mk' (by kernel_rfl)⟩⟩,⟨108,⟨FuncTy.mk' (by kernel_rfl)⟩⟩,⟨109,⟨FuncTy.mk' (by kernel_rfl)⟩⟩,⟨110,⟨FuncTy.mk' (by kernel_rfl)⟩⟩,⟨112,⟨FuncTy.mk' (by kernel_rfl)⟩⟩,⟨113,⟨FuncTy.mk' (by kernel_rfl)⟩⟩,⟨114,⟨FuncTy.mk' (by kernel_rfl)⟩⟩,⟨115,⟨FuncTy.mk' (by kernel_rfl)⟩⟩,⟨116,⟨FuncTy.mk' (by kernel_rfl)⟩⟩,⟨117,⟨FuncTy.mk' (by kernel_rfl)⟩⟩,⟨118,⟨FuncTy.mk' (by kernel_rfl)⟩⟩,⟨119,⟨FuncTy.mk' (by kernel_rfl)⟩⟩,⟨120,⟨FuncTy.mk' (by kernel_rfl)⟩⟩,⟨121,⟨FuncTy.mk' (by kernel_rfl)⟩⟩,⟨122,⟨FuncTy.mk' (by kernel_rfl)⟩⟩,⟨123,⟨FuncTy.mk' (by kernel_rfl)⟩⟩,⟨124,⟨FuncTy.mk' (by kernel_rfl)⟩⟩,⟨125,⟨FuncTy.mk' (by kernel_rfl)⟩⟩,⟨126,⟨FuncTy.mk' (by kernel_rfl)⟩⟩,⟨129,⟨FuncTy.mk' (by kernel_rfl)⟩⟩,⟨130,⟨FuncTy.mk' (by kernel_rfl)⟩⟩,⟨131,⟨FuncTy.mk' (by kernel_rfl)⟩⟩,⟨132,⟨FuncTy.mk' (by kernel_rfl)⟩⟩,⟨133,⟨FuncTy.mk' (by kernel_rfl)⟩⟩,⟨134,⟨FuncTy.mk' (by kernel_rfl)⟩⟩,⟨135,⟨FuncTy.mk' (by kernel_rfl)⟩⟩,⟨136,⟨FuncTy.mk' (by kernel_rfl)⟩⟩,⟨137,⟨FuncTy.mk' (by kernel_rfl)⟩⟩,⟨138,⟨FuncTy.mk' (by kernel_rfl)⟩⟩,⟨141,⟨FuncTy.mk' (by kernel_rfl)⟩⟩,⟨144,⟨FuncTy.mk' (by kernel_rfl)⟩⟩,⟨145,⟨FuncTy.mk' (by kernel_rfl)⟩⟩,⟨146,⟨FuncTy.mk' (by kernel_rfl)⟩⟩,⟨147,⟨FuncTy.mk' (by kernel_rfl)⟩⟩,⟨148,⟨FuncTy.mk' (by kernel_rfl)⟩⟩,⟨149,⟨FuncTy.mk' (by kernel_rfl)⟩⟩,⟨150,⟨FuncTy.mk' (by kernel_rfl)⟩⟩,⟨156,⟨FuncTy.mk' (by kernel_rfl)⟩⟩,⟨159,⟨FuncTy.mk' (by kernel_rfl)⟩⟩]
def qBd:List (Sigma (MpE Tryz.prog)):=[]
def qAC:List (Sigma fun t=>PLift (Tryz.prog.underlying t=some .string)):=[⟨9,⟨by kernel_rfl⟩⟩,⟨10,⟨by kernel_rfl⟩⟩,⟨11,⟨by kernel_rfl⟩⟩]
def tab:Tab Tryz.prog:=⟨fun t=>qk6 t qA5,fun t f=>qwt t f qA6,fun t=>qk6 t qA7,fun t=>qk6 t qA8,fun t=>qk6 t qA9,fun t=>qk6 t qBa,fun t=>qk6 t qBb,fun t=>qk6 t qBc,fun t=>qk6 t qBd,fun t=>qk6 t qAC,mixed⟩
set_option maxRecDepth 20000
section
def qsa(n:Nat):CL Tryz.prog:=⟨[],[],0,nof⟩
def qeN(n:Nat):Ct Tryz.prog:=mkC tab (qsa n) [] Tryz.func65 [.d T3,.d T3,.d T3] [T4] (by kernel_rfl)
def qrq(n:Nat):CL Tryz.prog:=⟨[],[],0,nof⟩
def qm5(n:Nat):Ct Tryz.prog:=mkC tab (qrq n) [] Tryz.func92 [.d T47,.d T3,.d T3] [T4] (by kernel_rfl)
def qnm(n:Nat):CL Tryz.prog:=⟨[],[],0,nof⟩
def qd8(n:Nat):Ct Tryz.prog:=mkC tab (qnm n) [] Tryz.func18 [.d T3,.d T3,.d T3] [T4] (by kernel_rfl)
def qnn(n:Nat):CL Tryz.prog:=⟨[],[],0,nof⟩
def qjL(n:Nat):Ct Tryz.prog:=mkC tab (qnn n) [] Tryz.func40 [.d T47,.d T3,.d T3] [T4] (by kernel_rfl)
def qoK(n:Nat):CL Tryz.prog:=⟨[],[],0,nof⟩
def qo8(n:Nat):Ct Tryz.prog:=mkC tab (qoK n) [] Tryz.func41 [.d T3,.d T3] [T47] (by kernel_rfl)
def qmD(n:Nat):CL Tryz.prog:=⟨[qo8 n],[],0,nof⟩
def qjg(n:Nat):Ct Tryz.prog:=mkC tab (qmD n) [] Tryz.func21 [] [T29,T67] (by kernel_rfl)
def qrr(n:Nat):CL Tryz.prog:=⟨[],[],0,nof⟩
def qm6(n:Nat):Ct Tryz.prog:=mkC tab (qrr n) [] Tryz.func76 [.d T3] [T4] (by kernel_rfl)
def qpO(n:Nat):CL Tryz.prog:=⟨[qm6 n],[],0,nof⟩
def qja(n:Nat):Ct Tryz.prog:=mkC tab (qpO n) [] Tryz.func48 [.d T3,.d T3] [T3] (by kernel_rfl)
end
section
end
section
def qku(n:Nat):CL Tryz.prog:=⟨[],[],0,nof⟩
def qkv(n:Nat):LK Tryz.prog false:=mkL tab (qku n) [] Tryz.f74 [true,true,false,true,false,false] 0 n [.v (.t 7) T3,.v (.t 8) T3,.v (.t 21) T24,.v (.t 22) T3,.v (.t 23) T3] [(.exit 0,[.v (.t 8) T3])] (by kernel_rfl)
def qlg(n:Nat):Ct Tryz.prog:=mkC tab (qku n) [qkv n] Tryz.func74 [.d T105,.d T3,.d T3] [T3] (by kernel_rfl)
def qjM(n:Nat):CL Tryz.prog:=⟨[qlg n],[],0,nof⟩
def qjN(n:Nat):LK Tryz.prog false:=mkL tab (qjM n) [] Tryz.f45 [true,false,true,false,false] 0 n [.v (.t 2) T3,.v (.t 10) T60,.v (.t 11) T3,.v (.t 12) T3,.obj (.t 3) false 105 4,.v (.c 0 0) T105,.obj (.t 6) false 47 2,.v (.c 1 0) T47] [(.exit 0,[.obj (.t 6) false 47 2,.v (.c 0 0) T47])] (by kernel_rfl)
def qke(n:Nat):Ct Tryz.prog:=mkC tab (qjM n) [qjN n] Tryz.func45 [.d T105,.d T62,.d T3] [T47] (by kernel_rfl)
def qmi(n:Nat):CL Tryz.prog:=⟨[qeN n],[],0,nof⟩
def qmj(n:Nat):LK Tryz.prog false:=mkL tab (qmi n) [] Tryz.f68 [true,true,false,true,false,false] 0 n [.v (.t 3) T3,.v (.t 4) T3,.v (.t 8) T24,.v (.t 9) T3,.v (.t 10) T3,.obj (.t 1) false 26 4,.v (.c 0 0) T26] [(.exit 0,[.obj (.t 1) false 26 4,.v (.c 0 0) T26]),(.ret,[.v (.t 2) T4])] (by kernel_rfl)
def qm7(n:Nat):Ct Tryz.prog:=mkC tab (qmi n) [qmj n] Tryz.func68 [.d T26] [T4] (by kernel_rfl)
def qpP(n:Nat):CL Tryz.prog:=⟨[qeN n,qm5 n],[],0,nof⟩
def qfw(n:Nat):Cw Tryz.prog:=mkW tab (qpP n) [] Tryz.func91 [.v (.t 0) T98,.obj (.t 1) true 3 1,.v (.c 0 0) T3] 2 [[.v (.t 0) T4,.obj (.t 1) true 3 1,.v (.c 0 0) T3]] (by kernel_rfl)
def qhW(n:Nat):CL Tryz.prog:=⟨[],[qfw n],0,nof⟩
def qda(n:Nat):Cw Tryz.prog:=mkW tab (qhW n) [] Tryz.func104 [.v (.t 0) T98,.obj (.t 1) true 136 1,.fnc (.c 0 0) 91 [.box true 3 1],.v (.c 1 0) T3] 2 [[.v (.t 0) T4,.obj (.t 1) true 136 1,.fnc (.c 0 0) 91 [.box true 3 1],.v (.c 1 0) T3]] (by kernel_rfl)
def qb5(n:Nat):CL Tryz.prog:=⟨[],[qfw n,qda n],0,nof⟩
def qb6(n:Nat):LK Tryz.prog false:=mkL tab (qb5 n) [] Tryz.f107 [true,false,true,false,false] 0 n [.v (.t 0) T60,.v (.t 7) T3,.v (.t 8) T3,.fnc (.t 1) 104 [.box true 136 1],.fnc (.c 0 0) 91 [.box true 3 1],.v (.c 1 0) T3] [(.exit 0,[.fnc (.t 1) 104 [.box true 136 1],.fnc (.c 0 0) 91 [.box true 3 1],.v (.c 1 0) T3]),(.ret,[.v (.t 4) T3,.fnc (.t 1) 104 [.box true 136 1],.fnc (.c 0 0) 91 [.box true 3 1],.v (.c 1 0) T3])] (by kernel_rfl)
def qcc(n:Nat):Cw Tryz.prog:=mkW tab (qb5 n) [qb6 n] Tryz.func107 [.v (.t 0) T60,.fnc (.t 1) 104 [.box true 136 1],.fnc (.c 0 0) 91 [.box true 3 1],.v (.c 1 0) T3] 2 [[.v (.t 0) T3,.obj (.t 1) true 136 1,.fnc (.c 0 0) 91 [.box true 3 1],.v (.c 1 0) T3]] (by kernel_rfl)
def qdH(n:Nat):CL Tryz.prog:=⟨[],[qfw n,qda n,qcc n],0,nof⟩
def qbU(n:Nat):Cw Tryz.prog:=mkW tab (qdH n) [] Tryz.func103 [.v (.t 0) T60,.fnc (.t 1) 104 [.box true 136 1],.fnc (.c 0 0) 91 [.box true 3 1],.v (.c 1 0) T3] 2 [[.v (.t 0) T4,.obj (.t 1) true 136 1,.fnc (.c 0 0) 91 [.box true 3 1],.v (.c 1 0) T3]] (by kernel_rfl)
def qiu(n:Nat):CL Tryz.prog:=⟨[],[qfw n,qbU n],0,nof⟩
def qfg(n:Nat):Cw Tryz.prog:=mkW tab (qiu n) [] Tryz.func90 [.v (.t 0) T60,.fnc (.t 1) 91 [.box true 3 1],.v (.c 0 0) T3] 2 [[.v (.t 0) T4,.obj (.t 1) true 3 1,.v (.c 0 0) T3]] (by kernel_rfl)
def qsb(n:Nat):CL Tryz.prog:=⟨[qeN n],[qfg n],0,nof⟩
def qg6(n:Nat):Ct Tryz.prog:=mkC tab (qsb n) [] Tryz.func70 [.d T62] [T4] (by kernel_rfl)
def qo9(n:Nat):CL Tryz.prog:=⟨[],[],0,nof⟩
def qlh(n:Nat):Ct Tryz.prog:=mkC tab (qo9 n) [] Tryz.func73 [.d T105,.d T62,.d T3] [T3] (by kernel_rfl)
def qpQ(n:Nat):CL Tryz.prog:=⟨[qlh n],[],0,nof⟩
def qlA(n:Nat):Ct Tryz.prog:=mkC tab (qpQ n) [] Tryz.func44 [.d T105,.d T62,.d T3,.d T3] [T4] (by kernel_rfl)
def qqD(n:Nat):CL Tryz.prog:=⟨[qeN n],[],0,nof⟩
def qfZ(n:Nat):Cw Tryz.prog:=mkW tab (qqD n) [] Tryz.func64 [.v (.t 0) T52] 1 [[.v (.t 0) T4]] (by kernel_rfl)
def qqE(n:Nat):CL Tryz.prog:=⟨[qeN n],[],0,nof⟩
def qf0(n:Nat):Cw Tryz.prog:=mkW tab (qqE n) [] Tryz.func66 [.v (.t 0) T3] 1 [[.v (.t 0) T4]] (by kernel_rfl)
def qqF(n:Nat):CL Tryz.prog:=⟨[],[],0,nof⟩
def qf1(n:Nat):Cw Tryz.prog:=mkW tab (qqF n) [] Tryz.func67 [.v (.t 0) T62,.obj (.t 1) true 29 10,.v (.c 0 0) T29] 2 [[.v (.t 0) T4,.obj (.t 1) true 29 10,.v (.c 0 0) T29]] (by kernel_rfl)
def qhX(n:Nat):CL Tryz.prog:=⟨[],[qfZ n],0,nof⟩
def qdb(n:Nat):Cw Tryz.prog:=mkW tab (qhX n) [] Tryz.func94 [.v (.t 0) T52,.obj (.t 1) true 120 1,.fnc (.c 0 0) 64 []] 2 [[.v (.t 0) T4,.obj (.t 1) true 120 1,.fnc (.c 0 0) 64 []]] (by kernel_rfl)
def qbX(n:Nat):CL Tryz.prog:=⟨[],[qfZ n,qdb n],0,nof⟩
def qbY(n:Nat):LK Tryz.prog false:=mkL tab (qbX n) [] Tryz.f105 [true,false,true,false,false] 0 n [.v (.t 0) T22,.v (.t 7) T3,.v (.t 8) T3,.fnc (.t 1) 94 [.box true 120 1],.fnc (.c 0 0) 64 []] [(.exit 0,[.fnc (.t 1) 94 [.box true 120 1],.fnc (.c 0 0) 64 []]),(.ret,[.v (.t 4) T3,.fnc (.t 1) 94 [.box true 120 1],.fnc (.c 0 0) 64 []])] (by kernel_rfl)
def qb7(n:Nat):Cw Tryz.prog:=mkW tab (qbX n) [qbY n] Tryz.func105 [.v (.t 0) T22,.fnc (.t 1) 94 [.box true 120 1],.fnc (.c 0 0) 64 []] 2 [[.v (.t 0) T3,.obj (.t 1) true 120 1,.fnc (.c 0 0) 64 []]] (by kernel_rfl)
def qdE(n:Nat):CL Tryz.prog:=⟨[],[qfZ n,qdb n,qb7 n],0,nof⟩
def qbR(n:Nat):Cw Tryz.prog:=mkW tab (qdE n) [] Tryz.func93 [.v (.t 0) T22,.fnc (.t 1) 94 [.box true 120 1],.fnc (.c 0 0) 64 []] 2 [[.v (.t 0) T4,.obj (.t 1) true 120 1,.fnc (.c 0 0) 64 []]] (by kernel_rfl)
def qiv(n:Nat):CL Tryz.prog:=⟨[],[qfZ n,qbR n],0,nof⟩
def qfh(n:Nat):Cw Tryz.prog:=mkW tab (qiv n) [] Tryz.func71 [.v (.t 0) T22,.fn (.t 1) 64 [] []] 2 [[.v (.t 0) T4]] (by kernel_rfl)
def qjh(n:Nat):CL Tryz.prog:=⟨[],[qf0 n],0,nof⟩
def qdY(n:Nat):Cw Tryz.prog:=mkW tab (qjh n) [] Tryz.func95 [.v (.t 0) T3,.obj (.t 1) true 41 1,.fnc (.c 0 0) 66 []] 2 [[.v (.t 0) T4,.obj (.t 1) true 41 1,.fnc (.c 0 0) 66 []]] (by kernel_rfl)
def qcL(n:Nat):CL Tryz.prog:=⟨[],[qf0 n,qdY n],0,nof⟩
def qcM(n:Nat):LK Tryz.prog false:=mkL tab (qcL n) [] Tryz.f80 [true,false,true,false,false] 0 n [.v (.t 0) T23,.v (.t 7) T3,.v (.t 8) T3,.fnc (.t 1) 95 [.box true 41 1],.fnc (.c 0 0) 66 []] [(.exit 0,[.fnc (.t 1) 95 [.box true 41 1],.fnc (.c 0 0) 66 []]),(.ret,[.v (.t 4) T3,.fnc (.t 1) 95 [.box true 41 1],.fnc (.c 0 0) 66 []])] (by kernel_rfl)
def qV(n:Nat):Cw Tryz.prog:=mkW tab (qcL n) [qcM n] Tryz.func80 [.v (.t 0) T23,.fnc (.t 1) 95 [.box true 41 1],.fnc (.c 0 0) 66 []] 2 [[.v (.t 0) T3,.obj (.t 1) true 41 1,.fnc (.c 0 0) 66 []]] (by kernel_rfl)
def qeG(n:Nat):CL Tryz.prog:=⟨[],[qf0 n,qV n,qdY n],0,nof⟩
def qbp(n:Nat):Cw Tryz.prog:=mkW tab (qeG n) [] Tryz.func55 [.v (.t 0) T23,.fnc (.t 1) 95 [.box true 41 1],.fnc (.c 0 0) 66 []] 2 [[.v (.t 0) T4,.obj (.t 1) true 41 1,.fnc (.c 0 0) 66 []]] (by kernel_rfl)
def qj5(n:Nat):CL Tryz.prog:=⟨[],[qbp n,qf0 n],0,nof⟩
def qgw(n:Nat):Cw Tryz.prog:=mkW tab (qj5 n) [] Tryz.func72 [.v (.t 0) T23,.fn (.t 1) 66 [] []] 2 [[.v (.t 0) T4]] (by kernel_rfl)
def qik(n:Nat):CL Tryz.prog:=⟨[],[qf1 n],0,nof⟩
def qcn(n:Nat):Cw Tryz.prog:=mkW tab (qik n) [] Tryz.func89 [.v (.t 0) T62,.obj (.t 1) true 64 1,.fnc (.c 0 0) 67 [.box true 29 10],.v (.c 1 0) T29] 2 [[.v (.t 0) T4,.obj (.t 1) true 64 1,.fnc (.c 0 0) 67 [.box true 29 10],.v (.c 1 0) T29]] (by kernel_rfl)
def qcd(n:Nat):CL Tryz.prog:=⟨[],[qf1 n,qcn n],0,nof⟩
def qce(n:Nat):LK Tryz.prog false:=mkL tab (qcd n) [] Tryz.f102 [true,false,true,false,false] 0 n [.v (.t 0) T27,.v (.t 7) T3,.v (.t 8) T3,.fnc (.t 1) 89 [.box true 64 1],.fnc (.c 0 0) 67 [.box true 29 10],.v (.c 1 0) T29] [(.exit 0,[.fnc (.t 1) 89 [.box true 64 1],.fnc (.c 0 0) 67 [.box true 29 10],.v (.c 1 0) T29]),(.ret,[.v (.t 4) T3,.fnc (.t 1) 89 [.box true 64 1],.fnc (.c 0 0) 67 [.box true 29 10],.v (.c 1 0) T29])] (by kernel_rfl)
def qch(n:Nat):Cw Tryz.prog:=mkW tab (qcd n) [qce n] Tryz.func102 [.v (.t 0) T27,.fnc (.t 1) 89 [.box true 64 1],.fnc (.c 0 0) 67 [.box true 29 10],.v (.c 1 0) T29] 2 [[.v (.t 0) T3,.obj (.t 1) true 64 1,.fnc (.c 0 0) 67 [.box true 29 10],.v (.c 1 0) T29]] (by kernel_rfl)
def qdT(n:Nat):CL Tryz.prog:=⟨[],[qf1 n,qcn n,qch n],0,nof⟩
def qbZ(n:Nat):Cw Tryz.prog:=mkW tab (qdT n) [] Tryz.func88 [.v (.t 0) T27,.fnc (.t 1) 89 [.box true 64 1],.fnc (.c 0 0) 67 [.box true 29 10],.v (.c 1 0) T29] 2 [[.v (.t 0) T4,.obj (.t 1) true 64 1,.fnc (.c 0 0) 67 [.box true 29 10],.v (.c 1 0) T29]] (by kernel_rfl)
def qiT(n:Nat):CL Tryz.prog:=⟨[],[qf1 n,qbZ n],0,nof⟩
def qfx(n:Nat):Cw Tryz.prog:=mkW tab (qiT n) [] Tryz.func69 [.v (.t 0) T27,.fnc (.t 1) 67 [.box true 29 10],.v (.c 0 0) T29] 2 [[.v (.t 0) T4,.obj (.t 1) true 29 10,.v (.c 0 0) T29]] (by kernel_rfl)
def qiw(n:Nat):CL Tryz.prog:=⟨[qg6 n],[],0,nof⟩
def qdl(n:Nat):Cw Tryz.prog:=mkW tab (qiw n) [] Tryz.func89 [.v (.t 0) T62,.obj (.t 1) true 64 1,.fnc (.c 0 0) 70 []] 2 [[.v (.t 0) T4,.obj (.t 1) true 64 1,.fnc (.c 0 0) 70 []]] (by kernel_rfl)
def qci(n:Nat):CL Tryz.prog:=⟨[qg6 n],[qdl n],0,nof⟩
def qcj(n:Nat):LK Tryz.prog false:=mkL tab (qci n) [] Tryz.f102 [true,false,true,false,false] 0 n [.v (.t 0) T27,.v (.t 7) T3,.v (.t 8) T3,.fnc (.t 1) 89 [.box true 64 1],.fnc (.c 0 0) 70 []] [(.exit 0,[.fnc (.t 1) 89 [.box true 64 1],.fnc (.c 0 0) 70 []]),(.ret,[.v (.t 4) T3,.fnc (.t 1) 89 [.box true 64 1],.fnc (.c 0 0) 70 []])] (by kernel_rfl)
def qco(n:Nat):Cw Tryz.prog:=mkW tab (qci n) [qcj n] Tryz.func102 [.v (.t 0) T27,.fnc (.t 1) 89 [.box true 64 1],.fnc (.c 0 0) 70 []] 2 [[.v (.t 0) T3,.obj (.t 1) true 64 1,.fnc (.c 0 0) 70 []]] (by kernel_rfl)
def qdZ(n:Nat):CL Tryz.prog:=⟨[qg6 n],[qcn n,qdl n,qco n],0,nof⟩
def qb8(n:Nat):Cw Tryz.prog:=mkW tab (qdZ n) [] Tryz.func88 [.v (.t 0) T27,.fnc (.t 1) 89 [.box true 64 1],.fnc (.c 0 0) 70 []] 2 [[.v (.t 0) T4,.obj (.t 1) true 64 1,.fnc (.c 0 0) 70 []]] (by kernel_rfl)
def qjb(n:Nat):CL Tryz.prog:=⟨[qg6 n],[qb8 n],0,nof⟩
def qfQ(n:Nat):Cw Tryz.prog:=mkW tab (qjb n) [] Tryz.func69 [.v (.t 0) T27,.fn (.t 1) 70 [] []] 2 [[.v (.t 0) T4]] (by kernel_rfl)
def qsR(n:Nat):CL Tryz.prog:=⟨[qeN n,qm7 n],[qfx n,qfQ n,qfh n,qgw n],0,nof⟩
def qo4(n:Nat):Ct Tryz.prog:=mkC tab (qsR n) [] Tryz.func43 [.d T29] [T36] (by kernel_rfl)
end
end
end Go.Proofs.YtfnflenkeljkiaaGreat
