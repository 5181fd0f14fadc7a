/- Texts Dl8, Dl9, Dl10 in one. -/
import Derived.Test.YtbdockhccdkdiaaGreatLd
/- Ropes: the fewest posts (Prop). -/
set_option linter.constructorNameAsVariable false
set_option linter.unusedSimpArgs false
set_option linter.unusedVariables false
set_option linter.unusedSectionVars false
namespace Go.Proofs.YtbdockhccdkdiaaGreat
open Go Go.Proofs Go.RowKit
set_option maxHeartbeats 1000000
structure PairOk (l:List qrC) (limit years set:Int) (sinks:List Int) (Y:Int) (p:Int):Prop where
 bd:PBd l
 len:l.length≤8
 sl:sinks.length=l.length
 lim:0≤limit∧limit≤1000
 yr:0≤years∧years≤1000
 Yr:0≤Y∧Y≤1000
 set0:0≤set
 p0:0≤p
 ord:∀k (h:k<l.length),l[k].2.1≤l[k].2.2
 sk:∀k (h:k<l.length) (h':k<sinks.length),l[k].2.1≤sinks[k]∧sinks[k]≤l[k].2.2
 lev:∀i k (hi:i<l.length) (hk:k<l.length),i<k→canB (pO l[i]) (pO l[k]) limit Y=false
 prp:∀i k (hi:i<l.length) (hk:k<l.length),i<k→p.toNat.testBit i=false→p.toNat.testBit k=false→canB (pO l[i]) (pO l[k]) limit years=false
end Go.Proofs.YtbdockhccdkdiaaGreat
