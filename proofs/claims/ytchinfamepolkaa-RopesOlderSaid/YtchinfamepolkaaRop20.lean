/- Ropes: the teams, plain; the iterator's maker. -/
import Derived.Test.YtchinfamepolkaaRop18
namespace Go.Proofs.Ytchinfamepolkaa
set_option linter.unusedSimpArgs false
set_option linter.unusedVariables false
set_option linter.unusedSectionVars false
open Go Go.Proofs Go.RowKit Go.Shelf
set_option maxHeartbeats 1000000
set_option maxRecDepth 20000

def teamsL (O : Outing) : Nat → List Nat → List Int → List Int → List (List Nat × List Int)
  | 0, gs, _, c => match ropedV O c with
    | none => []
    | some r => [(gs, r)]
  | m + 1, gs, p, c => (List.range O.guides.length).flatMap fun g =>
    if leadsB O g = true ∧ cntN p g + cntN O.clients gs.length ≤ ((O.guides[g]?).map Guide.points).getD 0 then
      teamsL O m (gs ++ [g]) (p.set g (cntN p g + cntN O.clients gs.length)) (c.set g (cntN c g + 1)) else []
def teamsV (O : Outing) : List (List Nat × List Int) := teamsL O O.clients.length [] (List.replicate O.guides.length 0) (List.replicate O.guides.length 0)
end Go.Proofs.Ytchinfamepolkaa
