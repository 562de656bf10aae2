/- Region 21 of Table.one, which draws its order: one form of a group is added. -/
import Derived.Deep.RegionHeld3
import Derived.Deep.DeepCutAuto
import Derived.Test.YtegnmnhdpnmnpaaFill
namespace Go.Proofs.Ytegnmnhdpnmnpaa
set_option linter.unusedVariables false
set_option linter.unusedSimpArgs false
open Go.RowKit
def regionNo (n : Nat) : Code → Option Code
  | .region i o b => if i == n then some (.region i o b) else none
  | .loop c => regionNo n c
  | .seq a b => match regionNo n a with
    | some c => some c
    | none => regionNo n b
  | .block _ c => regionNo n c
  | .scope c => regionNo n c
  | .cond _ a b => match regionNo n a with
    | some c => some c
    | none => regionNo n b
  | _ => none
noncomputable def reg21 : Code := (Try.f54.body.bind (regionNo 21)).getD .skip
end Go.Proofs.Ytegnmnhdpnmnpaa
