/- dec.Ok, joined. -/
import Derived.Test.YtegnmnhdpnmnpaaOk2A
import Derived.Test.YtegnmnhdpnmnpaaOk2B
import Derived.Test.YtegnmnhdpnmnpaaOk2C
import Derived.Test.YtegnmnhdpnmnpaaOk2D
import Derived.Test.YtegnmnhdpnmnpaaOk2E
import Derived.Test.YtegnmnhdpnmnpaaOk2F
import Derived.Test.YtegnmnhdpnmnpaaOk2G
namespace Go.Proofs.Ytegnmnhdpnmnpaa
set_option linter.unusedVariables false
set_option linter.unusedSimpArgs false
open Go.RowKit
theorem ok_any (x : Ins) (w : World) : Calls Try.prog 13 #[.agg x.row] w fun e w' => e = .returned (.bool (okB x)) ∧ Fr [] w w' := by
  by_cases h : 1 ≤ x.op ∧ x.op ≤ 23
  · have hc : (x.op = 1 ∨ x.op = 2 ∨ x.op = 3 ∨ x.op = 4 ∨ x.op = 5 ∨ x.op = 6) ∨ (x.op = 7 ∨ x.op = 8 ∨ x.op = 9) ∨ (x.op = 10 ∨ x.op = 11 ∨ x.op = 12 ∨ x.op = 13) ∨ (x.op = 14 ∨ x.op = 15 ∨ x.op = 16 ∨ x.op = 17) ∨ (x.op = 18 ∨ x.op = 19 ∨ x.op = 21 ∨ x.op = 22 ∨ x.op = 23) ∨ x.op = 20 := by omega
    rcases hc with hc | hc | hc | hc | hc | hc
    · exact ok_A x hc w
    · exact ok_B x hc w
    · exact ok_C x hc w
    · exact ok_D x hc w
    · exact ok_E x hc w
    · exact ok_F x hc w
  · exact ok_none x h w
end Go.Proofs.Ytegnmnhdpnmnpaa
