/- keys: lists of touches (part 1): what is known ahead; states of the loops that check. -/
import Derived.Test.YteneafgmcmgahaaKyB
import Derived.Test.YteneafgmcmgahaaV31
namespace Go.Proofs.Yteneafgmcmgahaa.V
open Go Go.Proofs
set_option maxRecDepth 100000
set_option linter.unusedSimpArgs false
set_option linter.unusedVariables false
noncomputable def XK0 : Cx := cxP Try.prog [] []
theorem XK0_ok : CxOk (cxP Try.prog [] []) := cxP_ok mixedky PurOk.nil rfl
/-- A touch: its time, what it is, its key, whether it goes down. -/
abbrev Tc := Int × Int × Int × Bool
def tcC (x : Tc) : List AV := [.int .i64 x.1, .int .i64 x.2.1, .int .i64 x.2.2.1, .bool x.2.2.2]
def tcs (l : List Tc) : List AV := l.flatMap tcC
def tchB (t w k : Int) : Bool := if t < 0 ∨ t > 1099511627776 then false else if w = 1 then decide (0 ≤ k) && decide (k < 40) else if w = 2 then decide (k = 0) else false
def tchF : List AV → Option AV
  | [.agg [.int .i64 t, .int .i64 w, .int .i64 k, .bool o]] => some (.bool (tchB t w k))
  | _ => none
def mayTB (t : Int) : Bool := decide (0 ≤ t) && decide (t ≤ 1099511627776)
def mayTF : List AV → Option AV
  | [.int .i64 t] => some (.bool (mayTB t))
  | _ => none
end Go.Proofs.Yteneafgmcmgahaa.V
