/- event: the laws over any events and kinds (part 1): small functions. -/
import Derived.Test.YtdhpdaogakignaaDoorEvB
import Derived.Test.YtdhpdaogakignaaDoorV30
namespace Go.Proofs.YtdhpdaogakignaaDoor.V
open Go Go.Proofs
set_option maxRecDepth 100000
set_option linter.unusedSimpArgs false
set_option linter.unusedVariables false
noncomputable def XE0 : Cx := cxP Tryd.prog [] [27, 28]
theorem okE0_ok : okFunsX Tryd.prog [27, 28] = true := by kernel_rfl
theorem XE0_ok : CxOk (cxP Tryd.prog [] [27, 28]) := cxP_ok mixedev PurOk.nil okE0_ok
def chipN (k : Int) : Int := if k < 1 ∨ 12 < k then 0 else if k ≤ 6 then 1 else if k ≤ 10 then 2 else if k = 11 then 3 else 4
def chipF : List AV → Option AV
  | [.int .i64 k] => some (.int .i64 (chipN k))
  | _ => none
def cmpN (x y : Int) : Int := if x < y then -1 else if x > y then 1 else 0
def cmpF : List AV → Option AV
  | [.int .i64 x, .int .i64 y] => some (.int .i64 (cmpN x y))
  | _ => none
/-- The first that is not 0. -/
def orN (a b c d e f : Int) : Int := if a ≠ 0 then a else if b ≠ 0 then b else if c ≠ 0 then c else if d ≠ 0 then d else if e ≠ 0 then e else f
def h6 (a b c d e f : Int) : AH := ⟨1, [(0, .ro [.int .i64 a, .int .i64 b, .int .i64 c, .int .i64 d, .int .i64 e, .int .i64 f])]⟩
end Go.Proofs.YtdhpdaogakignaaDoor.V
