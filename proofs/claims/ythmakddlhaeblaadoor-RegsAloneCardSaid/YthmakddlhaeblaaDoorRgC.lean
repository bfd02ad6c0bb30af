/- regs: the laws over any registers (part 1): what the small functions answer. -/
import Derived.Test.YthmakddlhaeblaaDoorRgB
import Derived.Test.YthmakddlhaeblaaDoorV24
namespace Go.Proofs.YthmakddlhaeblaaDoor.V
open Go Go.Proofs
set_option maxRecDepth 100000
set_option linter.unusedSimpArgs false
set_option linter.unusedVariables false
noncomputable def XR0 : Cx := cxP Tryd.prog [] []
theorem XR0_ok : CxOk (cxP Tryd.prog [] []) := cxP_ok mixedrg PurOk.nil rfl
end Go.Proofs.YthmakddlhaeblaaDoor.V
