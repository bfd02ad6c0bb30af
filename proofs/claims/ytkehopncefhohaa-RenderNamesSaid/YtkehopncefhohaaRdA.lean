/- render: a frame's picture out of nothing (part 1): settings. -/
import Derived.Test.YtkehopncefhohaaV31
import Derived.Test.YtkehopncefhohaaT
namespace Go.Proofs.Ytkehopncefhohaa.V
open Go Go.Proofs
set_option maxRecDepth 100000
set_option linter.unusedSimpArgs false
set_option linter.unusedVariables false
theorem mixedR : Try.prog.follows .mixedOrders = true := by kernel_rfl
def classicA : AV := .agg [.int .i64 311, .int .i64 228, .int .i64 63, .int .i64 192, .int .i64 14, .int .i64 32, .int .i64 36]
def okCk : List Nat := [29, 30, 31, 32, 33, 34, 35, 36, 37, 38, 39]
theorem okCk_ok : okFunsX Try.prog okCk = true := by kernel_rfl
noncomputable def XCk : Cx := ⟨Try.prog, inl Try.prog (purO []) [] 20 (purT []) okCk 4, purO [], okCk, 20, lookL []⟩
theorem XCk_ok : CxOk XCk := ⟨inl_ok (purO_ok PurOk.nil) mixedR (purT_ok PurOk.nil) okCk_ok 4, purO_ok PurOk.nil, mixedR⟩
noncomputable def XR0 : Cx := cxP Try.prog [] []
theorem XR0_ok : CxOk (cxP Try.prog [] []) := cxP_ok mixedR PurOk.nil rfl
end Go.Proofs.Ytkehopncefhohaa.V
