/- The law lives over plain values, by reckoning. -/
import Derived.Test.YtngemikgnlgjcaaV20
import Derived.Test.YtngemikgnlgjcaaT
namespace Go.Proofs.Ytngemikgnlgjcaa.V
open Go Go.Proofs
set_option maxRecDepth 100000
theorem mixedlives : Try.prog.follows .mixedOrders = true := by kernel_rfl
def oklives : List Nat := [6, 42, 43, 44, 45, 47, 4, 5, 13, 7, 16, 9, 10, 11, 12, 22, 23, 21, 15, 17, 18, 24, 25, 20]
def qtlives : List Nat := [42, 43, 47, 4, 13, 7, 16, 9, 22, 23, 21, 15, 24, 25, 20]
theorem oklives_ok : okFunsX Try.prog oklives = true := by kernel_rfl
theorem lives_sc : SC Try.prog 6 [] h0 (fun u _ => u = .bool true) :=
  runX_true mixedlives oklives_ok (qt := qtlives) (n := 80) (by kernel_rfl)
end Go.Proofs.Ytngemikgnlgjcaa.V
