/- The law AyNames over plain values, by reckoning. -/
import Derived.Test.YtggegljiepbefaaV20
import Derived.Test.YtggegljiepbefaaT
namespace Go.Proofs.Ytggegljiepbefaa.V
open Go Go.Proofs
set_option maxRecDepth 100000
theorem mixedAyNames : Try.prog.follows .mixedOrders = true := by kernel_rfl
def okAyNames : List Nat := [7, 24, 26, 15, 9, 20, 16, 19, 28, 30, 49, 50, 51, 52, 53, 22, 54, 43, 25, 14, 12, 10, 68, 69, 70, 71, 67, 46, 47, 48, 13, 44, 45, 66, 65]
def qtAyNames : List Nat := [24, 20, 16, 19, 28, 30, 49, 53, 22, 54, 43, 12, 10, 68, 69, 71, 67, 46, 47, 48, 45, 66]
theorem okAyNames_ok : okFunsX Try.prog okAyNames = true := by kernel_rfl
theorem ayNames_sc : SC Try.prog 7 [] h0 (fun u _ => u = .bool true) :=
  runX_true mixedAyNames okAyNames_ok (qt := qtAyNames) (n := 60) (by kernel_rfl)
end Go.Proofs.Ytggegljiepbefaa.V
