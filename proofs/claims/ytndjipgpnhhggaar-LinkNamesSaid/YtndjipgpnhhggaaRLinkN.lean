/- The law LinkNames over plain values, by reckoning. -/
import Derived.Test.YtndjipgpnhhggaaRV20
import Derived.Test.YtndjipgpnhhggaaRT
namespace Go.Proofs.YtndjipgpnhhggaaR.V
open Go Go.Proofs
set_option maxRecDepth 100000
theorem mixedLinkNames : Try.prog.follows .mixedOrders = true := by kernel_rfl
def okLinkNames : List Nat := [9, 17, 21, 25, 41, 15, 20, 55, 63, 64, 69, 65, 70, 19, 67, 28, 71, 54, 27, 18, 22, 26, 56, 84, 85, 86, 66, 57, 24, 43, 58, 79, 80, 81, 82, 83, 61]
def qtLinkNames : List Nat := [17, 25, 20, 55, 63, 28, 71, 54, 27, 18, 22, 26, 56, 84, 85, 66, 57, 24, 43, 58, 79, 80, 81, 82, 83, 61]
theorem okLinkNames_ok : okFunsX Try.prog okLinkNames = true := by kernel_rfl
theorem linkNames_sc : SC Try.prog 9 [] h0 (fun u _ => u = .bool true) :=
  runX_true mixedLinkNames okLinkNames_ok (qt := qtLinkNames) (n := 40) (by kernel_rfl)
end Go.Proofs.YtndjipgpnhhggaaR.V
