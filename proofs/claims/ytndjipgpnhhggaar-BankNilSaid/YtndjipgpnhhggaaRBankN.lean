/- The law of names of bank over plain values, by reckoning. -/
import Derived.Test.YtndjipgpnhhggaaRV16
import Derived.Test.YtndjipgpnhhggaaRT
namespace Go.Proofs.YtndjipgpnhhggaaR.V
open Go Go.Proofs
set_option maxRecDepth 100000
theorem mixed : Try.prog.follows .mixedOrders = true := by kernel_rfl
def okN : List Nat := [8, 38, 30, 39, 11, 31, 13, 62, 60, 59, 14, 63, 64, 65, 66, 67, 12, 32, 33, 34, 84, 69, 85, 86, 35, 61, 58, 29]
theorem okN_ok : okFuns Try.prog okN = true := by kernel_rfl
theorem bankNames_sc : SC Try.prog 8 [] h0 (fun u _ => u = .bool true) :=
  run_true (Good.nil mixed) okN_ok (n := 40) (by kernel_rfl)
end Go.Proofs.YtndjipgpnhhggaaR.V
