/- The law of nil banks over plain values, by reckoning with unknown numbers. -/
import Derived.Test.YtndjipgpnhhggaaRBankN
namespace Go.Proofs.YtndjipgpnhhggaaR.V
open Go Go.Proofs
set_option maxRecDepth 100000
def okNil : List Nat := [6, 38, 30, 39, 11, 31, 13, 62, 60, 59, 14, 63, 64, 65, 66, 67, 12, 32, 33, 34, 84, 69, 85, 86, 35, 61, 58, 29, 36]
theorem okNil_ok : okFuns Try.prog okNil = true := by kernel_rfl
theorem bankNil_sc (a b c d : Int) : SC Try.prog 6 [.int .u16 a, .int .u8 b, .int .i64 c, .int .i64 d] h0 (fun u _ => u = .bool true) :=
  run_true (Good.nil mixed) okNil_ok (n := 40) (by kernel_rfl)
end Go.Proofs.YtndjipgpnhhggaaR.V
