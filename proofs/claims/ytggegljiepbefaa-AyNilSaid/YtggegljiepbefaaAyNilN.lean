/- The law AyNil over plain values, by reckoning. -/
import Derived.Test.YtggegljiepbefaaV20
import Derived.Test.YtggegljiepbefaaT
namespace Go.Proofs.Ytggegljiepbefaa.V
open Go Go.Proofs
set_option maxRecDepth 100000
theorem mixedAyNil : Try.prog.follows .mixedOrders = true := by kernel_rfl
def okAyNil : List Nat := [5, 9, 13, 14, 15, 16, 17, 18, 19, 20, 21, 22, 24, 25, 12, 10, 43, 44, 45, 28, 46, 47, 48, 30, 66, 65, 67, 68]
def qtAyNil : List Nat := [16, 17, 18, 19, 20, 21, 22, 24, 12, 10, 43, 45, 28, 46, 47, 48, 30, 66, 67, 68]
theorem okAyNil_ok : okFunsX Try.prog okAyNil = true := by kernel_rfl
theorem ayNil_sc (a b : Int) : SC Try.prog 5 [.int .i64 a, .int .u8 b] h0 (fun u _ => u = .bool true) :=
  runX_true mixedAyNil okAyNil_ok (qt := qtAyNil) (n := 60) (by kernel_rfl)
end Go.Proofs.Ytggegljiepbefaa.V
