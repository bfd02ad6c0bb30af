/- The law LinkNil over plain values, by reckoning. -/
import Derived.Test.YtndjipgpnhhggaaRV20
import Derived.Test.YtndjipgpnhhggaaRT
namespace Go.Proofs.YtndjipgpnhhggaaR.V
open Go Go.Proofs
set_option maxRecDepth 100000
theorem mixedLinkNil : Try.prog.follows .mixedOrders = true := by kernel_rfl
def okLinkNil : List Nat := [5, 15, 21, 25, 19, 18, 22, 26, 27, 24, 28, 17, 54, 55, 20, 57, 43, 58, 56, 61, 79, 80, 81, 82, 83, 84]
def qtLinkNil : List Nat := [25, 18, 22, 26, 27, 24, 28, 17, 54, 55, 20, 57, 43, 58, 56, 61, 79, 80, 81, 82, 83, 84]
theorem okLinkNil_ok : okFunsX Try.prog okLinkNil = true := by kernel_rfl
theorem linkNil_sc (a b c d e f g : Int) : SC Try.prog 5 [.agg [.int .i64 a, .int .i64 b, .int .i64 c, .int .u8 d, .int .i64 e, .int .i64 f, .int .u8 g]] h0 (fun u _ => u = .bool true) :=
  runX_true mixedLinkNil okLinkNil_ok (qt := qtLinkNil) (n := 40) (by kernel_rfl)
end Go.Proofs.YtndjipgpnhhggaaR.V
