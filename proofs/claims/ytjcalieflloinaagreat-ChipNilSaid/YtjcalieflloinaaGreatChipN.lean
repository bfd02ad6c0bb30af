/- The law ChipNil over plain values, by reckoning. -/
import Derived.Test.YtjcalieflloinaaGreatV20
import Derived.Test.YtjcalieflloinaaGreatProg
namespace Go.Proofs.YtjcalieflloinaaGreat.V
open Go Go.Proofs
set_option maxRecDepth 100000
theorem mixedChipNil : Tryz.prog.follows .mixedOrders = true := by kernel_rfl
def okChipNil : List Nat := [3, 149, 150, 151, 4, 5, 6, 7, 8, 9, 10, 11, 12, 13, 14, 60, 45, 152, 153, 16, 15, 17, 18, 19, 20, 21, 22, 23, 24, 25, 155, 154, 156, 157, 158, 32, 26, 27, 29, 28, 30, 31, 33, 34, 35, 36, 38, 39, 40, 41, 37, 42, 43, 44, 46, 47, 48, 49, 50, 51, 52, 53, 54, 55, 56, 57, 58, 59, 61, 62, 63, 64, 65, 66, 67, 68, 69, 70, 71, 72, 73, 74, 75, 76, 77, 78, 79, 80, 81, 82, 83, 84, 85, 86, 87, 88, 89, 90, 92, 91, 93, 96, 94, 95, 97, 99, 98, 109, 110, 100, 101, 102, 103, 104, 105, 106, 107, 108, 111, 112, 113, 114, 115, 116, 117]
def qtChipNil : List Nat := [149, 8, 9, 10, 11, 12, 13, 14, 60, 45, 153, 16, 17, 18, 22, 23, 24, 25, 155, 156, 157, 158, 32, 26, 27, 29, 30, 33, 35, 36, 38, 39, 40, 41, 37, 42, 43, 44, 47, 49, 51, 52, 53, 54, 55, 56, 57, 58, 61, 62, 63, 64, 66, 67, 68, 69, 70, 71, 72, 73, 74, 75, 76, 77, 78, 79, 80, 81, 82, 83, 84, 85, 86, 89, 90, 92, 96, 94, 97, 99, 109, 110, 106, 112, 116]
theorem okChipNil_ok : okFunsX Tryz.prog okChipNil = true := by kernel_rfl
theorem chipNil_sc (a b c d e f g : Int) : SC Tryz.prog 3 [.agg [.int .i64 a, .int .i64 b, .int .i64 c, .int .u8 d, .int .i64 e, .int .i64 f, .int .u8 g]] h0 (fun u _ => u = .bool true) :=
  runX_true mixedChipNil okChipNil_ok (qt := qtChipNil) (n := 60) (by kernel_rfl)
end Go.Proofs.YtjcalieflloinaaGreat.V
