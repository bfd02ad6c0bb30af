/- Laws of raster over plain values (part 1): names and places. -/
import Derived.Test.YtnfelncgeihihaaRa1
namespace Go.Proofs.Ytnfelncgeihihaa.V
open Go Go.Proofs
set_option maxRecDepth 100000
set_option linter.unusedSimpArgs false
set_option linter.unusedVariables false

theorem rasterNames_sc  : SC Try.prog 9 [] h0 (fun u _ => u = .bool true) := by
  refine walk good_livesB Try.func9 rfl (by simp [Try.ntmps9]) (by kernel_rfl) ?_
  simp [Try.ntmps9, Try.results9, h0]
  have a1 : attrA 0 8 = .tup [.int .i64 6176, .bool true] := by kernel_rfl
  have a2 : whereA 6176 = .tup [.int .i64 0, .int .i64 8, .bool true, .bool true] := by kernel_rfl
  have a3 : whereA 256 = .tup [.int .i64 0, .int .i64 1, .bool false, .bool true] := by kernel_rfl
  have a4 : whereA 6912 = .tup [.int .i64 0, .int .i64 0, .bool false, .bool false] := by kernel_rfl
  have a5 : atA 0 0 0 0 0 0 0 0 = .tup [.agg [.int .i64 0, .int .i64 0, .int .i64 0], .int .i64 2] := by kernel_rfl
  simp [a1, a2, a3, a4, a5]
end Go.Proofs.Ytnfelncgeihihaa.V
