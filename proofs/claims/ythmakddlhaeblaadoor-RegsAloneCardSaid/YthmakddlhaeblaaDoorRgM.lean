/- Printed by vc.py: what must hold for functions' ways (RgM). -/
import Derived.Test.YthmakddlhaeblaaDoorRgL
namespace Go.Proofs.YthmakddlhaeblaaDoor.V
open Go Go.Proofs
set_option maxRecDepth 100000
set_option linter.unusedVariables false
def pk8_VC (n : Int) (K : AV → Prop) : Prop :=
  ((decide (Int.tmod n (8 : Int) < (0 : Int))) = true →
    K (AV.int IntKind.i64 (IntKind.wrap IntKind.i64 (Int.tmod n (8 : Int) + (8 : Int))))) ∧
  ((decide (Int.tmod n (8 : Int) < (0 : Int))) = false →
    K (AV.int IntKind.i64 (Int.tmod n (8 : Int))))
def pk8_scr : Plan := .k (.k (.b (.z) (.z)))
theorem pk8_vc (n : Int) (K : AV → Prop) : (funP (XP0) 9 [.int .i64 n, .int .i64 8] h0 pk8_scr (fun v _ _ => K v)) = pk8_VC n K := by kernel_rfl
def pk4_VC (n : Int) (K : AV → Prop) : Prop :=
  ((decide (Int.tmod n (4 : Int) < (0 : Int))) = true →
    K (AV.int IntKind.i64 (IntKind.wrap IntKind.i64 (Int.tmod n (4 : Int) + (4 : Int))))) ∧
  ((decide (Int.tmod n (4 : Int) < (0 : Int))) = false →
    K (AV.int IntKind.i64 (Int.tmod n (4 : Int))))
def pk4_scr : Plan := .k (.k (.b (.z) (.z)))
theorem pk4_vc (n : Int) (K : AV → Prop) : (funP (XP0) 9 [.int .i64 n, .int .i64 4] h0 pk4_scr (fun v _ _ => K v)) = pk4_VC n K := by kernel_rfl
end Go.Proofs.YthmakddlhaeblaaDoor.V
