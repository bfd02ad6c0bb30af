/- Printed by vc.py: what must hold for functions' ways (EvW). -/
import Derived.Test.YtdhpdaogakignaaDoorEvD
namespace Go.Proofs.YtdhpdaogakignaaDoor.V
open Go Go.Proofs
set_option maxRecDepth 100000
set_option linter.unusedVariables false
def ord_VC (a0 a1 a2 a3 a4 a5 b0 b1 b2 b3 b4 b5 : Int) (Kq : AV → Prop) (K : Unit) : Prop :=
  Kq (AV.int IntKind.i64 (orN (cmpN a0 b0) (cmpN a1 b1) (cmpN a2 b2) (cmpN a3 b3) (cmpN a4 b4) (cmpN a5 b5)))
def ord_scr : Plan := .z
theorem ord_vc (a0 a1 a2 a3 a4 a5 b0 b1 b2 b3 b4 b5 : Int) (Kq : AV → Prop) (K : Unit) : (funPQ evG XE0 11 [.agg [.int .i64 a0, .int .i64 a1, .int .i64 a2, .int .i64 a3, .int .i64 a4, .int .i64 a5], .agg [.int .i64 b0, .int .i64 b1, .int .i64 b2, .int .i64 b3, .int .i64 b4, .int .i64 b5]] h0 ord_scr (fun v _ _ => Kq v)) = ord_VC a0 a1 a2 a3 a4 a5 b0 b1 b2 b3 b4 b5 Kq K := by kernel_rfl
end Go.Proofs.YtdhpdaogakignaaDoor.V
