/- Printed by vc.py: what must hold for functions' ways (EvX). -/
import Derived.Test.YtdhpdaogakignaaDoorEvE
namespace Go.Proofs.YtdhpdaogakignaaDoor.V
open Go Go.Proofs
set_option maxRecDepth 100000
set_option linter.unusedVariables false
def nm_VC (k : Int) (K : AV → Prop) : Prop :=
  ((decide (chipN k = (0 : Int))) = true →
    K (AV.str { data := #[] })) ∧
  ((decide (chipN k = (0 : Int))) = false →
    False)
def nm_scr : Plan := .b (.z) (.z)
theorem nm_vc (k : Int) (K : AV → Prop) : (funP (XE1) 9 [.int .i64 k] h0 nm_scr (fun v _ _ => K v)) = nm_VC k K := by kernel_rfl
end Go.Proofs.YtdhpdaogakignaaDoor.V
