/- Printed by vc.py: what must hold for functions' ways (KpV). -/
import Derived.Test.YteneafgmcmgahaaKpA
namespace Go.Proofs.Yteneafgmcmgahaa.V
open Go Go.Proofs
set_option maxRecDepth 100000
set_option linter.unusedVariables false
def one_VC (t w k : Int) (o : Bool) (K : AV → Prop) : Prop :=
  ((!decide (t < (0 : Int))) = true →
    (!decide (t < (0 : Int))) = true ∧
    ((!decide (t < (0 : Int))) = true ∧
    ((decide (t < (0 : Int))) = false ∧
    (((decide (t > (1099511627776 : Int))) = true →
      K (AV.bool false)) ∧
    ((decide (t > (1099511627776 : Int))) = false →
      ((decide (w = (1 : Int))) = true →
        ((decide (k ≥ (0 : Int))) = true →
          (decide (k ≥ (0 : Int))) = true ∧
          ((decide (k ≥ (0 : Int))) = true ∧
          ((decide (k ≥ (0 : Int))) = true ∧
          (K (AV.bool (decide (k < (40 : Int)))))))) ∧
        ((decide (k ≥ (0 : Int))) = false →
          (decide (k ≥ (0 : Int))) = false ∧
          ((decide (k ≥ (0 : Int))) = false ∧
          ((decide (k ≥ (0 : Int))) = false ∧
          (K (AV.bool false)))))) ∧
      ((decide (w = (1 : Int))) = false →
        ((decide (w = (2 : Int))) = true →
          K (AV.bool (decide (k = (0 : Int))))) ∧
        ((decide (w = (2 : Int))) = false →
          K (AV.bool false)))))))) ∧
  ((!decide (t < (0 : Int))) = false →
    (!decide (t < (0 : Int))) = false ∧
    ((!decide (t < (0 : Int))) = false ∧
    ((decide (t < (0 : Int))) = true ∧
    (K (AV.bool false)))))
def one_scr : Plan := .b (.t (.t (.f (.b (.z) (.b (.b (.t (.t (.t (.z)))) (.f (.f (.f (.z))))) (.b (.z) (.z))))))) (.f (.f (.t (.z))))
theorem one_vc (t w k : Int) (o : Bool) (K : AV → Prop) : (funP (XK0) 25 [.agg [.int .i64 t, .int .i64 w, .int .i64 k, .bool o]] h0 one_scr (fun v _ _ => K v)) = one_VC t w k o K := by kernel_rfl
def may_VC (t : Int) (K : AV → Prop) : Prop :=
  ((decide (t ≥ (0 : Int))) = true →
    (decide (t ≥ (0 : Int))) = true ∧
    ((decide (t ≥ (0 : Int))) = true ∧
    (K (AV.bool (decide (t ≤ (1099511627776 : Int))))))) ∧
  ((decide (t ≥ (0 : Int))) = false →
    (decide (t ≥ (0 : Int))) = false ∧
    ((decide (t ≥ (0 : Int))) = false ∧
    (K (AV.bool false))))
def may_scr : Plan := .b (.t (.t (.z))) (.f (.f (.z)))
theorem may_vc (t : Int) (K : AV → Prop) : (funP (XK0) 26 [.int .i64 t] h0 may_scr (fun v _ _ => K v)) = may_VC t K := by kernel_rfl
end Go.Proofs.Yteneafgmcmgahaa.V
