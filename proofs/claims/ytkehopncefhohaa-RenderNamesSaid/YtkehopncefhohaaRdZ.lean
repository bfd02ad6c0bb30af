/- Printed by vc.py: what must hold for functions' ways (RdZ). -/
import Derived.Test.YtkehopncefhohaaRdG
namespace Go.Proofs.Ytkehopncefhohaa.V
open Go Go.Proofs
set_option maxRecDepth 100000
set_option linter.unusedVariables false
def lvs_VC (cs : List AV) (K : AV → AH → Prop) : Prop :=
  (decide ((7 : Nat) < List.length cs)) = true ∧
  ((AV.isI IntKind.u8 (List.getD cs (7 : Nat) (AV.tup []))) = true ∧
  (((decide (AV.toI (List.getD cs (7 : Nat) (AV.tup [])) = (0 : Int))) = true →
    (decide (AV.toI (List.getD cs (7 : Nat) (AV.tup [])) = (0 : Int))) = true ∧
    ((decide (AV.toI (List.getD cs (7 : Nat) (AV.tup [])) = (0 : Int))) = true ∧
    (K (AV.bool true)
  { nx := (2 : Nat),
    m :=
      [((1 : Nat),
          AObj.cells (24 : Nat)
            [AV.int IntKind.i64 (0 : Int), AV.slice (0 : Nat) (0 : Nat) (49152 : Nat) none, AV.nilslice]),
        ((0 : Nat), AObj.opn (5 : Nat) (1 : Nat) cs)] }))) ∧
  ((decide (AV.toI (List.getD cs (7 : Nat) (AV.tup [])) = (0 : Int))) = false →
    (decide (AV.toI (List.getD cs (7 : Nat) (AV.tup [])) = (0 : Int))) = false ∧
    ((decide (AV.toI (List.getD cs (7 : Nat) (AV.tup [])) = (0 : Int))) = false ∧
    (K (AV.bool false)
  { nx := (2 : Nat),
    m :=
      [((1 : Nat),
          AObj.cells (24 : Nat)
            [AV.int IntKind.i64 (0 : Int), AV.slice (0 : Nat) (0 : Nat) (49152 : Nat) none, AV.nilslice]),
        ((0 : Nat), AObj.opn (5 : Nat) (1 : Nat) cs)] })))))
def lvs_scr : Plan := .k (.k (.k (.k (.k (.k (.k (.k (.k (.k (.k (.k (.k (.k (.k (.t (.t (.k (.k (.b (.t (.t (.z))) (.f (.f (.z))))))))))))))))))))))
theorem lvs_vc (cs : List AV) (K : AV → AH → Prop) : (funP (XLv cs) 8 [] h0 lvs_scr (fun v σ _ => K v σ)) = lvs_VC cs K := by kernel_rfl
end Go.Proofs.Ytkehopncefhohaa.V
