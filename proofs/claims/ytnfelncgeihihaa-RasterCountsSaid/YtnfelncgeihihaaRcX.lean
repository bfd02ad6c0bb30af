/- Printed by vc.py: what must hold for functions' ways (RcX). -/
import Derived.Test.YtnfelncgeihihaaRcE
namespace Go.Proofs.Ytnfelncgeihihaa.V
open Go Go.Proofs
set_option maxRecDepth 100000
set_option linter.unusedVariables false
def rcl_VC (L C T R F W U : Int) (K : AV → Prop) : Prop :=
  ((decide (sumB L C T R F W U (1 : Int) (nLin L C T R F W U) = sumR L C T R F W U (1 : Int) (lenF L C T R F W U))) = true →
    (decide (sumB L C T R F W U (1 : Int) (nLin L C T R F W U) = sumR L C T R F W U (1 : Int) (lenF L C T R F W U))) = true ∧
    ((decide (sumB L C T R F W U (1 : Int) (nLin L C T R F W U) = sumR L C T R F W U (1 : Int) (lenF L C T R F W U))) = true ∧
    ((decide (sumB L C T R F W U (1 : Int) (nLin L C T R F W U) = sumR L C T R F W U (1 : Int) (lenF L C T R F W U))) = true ∧
    (((decide (sumB L C T R F W U (2 : Int) (nLin L C T R F W U) = sumR L C T R F W U (2 : Int) (lenF L C T R F W U))) = true →
      (decide (sumB L C T R F W U (2 : Int) (nLin L C T R F W U) = sumR L C T R F W U (2 : Int) (lenF L C T R F W U))) = true ∧
      ((decide (sumB L C T R F W U (2 : Int) (nLin L C T R F W U) = sumR L C T R F W U (2 : Int) (lenF L C T R F W U))) = true ∧
      ((decide (sumB L C T R F W U (2 : Int) (nLin L C T R F W U) = sumR L C T R F W U (2 : Int) (lenF L C T R F W U))) = true ∧
      (((decide (sumB L C T R F W U (3 : Int) (nLin L C T R F W U) = sumR L C T R F W U (3 : Int) (lenF L C T R F W U))) = true →
        (decide (sumB L C T R F W U (3 : Int) (nLin L C T R F W U) = sumR L C T R F W U (3 : Int) (lenF L C T R F W U))) = true ∧
        ((decide (sumB L C T R F W U (3 : Int) (nLin L C T R F W U) = sumR L C T R F W U (3 : Int) (lenF L C T R F W U))) = true ∧
        ((decide (sumB L C T R F W U (3 : Int) (nLin L C T R F W U) = sumR L C T R F W U (3 : Int) (lenF L C T R F W U))) = true ∧
        (((!!decide ((if okF L C T R F W U = true then (0 : Int) else (2 : Int)) = (0 : Int))) = true →
          (!!decide ((if okF L C T R F W U = true then (0 : Int) else (2 : Int)) = (0 : Int))) = true ∧
          ((!!decide ((if okF L C T R F W U = true then (0 : Int) else (2 : Int)) = (0 : Int))) = true ∧
          ((!!decide ((if okF L C T R F W U = true then (0 : Int) else (2 : Int)) = (0 : Int))) = true ∧
          ((!!decide ((if okF L C T R F W U = true then (0 : Int) else (2 : Int)) = (0 : Int))) = true ∧
          ((!!decide ((if okF L C T R F W U = true then (0 : Int) else (2 : Int)) = (0 : Int))) = true ∧
          ((!!decide ((if okF L C T R F W U = true then (0 : Int) else (2 : Int)) = (0 : Int))) = true ∧
          ((!!decide ((if okF L C T R F W U = true then (0 : Int) else (2 : Int)) = (0 : Int))) = true ∧
          (((decide (sumB L C T R F W U (1 : Int) (nLin L C T R F W U) = IntKind.wrap IntKind.i64 (R * W))) = true →
            (decide (sumB L C T R F W U (1 : Int) (nLin L C T R F W U) = IntKind.wrap IntKind.i64 (R * W))) = true ∧
            ((decide (sumB L C T R F W U (1 : Int) (nLin L C T R F W U) = IntKind.wrap IntKind.i64 (R * W))) = true ∧
            ((!!decide ((if okF L C T R F W U = true then (0 : Int) else (2 : Int)) = (0 : Int))) = true ∧
            ((decide (sumB L C T R F W U (1 : Int) (nLin L C T R F W U) = IntKind.wrap IntKind.i64 (R * W))) = true ∧
            ((decide (sumB L C T R F W U (3 : Int) (nLin L C T R F W U) = sumR L C T R F W U (3 : Int) (lenF L C T R F W U))) = true ∧
            ((!decide ((if okF L C T R F W U = true then (0 : Int) else (2 : Int)) = (0 : Int))) = false ∧
            ((decide (sumB L C T R F W U (3 : Int) (nLin L C T R F W U) = sumR L C T R F W U (3 : Int) (lenF L C T R F W U))) = true ∧
            (K
  (AV.bool
    (decide (sumB L C T R F W U (2 : Int) (nLin L C T R F W U) = sumB L C T R F W U (1 : Int) (nLin L C T R F W U)))))))))))) ∧
          ((decide (sumB L C T R F W U (1 : Int) (nLin L C T R F W U) = IntKind.wrap IntKind.i64 (R * W))) = false →
            (decide (sumB L C T R F W U (1 : Int) (nLin L C T R F W U) = IntKind.wrap IntKind.i64 (R * W))) = false ∧
            ((decide (sumB L C T R F W U (1 : Int) (nLin L C T R F W U) = IntKind.wrap IntKind.i64 (R * W))) = false ∧
            ((!!decide ((if okF L C T R F W U = true then (0 : Int) else (2 : Int)) = (0 : Int))) = true ∧
            ((decide (sumB L C T R F W U (1 : Int) (nLin L C T R F W U) = IntKind.wrap IntKind.i64 (R * W))) = false ∧
            ((decide (sumB L C T R F W U (3 : Int) (nLin L C T R F W U) = sumR L C T R F W U (3 : Int) (lenF L C T R F W U))) = true ∧
            ((!decide ((if okF L C T R F W U = true then (0 : Int) else (2 : Int)) = (0 : Int))) = false ∧
            ((decide (sumB L C T R F W U (3 : Int) (nLin L C T R F W U) = sumR L C T R F W U (3 : Int) (lenF L C T R F W U))) = true ∧
            (K (AV.bool false))))))))))))))))) ∧
        ((!!decide ((if okF L C T R F W U = true then (0 : Int) else (2 : Int)) = (0 : Int))) = false →
          (!!decide ((if okF L C T R F W U = true then (0 : Int) else (2 : Int)) = (0 : Int))) = false ∧
          ((!!decide ((if okF L C T R F W U = true then (0 : Int) else (2 : Int)) = (0 : Int))) = false ∧
          ((!!decide ((if okF L C T R F W U = true then (0 : Int) else (2 : Int)) = (0 : Int))) = false ∧
          ((!!decide ((if okF L C T R F W U = true then (0 : Int) else (2 : Int)) = (0 : Int))) = false ∧
          ((!!decide ((if okF L C T R F W U = true then (0 : Int) else (2 : Int)) = (0 : Int))) = false ∧
          ((!!decide ((if okF L C T R F W U = true then (0 : Int) else (2 : Int)) = (0 : Int))) = false ∧
          ((!!decide ((if okF L C T R F W U = true then (0 : Int) else (2 : Int)) = (0 : Int))) = false ∧
          ((!!decide ((if okF L C T R F W U = true then (0 : Int) else (2 : Int)) = (0 : Int))) = false ∧
          ((decide (sumB L C T R F W U (3 : Int) (nLin L C T R F W U) = sumR L C T R F W U (3 : Int) (lenF L C T R F W U))) = true ∧
          ((!decide ((if okF L C T R F W U = true then (0 : Int) else (2 : Int)) = (0 : Int))) = true ∧
          ((decide (sumB L C T R F W U (3 : Int) (nLin L C T R F W U) = sumR L C T R F W U (3 : Int) (lenF L C T R F W U))) = true ∧
          (K (AV.bool true))))))))))))))))) ∧
      ((decide (sumB L C T R F W U (3 : Int) (nLin L C T R F W U) = sumR L C T R F W U (3 : Int) (lenF L C T R F W U))) = false →
        (decide (sumB L C T R F W U (3 : Int) (nLin L C T R F W U) = sumR L C T R F W U (3 : Int) (lenF L C T R F W U))) = false ∧
        ((decide (sumB L C T R F W U (3 : Int) (nLin L C T R F W U) = sumR L C T R F W U (3 : Int) (lenF L C T R F W U))) = false ∧
        ((decide (sumB L C T R F W U (3 : Int) (nLin L C T R F W U) = sumR L C T R F W U (3 : Int) (lenF L C T R F W U))) = false ∧
        ((decide (sumB L C T R F W U (3 : Int) (nLin L C T R F W U) = sumR L C T R F W U (3 : Int) (lenF L C T R F W U))) = false ∧
        ((decide (sumB L C T R F W U (3 : Int) (nLin L C T R F W U) = sumR L C T R F W U (3 : Int) (lenF L C T R F W U))) = false ∧
        (K (AV.bool false))))))))))) ∧
    ((decide (sumB L C T R F W U (2 : Int) (nLin L C T R F W U) = sumR L C T R F W U (2 : Int) (lenF L C T R F W U))) = false →
      (decide (sumB L C T R F W U (2 : Int) (nLin L C T R F W U) = sumR L C T R F W U (2 : Int) (lenF L C T R F W U))) = false ∧
      ((decide (sumB L C T R F W U (2 : Int) (nLin L C T R F W U) = sumR L C T R F W U (2 : Int) (lenF L C T R F W U))) = false ∧
      ((decide (sumB L C T R F W U (2 : Int) (nLin L C T R F W U) = sumR L C T R F W U (2 : Int) (lenF L C T R F W U))) = false ∧
      (K (AV.bool false))))))))) ∧
  ((decide (sumB L C T R F W U (1 : Int) (nLin L C T R F W U) = sumR L C T R F W U (1 : Int) (lenF L C T R F W U))) = false →
    (decide (sumB L C T R F W U (1 : Int) (nLin L C T R F W U) = sumR L C T R F W U (1 : Int) (lenF L C T R F W U))) = false ∧
    ((decide (sumB L C T R F W U (1 : Int) (nLin L C T R F W U) = sumR L C T R F W U (1 : Int) (lenF L C T R F W U))) = false ∧
    ((decide (sumB L C T R F W U (1 : Int) (nLin L C T R F W U) = sumR L C T R F W U (1 : Int) (lenF L C T R F W U))) = false ∧
    (K (AV.bool false)))))
def rcl_scr : Plan := .k (.b (.t (.t (.t (.b (.t (.t (.t (.b (.t (.t (.t (.b (.t (.t (.t (.t (.t (.t (.t (.b (.t (.t (.t (.t (.t (.f (.t (.z)))))))) (.f (.f (.t (.f (.t (.f (.t (.z)))))))))))))))) (.f (.f (.f (.f (.f (.f (.f (.k (.k (.k (.f (.t (.t (.t (.z))))))))))))))))))) (.f (.f (.f (.k (.k (.k (.k (.k (.k (.k (.k (.k (.k (.k (.k (.f (.f (.z)))))))))))))))))))))) (.f (.f (.f (.z)))))))) (.f (.f (.f (.z)))))
theorem rcl_vc (L C T R F W U : Int) (K : AV → Prop) : (funP (XRc3) 8 [.agg [.int .i64 L, .int .i64 C, .int .i64 T, .int .i64 R, .int .i64 F, .int .i64 W, .int .i64 U]] h0 rcl_scr (fun v _ _ => K v)) = rcl_VC L C T R F W U K := by kernel_rfl
end Go.Proofs.Ytnfelncgeihihaa.V
