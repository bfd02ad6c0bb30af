/- Printed by vc.py: what must hold for functions' ways (RdT). -/
import Derived.Test.YtafedoablnfebaaRdH
namespace Go.Proofs.Ytafedoablnfebaa.V
open Go Go.Proofs
set_option maxRecDepth 100000
set_option linter.unusedVariables false
def rcl_VC (a : Int) (o : Bool) (f g : Int) (K : AV → Prop) : Prop :=
  ((!decide (colV a o (Int.tmod (if f > (0 : Int) then f else (0 : Int)) (1099511627776 : Int)) > (15 : Int))) = true →
    (!decide (colV a o (Int.tmod (if f > (0 : Int) then f else (0 : Int)) (1099511627776 : Int)) > (15 : Int))) = true ∧
    ((!decide (colV a o (Int.tmod (if f > (0 : Int) then f else (0 : Int)) (1099511627776 : Int)) > (15 : Int))) = true ∧
    ((!decide (colV a o (Int.tmod (if f > (0 : Int) then f else (0 : Int)) (1099511627776 : Int)) > (15 : Int))) = true ∧
    ((!decide (colV a o (Int.tmod (if f > (0 : Int) then f else (0 : Int)) (1099511627776 : Int)) > (15 : Int))) = true ∧
    ((!decide (colV a o (Int.tmod (if f > (0 : Int) then f else (0 : Int)) (1099511627776 : Int)) > (15 : Int))) = true ∧
    ((decide (colV a o (Int.tmod (if f > (0 : Int) then f else (0 : Int)) (1099511627776 : Int)) > (15 : Int))) = false ∧
    (((!!decide (colV a o (Int.tmod (if f > (0 : Int) then f else (0 : Int)) (1099511627776 : Int)) ≥ (8 : Int)) ==
      !decide (bits BinOp.and IntKind.u8 a (64 : Int) = (0 : Int))) = true →
      (!!decide (colV a o (Int.tmod (if f > (0 : Int) then f else (0 : Int)) (1099511627776 : Int)) ≥ (8 : Int)) ==
      !decide (bits BinOp.and IntKind.u8 a (64 : Int) = (0 : Int))) = true ∧
      ((!!decide (colV a o (Int.tmod (if f > (0 : Int) then f else (0 : Int)) (1099511627776 : Int)) ≥ (8 : Int)) ==
      !decide (bits BinOp.and IntKind.u8 a (64 : Int) = (0 : Int))) = true ∧
      ((!!decide (colV a o (Int.tmod (if f > (0 : Int) then f else (0 : Int)) (1099511627776 : Int)) ≥ (8 : Int)) ==
      !decide (bits BinOp.and IntKind.u8 a (64 : Int) = (0 : Int))) = true ∧
      ((!!decide (colV a o (Int.tmod (if f > (0 : Int) then f else (0 : Int)) (1099511627776 : Int)) ≥ (8 : Int)) ==
      !decide (bits BinOp.and IntKind.u8 a (64 : Int) = (0 : Int))) = true ∧
      ((!!decide (colV a o (Int.tmod (if f > (0 : Int) then f else (0 : Int)) (1099511627776 : Int)) ≥ (8 : Int)) ==
      !decide (bits BinOp.and IntKind.u8 a (64 : Int) = (0 : Int))) = true ∧
      ((!!decide (colV a o (Int.tmod (if f > (0 : Int) then f else (0 : Int)) (1099511627776 : Int)) ≥ (8 : Int)) ==
      !decide (bits BinOp.and IntKind.u8 a (64 : Int) = (0 : Int))) = true ∧
      ((!!decide (colV a o (Int.tmod (if f > (0 : Int) then f else (0 : Int)) (1099511627776 : Int)) ≥ (8 : Int)) ==
      !decide (bits BinOp.and IntKind.u8 a (64 : Int) = (0 : Int))) = true ∧
      ((!!decide (colV a o (Int.tmod (if f > (0 : Int) then f else (0 : Int)) (1099511627776 : Int)) ≥ (8 : Int)) ==
      !decide (bits BinOp.and IntKind.u8 a (64 : Int) = (0 : Int))) = true ∧
      ((!!decide (colV a o (Int.tmod (if f > (0 : Int) then f else (0 : Int)) (1099511627776 : Int)) ≥ (8 : Int)) ==
      !decide (bits BinOp.and IntKind.u8 a (64 : Int) = (0 : Int))) = true ∧
      ((!decide (colV a o (Int.tmod (if f > (0 : Int) then f else (0 : Int)) (1099511627776 : Int)) ≥ (8 : Int)) ==
    !decide (bits BinOp.and IntKind.u8 a (64 : Int) = (0 : Int))) = false ∧
      (((!decide
      (colV a o (Int.tmod (if f > (0 : Int) then f else (0 : Int)) (1099511627776 : Int)) =
        colV a (!o) (Int.tmod (if f > (0 : Int) then f else (0 : Int)) (1099511627776 : Int))) ==
    decide (Int.tmod a (8 : Int) = Int.tmod (IntKind.wrap IntKind.u8 (Int.tdiv a (8 : Int))) (8 : Int))) = true →
        K (AV.bool false)) ∧
      ((!decide
      (colV a o (Int.tmod (if f > (0 : Int) then f else (0 : Int)) (1099511627776 : Int)) =
        colV a (!o) (Int.tmod (if f > (0 : Int) then f else (0 : Int)) (1099511627776 : Int))) ==
    decide (Int.tmod a (8 : Int) = Int.tmod (IntKind.wrap IntKind.u8 (Int.tdiv a (8 : Int))) (8 : Int))) = false →
        ((decide (bits BinOp.and IntKind.u8 a (128 : Int) = (0 : Int))) = true →
          K
  (AV.bool
    (decide
      (colV a o (Int.tmod (if g > (0 : Int) then g else (0 : Int)) (1099511627776 : Int)) =
        colV a o (Int.tmod (if f > (0 : Int) then f else (0 : Int)) (1099511627776 : Int)))))) ∧
        ((decide (bits BinOp.and IntKind.u8 a (128 : Int) = (0 : Int))) = false →
          ((decide
  (colV a o
      (IntKind.wrap IntKind.i64
        (Int.tmod (if f > (0 : Int) then f else (0 : Int)) (1099511627776 : Int) + (16 : Int))) =
    colV a (!o) (Int.tmod (if f > (0 : Int) then f else (0 : Int)) (1099511627776 : Int)))) = true →
            (decide
  (colV a o
      (IntKind.wrap IntKind.i64
        (Int.tmod (if f > (0 : Int) then f else (0 : Int)) (1099511627776 : Int) + (16 : Int))) =
    colV a (!o) (Int.tmod (if f > (0 : Int) then f else (0 : Int)) (1099511627776 : Int)))) = true ∧
            ((decide
  (colV a o
      (IntKind.wrap IntKind.i64
        (Int.tmod (if f > (0 : Int) then f else (0 : Int)) (1099511627776 : Int) + (16 : Int))) =
    colV a (!o) (Int.tmod (if f > (0 : Int) then f else (0 : Int)) (1099511627776 : Int)))) = true ∧
            ((decide
  (colV a o
      (IntKind.wrap IntKind.i64
        (Int.tmod (if f > (0 : Int) then f else (0 : Int)) (1099511627776 : Int) + (16 : Int))) =
    colV a (!o) (Int.tmod (if f > (0 : Int) then f else (0 : Int)) (1099511627776 : Int)))) = true ∧
            ((decide
  (colV a o
      (IntKind.wrap IntKind.i64
        (Int.tmod (if f > (0 : Int) then f else (0 : Int)) (1099511627776 : Int) + (16 : Int))) =
    colV a (!o) (Int.tmod (if f > (0 : Int) then f else (0 : Int)) (1099511627776 : Int)))) = true ∧
            ((decide
  (colV a o
      (IntKind.wrap IntKind.i64
        (Int.tmod (if f > (0 : Int) then f else (0 : Int)) (1099511627776 : Int) + (16 : Int))) =
    colV a (!o) (Int.tmod (if f > (0 : Int) then f else (0 : Int)) (1099511627776 : Int)))) = true ∧
            ((decide
  (colV a o
      (IntKind.wrap IntKind.i64
        (Int.tmod (if f > (0 : Int) then f else (0 : Int)) (1099511627776 : Int) + (16 : Int))) =
    colV a (!o) (Int.tmod (if f > (0 : Int) then f else (0 : Int)) (1099511627776 : Int)))) = true ∧
            ((decide
  (colV a o
      (IntKind.wrap IntKind.i64
        (Int.tmod (if f > (0 : Int) then f else (0 : Int)) (1099511627776 : Int) + (16 : Int))) =
    colV a (!o) (Int.tmod (if f > (0 : Int) then f else (0 : Int)) (1099511627776 : Int)))) = true ∧
            (K
  (AV.bool
    (decide
      (colV a o
          (IntKind.wrap IntKind.i64
            (Int.tmod (if f > (0 : Int) then f else (0 : Int)) (1099511627776 : Int) + (32 : Int))) =
        colV a o (Int.tmod (if f > (0 : Int) then f else (0 : Int)) (1099511627776 : Int))))))))))))) ∧
          ((decide
  (colV a o
      (IntKind.wrap IntKind.i64
        (Int.tmod (if f > (0 : Int) then f else (0 : Int)) (1099511627776 : Int) + (16 : Int))) =
    colV a (!o) (Int.tmod (if f > (0 : Int) then f else (0 : Int)) (1099511627776 : Int)))) = false →
            (decide
  (colV a o
      (IntKind.wrap IntKind.i64
        (Int.tmod (if f > (0 : Int) then f else (0 : Int)) (1099511627776 : Int) + (16 : Int))) =
    colV a (!o) (Int.tmod (if f > (0 : Int) then f else (0 : Int)) (1099511627776 : Int)))) = false ∧
            ((decide
  (colV a o
      (IntKind.wrap IntKind.i64
        (Int.tmod (if f > (0 : Int) then f else (0 : Int)) (1099511627776 : Int) + (16 : Int))) =
    colV a (!o) (Int.tmod (if f > (0 : Int) then f else (0 : Int)) (1099511627776 : Int)))) = false ∧
            ((decide
  (colV a o
      (IntKind.wrap IntKind.i64
        (Int.tmod (if f > (0 : Int) then f else (0 : Int)) (1099511627776 : Int) + (16 : Int))) =
    colV a (!o) (Int.tmod (if f > (0 : Int) then f else (0 : Int)) (1099511627776 : Int)))) = false ∧
            ((decide
  (colV a o
      (IntKind.wrap IntKind.i64
        (Int.tmod (if f > (0 : Int) then f else (0 : Int)) (1099511627776 : Int) + (16 : Int))) =
    colV a (!o) (Int.tmod (if f > (0 : Int) then f else (0 : Int)) (1099511627776 : Int)))) = false ∧
            ((decide
  (colV a o
      (IntKind.wrap IntKind.i64
        (Int.tmod (if f > (0 : Int) then f else (0 : Int)) (1099511627776 : Int) + (16 : Int))) =
    colV a (!o) (Int.tmod (if f > (0 : Int) then f else (0 : Int)) (1099511627776 : Int)))) = false ∧
            ((decide
  (colV a o
      (IntKind.wrap IntKind.i64
        (Int.tmod (if f > (0 : Int) then f else (0 : Int)) (1099511627776 : Int) + (16 : Int))) =
    colV a (!o) (Int.tmod (if f > (0 : Int) then f else (0 : Int)) (1099511627776 : Int)))) = false ∧
            ((decide
  (colV a o
      (IntKind.wrap IntKind.i64
        (Int.tmod (if f > (0 : Int) then f else (0 : Int)) (1099511627776 : Int) + (16 : Int))) =
    colV a (!o) (Int.tmod (if f > (0 : Int) then f else (0 : Int)) (1099511627776 : Int)))) = false ∧
            (K (AV.bool false)))))))))))))))))))))) ∧
    ((!!decide (colV a o (Int.tmod (if f > (0 : Int) then f else (0 : Int)) (1099511627776 : Int)) ≥ (8 : Int)) ==
      !decide (bits BinOp.and IntKind.u8 a (64 : Int) = (0 : Int))) = false →
      (!!decide (colV a o (Int.tmod (if f > (0 : Int) then f else (0 : Int)) (1099511627776 : Int)) ≥ (8 : Int)) ==
      !decide (bits BinOp.and IntKind.u8 a (64 : Int) = (0 : Int))) = false ∧
      ((!!decide (colV a o (Int.tmod (if f > (0 : Int) then f else (0 : Int)) (1099511627776 : Int)) ≥ (8 : Int)) ==
      !decide (bits BinOp.and IntKind.u8 a (64 : Int) = (0 : Int))) = false ∧
      ((!!decide (colV a o (Int.tmod (if f > (0 : Int) then f else (0 : Int)) (1099511627776 : Int)) ≥ (8 : Int)) ==
      !decide (bits BinOp.and IntKind.u8 a (64 : Int) = (0 : Int))) = false ∧
      ((!!decide (colV a o (Int.tmod (if f > (0 : Int) then f else (0 : Int)) (1099511627776 : Int)) ≥ (8 : Int)) ==
      !decide (bits BinOp.and IntKind.u8 a (64 : Int) = (0 : Int))) = false ∧
      ((!!decide (colV a o (Int.tmod (if f > (0 : Int) then f else (0 : Int)) (1099511627776 : Int)) ≥ (8 : Int)) ==
      !decide (bits BinOp.and IntKind.u8 a (64 : Int) = (0 : Int))) = false ∧
      ((!!decide (colV a o (Int.tmod (if f > (0 : Int) then f else (0 : Int)) (1099511627776 : Int)) ≥ (8 : Int)) ==
      !decide (bits BinOp.and IntKind.u8 a (64 : Int) = (0 : Int))) = false ∧
      ((!!decide (colV a o (Int.tmod (if f > (0 : Int) then f else (0 : Int)) (1099511627776 : Int)) ≥ (8 : Int)) ==
      !decide (bits BinOp.and IntKind.u8 a (64 : Int) = (0 : Int))) = false ∧
      ((!!decide (colV a o (Int.tmod (if f > (0 : Int) then f else (0 : Int)) (1099511627776 : Int)) ≥ (8 : Int)) ==
      !decide (bits BinOp.and IntKind.u8 a (64 : Int) = (0 : Int))) = false ∧
      ((!!decide (colV a o (Int.tmod (if f > (0 : Int) then f else (0 : Int)) (1099511627776 : Int)) ≥ (8 : Int)) ==
      !decide (bits BinOp.and IntKind.u8 a (64 : Int) = (0 : Int))) = false ∧
      ((!decide (colV a o (Int.tmod (if f > (0 : Int) then f else (0 : Int)) (1099511627776 : Int)) ≥ (8 : Int)) ==
    !decide (bits BinOp.and IntKind.u8 a (64 : Int) = (0 : Int))) = true ∧
      (K (AV.bool false))))))))))))))))))) ∧
  ((!decide (colV a o (Int.tmod (if f > (0 : Int) then f else (0 : Int)) (1099511627776 : Int)) > (15 : Int))) = false →
    (!decide (colV a o (Int.tmod (if f > (0 : Int) then f else (0 : Int)) (1099511627776 : Int)) > (15 : Int))) = false ∧
    ((!decide (colV a o (Int.tmod (if f > (0 : Int) then f else (0 : Int)) (1099511627776 : Int)) > (15 : Int))) = false ∧
    ((!decide (colV a o (Int.tmod (if f > (0 : Int) then f else (0 : Int)) (1099511627776 : Int)) > (15 : Int))) = false ∧
    ((!decide (colV a o (Int.tmod (if f > (0 : Int) then f else (0 : Int)) (1099511627776 : Int)) > (15 : Int))) = false ∧
    ((!decide (colV a o (Int.tmod (if f > (0 : Int) then f else (0 : Int)) (1099511627776 : Int)) > (15 : Int))) = false ∧
    ((decide (colV a o (Int.tmod (if f > (0 : Int) then f else (0 : Int)) (1099511627776 : Int)) > (15 : Int))) = true ∧
    (K (AV.bool false))))))))
def rcl_scr : Plan := .k (.b (.t (.t (.t (.t (.t (.f (.b (.t (.t (.t (.t (.t (.t (.t (.t (.t (.f (.b (.z) (.b (.z) (.b (.t (.t (.t (.t (.t (.t (.t (.z)))))))) (.f (.f (.f (.f (.f (.f (.f (.z))))))))))))))))))))) (.f (.f (.f (.f (.f (.f (.f (.f (.f (.t (.z)))))))))))))))))) (.f (.f (.f (.f (.f (.t (.z))))))))
theorem rcl_vc (a : Int) (o : Bool) (f g : Int) (K : AV → Prop) : (funP (cxP Try.prog purL []) 3 [.int .u8 a, .bool o, .int .i64 f, .int .i64 g] h0 rcl_scr (fun v _ _ => K v)) = rcl_VC a o f g K := by kernel_rfl
end Go.Proofs.Ytafedoablnfebaa.V
