/- Printed by vc.py: what must hold for functions' ways (RcV). -/
import Derived.Test.YtnfelncgeihihaaRcA
namespace Go.Proofs.Ytnfelncgeihihaa.V
open Go Go.Proofs
set_option maxRecDepth 100000
set_option linter.unusedVariables false
def rat_VC (L C T R F W U t : Int) (K : AV → Prop) : Prop :=
  ((!decide (spE L C T R F W U t = (0 : Int))) = true →
    K
  (AV.tup
    [AV.agg [AV.int IntKind.i64 (0 : Int), AV.int IntKind.i64 (0 : Int), AV.int IntKind.i64 (0 : Int)],
      AV.int IntKind.i64 (spE L C T R F W U t)])) ∧
  ((!decide (spE L C T R F W U t = (0 : Int))) = false →
    ((decide (IntKind.wrap IntKind.i64 (spL L C T R F W U t - T) ≥ (0 : Int))) = true →
      (decide (IntKind.wrap IntKind.i64 (spL L C T R F W U t - T) ≥ (0 : Int))) = true ∧
      ((decide (IntKind.wrap IntKind.i64 (spL L C T R F W U t - T) ≥ (0 : Int))) = true ∧
      ((decide (IntKind.wrap IntKind.i64 (spL L C T R F W U t - T) ≥ (0 : Int))) = true ∧
      ((decide (IntKind.wrap IntKind.i64 (spL L C T R F W U t - T) ≥ (0 : Int))) = true ∧
      (((decide (IntKind.wrap IntKind.i64 (spL L C T R F W U t - T) < R)) = true →
        (decide (IntKind.wrap IntKind.i64 (spL L C T R F W U t - T) < R)) = true ∧
        ((decide (IntKind.wrap IntKind.i64 (spL L C T R F W U t - T) < R)) = true ∧
        (((decide (IntKind.wrap IntKind.i64 (spC L C T R F W U t - F) ≥ (0 : Int))) = true →
          (decide (IntKind.wrap IntKind.i64 (spC L C T R F W U t - F) ≥ (0 : Int))) = true ∧
          ((decide (IntKind.wrap IntKind.i64 (spC L C T R F W U t - F) ≥ (0 : Int))) = true ∧
          ((decide (IntKind.wrap IntKind.i64 (spC L C T R F W U t - F) ≥ (0 : Int))) = true ∧
          ((decide (IntKind.wrap IntKind.i64 (spC L C T R F W U t - F) ≥ (0 : Int))) = true ∧
          ((decide (IntKind.wrap IntKind.i64 (spC L C T R F W U t - F) ≥ (0 : Int))) = true ∧
          (((decide (IntKind.wrap IntKind.i64 (spC L C T R F W U t - F) < IntKind.wrap IntKind.i64 ((4 : Int) * W))) = true →
            ((decide (Int.tmod (IntKind.wrap IntKind.i64 (spC L C T R F W U t - F)) (8 : Int) = (0 : Int))) = true →
              (decide (Int.tmod (IntKind.wrap IntKind.i64 (spC L C T R F W U t - F)) (8 : Int) = (0 : Int))) = true ∧
              (K
  (AV.tup
    [AV.agg
        [AV.int IntKind.i64 (1 : Int),
          AV.int IntKind.i64
            (IntKind.wrap IntKind.i64
              (IntKind.wrap IntKind.i64
                  (IntKind.wrap IntKind.i64 (Int.tdiv (IntKind.wrap IntKind.i64 (spC L C T R F W U t - F)) (8 : Int)) *
                    (2 : Int)) +
                IntKind.wrap IntKind.i64
                  (Int.tdiv (Int.tmod (IntKind.wrap IntKind.i64 (spC L C T R F W U t - F)) (8 : Int)) (2 : Int)))),
          AV.int IntKind.i64 (IntKind.wrap IntKind.i64 (spL L C T R F W U t - T))],
      AV.int IntKind.i64 (0 : Int)]))) ∧
            ((decide (Int.tmod (IntKind.wrap IntKind.i64 (spC L C T R F W U t - F)) (8 : Int) = (0 : Int))) = false →
              ((decide (Int.tmod (IntKind.wrap IntKind.i64 (spC L C T R F W U t - F)) (8 : Int) = (2 : Int))) = true →
                K
  (AV.tup
    [AV.agg
        [AV.int IntKind.i64 (1 : Int),
          AV.int IntKind.i64
            (IntKind.wrap IntKind.i64
              (IntKind.wrap IntKind.i64
                  (IntKind.wrap IntKind.i64 (Int.tdiv (IntKind.wrap IntKind.i64 (spC L C T R F W U t - F)) (8 : Int)) *
                    (2 : Int)) +
                IntKind.wrap IntKind.i64
                  (Int.tdiv (Int.tmod (IntKind.wrap IntKind.i64 (spC L C T R F W U t - F)) (8 : Int)) (2 : Int)))),
          AV.int IntKind.i64 (IntKind.wrap IntKind.i64 (spL L C T R F W U t - T))],
      AV.int IntKind.i64 (0 : Int)])) ∧
              ((decide (Int.tmod (IntKind.wrap IntKind.i64 (spC L C T R F W U t - F)) (8 : Int) = (2 : Int))) = false →
                ((decide (Int.tmod (IntKind.wrap IntKind.i64 (spC L C T R F W U t - F)) (8 : Int) = (1 : Int))) = true →
                  (decide (Int.tmod (IntKind.wrap IntKind.i64 (spC L C T R F W U t - F)) (8 : Int) = (1 : Int))) = true ∧
                  (K
  (AV.tup
    [AV.agg
        [AV.int IntKind.i64 (2 : Int),
          AV.int IntKind.i64
            (IntKind.wrap IntKind.i64
              (IntKind.wrap IntKind.i64
                  (IntKind.wrap IntKind.i64 (Int.tdiv (IntKind.wrap IntKind.i64 (spC L C T R F W U t - F)) (8 : Int)) *
                    (2 : Int)) +
                IntKind.wrap IntKind.i64
                  (Int.tdiv (Int.tmod (IntKind.wrap IntKind.i64 (spC L C T R F W U t - F)) (8 : Int)) (2 : Int)))),
          AV.int IntKind.i64 (IntKind.wrap IntKind.i64 (spL L C T R F W U t - T))],
      AV.int IntKind.i64 (0 : Int)]))) ∧
                ((decide (Int.tmod (IntKind.wrap IntKind.i64 (spC L C T R F W U t - F)) (8 : Int) = (1 : Int))) = false →
                  ((decide (Int.tmod (IntKind.wrap IntKind.i64 (spC L C T R F W U t - F)) (8 : Int) = (3 : Int))) = true →
                    K
  (AV.tup
    [AV.agg
        [AV.int IntKind.i64 (2 : Int),
          AV.int IntKind.i64
            (IntKind.wrap IntKind.i64
              (IntKind.wrap IntKind.i64
                  (IntKind.wrap IntKind.i64 (Int.tdiv (IntKind.wrap IntKind.i64 (spC L C T R F W U t - F)) (8 : Int)) *
                    (2 : Int)) +
                IntKind.wrap IntKind.i64
                  (Int.tdiv (Int.tmod (IntKind.wrap IntKind.i64 (spC L C T R F W U t - F)) (8 : Int)) (2 : Int)))),
          AV.int IntKind.i64 (IntKind.wrap IntKind.i64 (spL L C T R F W U t - T))],
      AV.int IntKind.i64 (0 : Int)])) ∧
                  ((decide (Int.tmod (IntKind.wrap IntKind.i64 (spC L C T R F W U t - F)) (8 : Int) = (3 : Int))) = false →
                    K
  (AV.tup
    [AV.agg [AV.int IntKind.i64 (0 : Int), AV.int IntKind.i64 (0 : Int), AV.int IntKind.i64 (0 : Int)],
      AV.int IntKind.i64 (0 : Int)])))))) ∧
          ((decide (IntKind.wrap IntKind.i64 (spC L C T R F W U t - F) < IntKind.wrap IntKind.i64 ((4 : Int) * W))) = false →
            ((decide (Int.tmod (spC L C T R F W U t) (8 : Int) = (0 : Int))) = true →
              K
  (AV.tup
    [AV.agg
        [AV.int IntKind.i64 (3 : Int), AV.int IntKind.i64 (spC L C T R F W U t),
          AV.int IntKind.i64 (spL L C T R F W U t)],
      AV.int IntKind.i64 (0 : Int)])) ∧
            ((decide (Int.tmod (spC L C T R F W U t) (8 : Int) = (0 : Int))) = false →
              K
  (AV.tup
    [AV.agg [AV.int IntKind.i64 (0 : Int), AV.int IntKind.i64 (0 : Int), AV.int IntKind.i64 (0 : Int)],
      AV.int IntKind.i64 (0 : Int)]))))))))) ∧
        ((decide (IntKind.wrap IntKind.i64 (spC L C T R F W U t - F) ≥ (0 : Int))) = false →
          (decide (IntKind.wrap IntKind.i64 (spC L C T R F W U t - F) ≥ (0 : Int))) = false ∧
          ((decide (IntKind.wrap IntKind.i64 (spC L C T R F W U t - F) ≥ (0 : Int))) = false ∧
          ((decide (IntKind.wrap IntKind.i64 (spC L C T R F W U t - F) ≥ (0 : Int))) = false ∧
          ((decide (IntKind.wrap IntKind.i64 (spC L C T R F W U t - F) ≥ (0 : Int))) = false ∧
          ((decide (IntKind.wrap IntKind.i64 (spC L C T R F W U t - F) ≥ (0 : Int))) = false ∧
          (((decide (Int.tmod (spC L C T R F W U t) (8 : Int) = (0 : Int))) = true →
            K
  (AV.tup
    [AV.agg
        [AV.int IntKind.i64 (3 : Int), AV.int IntKind.i64 (spC L C T R F W U t),
          AV.int IntKind.i64 (spL L C T R F W U t)],
      AV.int IntKind.i64 (0 : Int)])) ∧
          ((decide (Int.tmod (spC L C T R F W U t) (8 : Int) = (0 : Int))) = false →
            K
  (AV.tup
    [AV.agg [AV.int IntKind.i64 (0 : Int), AV.int IntKind.i64 (0 : Int), AV.int IntKind.i64 (0 : Int)],
      AV.int IntKind.i64 (0 : Int)]))))))))))) ∧
      ((decide (IntKind.wrap IntKind.i64 (spL L C T R F W U t - T) < R)) = false →
        (decide (IntKind.wrap IntKind.i64 (spL L C T R F W U t - T) < R)) = false ∧
        ((decide (IntKind.wrap IntKind.i64 (spL L C T R F W U t - T) < R)) = false ∧
        (((decide (Int.tmod (spC L C T R F W U t) (8 : Int) = (0 : Int))) = true →
          K
  (AV.tup
    [AV.agg
        [AV.int IntKind.i64 (3 : Int), AV.int IntKind.i64 (spC L C T R F W U t),
          AV.int IntKind.i64 (spL L C T R F W U t)],
      AV.int IntKind.i64 (0 : Int)])) ∧
        ((decide (Int.tmod (spC L C T R F W U t) (8 : Int) = (0 : Int))) = false →
          K
  (AV.tup
    [AV.agg [AV.int IntKind.i64 (0 : Int), AV.int IntKind.i64 (0 : Int), AV.int IntKind.i64 (0 : Int)],
      AV.int IntKind.i64 (0 : Int)])))))))))) ∧
    ((decide (IntKind.wrap IntKind.i64 (spL L C T R F W U t - T) ≥ (0 : Int))) = false →
      (decide (IntKind.wrap IntKind.i64 (spL L C T R F W U t - T) ≥ (0 : Int))) = false ∧
      ((decide (IntKind.wrap IntKind.i64 (spL L C T R F W U t - T) ≥ (0 : Int))) = false ∧
      ((decide (IntKind.wrap IntKind.i64 (spL L C T R F W U t - T) ≥ (0 : Int))) = false ∧
      ((decide (IntKind.wrap IntKind.i64 (spL L C T R F W U t - T) ≥ (0 : Int))) = false ∧
      (((decide (Int.tmod (spC L C T R F W U t) (8 : Int) = (0 : Int))) = true →
        K
  (AV.tup
    [AV.agg
        [AV.int IntKind.i64 (3 : Int), AV.int IntKind.i64 (spC L C T R F W U t),
          AV.int IntKind.i64 (spL L C T R F W U t)],
      AV.int IntKind.i64 (0 : Int)])) ∧
      ((decide (Int.tmod (spC L C T R F W U t) (8 : Int) = (0 : Int))) = false →
        K
  (AV.tup
    [AV.agg [AV.int IntKind.i64 (0 : Int), AV.int IntKind.i64 (0 : Int), AV.int IntKind.i64 (0 : Int)],
      AV.int IntKind.i64 (0 : Int)]))))))))
def rat_scr : Plan := .b (.z) (.b (.t (.t (.t (.t (.b (.t (.t (.b (.t (.t (.t (.t (.t (.b (.b (.t (.z)) (.b (.z) (.b (.t (.z)) (.b (.z) (.z))))) (.b (.z) (.z)))))))) (.f (.f (.f (.f (.f (.k (.b (.z) (.z))))))))))) (.f (.f (.k (.k (.k (.k (.k (.k (.k (.b (.z) (.z)))))))))))))))) (.f (.f (.f (.f (.k (.k (.k (.k (.k (.k (.k (.k (.k (.k (.b (.z) (.z)))))))))))))))))
theorem rat_vc (L C T R F W U t : Int) (K : AV → Prop) : (funP (XRc) 70 [.agg [.int .i64 L, .int .i64 C, .int .i64 T, .int .i64 R, .int .i64 F, .int .i64 W, .int .i64 U], .int .i64 t] h0 rat_scr (fun v _ _ => K v)) = rat_VC L C T R F W U t K := by kernel_rfl
end Go.Proofs.Ytnfelncgeihihaa.V
