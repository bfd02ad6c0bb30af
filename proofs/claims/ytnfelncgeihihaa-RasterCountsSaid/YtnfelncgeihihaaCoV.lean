/- Printed by vc.py: what must hold for functions' ways (CoV). -/
import Derived.Test.YtnfelncgeihihaaCoA
namespace Go.Proofs.Ytnfelncgeihihaa.V
open Go Go.Proofs
set_option maxRecDepth 100000
set_option linter.unusedVariables false
def stepC_VC (k a v n : Int) (K : AV → Prop) : Prop :=
  ((decide (k = (1 : Int))) = true →
    ((!!decide (n = (4 : Int))) = true →
      (!!decide (n = (4 : Int))) = true ∧
      ((!!decide (n = (4 : Int))) = true ∧
      ((!!decide (n = (4 : Int))) = true ∧
      (((!decide (v = (0 : Int))) = true →
        (!decide (v = (0 : Int))) = true ∧
        ((!decide (v = (0 : Int))) = true ∧
        ((!!decide (n = (4 : Int))) = true ∧
        ((!decide (v = (0 : Int))) = true ∧
        ((!!decide (n = (4 : Int))) = true ∧
        (((!decide (k = (3 : Int))) = true →
          (!decide (k = (3 : Int))) = true ∧
          ((!decide (k = (3 : Int))) = true ∧
          ((!!decide (n = (4 : Int))) = true ∧
          ((!decide (k = (3 : Int))) = true ∧
          ((!decide (n = (4 : Int))) = false ∧
          (((!decide (k = (5 : Int))) = true →
            K (AV.int IntKind.i64 (2 : Int))) ∧
          ((!decide (k = (5 : Int))) = false →
            K (AV.int IntKind.i64 (0 : Int))))))))) ∧
        ((!decide (k = (3 : Int))) = false →
          (!decide (k = (3 : Int))) = false ∧
          ((!decide (k = (3 : Int))) = false ∧
          ((!!decide (n = (4 : Int))) = true ∧
          ((!decide (k = (3 : Int))) = false ∧
          ((!decide (n = (4 : Int))) = false ∧
          (K (AV.int IntKind.i64 (0 : Int)))))))))))))) ∧
      ((!decide (v = (0 : Int))) = false →
        (!decide (v = (0 : Int))) = false ∧
        ((!decide (v = (0 : Int))) = false ∧
        ((!!decide (n = (4 : Int))) = true ∧
        ((!decide (v = (0 : Int))) = false ∧
        ((!!decide (n = (4 : Int))) = true ∧
        ((!!decide (n = (4 : Int))) = true ∧
        ((!decide (n = (4 : Int))) = false ∧
        (K (AV.int IntKind.i64 (0 : Int)))))))))))))) ∧
    ((!!decide (n = (4 : Int))) = false →
      (!!decide (n = (4 : Int))) = false ∧
      ((!!decide (n = (4 : Int))) = false ∧
      ((!!decide (n = (4 : Int))) = false ∧
      ((!!decide (n = (4 : Int))) = false ∧
      ((!!decide (n = (4 : Int))) = false ∧
      ((!!decide (n = (4 : Int))) = false ∧
      ((!decide (n = (4 : Int))) = true ∧
      (K (AV.int IntKind.i64 (2 : Int))))))))))) ∧
  ((decide (k = (1 : Int))) = false →
    ((decide (k = (2 : Int))) = true →
      (decide (k = (2 : Int))) = true ∧
      (((!!decide (n = (3 : Int))) = true →
        (!!decide (n = (3 : Int))) = true ∧
        ((!!decide (n = (3 : Int))) = true ∧
        ((!!decide (n = (3 : Int))) = true ∧
        (((!decide (v = (0 : Int))) = true →
          (!decide (v = (0 : Int))) = true ∧
          ((!decide (v = (0 : Int))) = true ∧
          ((!!decide (n = (3 : Int))) = true ∧
          ((!decide (v = (0 : Int))) = true ∧
          ((!!decide (n = (3 : Int))) = true ∧
          (((!decide (k = (3 : Int))) = true →
            (!decide (k = (3 : Int))) = true ∧
            ((!decide (k = (3 : Int))) = true ∧
            ((!!decide (n = (3 : Int))) = true ∧
            ((!decide (k = (3 : Int))) = true ∧
            ((!decide (n = (3 : Int))) = false ∧
            (((!decide (k = (5 : Int))) = true →
              K (AV.int IntKind.i64 (2 : Int))) ∧
            ((!decide (k = (5 : Int))) = false →
              K (AV.int IntKind.i64 (0 : Int))))))))) ∧
          ((!decide (k = (3 : Int))) = false →
            (!decide (k = (3 : Int))) = false ∧
            ((!decide (k = (3 : Int))) = false ∧
            ((!!decide (n = (3 : Int))) = true ∧
            ((!decide (k = (3 : Int))) = false ∧
            ((!decide (n = (3 : Int))) = false ∧
            (K (AV.int IntKind.i64 (0 : Int)))))))))))))) ∧
        ((!decide (v = (0 : Int))) = false →
          (!decide (v = (0 : Int))) = false ∧
          ((!decide (v = (0 : Int))) = false ∧
          ((!!decide (n = (3 : Int))) = true ∧
          ((!decide (v = (0 : Int))) = false ∧
          ((!!decide (n = (3 : Int))) = true ∧
          ((!!decide (n = (3 : Int))) = true ∧
          ((!decide (n = (3 : Int))) = false ∧
          (K (AV.int IntKind.i64 (0 : Int)))))))))))))) ∧
      ((!!decide (n = (3 : Int))) = false →
        (!!decide (n = (3 : Int))) = false ∧
        ((!!decide (n = (3 : Int))) = false ∧
        ((!!decide (n = (3 : Int))) = false ∧
        ((!!decide (n = (3 : Int))) = false ∧
        ((!!decide (n = (3 : Int))) = false ∧
        ((!!decide (n = (3 : Int))) = false ∧
        ((!decide (n = (3 : Int))) = true ∧
        (K (AV.int IntKind.i64 (2 : Int)))))))))))) ∧
    ((decide (k = (2 : Int))) = false →
      ((decide (k = (3 : Int))) = true →
        ((!!decide (n = (3 : Int))) = true →
          (!!decide (n = (3 : Int))) = true ∧
          ((!!decide (n = (3 : Int))) = true ∧
          ((!!decide (n = (3 : Int))) = true ∧
          (((!decide (v = (0 : Int))) = true →
            (!decide (v = (0 : Int))) = true ∧
            ((!decide (v = (0 : Int))) = true ∧
            ((!!decide (n = (3 : Int))) = true ∧
            ((!decide (v = (0 : Int))) = true ∧
            ((!!decide (n = (3 : Int))) = true ∧
            ((!decide (k = (3 : Int))) = false ∧
            ((!decide (k = (3 : Int))) = false ∧
            ((!decide (k = (3 : Int))) = false ∧
            ((!!decide (n = (3 : Int))) = true ∧
            ((!decide (k = (3 : Int))) = false ∧
            ((!decide (n = (3 : Int))) = false ∧
            (K (AV.int IntKind.i64 (0 : Int)))))))))))))) ∧
          ((!decide (v = (0 : Int))) = false →
            (!decide (v = (0 : Int))) = false ∧
            ((!decide (v = (0 : Int))) = false ∧
            ((!!decide (n = (3 : Int))) = true ∧
            ((!decide (v = (0 : Int))) = false ∧
            ((!!decide (n = (3 : Int))) = true ∧
            ((!!decide (n = (3 : Int))) = true ∧
            ((!decide (n = (3 : Int))) = false ∧
            (K (AV.int IntKind.i64 (0 : Int)))))))))))))) ∧
        ((!!decide (n = (3 : Int))) = false →
          (!!decide (n = (3 : Int))) = false ∧
          ((!!decide (n = (3 : Int))) = false ∧
          ((!!decide (n = (3 : Int))) = false ∧
          ((!!decide (n = (3 : Int))) = false ∧
          ((!!decide (n = (3 : Int))) = false ∧
          ((!!decide (n = (3 : Int))) = false ∧
          ((!decide (n = (3 : Int))) = true ∧
          (K (AV.int IntKind.i64 (2 : Int))))))))))) ∧
      ((decide (k = (3 : Int))) = false →
        ((decide (k = (4 : Int))) = true →
          (decide (k = (4 : Int))) = true ∧
          (((!!decide (n = (4 : Int))) = true →
            (!!decide (n = (4 : Int))) = true ∧
            ((!!decide (n = (4 : Int))) = true ∧
            ((!!decide (n = (4 : Int))) = true ∧
            (((!decide (v = (0 : Int))) = true →
              (!decide (v = (0 : Int))) = true ∧
              ((!decide (v = (0 : Int))) = true ∧
              ((!!decide (n = (4 : Int))) = true ∧
              ((!decide (v = (0 : Int))) = true ∧
              ((!!decide (n = (4 : Int))) = true ∧
              ((!decide (k = (3 : Int))) = true ∧
              ((!decide (k = (3 : Int))) = true ∧
              ((!decide (k = (3 : Int))) = true ∧
              ((!!decide (n = (4 : Int))) = true ∧
              ((!decide (k = (3 : Int))) = true ∧
              ((!decide (n = (4 : Int))) = false ∧
              (((!decide (k = (5 : Int))) = true →
                K (AV.int IntKind.i64 (2 : Int))) ∧
              ((!decide (k = (5 : Int))) = false →
                K (AV.int IntKind.i64 (0 : Int))))))))))))))) ∧
            ((!decide (v = (0 : Int))) = false →
              (!decide (v = (0 : Int))) = false ∧
              ((!decide (v = (0 : Int))) = false ∧
              ((!!decide (n = (4 : Int))) = true ∧
              ((!decide (v = (0 : Int))) = false ∧
              ((!!decide (n = (4 : Int))) = true ∧
              ((!!decide (n = (4 : Int))) = true ∧
              ((!decide (n = (4 : Int))) = false ∧
              (K (AV.int IntKind.i64 (0 : Int)))))))))))))) ∧
          ((!!decide (n = (4 : Int))) = false →
            (!!decide (n = (4 : Int))) = false ∧
            ((!!decide (n = (4 : Int))) = false ∧
            ((!!decide (n = (4 : Int))) = false ∧
            ((!!decide (n = (4 : Int))) = false ∧
            ((!!decide (n = (4 : Int))) = false ∧
            ((!!decide (n = (4 : Int))) = false ∧
            ((!decide (n = (4 : Int))) = true ∧
            (K (AV.int IntKind.i64 (2 : Int)))))))))))) ∧
        ((decide (k = (4 : Int))) = false →
          ((decide (k = (5 : Int))) = true →
            ((!!decide (n = (4 : Int))) = true →
              (!!decide (n = (4 : Int))) = true ∧
              ((!!decide (n = (4 : Int))) = true ∧
              ((!!decide (n = (4 : Int))) = true ∧
              (((!decide (v = (0 : Int))) = true →
                (!decide (v = (0 : Int))) = true ∧
                ((!decide (v = (0 : Int))) = true ∧
                ((!!decide (n = (4 : Int))) = true ∧
                ((!decide (v = (0 : Int))) = true ∧
                ((!!decide (n = (4 : Int))) = true ∧
                ((!decide (k = (3 : Int))) = true ∧
                ((!decide (k = (3 : Int))) = true ∧
                ((!decide (k = (3 : Int))) = true ∧
                ((!!decide (n = (4 : Int))) = true ∧
                ((!decide (k = (3 : Int))) = true ∧
                ((!decide (n = (4 : Int))) = false ∧
                ((!decide (k = (5 : Int))) = false ∧
                (K (AV.int IntKind.i64 (0 : Int))))))))))))))) ∧
              ((!decide (v = (0 : Int))) = false →
                (!decide (v = (0 : Int))) = false ∧
                ((!decide (v = (0 : Int))) = false ∧
                ((!!decide (n = (4 : Int))) = true ∧
                ((!decide (v = (0 : Int))) = false ∧
                ((!!decide (n = (4 : Int))) = true ∧
                ((!!decide (n = (4 : Int))) = true ∧
                ((!decide (n = (4 : Int))) = false ∧
                (K (AV.int IntKind.i64 (0 : Int)))))))))))))) ∧
            ((!!decide (n = (4 : Int))) = false →
              (!!decide (n = (4 : Int))) = false ∧
              ((!!decide (n = (4 : Int))) = false ∧
              ((!!decide (n = (4 : Int))) = false ∧
              ((!!decide (n = (4 : Int))) = false ∧
              ((!!decide (n = (4 : Int))) = false ∧
              ((!!decide (n = (4 : Int))) = false ∧
              ((!decide (n = (4 : Int))) = true ∧
              (K (AV.int IntKind.i64 (2 : Int))))))))))) ∧
          ((decide (k = (5 : Int))) = false →
            ((decide (k = (7 : Int))) = true →
              ((!!decide (n = (7 : Int))) = true →
                (!!decide (n = (7 : Int))) = true ∧
                ((!!decide (n = (7 : Int))) = true ∧
                ((!!decide (n = (7 : Int))) = true ∧
                (((!decide (v = (0 : Int))) = true →
                  (!decide (v = (0 : Int))) = true ∧
                  ((!decide (v = (0 : Int))) = true ∧
                  ((!!decide (n = (7 : Int))) = true ∧
                  ((!decide (v = (0 : Int))) = true ∧
                  ((!!decide (n = (7 : Int))) = true ∧
                  ((!decide (k = (3 : Int))) = true ∧
                  ((!decide (k = (3 : Int))) = true ∧
                  ((!decide (k = (3 : Int))) = true ∧
                  ((!!decide (n = (7 : Int))) = true ∧
                  ((!decide (k = (3 : Int))) = true ∧
                  ((!decide (n = (7 : Int))) = false ∧
                  ((!decide (k = (5 : Int))) = true ∧
                  (K (AV.int IntKind.i64 (2 : Int))))))))))))))) ∧
                ((!decide (v = (0 : Int))) = false →
                  (!decide (v = (0 : Int))) = false ∧
                  ((!decide (v = (0 : Int))) = false ∧
                  ((!!decide (n = (7 : Int))) = true ∧
                  ((!decide (v = (0 : Int))) = false ∧
                  ((!!decide (n = (7 : Int))) = true ∧
                  ((!!decide (n = (7 : Int))) = true ∧
                  ((!decide (n = (7 : Int))) = false ∧
                  (K (AV.int IntKind.i64 (0 : Int)))))))))))))) ∧
              ((!!decide (n = (7 : Int))) = false →
                (!!decide (n = (7 : Int))) = false ∧
                ((!!decide (n = (7 : Int))) = false ∧
                ((!!decide (n = (7 : Int))) = false ∧
                ((!!decide (n = (7 : Int))) = false ∧
                ((!!decide (n = (7 : Int))) = false ∧
                ((!!decide (n = (7 : Int))) = false ∧
                ((!decide (n = (7 : Int))) = true ∧
                (K (AV.int IntKind.i64 (2 : Int))))))))))) ∧
            ((decide (k = (7 : Int))) = false →
              ((decide (k = (6 : Int))) = true →
                ((!!decide (a = (0 : Int))) = true →
                  (!!decide (a = (0 : Int))) = true ∧
                  ((!!decide (a = (0 : Int))) = true ∧
                  ((!decide (a = (0 : Int))) = false ∧
                  (((!!decide (v = (0 : Int))) = true →
                    (!!decide (v = (0 : Int))) = true ∧
                    ((!!decide (v = (0 : Int))) = true ∧
                    ((!decide (v = (0 : Int))) = false ∧
                    (((!decide (n < (1 : Int))) = true →
                      (!decide (n < (1 : Int))) = true ∧
                      ((!decide (n < (1 : Int))) = true ∧
                      ((decide (n < (1 : Int))) = false ∧
                      (((decide (n > (7 : Int))) = true →
                        K (AV.int IntKind.i64 (2 : Int))) ∧
                      ((decide (n > (7 : Int))) = false →
                        K (AV.int IntKind.i64 (0 : Int))))))) ∧
                    ((!decide (n < (1 : Int))) = false →
                      (!decide (n < (1 : Int))) = false ∧
                      ((!decide (n < (1 : Int))) = false ∧
                      ((decide (n < (1 : Int))) = true ∧
                      (K (AV.int IntKind.i64 (2 : Int)))))))))) ∧
                  ((!!decide (v = (0 : Int))) = false →
                    (!!decide (v = (0 : Int))) = false ∧
                    ((!!decide (v = (0 : Int))) = false ∧
                    ((!decide (v = (0 : Int))) = true ∧
                    (K (AV.int IntKind.i64 (2 : Int)))))))))) ∧
                ((!!decide (a = (0 : Int))) = false →
                  (!!decide (a = (0 : Int))) = false ∧
                  ((!!decide (a = (0 : Int))) = false ∧
                  ((!decide (a = (0 : Int))) = true ∧
                  (K (AV.int IntKind.i64 (2 : Int))))))) ∧
              ((decide (k = (6 : Int))) = false →
                K (AV.int IntKind.i64 (2 : Int)))))))))
def stepC_scr : Plan := .b (.b (.t (.t (.t (.b (.t (.t (.t (.t (.t (.b (.t (.t (.t (.t (.f (.b (.z) (.z))))))) (.f (.f (.t (.f (.f (.z)))))))))))) (.f (.f (.t (.f (.t (.k (.k (.k (.t (.k (.f (.z)))))))))))))))) (.f (.f (.f (.k (.k (.k (.f (.f (.k (.k (.k (.f (.t (.z))))))))))))))) (.b (.t (.b (.t (.t (.t (.b (.t (.t (.t (.t (.t (.b (.t (.t (.t (.t (.f (.b (.z) (.z))))))) (.f (.f (.t (.f (.f (.z)))))))))))) (.f (.f (.t (.f (.t (.k (.k (.k (.t (.k (.f (.z)))))))))))))))) (.f (.f (.f (.k (.k (.k (.f (.f (.k (.k (.k (.f (.t (.z)))))))))))))))) (.b (.b (.t (.t (.t (.b (.t (.t (.t (.t (.t (.f (.f (.f (.t (.f (.f (.z)))))))))))) (.f (.f (.t (.f (.t (.k (.k (.k (.t (.k (.f (.z)))))))))))))))) (.f (.f (.f (.k (.k (.k (.f (.f (.k (.k (.k (.f (.t (.z))))))))))))))) (.b (.t (.b (.t (.t (.t (.b (.t (.t (.t (.t (.t (.t (.t (.t (.t (.t (.f (.b (.z) (.z))))))))))))) (.f (.f (.t (.f (.t (.k (.k (.k (.t (.k (.f (.z)))))))))))))))) (.f (.f (.f (.k (.k (.k (.f (.f (.k (.k (.k (.f (.t (.z)))))))))))))))) (.b (.b (.t (.t (.t (.b (.t (.t (.t (.t (.t (.t (.t (.t (.t (.t (.f (.f (.z))))))))))))) (.f (.f (.t (.f (.t (.k (.k (.k (.t (.k (.f (.z)))))))))))))))) (.f (.f (.f (.k (.k (.k (.f (.f (.k (.k (.k (.f (.t (.z))))))))))))))) (.b (.b (.t (.t (.t (.b (.t (.t (.t (.t (.t (.t (.t (.t (.t (.t (.f (.t (.z))))))))))))) (.f (.f (.t (.f (.t (.k (.k (.k (.t (.k (.f (.z)))))))))))))))) (.f (.f (.f (.k (.k (.k (.f (.f (.k (.k (.k (.f (.t (.z))))))))))))))) (.b (.b (.t (.t (.f (.b (.t (.t (.f (.b (.t (.t (.f (.b (.z) (.z))))) (.f (.f (.t (.z)))))))) (.f (.f (.t (.z)))))))) (.f (.f (.t (.z))))) (.z)))))))
theorem stepC_vc (k a v n : Int) (K : AV → Prop) : (funP XCo 72 [.agg [.int .i64 k, .int .u16 a, .int .u8 v, .int .i64 n]] h0 stepC_scr (fun v _ _ => K v)) = stepC_VC k a v n K := by kernel_rfl
def stepR_VC (k a v n : Int) (K : AV → Prop) : Prop :=
  ((decide (k = (1 : Int))) = true →
    (decide (k = (1 : Int))) = true ∧
    (((!decide (k = (3 : Int))) = true →
      (!decide (k = (3 : Int))) = true ∧
      ((!decide (k = (3 : Int))) = true ∧
      ((decide (k = (3 : Int))) = false ∧
      (((!!decide (n = (4 : Int))) = true →
        (!!decide (n = (4 : Int))) = true ∧
        ((!!decide (n = (4 : Int))) = true ∧
        (((!decide (k = (5 : Int))) = true →
          (!decide (k = (5 : Int))) = true ∧
          ((!decide (k = (5 : Int))) = true ∧
          ((!!decide (n = (4 : Int))) = true ∧
          ((!decide (k = (5 : Int))) = true ∧
          ((!decide (n = (4 : Int))) = false ∧
          (((!!decide (v = (0 : Int))) = true →
            (!!decide (v = (0 : Int))) = true ∧
            ((!!decide (v = (0 : Int))) = true ∧
            ((!!decide (v = (0 : Int))) = true ∧
            (((decide (k = (6 : Int))) = true →
              (decide (k = (6 : Int))) = true ∧
              ((decide (k = (6 : Int))) = true ∧
              ((!!decide (v = (0 : Int))) = true ∧
              ((decide (k = (6 : Int))) = true ∧
              ((!decide (v = (0 : Int))) = false ∧
              (((!decide (a = (0 : Int))) = true →
                K (AV.int IntKind.i64 (2 : Int))) ∧
              ((!decide (a = (0 : Int))) = false →
                K (AV.int IntKind.i64 (0 : Int))))))))) ∧
            ((decide (k = (6 : Int))) = false →
              (decide (k = (6 : Int))) = false ∧
              ((decide (k = (6 : Int))) = false ∧
              ((!!decide (v = (0 : Int))) = true ∧
              ((decide (k = (6 : Int))) = false ∧
              ((!decide (v = (0 : Int))) = false ∧
              (K (AV.int IntKind.i64 (0 : Int)))))))))))) ∧
          ((!!decide (v = (0 : Int))) = false →
            (!!decide (v = (0 : Int))) = false ∧
            ((!!decide (v = (0 : Int))) = false ∧
            ((!!decide (v = (0 : Int))) = false ∧
            ((!!decide (v = (0 : Int))) = false ∧
            ((!decide (v = (0 : Int))) = true ∧
            (K (AV.int IntKind.i64 (2 : Int)))))))))))))) ∧
        ((!decide (k = (5 : Int))) = false →
          (!decide (k = (5 : Int))) = false ∧
          ((!decide (k = (5 : Int))) = false ∧
          ((!!decide (n = (4 : Int))) = true ∧
          ((!decide (k = (5 : Int))) = false ∧
          ((!decide (n = (4 : Int))) = false ∧
          (((decide (k = (6 : Int))) = true →
            (decide (k = (6 : Int))) = true ∧
            ((decide (k = (6 : Int))) = true ∧
            ((decide (k = (6 : Int))) = true ∧
            (((!decide (a = (0 : Int))) = true →
              K (AV.int IntKind.i64 (2 : Int))) ∧
            ((!decide (a = (0 : Int))) = false →
              K (AV.int IntKind.i64 (0 : Int))))))) ∧
          ((decide (k = (6 : Int))) = false →
            (decide (k = (6 : Int))) = false ∧
            ((decide (k = (6 : Int))) = false ∧
            ((decide (k = (6 : Int))) = false ∧
            (K (AV.int IntKind.i64 (0 : Int))))))))))))))) ∧
      ((!!decide (n = (4 : Int))) = false →
        (!!decide (n = (4 : Int))) = false ∧
        ((!!decide (n = (4 : Int))) = false ∧
        ((!!decide (n = (4 : Int))) = false ∧
        ((!decide (n = (4 : Int))) = true ∧
        (K (AV.int IntKind.i64 (2 : Int))))))))))) ∧
    ((!decide (k = (3 : Int))) = false →
      (!decide (k = (3 : Int))) = false ∧
      ((!decide (k = (3 : Int))) = false ∧
      ((decide (k = (3 : Int))) = true ∧
      (((!!decide (n = (4 : Int))) = true →
        (!!decide (n = (4 : Int))) = true ∧
        ((!!decide (n = (4 : Int))) = true ∧
        ((!!decide (n = (4 : Int))) = true ∧
        ((!decide (n = (4 : Int))) = false ∧
        (((decide (k = (6 : Int))) = true →
          (decide (k = (6 : Int))) = true ∧
          ((decide (k = (6 : Int))) = true ∧
          ((decide (k = (6 : Int))) = true ∧
          (((!decide (a = (0 : Int))) = true →
            K (AV.int IntKind.i64 (2 : Int))) ∧
          ((!decide (a = (0 : Int))) = false →
            K (AV.int IntKind.i64 (0 : Int))))))) ∧
        ((decide (k = (6 : Int))) = false →
          (decide (k = (6 : Int))) = false ∧
          ((decide (k = (6 : Int))) = false ∧
          ((decide (k = (6 : Int))) = false ∧
          (K (AV.int IntKind.i64 (0 : Int))))))))))) ∧
      ((!!decide (n = (4 : Int))) = false →
        (!!decide (n = (4 : Int))) = false ∧
        ((!!decide (n = (4 : Int))) = false ∧
        ((!!decide (n = (4 : Int))) = false ∧
        ((!decide (n = (4 : Int))) = true ∧
        (K (AV.int IntKind.i64 (2 : Int))))))))))))) ∧
  ((decide (k = (1 : Int))) = false →
    ((decide (k = (4 : Int))) = true →
      (decide (k = (4 : Int))) = true ∧
      (((!decide (k = (3 : Int))) = true →
        (!decide (k = (3 : Int))) = true ∧
        ((!decide (k = (3 : Int))) = true ∧
        ((decide (k = (3 : Int))) = false ∧
        (((!!decide (n = (4 : Int))) = true →
          (!!decide (n = (4 : Int))) = true ∧
          ((!!decide (n = (4 : Int))) = true ∧
          (((!decide (k = (5 : Int))) = true →
            (!decide (k = (5 : Int))) = true ∧
            ((!decide (k = (5 : Int))) = true ∧
            ((!!decide (n = (4 : Int))) = true ∧
            ((!decide (k = (5 : Int))) = true ∧
            ((!decide (n = (4 : Int))) = false ∧
            (((!!decide (v = (0 : Int))) = true →
              (!!decide (v = (0 : Int))) = true ∧
              ((!!decide (v = (0 : Int))) = true ∧
              ((!!decide (v = (0 : Int))) = true ∧
              (((decide (k = (6 : Int))) = true →
                (decide (k = (6 : Int))) = true ∧
                ((decide (k = (6 : Int))) = true ∧
                ((!!decide (v = (0 : Int))) = true ∧
                ((decide (k = (6 : Int))) = true ∧
                ((!decide (v = (0 : Int))) = false ∧
                (((!decide (a = (0 : Int))) = true →
                  K (AV.int IntKind.i64 (2 : Int))) ∧
                ((!decide (a = (0 : Int))) = false →
                  K (AV.int IntKind.i64 (0 : Int))))))))) ∧
              ((decide (k = (6 : Int))) = false →
                (decide (k = (6 : Int))) = false ∧
                ((decide (k = (6 : Int))) = false ∧
                ((!!decide (v = (0 : Int))) = true ∧
                ((decide (k = (6 : Int))) = false ∧
                ((!decide (v = (0 : Int))) = false ∧
                (K (AV.int IntKind.i64 (0 : Int)))))))))))) ∧
            ((!!decide (v = (0 : Int))) = false →
              (!!decide (v = (0 : Int))) = false ∧
              ((!!decide (v = (0 : Int))) = false ∧
              ((!!decide (v = (0 : Int))) = false ∧
              ((!!decide (v = (0 : Int))) = false ∧
              ((!decide (v = (0 : Int))) = true ∧
              (K (AV.int IntKind.i64 (2 : Int)))))))))))))) ∧
          ((!decide (k = (5 : Int))) = false →
            (!decide (k = (5 : Int))) = false ∧
            ((!decide (k = (5 : Int))) = false ∧
            ((!!decide (n = (4 : Int))) = true ∧
            ((!decide (k = (5 : Int))) = false ∧
            ((!decide (n = (4 : Int))) = false ∧
            (((decide (k = (6 : Int))) = true →
              (decide (k = (6 : Int))) = true ∧
              ((decide (k = (6 : Int))) = true ∧
              ((decide (k = (6 : Int))) = true ∧
              (((!decide (a = (0 : Int))) = true →
                K (AV.int IntKind.i64 (2 : Int))) ∧
              ((!decide (a = (0 : Int))) = false →
                K (AV.int IntKind.i64 (0 : Int))))))) ∧
            ((decide (k = (6 : Int))) = false →
              (decide (k = (6 : Int))) = false ∧
              ((decide (k = (6 : Int))) = false ∧
              ((decide (k = (6 : Int))) = false ∧
              (K (AV.int IntKind.i64 (0 : Int))))))))))))))) ∧
        ((!!decide (n = (4 : Int))) = false →
          (!!decide (n = (4 : Int))) = false ∧
          ((!!decide (n = (4 : Int))) = false ∧
          ((!!decide (n = (4 : Int))) = false ∧
          ((!decide (n = (4 : Int))) = true ∧
          (K (AV.int IntKind.i64 (2 : Int))))))))))) ∧
      ((!decide (k = (3 : Int))) = false →
        (!decide (k = (3 : Int))) = false ∧
        ((!decide (k = (3 : Int))) = false ∧
        ((decide (k = (3 : Int))) = true ∧
        (((!!decide (n = (4 : Int))) = true →
          (!!decide (n = (4 : Int))) = true ∧
          ((!!decide (n = (4 : Int))) = true ∧
          ((!!decide (n = (4 : Int))) = true ∧
          ((!decide (n = (4 : Int))) = false ∧
          (((decide (k = (6 : Int))) = true →
            (decide (k = (6 : Int))) = true ∧
            ((decide (k = (6 : Int))) = true ∧
            ((decide (k = (6 : Int))) = true ∧
            (((!decide (a = (0 : Int))) = true →
              K (AV.int IntKind.i64 (2 : Int))) ∧
            ((!decide (a = (0 : Int))) = false →
              K (AV.int IntKind.i64 (0 : Int))))))) ∧
          ((decide (k = (6 : Int))) = false →
            (decide (k = (6 : Int))) = false ∧
            ((decide (k = (6 : Int))) = false ∧
            ((decide (k = (6 : Int))) = false ∧
            (K (AV.int IntKind.i64 (0 : Int))))))))))) ∧
        ((!!decide (n = (4 : Int))) = false →
          (!!decide (n = (4 : Int))) = false ∧
          ((!!decide (n = (4 : Int))) = false ∧
          ((!!decide (n = (4 : Int))) = false ∧
          ((!decide (n = (4 : Int))) = true ∧
          (K (AV.int IntKind.i64 (2 : Int))))))))))))) ∧
    ((decide (k = (4 : Int))) = false →
      ((decide (k = (5 : Int))) = true →
        ((!decide (k = (3 : Int))) = true →
          (!decide (k = (3 : Int))) = true ∧
          ((!decide (k = (3 : Int))) = true ∧
          ((decide (k = (3 : Int))) = false ∧
          (((!!decide (n = (4 : Int))) = true →
            (!!decide (n = (4 : Int))) = true ∧
            ((!!decide (n = (4 : Int))) = true ∧
            ((!decide (k = (5 : Int))) = false ∧
            ((!decide (k = (5 : Int))) = false ∧
            ((!decide (k = (5 : Int))) = false ∧
            ((!!decide (n = (4 : Int))) = true ∧
            ((!decide (k = (5 : Int))) = false ∧
            ((!decide (n = (4 : Int))) = false ∧
            (((decide (k = (6 : Int))) = true →
              (decide (k = (6 : Int))) = true ∧
              ((decide (k = (6 : Int))) = true ∧
              ((decide (k = (6 : Int))) = true ∧
              (((!decide (a = (0 : Int))) = true →
                K (AV.int IntKind.i64 (2 : Int))) ∧
              ((!decide (a = (0 : Int))) = false →
                K (AV.int IntKind.i64 (0 : Int))))))) ∧
            ((decide (k = (6 : Int))) = false →
              (decide (k = (6 : Int))) = false ∧
              ((decide (k = (6 : Int))) = false ∧
              ((decide (k = (6 : Int))) = false ∧
              (K (AV.int IntKind.i64 (0 : Int))))))))))))))) ∧
          ((!!decide (n = (4 : Int))) = false →
            (!!decide (n = (4 : Int))) = false ∧
            ((!!decide (n = (4 : Int))) = false ∧
            ((!!decide (n = (4 : Int))) = false ∧
            ((!decide (n = (4 : Int))) = true ∧
            (K (AV.int IntKind.i64 (2 : Int))))))))))) ∧
        ((!decide (k = (3 : Int))) = false →
          (!decide (k = (3 : Int))) = false ∧
          ((!decide (k = (3 : Int))) = false ∧
          ((decide (k = (3 : Int))) = true ∧
          (((!!decide (n = (4 : Int))) = true →
            (!!decide (n = (4 : Int))) = true ∧
            ((!!decide (n = (4 : Int))) = true ∧
            ((!!decide (n = (4 : Int))) = true ∧
            ((!decide (n = (4 : Int))) = false ∧
            (((decide (k = (6 : Int))) = true →
              (decide (k = (6 : Int))) = true ∧
              ((decide (k = (6 : Int))) = true ∧
              ((decide (k = (6 : Int))) = true ∧
              (((!decide (a = (0 : Int))) = true →
                K (AV.int IntKind.i64 (2 : Int))) ∧
              ((!decide (a = (0 : Int))) = false →
                K (AV.int IntKind.i64 (0 : Int))))))) ∧
            ((decide (k = (6 : Int))) = false →
              (decide (k = (6 : Int))) = false ∧
              ((decide (k = (6 : Int))) = false ∧
              ((decide (k = (6 : Int))) = false ∧
              (K (AV.int IntKind.i64 (0 : Int))))))))))) ∧
          ((!!decide (n = (4 : Int))) = false →
            (!!decide (n = (4 : Int))) = false ∧
            ((!!decide (n = (4 : Int))) = false ∧
            ((!!decide (n = (4 : Int))) = false ∧
            ((!decide (n = (4 : Int))) = true ∧
            (K (AV.int IntKind.i64 (2 : Int)))))))))))) ∧
      ((decide (k = (5 : Int))) = false →
        ((decide (k = (2 : Int))) = true →
          (decide (k = (2 : Int))) = true ∧
          (((!decide (k = (3 : Int))) = true →
            (!decide (k = (3 : Int))) = true ∧
            ((!decide (k = (3 : Int))) = true ∧
            ((decide (k = (3 : Int))) = false ∧
            (((!!decide (n = (3 : Int))) = true →
              (!!decide (n = (3 : Int))) = true ∧
              ((!!decide (n = (3 : Int))) = true ∧
              ((!decide (k = (5 : Int))) = true ∧
              ((!decide (k = (5 : Int))) = true ∧
              ((!decide (k = (5 : Int))) = true ∧
              ((!!decide (n = (3 : Int))) = true ∧
              ((!decide (k = (5 : Int))) = true ∧
              ((!decide (n = (3 : Int))) = false ∧
              (((!!decide (v = (0 : Int))) = true →
                (!!decide (v = (0 : Int))) = true ∧
                ((!!decide (v = (0 : Int))) = true ∧
                ((!!decide (v = (0 : Int))) = true ∧
                (((decide (k = (6 : Int))) = true →
                  (decide (k = (6 : Int))) = true ∧
                  ((decide (k = (6 : Int))) = true ∧
                  ((!!decide (v = (0 : Int))) = true ∧
                  ((decide (k = (6 : Int))) = true ∧
                  ((!decide (v = (0 : Int))) = false ∧
                  (((!decide (a = (0 : Int))) = true →
                    K (AV.int IntKind.i64 (2 : Int))) ∧
                  ((!decide (a = (0 : Int))) = false →
                    K (AV.int IntKind.i64 (0 : Int))))))))) ∧
                ((decide (k = (6 : Int))) = false →
                  (decide (k = (6 : Int))) = false ∧
                  ((decide (k = (6 : Int))) = false ∧
                  ((!!decide (v = (0 : Int))) = true ∧
                  ((decide (k = (6 : Int))) = false ∧
                  ((!decide (v = (0 : Int))) = false ∧
                  (K (AV.int IntKind.i64 (0 : Int)))))))))))) ∧
              ((!!decide (v = (0 : Int))) = false →
                (!!decide (v = (0 : Int))) = false ∧
                ((!!decide (v = (0 : Int))) = false ∧
                ((!!decide (v = (0 : Int))) = false ∧
                ((!!decide (v = (0 : Int))) = false ∧
                ((!decide (v = (0 : Int))) = true ∧
                (K (AV.int IntKind.i64 (2 : Int))))))))))))))))) ∧
            ((!!decide (n = (3 : Int))) = false →
              (!!decide (n = (3 : Int))) = false ∧
              ((!!decide (n = (3 : Int))) = false ∧
              ((!!decide (n = (3 : Int))) = false ∧
              ((!decide (n = (3 : Int))) = true ∧
              (K (AV.int IntKind.i64 (2 : Int))))))))))) ∧
          ((!decide (k = (3 : Int))) = false →
            (!decide (k = (3 : Int))) = false ∧
            ((!decide (k = (3 : Int))) = false ∧
            ((decide (k = (3 : Int))) = true ∧
            (((!!decide (n = (3 : Int))) = true →
              (!!decide (n = (3 : Int))) = true ∧
              ((!!decide (n = (3 : Int))) = true ∧
              ((!!decide (n = (3 : Int))) = true ∧
              ((!decide (n = (3 : Int))) = false ∧
              (((decide (k = (6 : Int))) = true →
                (decide (k = (6 : Int))) = true ∧
                ((decide (k = (6 : Int))) = true ∧
                ((decide (k = (6 : Int))) = true ∧
                (((!decide (a = (0 : Int))) = true →
                  K (AV.int IntKind.i64 (2 : Int))) ∧
                ((!decide (a = (0 : Int))) = false →
                  K (AV.int IntKind.i64 (0 : Int))))))) ∧
              ((decide (k = (6 : Int))) = false →
                (decide (k = (6 : Int))) = false ∧
                ((decide (k = (6 : Int))) = false ∧
                ((decide (k = (6 : Int))) = false ∧
                (K (AV.int IntKind.i64 (0 : Int))))))))))) ∧
            ((!!decide (n = (3 : Int))) = false →
              (!!decide (n = (3 : Int))) = false ∧
              ((!!decide (n = (3 : Int))) = false ∧
              ((!!decide (n = (3 : Int))) = false ∧
              ((!decide (n = (3 : Int))) = true ∧
              (K (AV.int IntKind.i64 (2 : Int))))))))))))) ∧
        ((decide (k = (2 : Int))) = false →
          ((decide (k = (3 : Int))) = true →
            (!decide (k = (3 : Int))) = false ∧
            ((!decide (k = (3 : Int))) = false ∧
            ((!decide (k = (3 : Int))) = false ∧
            ((decide (k = (3 : Int))) = true ∧
            (((!!decide (n = (3 : Int))) = true →
              (!!decide (n = (3 : Int))) = true ∧
              ((!!decide (n = (3 : Int))) = true ∧
              ((!!decide (n = (3 : Int))) = true ∧
              ((!decide (n = (3 : Int))) = false ∧
              (((decide (k = (6 : Int))) = true →
                (decide (k = (6 : Int))) = true ∧
                ((decide (k = (6 : Int))) = true ∧
                ((decide (k = (6 : Int))) = true ∧
                (((!decide (a = (0 : Int))) = true →
                  K (AV.int IntKind.i64 (2 : Int))) ∧
                ((!decide (a = (0 : Int))) = false →
                  K (AV.int IntKind.i64 (0 : Int))))))) ∧
              ((decide (k = (6 : Int))) = false →
                (decide (k = (6 : Int))) = false ∧
                ((decide (k = (6 : Int))) = false ∧
                ((decide (k = (6 : Int))) = false ∧
                (K (AV.int IntKind.i64 (0 : Int))))))))))) ∧
            ((!!decide (n = (3 : Int))) = false →
              (!!decide (n = (3 : Int))) = false ∧
              ((!!decide (n = (3 : Int))) = false ∧
              ((!!decide (n = (3 : Int))) = false ∧
              ((!decide (n = (3 : Int))) = true ∧
              (K (AV.int IntKind.i64 (2 : Int)))))))))))) ∧
          ((decide (k = (3 : Int))) = false →
            ((decide (k = (7 : Int))) = true →
              (!decide (k = (3 : Int))) = true ∧
              ((!decide (k = (3 : Int))) = true ∧
              ((!decide (k = (3 : Int))) = true ∧
              ((decide (k = (3 : Int))) = false ∧
              (((!!decide (n = (7 : Int))) = true →
                (!!decide (n = (7 : Int))) = true ∧
                ((!!decide (n = (7 : Int))) = true ∧
                ((!decide (k = (5 : Int))) = true ∧
                ((!decide (k = (5 : Int))) = true ∧
                ((!decide (k = (5 : Int))) = true ∧
                ((!!decide (n = (7 : Int))) = true ∧
                ((!decide (k = (5 : Int))) = true ∧
                ((!decide (n = (7 : Int))) = false ∧
                (((!!decide (v = (0 : Int))) = true →
                  (!!decide (v = (0 : Int))) = true ∧
                  ((!!decide (v = (0 : Int))) = true ∧
                  ((!!decide (v = (0 : Int))) = true ∧
                  (((decide (k = (6 : Int))) = true →
                    (decide (k = (6 : Int))) = true ∧
                    ((decide (k = (6 : Int))) = true ∧
                    ((!!decide (v = (0 : Int))) = true ∧
                    ((decide (k = (6 : Int))) = true ∧
                    ((!decide (v = (0 : Int))) = false ∧
                    (((!decide (a = (0 : Int))) = true →
                      K (AV.int IntKind.i64 (2 : Int))) ∧
                    ((!decide (a = (0 : Int))) = false →
                      K (AV.int IntKind.i64 (0 : Int))))))))) ∧
                  ((decide (k = (6 : Int))) = false →
                    (decide (k = (6 : Int))) = false ∧
                    ((decide (k = (6 : Int))) = false ∧
                    ((!!decide (v = (0 : Int))) = true ∧
                    ((decide (k = (6 : Int))) = false ∧
                    ((!decide (v = (0 : Int))) = false ∧
                    (K (AV.int IntKind.i64 (0 : Int)))))))))))) ∧
                ((!!decide (v = (0 : Int))) = false →
                  (!!decide (v = (0 : Int))) = false ∧
                  ((!!decide (v = (0 : Int))) = false ∧
                  ((!!decide (v = (0 : Int))) = false ∧
                  ((!!decide (v = (0 : Int))) = false ∧
                  ((!decide (v = (0 : Int))) = true ∧
                  (K (AV.int IntKind.i64 (2 : Int))))))))))))))))) ∧
              ((!!decide (n = (7 : Int))) = false →
                (!!decide (n = (7 : Int))) = false ∧
                ((!!decide (n = (7 : Int))) = false ∧
                ((!!decide (n = (7 : Int))) = false ∧
                ((!decide (n = (7 : Int))) = true ∧
                (K (AV.int IntKind.i64 (2 : Int)))))))))))) ∧
            ((decide (k = (7 : Int))) = false →
              ((decide (k = (6 : Int))) = true →
                ((decide (n ≥ (1 : Int))) = true →
                  (decide (n ≥ (1 : Int))) = true ∧
                  ((decide (n ≥ (1 : Int))) = true ∧
                  ((decide (n ≥ (1 : Int))) = true ∧
                  (((decide (n ≤ (7 : Int))) = true →
                    (!decide (k = (3 : Int))) = true ∧
                    ((!decide (k = (3 : Int))) = true ∧
                    ((!decide (k = (3 : Int))) = true ∧
                    ((decide (k = (3 : Int))) = false ∧
                    (((!decide (n = (0 : Int))) = true →
                      (!decide (n = (0 : Int))) = true ∧
                      ((!decide (n = (0 : Int))) = true ∧
                      ((!decide (n = (0 : Int))) = true ∧
                      ((decide (n = (0 : Int))) = false ∧
                      (((!!decide (n = n)) = true →
                        (!!decide (n = n)) = true ∧
                        ((!!decide (n = n)) = true ∧
                        ((!decide (k = (5 : Int))) = true ∧
                        ((!decide (k = (5 : Int))) = true ∧
                        ((!decide (k = (5 : Int))) = true ∧
                        ((!!decide (n = n)) = true ∧
                        ((!decide (k = (5 : Int))) = true ∧
                        ((!decide (n = n)) = false ∧
                        (((!!decide (v = (0 : Int))) = true →
                          (!!decide (v = (0 : Int))) = true ∧
                          ((!!decide (v = (0 : Int))) = true ∧
                          ((!!decide (v = (0 : Int))) = true ∧
                          ((decide (k = (6 : Int))) = true ∧
                          ((decide (k = (6 : Int))) = true ∧
                          ((decide (k = (6 : Int))) = true ∧
                          ((!!decide (v = (0 : Int))) = true ∧
                          ((decide (k = (6 : Int))) = true ∧
                          ((!decide (v = (0 : Int))) = false ∧
                          (((!decide (a = (0 : Int))) = true →
                            K (AV.int IntKind.i64 (2 : Int))) ∧
                          ((!decide (a = (0 : Int))) = false →
                            K (AV.int IntKind.i64 (0 : Int))))))))))))) ∧
                        ((!!decide (v = (0 : Int))) = false →
                          (!!decide (v = (0 : Int))) = false ∧
                          ((!!decide (v = (0 : Int))) = false ∧
                          ((!!decide (v = (0 : Int))) = false ∧
                          ((!!decide (v = (0 : Int))) = false ∧
                          ((!decide (v = (0 : Int))) = true ∧
                          (K (AV.int IntKind.i64 (2 : Int))))))))))))))))) ∧
                      ((!!decide (n = n)) = false →
                        (!!decide (n = n)) = false ∧
                        ((!!decide (n = n)) = false ∧
                        ((!!decide (n = n)) = false ∧
                        ((!decide (n = n)) = true ∧
                        (K (AV.int IntKind.i64 (2 : Int)))))))))))) ∧
                    ((!decide (n = (0 : Int))) = false →
                      (!decide (n = (0 : Int))) = false ∧
                      ((!decide (n = (0 : Int))) = false ∧
                      ((!decide (n = (0 : Int))) = false ∧
                      ((decide (n = (0 : Int))) = true ∧
                      (K (AV.int IntKind.i64 (2 : Int)))))))))))) ∧
                  ((decide (n ≤ (7 : Int))) = false →
                    (!decide (k = (3 : Int))) = true ∧
                    ((!decide (k = (3 : Int))) = true ∧
                    ((!decide (k = (3 : Int))) = true ∧
                    ((decide (k = (3 : Int))) = false ∧
                    (K (AV.int IntKind.i64 (2 : Int))))))))))) ∧
                ((decide (n ≥ (1 : Int))) = false →
                  (decide (n ≥ (1 : Int))) = false ∧
                  ((decide (n ≥ (1 : Int))) = false ∧
                  ((decide (n ≥ (1 : Int))) = false ∧
                  ((!decide (k = (3 : Int))) = true ∧
                  ((!decide (k = (3 : Int))) = true ∧
                  ((!decide (k = (3 : Int))) = true ∧
                  ((decide (k = (3 : Int))) = false ∧
                  (K (AV.int IntKind.i64 (2 : Int))))))))))) ∧
              ((decide (k = (6 : Int))) = false →
                (!decide (k = (3 : Int))) = true ∧
                ((!decide (k = (3 : Int))) = true ∧
                ((!decide (k = (3 : Int))) = true ∧
                ((decide (k = (3 : Int))) = false ∧
                (K (AV.int IntKind.i64 (2 : Int)))))))))))))
def stepR_scr : Plan := .b (.t (.b (.t (.t (.f (.k (.k (.k (.k (.k (.b (.t (.t (.b (.t (.t (.t (.t (.f (.b (.t (.t (.t (.b (.t (.t (.t (.t (.f (.b (.z) (.z))))))) (.f (.f (.t (.f (.f (.z)))))))))) (.f (.f (.f (.k (.k (.k (.f (.t (.z))))))))))))))) (.f (.f (.t (.f (.f (.k (.k (.k (.k (.b (.t (.t (.k (.t (.k (.b (.z) (.z))))))) (.f (.f (.k (.f (.z)))))))))))))))))) (.f (.f (.k (.k (.k (.f (.t (.z))))))))))))))))) (.f (.f (.t (.k (.k (.k (.k (.k (.b (.t (.t (.k (.k (.k (.t (.k (.f (.k (.k (.k (.k (.b (.t (.t (.k (.t (.k (.b (.z) (.z))))))) (.f (.f (.k (.f (.z)))))))))))))))))) (.f (.f (.k (.k (.k (.f (.t (.z))))))))))))))))))) (.b (.t (.b (.t (.t (.f (.k (.k (.k (.k (.k (.b (.t (.t (.b (.t (.t (.t (.t (.f (.b (.t (.t (.t (.b (.t (.t (.t (.t (.f (.b (.z) (.z))))))) (.f (.f (.t (.f (.f (.z)))))))))) (.f (.f (.f (.k (.k (.k (.f (.t (.z))))))))))))))) (.f (.f (.t (.f (.f (.k (.k (.k (.k (.b (.t (.t (.k (.t (.k (.b (.z) (.z))))))) (.f (.f (.k (.f (.z)))))))))))))))))) (.f (.f (.k (.k (.k (.f (.t (.z))))))))))))))))) (.f (.f (.t (.k (.k (.k (.k (.k (.b (.t (.t (.k (.k (.k (.t (.k (.f (.k (.k (.k (.k (.b (.t (.t (.k (.t (.k (.b (.z) (.z))))))) (.f (.f (.k (.f (.z)))))))))))))))))) (.f (.f (.k (.k (.k (.f (.t (.z))))))))))))))))))) (.b (.b (.t (.t (.f (.k (.k (.k (.k (.k (.b (.t (.t (.f (.f (.f (.t (.f (.f (.k (.k (.k (.k (.b (.t (.t (.k (.t (.k (.b (.z) (.z))))))) (.f (.f (.k (.f (.z)))))))))))))))))) (.f (.f (.k (.k (.k (.f (.t (.z))))))))))))))))) (.f (.f (.t (.k (.k (.k (.k (.k (.b (.t (.t (.k (.k (.k (.t (.k (.f (.k (.k (.k (.k (.b (.t (.t (.k (.t (.k (.b (.z) (.z))))))) (.f (.f (.k (.f (.z)))))))))))))))))) (.f (.f (.k (.k (.k (.f (.t (.z)))))))))))))))))) (.b (.t (.b (.t (.t (.f (.k (.k (.k (.k (.k (.b (.t (.t (.t (.t (.t (.t (.t (.f (.b (.t (.t (.t (.b (.t (.t (.t (.t (.f (.b (.z) (.z))))))) (.f (.f (.t (.f (.f (.z)))))))))) (.f (.f (.f (.k (.k (.k (.f (.t (.z)))))))))))))))))) (.f (.f (.k (.k (.k (.f (.t (.z))))))))))))))))) (.f (.f (.t (.k (.k (.k (.k (.k (.b (.t (.t (.k (.k (.k (.t (.k (.f (.k (.k (.k (.k (.b (.t (.t (.k (.t (.k (.b (.z) (.z))))))) (.f (.f (.k (.f (.z)))))))))))))))))) (.f (.f (.k (.k (.k (.f (.t (.z))))))))))))))))))) (.b (.f (.f (.f (.t (.k (.k (.k (.k (.k (.b (.t (.t (.k (.k (.k (.t (.k (.f (.k (.k (.k (.k (.b (.t (.t (.k (.t (.k (.b (.z) (.z))))))) (.f (.f (.k (.f (.z)))))))))))))))))) (.f (.f (.k (.k (.k (.f (.t (.z)))))))))))))))))) (.b (.t (.t (.t (.f (.k (.k (.k (.k (.k (.b (.t (.t (.t (.t (.t (.t (.t (.f (.b (.t (.t (.t (.b (.t (.t (.t (.t (.f (.b (.z) (.z))))))) (.f (.f (.t (.f (.f (.z)))))))))) (.f (.f (.f (.k (.k (.k (.f (.t (.z)))))))))))))))))) (.f (.f (.k (.k (.k (.f (.t (.z)))))))))))))))))) (.b (.b (.t (.t (.t (.b (.t (.t (.t (.f (.b (.t (.t (.t (.f (.b (.t (.t (.t (.t (.t (.t (.t (.f (.b (.t (.t (.t (.t (.t (.t (.t (.t (.f (.b (.z) (.z))))))))))) (.f (.f (.f (.k (.k (.k (.f (.t (.z)))))))))))))))))) (.f (.f (.k (.k (.k (.f (.t (.z))))))))))))) (.f (.f (.f (.t (.z)))))))))) (.t (.t (.t (.f (.z))))))))) (.f (.f (.f (.k (.t (.t (.t (.f (.z)))))))))) (.t (.t (.t (.f (.z)))))))))))
theorem stepR_vc (k a v n : Int) (K : AV → Prop) : (funP XCo 38 [.agg [.int .i64 k, .int .u16 a, .int .u8 v, .int .i64 n]] h0 stepR_scr (fun v _ _ => K v)) = stepR_VC k a v n K := by kernel_rfl
end Go.Proofs.Ytnfelncgeihihaa.V
