/- Printed by vc.py: what must hold for functions' ways (EvY). -/
import Derived.Test.YtdhpdaogakignaaDoorEvF
namespace Go.Proofs.YtdhpdaogakignaaDoor.V
open Go Go.Proofs
set_option maxRecDepth 100000
set_option linter.unusedVariables false
def knd_VC (a b : Int) (K : AV → Prop) : Prop :=
  ((!!(!decide (ByteArray.toList.loop (nmB a) (0 : Nat) [] = [])) == !decide (chipN a = (0 : Int))) = true →
    (!!(!decide (ByteArray.toList.loop (nmB a) (0 : Nat) [] = [])) == !decide (chipN a = (0 : Int))) = true ∧
    ((!!(!decide (ByteArray.toList.loop (nmB a) (0 : Nat) [] = [])) == !decide (chipN a = (0 : Int))) = true ∧
    ((!(!decide (ByteArray.toList.loop (nmB a) (0 : Nat) [] = [])) == !decide (chipN a = (0 : Int))) = false ∧
    (((!decide (chipN a < (0 : Int))) = true →
      (!decide (chipN a < (0 : Int))) = true ∧
      ((!decide (chipN a < (0 : Int))) = true ∧
      ((decide (chipN a < (0 : Int))) = false ∧
      (((decide (chipN a > (4 : Int))) = true →
        K (AV.bool false)) ∧
      ((decide (chipN a > (4 : Int))) = false →
        ((!decide (chipN a = (0 : Int))) = true →
          (!decide (chipN a = (0 : Int))) = true ∧
          ((!decide (chipN a = (0 : Int))) = true ∧
          ((decide (chipN a = (0 : Int))) = false ∧
          (((decide (chipN b = (0 : Int))) = true →
            K (AV.bool true)) ∧
          ((decide (chipN b = (0 : Int))) = false →
            ((decide (ByteArray.toList.loop (nmB a) (0 : Nat) [] = ByteArray.toList.loop (nmB b) (0 : Nat) []) == decide (a = b)) = true →
              (decide (ByteArray.toList.loop (nmB a) (0 : Nat) [] = ByteArray.toList.loop (nmB b) (0 : Nat) []) == decide (a = b)) = true ∧
              ((decide (ByteArray.toList.loop (nmB a) (0 : Nat) [] = ByteArray.toList.loop (nmB b) (0 : Nat) []) == decide (a = b)) = true ∧
              ((decide (ByteArray.toList.loop (nmB a) (0 : Nat) [] = ByteArray.toList.loop (nmB b) (0 : Nat) []) == decide (a = b)) = true ∧
              (((!decide (a ≥ b)) = true →
                (!decide (a ≥ b)) = true ∧
                ((!decide (a ≥ b)) = true ∧
                ((!decide (a ≥ b)) = true ∧
                ((!decide (a ≥ b)) = true ∧
                ((decide (ByteArray.toList.loop (nmB a) (0 : Nat) [] = ByteArray.toList.loop (nmB b) (0 : Nat) []) == decide (a = b)) = true ∧
                ((decide (a ≥ b)) = false ∧
                ((decide (ByteArray.toList.loop (nmB a) (0 : Nat) [] = ByteArray.toList.loop (nmB b) (0 : Nat) []) == decide (a = b)) = true ∧
                (K (AV.bool (decide (chipN a ≤ chipN b))))))))))) ∧
              ((!decide (a ≥ b)) = false →
                (!decide (a ≥ b)) = false ∧
                ((!decide (a ≥ b)) = false ∧
                ((!decide (a ≥ b)) = false ∧
                ((!decide (a ≥ b)) = false ∧
                ((decide (ByteArray.toList.loop (nmB a) (0 : Nat) [] = ByteArray.toList.loop (nmB b) (0 : Nat) []) == decide (a = b)) = true ∧
                ((decide (a ≥ b)) = true ∧
                ((decide (ByteArray.toList.loop (nmB a) (0 : Nat) [] = ByteArray.toList.loop (nmB b) (0 : Nat) []) == decide (a = b)) = true ∧
                (K (AV.bool true))))))))))))) ∧
            ((decide (ByteArray.toList.loop (nmB a) (0 : Nat) [] = ByteArray.toList.loop (nmB b) (0 : Nat) []) == decide (a = b)) = false →
              (decide (ByteArray.toList.loop (nmB a) (0 : Nat) [] = ByteArray.toList.loop (nmB b) (0 : Nat) []) == decide (a = b)) = false ∧
              ((decide (ByteArray.toList.loop (nmB a) (0 : Nat) [] = ByteArray.toList.loop (nmB b) (0 : Nat) []) == decide (a = b)) = false ∧
              ((decide (ByteArray.toList.loop (nmB a) (0 : Nat) [] = ByteArray.toList.loop (nmB b) (0 : Nat) []) == decide (a = b)) = false ∧
              ((decide (ByteArray.toList.loop (nmB a) (0 : Nat) [] = ByteArray.toList.loop (nmB b) (0 : Nat) []) == decide (a = b)) = false ∧
              ((decide (ByteArray.toList.loop (nmB a) (0 : Nat) [] = ByteArray.toList.loop (nmB b) (0 : Nat) []) == decide (a = b)) = false ∧
              (K (AV.bool false)))))))))))) ∧
        ((!decide (chipN a = (0 : Int))) = false →
          (!decide (chipN a = (0 : Int))) = false ∧
          ((!decide (chipN a = (0 : Int))) = false ∧
          ((decide (chipN a = (0 : Int))) = true ∧
          (K (AV.bool true)))))))))) ∧
    ((!decide (chipN a < (0 : Int))) = false →
      (!decide (chipN a < (0 : Int))) = false ∧
      ((!decide (chipN a < (0 : Int))) = false ∧
      ((decide (chipN a < (0 : Int))) = true ∧
      (K (AV.bool false))))))))) ∧
  ((!!(!decide (ByteArray.toList.loop (nmB a) (0 : Nat) [] = [])) == !decide (chipN a = (0 : Int))) = false →
    (!!(!decide (ByteArray.toList.loop (nmB a) (0 : Nat) [] = [])) == !decide (chipN a = (0 : Int))) = false ∧
    ((!!(!decide (ByteArray.toList.loop (nmB a) (0 : Nat) [] = [])) == !decide (chipN a = (0 : Int))) = false ∧
    ((!(!decide (ByteArray.toList.loop (nmB a) (0 : Nat) [] = [])) == !decide (chipN a = (0 : Int))) = true ∧
    (K (AV.bool false)))))
def knd_scr : Plan := .k (.b (.t (.t (.f (.b (.t (.t (.f (.b (.z) (.b (.t (.t (.f (.b (.z) (.b (.t (.t (.t (.b (.t (.t (.t (.t (.t (.f (.t (.z)))))))) (.f (.f (.f (.f (.t (.t (.t (.z)))))))))))) (.f (.f (.f (.k (.k (.k (.k (.k (.f (.f (.z)))))))))))))))) (.f (.f (.t (.z))))))))) (.f (.f (.t (.z)))))))) (.f (.f (.t (.z)))))
theorem knd_vc (a b : Int) (K : AV → Prop) : (funP (XE2) 5 [.int .i64 a, .int .i64 b] h0 knd_scr (fun v _ _ => K v)) = knd_VC a b K := by kernel_rfl
def eor_VC (a0 a1 a2 a3 a4 a5 b0 b1 b2 b3 b4 b5 c0 c1 c2 c3 c4 c5 : Int) (K : AV → Prop) : Prop :=
  ((!!decide
      (lexN [b0, b1, b2, b3, b4, b5] [a0, a1, a2, a3, a4, a5] =
        IntKind.wrap IntKind.i64 ((0 : Int) - lexN [a0, a1, a2, a3, a4, a5] [b0, b1, b2, b3, b4, b5]))) = true →
    (!!decide
      (lexN [b0, b1, b2, b3, b4, b5] [a0, a1, a2, a3, a4, a5] =
        IntKind.wrap IntKind.i64 ((0 : Int) - lexN [a0, a1, a2, a3, a4, a5] [b0, b1, b2, b3, b4, b5]))) = true ∧
    ((!!decide
      (lexN [b0, b1, b2, b3, b4, b5] [a0, a1, a2, a3, a4, a5] =
        IntKind.wrap IntKind.i64 ((0 : Int) - lexN [a0, a1, a2, a3, a4, a5] [b0, b1, b2, b3, b4, b5]))) = true ∧
    ((!!decide
      (lexN [b0, b1, b2, b3, b4, b5] [a0, a1, a2, a3, a4, a5] =
        IntKind.wrap IntKind.i64 ((0 : Int) - lexN [a0, a1, a2, a3, a4, a5] [b0, b1, b2, b3, b4, b5]))) = true ∧
    ((!!decide
      (lexN [b0, b1, b2, b3, b4, b5] [a0, a1, a2, a3, a4, a5] =
        IntKind.wrap IntKind.i64 ((0 : Int) - lexN [a0, a1, a2, a3, a4, a5] [b0, b1, b2, b3, b4, b5]))) = true ∧
    ((!!decide
      (lexN [b0, b1, b2, b3, b4, b5] [a0, a1, a2, a3, a4, a5] =
        IntKind.wrap IntKind.i64 ((0 : Int) - lexN [a0, a1, a2, a3, a4, a5] [b0, b1, b2, b3, b4, b5]))) = true ∧
    ((!decide
    (lexN [b0, b1, b2, b3, b4, b5] [a0, a1, a2, a3, a4, a5] =
      IntKind.wrap IntKind.i64 ((0 : Int) - lexN [a0, a1, a2, a3, a4, a5] [b0, b1, b2, b3, b4, b5]))) = false ∧
    (((!!decide (lexN [a0, a1, a2, a3, a4, a5] [b0, b1, b2, b3, b4, b5] = (0 : Int)) ==
      (a0 == b0 && (a1 == b1 && (a2 == b2 && (a3 == b3 && (a4 == b4 && (a5 == b5 && true))))))) = true →
      (!!decide (lexN [a0, a1, a2, a3, a4, a5] [b0, b1, b2, b3, b4, b5] = (0 : Int)) ==
      (a0 == b0 && (a1 == b1 && (a2 == b2 && (a3 == b3 && (a4 == b4 && (a5 == b5 && true))))))) = true ∧
      ((!decide (lexN [a0, a1, a2, a3, a4, a5] [b0, b1, b2, b3, b4, b5] = (0 : Int)) ==
    (a0 == b0 && (a1 == b1 && (a2 == b2 && (a3 == b3 && (a4 == b4 && (a5 == b5 && true))))))) = false ∧
      (((!decide (lexN [a0, a1, a2, a3, a4, a5] [b0, b1, b2, b3, b4, b5] < (-1 : Int))) = true →
        (!decide (lexN [a0, a1, a2, a3, a4, a5] [b0, b1, b2, b3, b4, b5] < (-1 : Int))) = true ∧
        ((decide (lexN [a0, a1, a2, a3, a4, a5] [b0, b1, b2, b3, b4, b5] < (-1 : Int))) = false ∧
        (((!decide (lexN [a0, a1, a2, a3, a4, a5] [b0, b1, b2, b3, b4, b5] > (1 : Int))) = true →
          (!decide (lexN [a0, a1, a2, a3, a4, a5] [b0, b1, b2, b3, b4, b5] > (1 : Int))) = true ∧
          ((!decide (lexN [a0, a1, a2, a3, a4, a5] [b0, b1, b2, b3, b4, b5] > (1 : Int))) = true ∧
          (((decide (lexN [a0, a1, a2, a3, a4, a5] [b0, b1, b2, b3, b4, b5] ≤ (0 : Int))) = true →
            (decide (lexN [a0, a1, a2, a3, a4, a5] [b0, b1, b2, b3, b4, b5] ≤ (0 : Int))) = true ∧
            ((!decide (lexN [a0, a1, a2, a3, a4, a5] [b0, b1, b2, b3, b4, b5] > (1 : Int))) = true ∧
            ((decide (lexN [a0, a1, a2, a3, a4, a5] [b0, b1, b2, b3, b4, b5] ≤ (0 : Int))) = true ∧
            ((!decide (lexN [a0, a1, a2, a3, a4, a5] [b0, b1, b2, b3, b4, b5] > (1 : Int))) = true ∧
            (((decide (lexN [b0, b1, b2, b3, b4, b5] [c0, c1, c2, c3, c4, c5] ≤ (0 : Int))) = true →
              (decide (lexN [b0, b1, b2, b3, b4, b5] [c0, c1, c2, c3, c4, c5] ≤ (0 : Int))) = true ∧
              ((decide (lexN [b0, b1, b2, b3, b4, b5] [c0, c1, c2, c3, c4, c5] ≤ (0 : Int))) = true ∧
              (((!decide (lexN [a0, a1, a2, a3, a4, a5] [c0, c1, c2, c3, c4, c5] > (0 : Int))) = true →
                (!decide (lexN [a0, a1, a2, a3, a4, a5] [c0, c1, c2, c3, c4, c5] > (0 : Int))) = true ∧
                ((!decide (lexN [a0, a1, a2, a3, a4, a5] [c0, c1, c2, c3, c4, c5] > (0 : Int))) = true ∧
                (((decide (lexN [a0, a1, a2, a3, a4, a5] [c0, c1, c2, c3, c4, c5] = (0 : Int))) = true →
                  (decide (lexN [a0, a1, a2, a3, a4, a5] [c0, c1, c2, c3, c4, c5] = (0 : Int))) = true ∧
                  ((decide (lexN [a0, a1, a2, a3, a4, a5] [c0, c1, c2, c3, c4, c5] = (0 : Int))) = true ∧
                  (((!decide (lexN [a0, a1, a2, a3, a4, a5] [b0, b1, b2, b3, b4, b5] < (0 : Int))) = true →
                    (!decide (lexN [a0, a1, a2, a3, a4, a5] [b0, b1, b2, b3, b4, b5] < (0 : Int))) = true ∧
                    ((decide (lexN [a0, a1, a2, a3, a4, a5] [c0, c1, c2, c3, c4, c5] = (0 : Int))) = true ∧
                    ((decide (lexN [a0, a1, a2, a3, a4, a5] [b0, b1, b2, b3, b4, b5] < (0 : Int))) = false ∧
                    ((!decide (lexN [a0, a1, a2, a3, a4, a5] [c0, c1, c2, c3, c4, c5] > (0 : Int))) = true ∧
                    ((decide (lexN [a0, a1, a2, a3, a4, a5] [c0, c1, c2, c3, c4, c5] = (0 : Int))) = true ∧
                    ((decide (lexN [b0, b1, b2, b3, b4, b5] [c0, c1, c2, c3, c4, c5] ≤ (0 : Int))) = true ∧
                    ((decide (lexN [a0, a1, a2, a3, a4, a5] [c0, c1, c2, c3, c4, c5] > (0 : Int))) = false ∧
                    ((!decide (lexN [a0, a1, a2, a3, a4, a5] [b0, b1, b2, b3, b4, b5] > (1 : Int))) = true ∧
                    ((decide (lexN [b0, b1, b2, b3, b4, b5] [c0, c1, c2, c3, c4, c5] ≤ (0 : Int))) = true ∧
                    ((decide (lexN [a0, a1, a2, a3, a4, a5] [b0, b1, b2, b3, b4, b5] > (1 : Int))) = false ∧
                    (((decide (lexN [b0, b1, b2, b3, b4, b5] [c0, c1, c2, c3, c4, c5] < (0 : Int))) = true →
                      K (AV.bool false)) ∧
                    ((decide (lexN [b0, b1, b2, b3, b4, b5] [c0, c1, c2, c3, c4, c5] < (0 : Int))) = false →
                      ((!decide (a0 = b0)) = true →
                        K (AV.bool (decide (lexN [a0, a1, a2, a3, a4, a5] [b0, b1, b2, b3, b4, b5] < (0 : Int)) == decide (a0 < b0)))) ∧
                      ((!decide (a0 = b0)) = false →
                        ((!decide (a1 = b1)) = true →
                          (!decide (a1 = b1)) = true ∧
                          ((!decide (a1 = b1)) = true ∧
                          ((!decide (a1 = b1)) = true ∧
                          ((!decide (a1 = b1)) = true ∧
                          ((!decide (a1 = b1)) = true ∧
                          ((!decide (a1 = b1)) = true ∧
                          ((!decide (a1 = b1)) = true ∧
                          ((decide (a1 = b1)) = false ∧
                          (K (AV.bool (decide (lexN [a0, a1, a2, a3, a4, a5] [b0, b1, b2, b3, b4, b5] < (0 : Int)) == decide (a1 < b1)))))))))))) ∧
                        ((!decide (a1 = b1)) = false →
                          (!decide (a1 = b1)) = false ∧
                          ((!decide (a1 = b1)) = false ∧
                          ((!decide (a1 = b1)) = false ∧
                          ((!decide (a1 = b1)) = false ∧
                          ((!decide (a1 = b1)) = false ∧
                          ((!decide (a1 = b1)) = false ∧
                          ((!decide (a1 = b1)) = false ∧
                          ((decide (a1 = b1)) = true ∧
                          (K (AV.bool true))))))))))))))))))))))) ∧
                  ((!decide (lexN [a0, a1, a2, a3, a4, a5] [b0, b1, b2, b3, b4, b5] < (0 : Int))) = false →
                    (!decide (lexN [a0, a1, a2, a3, a4, a5] [b0, b1, b2, b3, b4, b5] < (0 : Int))) = false ∧
                    ((decide (lexN [a0, a1, a2, a3, a4, a5] [c0, c1, c2, c3, c4, c5] = (0 : Int))) = true ∧
                    ((decide (lexN [a0, a1, a2, a3, a4, a5] [b0, b1, b2, b3, b4, b5] < (0 : Int))) = true ∧
                    ((!decide (lexN [a0, a1, a2, a3, a4, a5] [c0, c1, c2, c3, c4, c5] > (0 : Int))) = true ∧
                    ((decide (lexN [a0, a1, a2, a3, a4, a5] [c0, c1, c2, c3, c4, c5] = (0 : Int))) = true ∧
                    ((decide (lexN [b0, b1, b2, b3, b4, b5] [c0, c1, c2, c3, c4, c5] ≤ (0 : Int))) = true ∧
                    ((decide (lexN [a0, a1, a2, a3, a4, a5] [c0, c1, c2, c3, c4, c5] > (0 : Int))) = false ∧
                    ((!decide (lexN [a0, a1, a2, a3, a4, a5] [b0, b1, b2, b3, b4, b5] > (1 : Int))) = true ∧
                    ((decide (lexN [b0, b1, b2, b3, b4, b5] [c0, c1, c2, c3, c4, c5] ≤ (0 : Int))) = true ∧
                    ((decide (lexN [a0, a1, a2, a3, a4, a5] [b0, b1, b2, b3, b4, b5] > (1 : Int))) = false ∧
                    (K (AV.bool false))))))))))))))) ∧
                ((decide (lexN [a0, a1, a2, a3, a4, a5] [c0, c1, c2, c3, c4, c5] = (0 : Int))) = false →
                  (decide (lexN [a0, a1, a2, a3, a4, a5] [c0, c1, c2, c3, c4, c5] = (0 : Int))) = false ∧
                  ((decide (lexN [a0, a1, a2, a3, a4, a5] [c0, c1, c2, c3, c4, c5] = (0 : Int))) = false ∧
                  ((decide (lexN [a0, a1, a2, a3, a4, a5] [c0, c1, c2, c3, c4, c5] = (0 : Int))) = false ∧
                  ((!decide (lexN [a0, a1, a2, a3, a4, a5] [c0, c1, c2, c3, c4, c5] > (0 : Int))) = true ∧
                  ((decide (lexN [a0, a1, a2, a3, a4, a5] [c0, c1, c2, c3, c4, c5] = (0 : Int))) = false ∧
                  ((decide (lexN [b0, b1, b2, b3, b4, b5] [c0, c1, c2, c3, c4, c5] ≤ (0 : Int))) = true ∧
                  ((decide (lexN [a0, a1, a2, a3, a4, a5] [c0, c1, c2, c3, c4, c5] > (0 : Int))) = false ∧
                  ((!decide (lexN [a0, a1, a2, a3, a4, a5] [b0, b1, b2, b3, b4, b5] > (1 : Int))) = true ∧
                  ((decide (lexN [b0, b1, b2, b3, b4, b5] [c0, c1, c2, c3, c4, c5] ≤ (0 : Int))) = true ∧
                  ((decide (lexN [a0, a1, a2, a3, a4, a5] [b0, b1, b2, b3, b4, b5] > (1 : Int))) = false ∧
                  (((!decide (a0 = b0)) = true →
                    K (AV.bool (decide (lexN [a0, a1, a2, a3, a4, a5] [b0, b1, b2, b3, b4, b5] < (0 : Int)) == decide (a0 < b0)))) ∧
                  ((!decide (a0 = b0)) = false →
                    ((!decide (a1 = b1)) = true →
                      (!decide (a1 = b1)) = true ∧
                      ((!decide (a1 = b1)) = true ∧
                      ((!decide (a1 = b1)) = true ∧
                      ((!decide (a1 = b1)) = true ∧
                      ((!decide (a1 = b1)) = true ∧
                      ((!decide (a1 = b1)) = true ∧
                      ((!decide (a1 = b1)) = true ∧
                      ((decide (a1 = b1)) = false ∧
                      (K (AV.bool (decide (lexN [a0, a1, a2, a3, a4, a5] [b0, b1, b2, b3, b4, b5] < (0 : Int)) == decide (a1 < b1)))))))))))) ∧
                    ((!decide (a1 = b1)) = false →
                      (!decide (a1 = b1)) = false ∧
                      ((!decide (a1 = b1)) = false ∧
                      ((!decide (a1 = b1)) = false ∧
                      ((!decide (a1 = b1)) = false ∧
                      ((!decide (a1 = b1)) = false ∧
                      ((!decide (a1 = b1)) = false ∧
                      ((!decide (a1 = b1)) = false ∧
                      ((decide (a1 = b1)) = true ∧
                      (K (AV.bool true))))))))))))))))))))))))) ∧
              ((!decide (lexN [a0, a1, a2, a3, a4, a5] [c0, c1, c2, c3, c4, c5] > (0 : Int))) = false →
                (!decide (lexN [a0, a1, a2, a3, a4, a5] [c0, c1, c2, c3, c4, c5] > (0 : Int))) = false ∧
                ((!decide (lexN [a0, a1, a2, a3, a4, a5] [c0, c1, c2, c3, c4, c5] > (0 : Int))) = false ∧
                ((!decide (lexN [a0, a1, a2, a3, a4, a5] [c0, c1, c2, c3, c4, c5] > (0 : Int))) = false ∧
                ((decide (lexN [b0, b1, b2, b3, b4, b5] [c0, c1, c2, c3, c4, c5] ≤ (0 : Int))) = true ∧
                ((decide (lexN [a0, a1, a2, a3, a4, a5] [c0, c1, c2, c3, c4, c5] > (0 : Int))) = true ∧
                ((!decide (lexN [a0, a1, a2, a3, a4, a5] [b0, b1, b2, b3, b4, b5] > (1 : Int))) = true ∧
                ((decide (lexN [b0, b1, b2, b3, b4, b5] [c0, c1, c2, c3, c4, c5] ≤ (0 : Int))) = true ∧
                ((decide (lexN [a0, a1, a2, a3, a4, a5] [b0, b1, b2, b3, b4, b5] > (1 : Int))) = false ∧
                (K (AV.bool false))))))))))))) ∧
            ((decide (lexN [b0, b1, b2, b3, b4, b5] [c0, c1, c2, c3, c4, c5] ≤ (0 : Int))) = false →
              (decide (lexN [b0, b1, b2, b3, b4, b5] [c0, c1, c2, c3, c4, c5] ≤ (0 : Int))) = false ∧
              ((decide (lexN [b0, b1, b2, b3, b4, b5] [c0, c1, c2, c3, c4, c5] ≤ (0 : Int))) = false ∧
              ((decide (lexN [b0, b1, b2, b3, b4, b5] [c0, c1, c2, c3, c4, c5] ≤ (0 : Int))) = false ∧
              ((!decide (lexN [a0, a1, a2, a3, a4, a5] [b0, b1, b2, b3, b4, b5] > (1 : Int))) = true ∧
              ((decide (lexN [b0, b1, b2, b3, b4, b5] [c0, c1, c2, c3, c4, c5] ≤ (0 : Int))) = false ∧
              ((decide (lexN [a0, a1, a2, a3, a4, a5] [b0, b1, b2, b3, b4, b5] > (1 : Int))) = false ∧
              (((!decide (a0 = b0)) = true →
                K (AV.bool (decide (lexN [a0, a1, a2, a3, a4, a5] [b0, b1, b2, b3, b4, b5] < (0 : Int)) == decide (a0 < b0)))) ∧
              ((!decide (a0 = b0)) = false →
                ((!decide (a1 = b1)) = true →
                  (!decide (a1 = b1)) = true ∧
                  ((!decide (a1 = b1)) = true ∧
                  ((!decide (a1 = b1)) = true ∧
                  ((!decide (a1 = b1)) = true ∧
                  ((!decide (a1 = b1)) = true ∧
                  ((!decide (a1 = b1)) = true ∧
                  ((!decide (a1 = b1)) = true ∧
                  ((decide (a1 = b1)) = false ∧
                  (K (AV.bool (decide (lexN [a0, a1, a2, a3, a4, a5] [b0, b1, b2, b3, b4, b5] < (0 : Int)) == decide (a1 < b1)))))))))))) ∧
                ((!decide (a1 = b1)) = false →
                  (!decide (a1 = b1)) = false ∧
                  ((!decide (a1 = b1)) = false ∧
                  ((!decide (a1 = b1)) = false ∧
                  ((!decide (a1 = b1)) = false ∧
                  ((!decide (a1 = b1)) = false ∧
                  ((!decide (a1 = b1)) = false ∧
                  ((!decide (a1 = b1)) = false ∧
                  ((decide (a1 = b1)) = true ∧
                  (K (AV.bool true))))))))))))))))))))))) ∧
          ((decide (lexN [a0, a1, a2, a3, a4, a5] [b0, b1, b2, b3, b4, b5] ≤ (0 : Int))) = false →
            (decide (lexN [a0, a1, a2, a3, a4, a5] [b0, b1, b2, b3, b4, b5] ≤ (0 : Int))) = false ∧
            ((!decide (lexN [a0, a1, a2, a3, a4, a5] [b0, b1, b2, b3, b4, b5] > (1 : Int))) = true ∧
            ((decide (lexN [a0, a1, a2, a3, a4, a5] [b0, b1, b2, b3, b4, b5] ≤ (0 : Int))) = false ∧
            ((!decide (lexN [a0, a1, a2, a3, a4, a5] [b0, b1, b2, b3, b4, b5] > (1 : Int))) = true ∧
            ((!decide (lexN [a0, a1, a2, a3, a4, a5] [b0, b1, b2, b3, b4, b5] > (1 : Int))) = true ∧
            ((decide (lexN [a0, a1, a2, a3, a4, a5] [b0, b1, b2, b3, b4, b5] > (1 : Int))) = false ∧
            (((!decide (a0 = b0)) = true →
              K (AV.bool (decide (lexN [a0, a1, a2, a3, a4, a5] [b0, b1, b2, b3, b4, b5] < (0 : Int)) == decide (a0 < b0)))) ∧
            ((!decide (a0 = b0)) = false →
              ((!decide (a1 = b1)) = true →
                (!decide (a1 = b1)) = true ∧
                ((!decide (a1 = b1)) = true ∧
                ((!decide (a1 = b1)) = true ∧
                ((!decide (a1 = b1)) = true ∧
                ((!decide (a1 = b1)) = true ∧
                ((!decide (a1 = b1)) = true ∧
                ((!decide (a1 = b1)) = true ∧
                ((decide (a1 = b1)) = false ∧
                (K (AV.bool (decide (lexN [a0, a1, a2, a3, a4, a5] [b0, b1, b2, b3, b4, b5] < (0 : Int)) == decide (a1 < b1)))))))))))) ∧
              ((!decide (a1 = b1)) = false →
                (!decide (a1 = b1)) = false ∧
                ((!decide (a1 = b1)) = false ∧
                ((!decide (a1 = b1)) = false ∧
                ((!decide (a1 = b1)) = false ∧
                ((!decide (a1 = b1)) = false ∧
                ((!decide (a1 = b1)) = false ∧
                ((!decide (a1 = b1)) = false ∧
                ((decide (a1 = b1)) = true ∧
                (K (AV.bool true))))))))))))))))))))) ∧
        ((!decide (lexN [a0, a1, a2, a3, a4, a5] [b0, b1, b2, b3, b4, b5] > (1 : Int))) = false →
          (!decide (lexN [a0, a1, a2, a3, a4, a5] [b0, b1, b2, b3, b4, b5] > (1 : Int))) = false ∧
          ((!decide (lexN [a0, a1, a2, a3, a4, a5] [b0, b1, b2, b3, b4, b5] > (1 : Int))) = false ∧
          ((!decide (lexN [a0, a1, a2, a3, a4, a5] [b0, b1, b2, b3, b4, b5] > (1 : Int))) = false ∧
          ((!decide (lexN [a0, a1, a2, a3, a4, a5] [b0, b1, b2, b3, b4, b5] > (1 : Int))) = false ∧
          ((!decide (lexN [a0, a1, a2, a3, a4, a5] [b0, b1, b2, b3, b4, b5] > (1 : Int))) = false ∧
          ((decide (lexN [a0, a1, a2, a3, a4, a5] [b0, b1, b2, b3, b4, b5] > (1 : Int))) = true ∧
          (K (AV.bool false))))))))))) ∧
      ((!decide (lexN [a0, a1, a2, a3, a4, a5] [b0, b1, b2, b3, b4, b5] < (-1 : Int))) = false →
        (!decide (lexN [a0, a1, a2, a3, a4, a5] [b0, b1, b2, b3, b4, b5] < (-1 : Int))) = false ∧
        ((decide (lexN [a0, a1, a2, a3, a4, a5] [b0, b1, b2, b3, b4, b5] < (-1 : Int))) = true ∧
        (K (AV.bool false))))))) ∧
    ((!!decide (lexN [a0, a1, a2, a3, a4, a5] [b0, b1, b2, b3, b4, b5] = (0 : Int)) ==
      (a0 == b0 && (a1 == b1 && (a2 == b2 && (a3 == b3 && (a4 == b4 && (a5 == b5 && true))))))) = false →
      (!!decide (lexN [a0, a1, a2, a3, a4, a5] [b0, b1, b2, b3, b4, b5] = (0 : Int)) ==
      (a0 == b0 && (a1 == b1 && (a2 == b2 && (a3 == b3 && (a4 == b4 && (a5 == b5 && true))))))) = false ∧
      ((!decide (lexN [a0, a1, a2, a3, a4, a5] [b0, b1, b2, b3, b4, b5] = (0 : Int)) ==
    (a0 == b0 && (a1 == b1 && (a2 == b2 && (a3 == b3 && (a4 == b4 && (a5 == b5 && true))))))) = true ∧
      (K (AV.bool false))))))))))) ∧
  ((!!decide
      (lexN [b0, b1, b2, b3, b4, b5] [a0, a1, a2, a3, a4, a5] =
        IntKind.wrap IntKind.i64 ((0 : Int) - lexN [a0, a1, a2, a3, a4, a5] [b0, b1, b2, b3, b4, b5]))) = false →
    (!!decide
      (lexN [b0, b1, b2, b3, b4, b5] [a0, a1, a2, a3, a4, a5] =
        IntKind.wrap IntKind.i64 ((0 : Int) - lexN [a0, a1, a2, a3, a4, a5] [b0, b1, b2, b3, b4, b5]))) = false ∧
    ((!!decide
      (lexN [b0, b1, b2, b3, b4, b5] [a0, a1, a2, a3, a4, a5] =
        IntKind.wrap IntKind.i64 ((0 : Int) - lexN [a0, a1, a2, a3, a4, a5] [b0, b1, b2, b3, b4, b5]))) = false ∧
    ((!!decide
      (lexN [b0, b1, b2, b3, b4, b5] [a0, a1, a2, a3, a4, a5] =
        IntKind.wrap IntKind.i64 ((0 : Int) - lexN [a0, a1, a2, a3, a4, a5] [b0, b1, b2, b3, b4, b5]))) = false ∧
    ((!!decide
      (lexN [b0, b1, b2, b3, b4, b5] [a0, a1, a2, a3, a4, a5] =
        IntKind.wrap IntKind.i64 ((0 : Int) - lexN [a0, a1, a2, a3, a4, a5] [b0, b1, b2, b3, b4, b5]))) = false ∧
    ((!!decide
      (lexN [b0, b1, b2, b3, b4, b5] [a0, a1, a2, a3, a4, a5] =
        IntKind.wrap IntKind.i64 ((0 : Int) - lexN [a0, a1, a2, a3, a4, a5] [b0, b1, b2, b3, b4, b5]))) = false ∧
    ((!decide
    (lexN [b0, b1, b2, b3, b4, b5] [a0, a1, a2, a3, a4, a5] =
      IntKind.wrap IntKind.i64 ((0 : Int) - lexN [a0, a1, a2, a3, a4, a5] [b0, b1, b2, b3, b4, b5]))) = true ∧
    (K (AV.bool false))))))))
def eor_scr : Plan := .k (.b (.t (.t (.t (.t (.t (.f (.b (.t (.f (.b (.t (.f (.b (.t (.t (.b (.t (.t (.t (.t (.b (.t (.t (.b (.t (.t (.b (.t (.t (.b (.t (.t (.f (.t (.t (.t (.f (.t (.t (.f (.b (.z) (.b (.z) (.b (.t (.t (.t (.t (.t (.t (.t (.f (.z))))))))) (.f (.f (.f (.f (.f (.f (.f (.t (.z)))))))))))))))))))))) (.f (.t (.t (.t (.t (.t (.f (.t (.t (.f (.z)))))))))))))) (.f (.f (.k (.k (.f (.t (.f (.t (.f (.t (.t (.f (.k (.b (.z) (.b (.t (.t (.t (.t (.t (.t (.t (.f (.z))))))))) (.f (.f (.f (.f (.f (.f (.f (.t (.z))))))))))))))))))))))))))) (.f (.f (.k (.k (.k (.k (.k (.k (.f (.t (.t (.t (.t (.f (.z)))))))))))))))))) (.f (.f (.k (.k (.k (.k (.k (.k (.k (.k (.k (.k (.f (.t (.f (.f (.k (.b (.z) (.b (.t (.t (.t (.t (.t (.t (.t (.f (.z))))))))) (.f (.f (.f (.f (.f (.f (.f (.t (.z))))))))))))))))))))))))))))))))) (.f (.t (.f (.t (.k (.k (.k (.k (.k (.k (.k (.k (.k (.k (.k (.k (.k (.k (.t (.k (.f (.k (.b (.z) (.b (.t (.t (.t (.t (.t (.t (.t (.f (.z))))))))) (.f (.f (.f (.f (.f (.f (.f (.t (.z)))))))))))))))))))))))))))))))))))) (.f (.f (.k (.k (.f (.f (.k (.k (.k (.k (.k (.k (.k (.k (.k (.k (.k (.k (.k (.k (.f (.t (.z)))))))))))))))))))))))))) (.f (.t (.z)))))) (.f (.t (.z)))))))))) (.f (.f (.f (.f (.f (.t (.z))))))))
theorem eor_vc (a0 a1 a2 a3 a4 a5 b0 b1 b2 b3 b4 b5 c0 c1 c2 c3 c4 c5 : Int) (K : AV → Prop) : (funP (XE2) 4 [.agg [.int .i64 a0, .int .i64 a1, .int .i64 a2, .int .i64 a3, .int .i64 a4, .int .i64 a5], .agg [.int .i64 b0, .int .i64 b1, .int .i64 b2, .int .i64 b3, .int .i64 b4, .int .i64 b5], .agg [.int .i64 c0, .int .i64 c1, .int .i64 c2, .int .i64 c3, .int .i64 c4, .int .i64 c5]] h0 eor_scr (fun v _ _ => K v)) = eor_VC a0 a1 a2 a3 a4 a5 b0 b1 b2 b3 b4 b5 c0 c1 c2 c3 c4 c5 K := by kernel_rfl
end Go.Proofs.YtdhpdaogakignaaDoor.V
