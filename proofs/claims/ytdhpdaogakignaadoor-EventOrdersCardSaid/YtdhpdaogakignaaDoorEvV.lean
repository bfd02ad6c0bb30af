/- Printed by vc.py: what must hold for functions' ways (EvV). -/
import Derived.Test.YtdhpdaogakignaaDoorEvC
namespace Go.Proofs.YtdhpdaogakignaaDoor.V
open Go Go.Proofs
set_option maxRecDepth 100000
set_option linter.unusedVariables false
def chp_VC (k : Int) (K : AV → Prop) : Prop :=
  ((!decide (k < (1 : Int))) = true →
    (!decide (k < (1 : Int))) = true ∧
    ((decide (k < (1 : Int))) = false ∧
    (((decide (k > (12 : Int))) = true →
      K (AV.int IntKind.i64 (0 : Int))) ∧
    ((decide (k > (12 : Int))) = false →
      ((decide (k ≤ (6 : Int))) = true →
        K (AV.int IntKind.i64 (1 : Int))) ∧
      ((decide (k ≤ (6 : Int))) = false →
        ((decide (k ≤ (10 : Int))) = true →
          K (AV.int IntKind.i64 (2 : Int))) ∧
        ((decide (k ≤ (10 : Int))) = false →
          ((decide (k = (11 : Int))) = true →
            K (AV.int IntKind.i64 (3 : Int))) ∧
          ((decide (k = (11 : Int))) = false →
            K (AV.int IntKind.i64 (4 : Int))))))))) ∧
  ((!decide (k < (1 : Int))) = false →
    (!decide (k < (1 : Int))) = false ∧
    ((decide (k < (1 : Int))) = true ∧
    (K (AV.int IntKind.i64 (0 : Int)))))
def chp_scr : Plan := .b (.t (.f (.b (.z) (.b (.z) (.b (.z) (.b (.z) (.z))))))) (.f (.t (.z)))
theorem chp_vc (k : Int) (K : AV → Prop) : (funP (XE0) 8 [.int .i64 k] h0 chp_scr (fun v _ _ => K v)) = chp_VC k K := by kernel_rfl
def cm1_VC (x y : Int) (K : AV → Prop) : Prop :=
  ((!decide (x = x)) = true →
    ((!decide (y = y)) = true →
      K (AV.int IntKind.i64 (0 : Int))) ∧
    ((!decide (y = y)) = false →
      K (AV.int IntKind.i64 (-1 : Int)))) ∧
  ((!decide (x = x)) = false →
    ((!decide (y = y)) = true →
      K (AV.int IntKind.i64 (1 : Int))) ∧
    ((!decide (y = y)) = false →
      ((decide (x < y)) = true →
        K (AV.int IntKind.i64 (-1 : Int))) ∧
      ((decide (x < y)) = false →
        ((decide (x > y)) = true →
          K (AV.int IntKind.i64 (1 : Int))) ∧
        ((decide (x > y)) = false →
          K (AV.int IntKind.i64 (0 : Int))))))
def cm1_scr : Plan := .b (.b (.z) (.z)) (.b (.z) (.b (.z) (.b (.z) (.z))))
theorem cm1_vc (x y : Int) (K : AV → Prop) : (funP (XE0) 18 [.int .i64 x, .int .i64 y] h0 cm1_scr (fun v _ _ => K v)) = cm1_VC x y K := by kernel_rfl
def cm2_VC (x y : Int) (K : AV → Prop) : Prop :=
  ((!decide (x = x)) = true →
    ((!decide (y = y)) = true →
      K (AV.int IntKind.i64 (0 : Int))) ∧
    ((!decide (y = y)) = false →
      K (AV.int IntKind.i64 (-1 : Int)))) ∧
  ((!decide (x = x)) = false →
    ((!decide (y = y)) = true →
      K (AV.int IntKind.i64 (1 : Int))) ∧
    ((!decide (y = y)) = false →
      ((decide (x < y)) = true →
        K (AV.int IntKind.i64 (-1 : Int))) ∧
      ((decide (x < y)) = false →
        ((decide (x > y)) = true →
          K (AV.int IntKind.i64 (1 : Int))) ∧
        ((decide (x > y)) = false →
          K (AV.int IntKind.i64 (0 : Int))))))
def cm2_scr : Plan := .b (.b (.z) (.z)) (.b (.z) (.b (.z) (.b (.z) (.z))))
theorem cm2_vc (x y : Int) (K : AV → Prop) : (funP (XE0) 19 [.int .i64 x, .int .i64 y] h0 cm2_scr (fun v _ _ => K v)) = cm2_VC x y K := by kernel_rfl
def or6_VC (a b c d e f : Int) (K : AV → AH → Prop) : Prop :=
  ((!decide (a = (0 : Int))) = true →
    K (AV.int IntKind.i64 a)
  { nx := (1 : Nat),
    m :=
      [((0 : Nat),
          AObj.ro
            [AV.int IntKind.i64 a, AV.int IntKind.i64 b, AV.int IntKind.i64 c, AV.int IntKind.i64 d,
              AV.int IntKind.i64 e, AV.int IntKind.i64 f])] }) ∧
  ((!decide (a = (0 : Int))) = false →
    ((!decide (b = (0 : Int))) = true →
      K (AV.int IntKind.i64 b)
  { nx := (1 : Nat),
    m :=
      [((0 : Nat),
          AObj.ro
            [AV.int IntKind.i64 a, AV.int IntKind.i64 b, AV.int IntKind.i64 c, AV.int IntKind.i64 d,
              AV.int IntKind.i64 e, AV.int IntKind.i64 f])] }) ∧
    ((!decide (b = (0 : Int))) = false →
      ((!decide (c = (0 : Int))) = true →
        K (AV.int IntKind.i64 c)
  { nx := (1 : Nat),
    m :=
      [((0 : Nat),
          AObj.ro
            [AV.int IntKind.i64 a, AV.int IntKind.i64 b, AV.int IntKind.i64 c, AV.int IntKind.i64 d,
              AV.int IntKind.i64 e, AV.int IntKind.i64 f])] }) ∧
      ((!decide (c = (0 : Int))) = false →
        ((!decide (d = (0 : Int))) = true →
          K (AV.int IntKind.i64 d)
  { nx := (1 : Nat),
    m :=
      [((0 : Nat),
          AObj.ro
            [AV.int IntKind.i64 a, AV.int IntKind.i64 b, AV.int IntKind.i64 c, AV.int IntKind.i64 d,
              AV.int IntKind.i64 e, AV.int IntKind.i64 f])] }) ∧
        ((!decide (d = (0 : Int))) = false →
          ((!decide (e = (0 : Int))) = true →
            K (AV.int IntKind.i64 e)
  { nx := (1 : Nat),
    m :=
      [((0 : Nat),
          AObj.ro
            [AV.int IntKind.i64 a, AV.int IntKind.i64 b, AV.int IntKind.i64 c, AV.int IntKind.i64 d,
              AV.int IntKind.i64 e, AV.int IntKind.i64 f])] }) ∧
          ((!decide (e = (0 : Int))) = false →
            ((!decide (f = (0 : Int))) = true →
              K (AV.int IntKind.i64 f)
  { nx := (1 : Nat),
    m :=
      [((0 : Nat),
          AObj.ro
            [AV.int IntKind.i64 a, AV.int IntKind.i64 b, AV.int IntKind.i64 c, AV.int IntKind.i64 d,
              AV.int IntKind.i64 e, AV.int IntKind.i64 f])] }) ∧
            ((!decide (f = (0 : Int))) = false →
              K (AV.int IntKind.i64 (0 : Int))
  { nx := (1 : Nat),
    m :=
      [((0 : Nat),
          AObj.ro
            [AV.int IntKind.i64 a, AV.int IntKind.i64 b, AV.int IntKind.i64 c, AV.int IntKind.i64 d,
              AV.int IntKind.i64 e, AV.int IntKind.i64 f])] }))))))
def or6_scr : Plan := .k (.k (.k (.k (.b (.z) (.k (.k (.k (.k (.b (.z) (.k (.k (.k (.k (.b (.z) (.k (.k (.k (.k (.b (.z) (.k (.k (.k (.k (.b (.z) (.k (.k (.k (.k (.b (.z) (.z))))))))))))))))))))))))))))))
theorem or6_vc (a b c d e f : Int) (K : AV → AH → Prop) : (funP (XE0) 17 [.slice 0 0 6 (some 6)] (h6 a b c d e f) or6_scr (fun v σ _ => K v σ)) = or6_VC a b c d e f K := by kernel_rfl
end Go.Proofs.YtdhpdaogakignaaDoor.V
