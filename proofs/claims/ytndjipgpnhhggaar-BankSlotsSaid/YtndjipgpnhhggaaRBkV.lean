/- Printed by vc.py: what must hold for functions' ways (BkV). -/
import Derived.Test.YtndjipgpnhhggaaRBkA
namespace Go.Proofs.YtndjipgpnhhggaaR.V
open Go Go.Proofs
set_option maxRecDepth 100000
set_option linter.unusedVariables false
def slots_VC (a b : Int) (K : AV → Prop) : Prop :=
  ((!decide (bits BinOp.and IntKind.u8 b (1 : Int) = (0 : Int))) = true →
    (decide
  ((0 : Int) ≤ bits BinOp.and IntKind.u8 (b / (2 : Int)) (3 : Int) ∧
    bits BinOp.and IntKind.u8 (b / (2 : Int)) (3 : Int) < (4 : Int))) = true ∧
    ((decide (Int.toNat (bits BinOp.and IntKind.u8 (b / (2 : Int)) (3 : Int)) * (4 : Nat) + (4 : Nat) ≤ (16 : Nat))) = true ∧
    ((AV.isI IntKind.i64
  (List.getD
    [AV.int IntKind.i64 (0 : Int), AV.int IntKind.i64 (1 : Int), AV.int IntKind.i64 (2 : Int),
      AV.int IntKind.i64 (3 : Int), AV.int IntKind.i64 (4 : Int), AV.int IntKind.i64 (5 : Int),
      AV.int IntKind.i64 (6 : Int), AV.int IntKind.i64 (7 : Int), AV.int IntKind.i64 (4 : Int),
      AV.int IntKind.i64 (5 : Int), AV.int IntKind.i64 (6 : Int), AV.int IntKind.i64 (3 : Int),
      AV.int IntKind.i64 (4 : Int), AV.int IntKind.i64 (7 : Int), AV.int IntKind.i64 (6 : Int),
      AV.int IntKind.i64 (3 : Int)]
    (Int.toNat (bits BinOp.and IntKind.u8 (b / (2 : Int)) (3 : Int)) * (4 : Nat)) (AV.tup []))) = true ∧
    ((AV.isI IntKind.i64
  (List.getD
    [AV.int IntKind.i64 (0 : Int), AV.int IntKind.i64 (1 : Int), AV.int IntKind.i64 (2 : Int),
      AV.int IntKind.i64 (3 : Int), AV.int IntKind.i64 (4 : Int), AV.int IntKind.i64 (5 : Int),
      AV.int IntKind.i64 (6 : Int), AV.int IntKind.i64 (7 : Int), AV.int IntKind.i64 (4 : Int),
      AV.int IntKind.i64 (5 : Int), AV.int IntKind.i64 (6 : Int), AV.int IntKind.i64 (3 : Int),
      AV.int IntKind.i64 (4 : Int), AV.int IntKind.i64 (7 : Int), AV.int IntKind.i64 (6 : Int),
      AV.int IntKind.i64 (3 : Int)]
    (Int.toNat (bits BinOp.and IntKind.u8 (b / (2 : Int)) (3 : Int)) * (4 : Nat) + (1 : Nat)) (AV.tup []))) = true ∧
    ((AV.isI IntKind.i64
  (List.getD
    [AV.int IntKind.i64 (0 : Int), AV.int IntKind.i64 (1 : Int), AV.int IntKind.i64 (2 : Int),
      AV.int IntKind.i64 (3 : Int), AV.int IntKind.i64 (4 : Int), AV.int IntKind.i64 (5 : Int),
      AV.int IntKind.i64 (6 : Int), AV.int IntKind.i64 (7 : Int), AV.int IntKind.i64 (4 : Int),
      AV.int IntKind.i64 (5 : Int), AV.int IntKind.i64 (6 : Int), AV.int IntKind.i64 (3 : Int),
      AV.int IntKind.i64 (4 : Int), AV.int IntKind.i64 (7 : Int), AV.int IntKind.i64 (6 : Int),
      AV.int IntKind.i64 (3 : Int)]
    (Int.toNat (bits BinOp.and IntKind.u8 (b / (2 : Int)) (3 : Int)) * (4 : Nat) + (1 : Nat) + (1 : Nat)) (AV.tup []))) = true ∧
    ((AV.isI IntKind.i64
  (List.getD
    [AV.int IntKind.i64 (0 : Int), AV.int IntKind.i64 (1 : Int), AV.int IntKind.i64 (2 : Int),
      AV.int IntKind.i64 (3 : Int), AV.int IntKind.i64 (4 : Int), AV.int IntKind.i64 (5 : Int),
      AV.int IntKind.i64 (6 : Int), AV.int IntKind.i64 (7 : Int), AV.int IntKind.i64 (4 : Int),
      AV.int IntKind.i64 (5 : Int), AV.int IntKind.i64 (6 : Int), AV.int IntKind.i64 (3 : Int),
      AV.int IntKind.i64 (4 : Int), AV.int IntKind.i64 (7 : Int), AV.int IntKind.i64 (6 : Int),
      AV.int IntKind.i64 (3 : Int)]
    (Int.toNat (bits BinOp.and IntKind.u8 (b / (2 : Int)) (3 : Int)) * (4 : Nat) + (1 : Nat) + (1 : Nat) + (1 : Nat))
    (AV.tup []))) = true ∧
    (K
  (AV.agg
    [AV.int IntKind.i64
        (AV.toI
          (List.getD
            [AV.int IntKind.i64 (0 : Int), AV.int IntKind.i64 (1 : Int), AV.int IntKind.i64 (2 : Int),
              AV.int IntKind.i64 (3 : Int), AV.int IntKind.i64 (4 : Int), AV.int IntKind.i64 (5 : Int),
              AV.int IntKind.i64 (6 : Int), AV.int IntKind.i64 (7 : Int), AV.int IntKind.i64 (4 : Int),
              AV.int IntKind.i64 (5 : Int), AV.int IntKind.i64 (6 : Int), AV.int IntKind.i64 (3 : Int),
              AV.int IntKind.i64 (4 : Int), AV.int IntKind.i64 (7 : Int), AV.int IntKind.i64 (6 : Int),
              AV.int IntKind.i64 (3 : Int)]
            (Int.toNat (bits BinOp.and IntKind.u8 (b / (2 : Int)) (3 : Int)) * (4 : Nat)) (AV.tup []))),
      AV.int IntKind.i64
        (AV.toI
          (List.getD
            [AV.int IntKind.i64 (0 : Int), AV.int IntKind.i64 (1 : Int), AV.int IntKind.i64 (2 : Int),
              AV.int IntKind.i64 (3 : Int), AV.int IntKind.i64 (4 : Int), AV.int IntKind.i64 (5 : Int),
              AV.int IntKind.i64 (6 : Int), AV.int IntKind.i64 (7 : Int), AV.int IntKind.i64 (4 : Int),
              AV.int IntKind.i64 (5 : Int), AV.int IntKind.i64 (6 : Int), AV.int IntKind.i64 (3 : Int),
              AV.int IntKind.i64 (4 : Int), AV.int IntKind.i64 (7 : Int), AV.int IntKind.i64 (6 : Int),
              AV.int IntKind.i64 (3 : Int)]
            (Int.toNat (bits BinOp.and IntKind.u8 (b / (2 : Int)) (3 : Int)) * (4 : Nat) + (1 : Nat)) (AV.tup []))),
      AV.int IntKind.i64
        (AV.toI
          (List.getD
            [AV.int IntKind.i64 (0 : Int), AV.int IntKind.i64 (1 : Int), AV.int IntKind.i64 (2 : Int),
              AV.int IntKind.i64 (3 : Int), AV.int IntKind.i64 (4 : Int), AV.int IntKind.i64 (5 : Int),
              AV.int IntKind.i64 (6 : Int), AV.int IntKind.i64 (7 : Int), AV.int IntKind.i64 (4 : Int),
              AV.int IntKind.i64 (5 : Int), AV.int IntKind.i64 (6 : Int), AV.int IntKind.i64 (3 : Int),
              AV.int IntKind.i64 (4 : Int), AV.int IntKind.i64 (7 : Int), AV.int IntKind.i64 (6 : Int),
              AV.int IntKind.i64 (3 : Int)]
            (Int.toNat (bits BinOp.and IntKind.u8 (b / (2 : Int)) (3 : Int)) * (4 : Nat) + (1 : Nat) + (1 : Nat))
            (AV.tup []))),
      AV.int IntKind.i64
        (AV.toI
          (List.getD
            [AV.int IntKind.i64 (0 : Int), AV.int IntKind.i64 (1 : Int), AV.int IntKind.i64 (2 : Int),
              AV.int IntKind.i64 (3 : Int), AV.int IntKind.i64 (4 : Int), AV.int IntKind.i64 (5 : Int),
              AV.int IntKind.i64 (6 : Int), AV.int IntKind.i64 (7 : Int), AV.int IntKind.i64 (4 : Int),
              AV.int IntKind.i64 (5 : Int), AV.int IntKind.i64 (6 : Int), AV.int IntKind.i64 (3 : Int),
              AV.int IntKind.i64 (4 : Int), AV.int IntKind.i64 (7 : Int), AV.int IntKind.i64 (6 : Int),
              AV.int IntKind.i64 (3 : Int)]
            (Int.toNat (bits BinOp.and IntKind.u8 (b / (2 : Int)) (3 : Int)) * (4 : Nat) + (1 : Nat) + (1 : Nat) +
              (1 : Nat))
            (AV.tup [])))])))))))) ∧
  ((!decide (bits BinOp.and IntKind.u8 b (1 : Int) = (0 : Int))) = false →
    ((!decide (bits BinOp.and IntKind.u8 a (16 : Int) = (0 : Int))) = true →
      ((!decide (bits BinOp.and IntKind.u8 b (4 : Int) = (0 : Int))) = true →
        K
  (AV.agg
    [AV.int IntKind.i64 (11 : Int), AV.int IntKind.i64 (5 : Int), AV.int IntKind.i64 (2 : Int),
      AV.int IntKind.i64 (IntKind.wrap IntKind.i64 (bits BinOp.and IntKind.u8 a (7 : Int)))])) ∧
      ((!decide (bits BinOp.and IntKind.u8 b (4 : Int) = (0 : Int))) = false →
        K
  (AV.agg
    [AV.int IntKind.i64 (9 : Int), AV.int IntKind.i64 (5 : Int), AV.int IntKind.i64 (2 : Int),
      AV.int IntKind.i64 (IntKind.wrap IntKind.i64 (bits BinOp.and IntKind.u8 a (7 : Int)))]))) ∧
    ((!decide (bits BinOp.and IntKind.u8 a (16 : Int) = (0 : Int))) = false →
      ((!decide (bits BinOp.and IntKind.u8 b (4 : Int) = (0 : Int))) = true →
        K
  (AV.agg
    [AV.int IntKind.i64 (10 : Int), AV.int IntKind.i64 (5 : Int), AV.int IntKind.i64 (2 : Int),
      AV.int IntKind.i64 (IntKind.wrap IntKind.i64 (bits BinOp.and IntKind.u8 a (7 : Int)))])) ∧
      ((!decide (bits BinOp.and IntKind.u8 b (4 : Int) = (0 : Int))) = false →
        K
  (AV.agg
    [AV.int IntKind.i64 (8 : Int), AV.int IntKind.i64 (5 : Int), AV.int IntKind.i64 (2 : Int),
      AV.int IntKind.i64 (IntKind.wrap IntKind.i64 (bits BinOp.and IntKind.u8 a (7 : Int)))]))))
def slots_scr : Plan := .b (.t (.t (.t (.t (.t (.t (.z))))))) (.b (.b (.z) (.z)) (.b (.z) (.z)))
theorem slots_vc (a b : Int) (K : AV → Prop) : (funP XBk 12 [.agg [.int .u8 a, .int .u8 b]] h0 slots_scr (fun v _ _ => K v)) = slots_VC a b K := by kernel_rfl
def picture_VC (a b : Int) (K : AV → Prop) : Prop :=
  ((!decide (bits BinOp.and IntKind.u8 a (8 : Int) = (0 : Int))) = true →
    K (AV.int IntKind.i64 (7 : Int))) ∧
  ((!decide (bits BinOp.and IntKind.u8 a (8 : Int) = (0 : Int))) = false →
    K (AV.int IntKind.i64 (5 : Int)))
def picture_scr : Plan := .b (.z) (.z)
theorem picture_vc (a b : Int) (K : AV → Prop) : (funP XBk 13 [.agg [.int .u8 a, .int .u8 b]] h0 picture_scr (fun v _ _ => K v)) = picture_VC a b K := by kernel_rfl
def told_VC (a b v : Int) (m : Bool) (K : AV → Prop) : Prop :=
  ((!decide (bits BinOp.and IntKind.u8 a (32 : Int) = (0 : Int))) = true →
    K (AV.tup [AV.agg [AV.int IntKind.u8 (0 : Int), AV.int IntKind.u8 (0 : Int)], AV.int IntKind.i64 (10 : Int)])) ∧
  ((!decide (bits BinOp.and IntKind.u8 a (32 : Int) = (0 : Int))) = false →
    ((m) = true →
      K (AV.tup [AV.agg [AV.int IntKind.u8 a, AV.int IntKind.u8 v], AV.int IntKind.i64 (0 : Int)])) ∧
    ((m) = false →
      K (AV.tup [AV.agg [AV.int IntKind.u8 v, AV.int IntKind.u8 b], AV.int IntKind.i64 (0 : Int)])))
def told_scr : Plan := .b (.z) (.b (.z) (.z))
theorem told_vc (a b v : Int) (m : Bool) (K : AV → Prop) : (funP XBk 14 [.agg [.int .u8 a, .int .u8 b], .bool m, .int .u8 v] h0 told_scr (fun v _ _ => K v)) = told_VC a b v m K := by kernel_rfl
def pick_VC (n m : Int) (K : AV → Prop) : Prop :=
  ((decide (m < (1 : Int))) = true →
    K (AV.int IntKind.i64 (0 : Int))) ∧
  ((decide (m < (1 : Int))) = false →
    (!decide (m = (0 : Int))) = true ∧
    (((decide (Int.tmod n m < (0 : Int))) = true →
      K (AV.int IntKind.i64 (IntKind.wrap IntKind.i64 (Int.tmod n m + m)))) ∧
    ((decide (Int.tmod n m < (0 : Int))) = false →
      K (AV.int IntKind.i64 (Int.tmod n m)))))
def pick_scr : Plan := .b (.z) (.t (.b (.z) (.z)))
theorem pick_vc (n m : Int) (K : AV → Prop) : (funP XBk 16 [.int .i64 n, .int .i64 m] h0 pick_scr (fun v _ _ => K v)) = pick_VC n m K := by kernel_rfl
end Go.Proofs.YtndjipgpnhhggaaR.V
