/- Printed by vc.py: what must hold for functions' ways (RdV). -/
import Derived.Test.YtkehopncefhohaaRdA
namespace Go.Proofs.Ytkehopncefhohaa.V
open Go Go.Proofs
set_option maxRecDepth 100000
set_option linter.unusedVariables false
def ck_VC (u : Unit) (K : AV → Prop) : Prop :=
  K (AV.int IntKind.i64 (0 : Int))
def ck_scr : Plan := .z
theorem ck_vc (u : Unit) (K : AV → Prop) : (funP (XCk) 15 [classicA] h0 ck_scr (fun v _ _ => K v)) = ck_VC u K := by kernel_rfl
def cl_VC (u : Unit) (K : AV → Prop) : Prop :=
  K
  (AV.agg
    [AV.int IntKind.i64 (311 : Int), AV.int IntKind.i64 (228 : Int), AV.int IntKind.i64 (63 : Int),
      AV.int IntKind.i64 (192 : Int), AV.int IntKind.i64 (14 : Int), AV.int IntKind.i64 (32 : Int),
      AV.int IntKind.i64 (36 : Int)])
def cl_scr : Plan := .z
theorem cl_vc (u : Unit) (K : AV → Prop) : (funP (cxP Try.prog [] []) 5 [] h0 cl_scr (fun v _ _ => K v)) = cl_VC u K := by kernel_rfl
def mc_VC (u : Unit) (K : AV → Prop) : Prop :=
  K (AV.int IntKind.i64 (0 : Int))
def mc_scr : Plan := .z
theorem mc_vc (u : Unit) (K : AV → Prop) : (funP (cxP Try.prog [] []) 22 [.nilslice] h0 mc_scr (fun v _ _ => K v)) = mc_VC u K := by kernel_rfl
def colr_VC (a : Int) (o : Bool) (f : Int) (K : AV → Prop) : Prop :=
  ((!decide (bits BinOp.and IntKind.u8 a (128 : Int) = (0 : Int))) = true →
    (!decide (bits BinOp.and IntKind.u8 a (128 : Int) = (0 : Int))) = true ∧
    ((!decide (bits BinOp.and IntKind.u8 a (128 : Int) = (0 : Int))) = true ∧
    ((!decide (bits BinOp.and IntKind.u8 a (128 : Int) = (0 : Int))) = true ∧
    ((!decide (bits BinOp.and IntKind.u8 a (128 : Int) = (0 : Int))) = true ∧
    ((!decide (bits BinOp.and IntKind.u8 a (128 : Int) = (0 : Int))) = true ∧
    (((decide
  (Int.tmod (IntKind.wrap IntKind.i64 (Int.tdiv (if f > (0 : Int) then f else (0 : Int)) (16 : Int))) (2 : Int) =
    (1 : Int))) = true →
      ((!o) = true →
        ((!decide (bits BinOp.and IntKind.u8 a (64 : Int) = (0 : Int))) = true →
          K (AV.int IntKind.u8 (IntKind.wrap IntKind.u8 (bits BinOp.and IntKind.u8 a (7 : Int) + (8 : Int))))) ∧
        ((!decide (bits BinOp.and IntKind.u8 a (64 : Int) = (0 : Int))) = false →
          K (AV.int IntKind.u8 (bits BinOp.and IntKind.u8 a (7 : Int))))) ∧
      ((!o) = false →
        ((!decide (bits BinOp.and IntKind.u8 a (64 : Int) = (0 : Int))) = true →
          K (AV.int IntKind.u8 (IntKind.wrap IntKind.u8 (bits BinOp.and IntKind.u8 (a / (8 : Int)) (7 : Int) + (8 : Int))))) ∧
        ((!decide (bits BinOp.and IntKind.u8 a (64 : Int) = (0 : Int))) = false →
          K (AV.int IntKind.u8 (bits BinOp.and IntKind.u8 (a / (8 : Int)) (7 : Int)))))) ∧
    ((decide
  (Int.tmod (IntKind.wrap IntKind.i64 (Int.tdiv (if f > (0 : Int) then f else (0 : Int)) (16 : Int))) (2 : Int) =
    (1 : Int))) = false →
      ((o) = true →
        ((!decide (bits BinOp.and IntKind.u8 a (64 : Int) = (0 : Int))) = true →
          K (AV.int IntKind.u8 (IntKind.wrap IntKind.u8 (bits BinOp.and IntKind.u8 a (7 : Int) + (8 : Int))))) ∧
        ((!decide (bits BinOp.and IntKind.u8 a (64 : Int) = (0 : Int))) = false →
          K (AV.int IntKind.u8 (bits BinOp.and IntKind.u8 a (7 : Int))))) ∧
      ((o) = false →
        ((!decide (bits BinOp.and IntKind.u8 a (64 : Int) = (0 : Int))) = true →
          K (AV.int IntKind.u8 (IntKind.wrap IntKind.u8 (bits BinOp.and IntKind.u8 (a / (8 : Int)) (7 : Int) + (8 : Int))))) ∧
        ((!decide (bits BinOp.and IntKind.u8 a (64 : Int) = (0 : Int))) = false →
          K (AV.int IntKind.u8 (bits BinOp.and IntKind.u8 (a / (8 : Int)) (7 : Int)))))))))))) ∧
  ((!decide (bits BinOp.and IntKind.u8 a (128 : Int) = (0 : Int))) = false →
    (!decide (bits BinOp.and IntKind.u8 a (128 : Int) = (0 : Int))) = false ∧
    ((!decide (bits BinOp.and IntKind.u8 a (128 : Int) = (0 : Int))) = false ∧
    ((!decide (bits BinOp.and IntKind.u8 a (128 : Int) = (0 : Int))) = false ∧
    ((!decide (bits BinOp.and IntKind.u8 a (128 : Int) = (0 : Int))) = false ∧
    ((!decide (bits BinOp.and IntKind.u8 a (128 : Int) = (0 : Int))) = false ∧
    (((o) = true →
      ((!decide (bits BinOp.and IntKind.u8 a (64 : Int) = (0 : Int))) = true →
        K (AV.int IntKind.u8 (IntKind.wrap IntKind.u8 (bits BinOp.and IntKind.u8 a (7 : Int) + (8 : Int))))) ∧
      ((!decide (bits BinOp.and IntKind.u8 a (64 : Int) = (0 : Int))) = false →
        K (AV.int IntKind.u8 (bits BinOp.and IntKind.u8 a (7 : Int))))) ∧
    ((o) = false →
      ((!decide (bits BinOp.and IntKind.u8 a (64 : Int) = (0 : Int))) = true →
        K (AV.int IntKind.u8 (IntKind.wrap IntKind.u8 (bits BinOp.and IntKind.u8 (a / (8 : Int)) (7 : Int) + (8 : Int))))) ∧
      ((!decide (bits BinOp.and IntKind.u8 a (64 : Int) = (0 : Int))) = false →
        K (AV.int IntKind.u8 (bits BinOp.and IntKind.u8 (a / (8 : Int)) (7 : Int)))))))))))
def colr_scr : Plan := .b (.t (.t (.t (.t (.t (.b (.b (.b (.z) (.z)) (.b (.z) (.z))) (.b (.b (.z) (.z)) (.b (.z) (.z))))))))) (.f (.f (.f (.f (.f (.k (.b (.b (.z) (.z)) (.b (.z) (.z)))))))))
theorem colr_vc (a : Int) (o : Bool) (f : Int) (K : AV → Prop) : (funP (cxP Try.prog [] []) 21 [.int .u8 a, .bool o, .int .i64 f] h0 colr_scr (fun v _ _ => K v)) = colr_VC a o f K := by kernel_rfl
end Go.Proofs.Ytkehopncefhohaa.V
