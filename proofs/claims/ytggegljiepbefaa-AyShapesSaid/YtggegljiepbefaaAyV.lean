/- Printed by vc.py: what must hold for functions' ways (AyV). -/
import Derived.Test.YtggegljiepbefaaAyA
namespace Go.Proofs.Ytggegljiepbefaa.V
open Go Go.Proofs
set_option maxRecDepth 100000
set_option linter.unusedVariables false
def noise1_VC (x : Int) (K : AV → Prop) : Prop :=
  K
  (AV.int IntKind.u32
    (bits BinOp.or IntKind.u32 (Int.tmod x 131072 / 2)
      (IntKind.wrap IntKind.u32
        (bits BinOp.and IntKind.u32 (bits BinOp.xor IntKind.u32 (Int.tmod x 131072) (Int.tmod x 131072 / 8)) 1 *
          65536))))
def noise1_scr : Plan := .z
theorem noise1_vc (x : Int) (K : AV → Prop) : (funP XAy 10 [.int .u32 x] h0 noise1_scr (fun v _ _ => K v)) = noise1_VC x K := by kernel_rfl
def env1_VC (s p : Int) (K : AV → Prop) : Prop :=
  ((decide (IntKind.wrap IntKind.i64 (Int.tdiv (Int.tmod (if p > 0 then p else 0) 32) 16) = 0)) = true →
    ((!decide (bits BinOp.and IntKind.u8 s 4 = 0)) = true →
      K (AV.int IntKind.i64 (Int.tmod (Int.tmod (if p > 0 then p else 0) 32) 16))) ∧
    ((!decide (bits BinOp.and IntKind.u8 s 4 = 0)) = false →
      K (AV.int IntKind.i64 (IntKind.wrap IntKind.i64 (15 - Int.tmod (Int.tmod (if p > 0 then p else 0) 32) 16))))) ∧
  ((decide (IntKind.wrap IntKind.i64 (Int.tdiv (Int.tmod (if p > 0 then p else 0) 32) 16) = 0)) = false →
    ((decide (bits BinOp.and IntKind.u8 s 8 = 0)) = true →
      K (AV.int IntKind.i64 0)) ∧
    ((decide (bits BinOp.and IntKind.u8 s 8 = 0)) = false →
      ((!decide (bits BinOp.and IntKind.u8 s 1 = 0)) = true →
        ((!(!decide (bits BinOp.and IntKind.u8 s 4 = 0)) == !decide (bits BinOp.and IntKind.u8 s 2 = 0)) = true →
          K (AV.int IntKind.i64 15)) ∧
        ((!(!decide (bits BinOp.and IntKind.u8 s 4 = 0)) == !decide (bits BinOp.and IntKind.u8 s 2 = 0)) = false →
          K (AV.int IntKind.i64 0))) ∧
      ((!decide (bits BinOp.and IntKind.u8 s 1 = 0)) = false →
        ((!decide (bits BinOp.and IntKind.u8 s 2 = 0)) = true →
          ((!!decide (bits BinOp.and IntKind.u8 s 4 = 0)) = true →
            K (AV.int IntKind.i64 (Int.tmod (Int.tmod (if p > 0 then p else 0) 32) 16))) ∧
          ((!!decide (bits BinOp.and IntKind.u8 s 4 = 0)) = false →
            K (AV.int IntKind.i64 (IntKind.wrap IntKind.i64 (15 - Int.tmod (Int.tmod (if p > 0 then p else 0) 32) 16))))) ∧
        ((!decide (bits BinOp.and IntKind.u8 s 2 = 0)) = false →
          ((!decide (bits BinOp.and IntKind.u8 s 4 = 0)) = true →
            K (AV.int IntKind.i64 (Int.tmod (Int.tmod (if p > 0 then p else 0) 32) 16))) ∧
          ((!decide (bits BinOp.and IntKind.u8 s 4 = 0)) = false →
            K (AV.int IntKind.i64 (IntKind.wrap IntKind.i64 (15 - Int.tmod (Int.tmod (if p > 0 then p else 0) 32) 16))))))))
def env1_scr : Plan := .b (.b (.z) (.z)) (.b (.z) (.b (.b (.z) (.z)) (.b (.b (.z) (.z)) (.b (.z) (.z)))))
theorem env1_vc (s p : Int) (K : AV → Prop) : (funP XAy 12 [.int .u8 s, .int .i64 p] h0 env1_scr (fun v _ _ => K v)) = env1_VC s p K := by kernel_rfl
def pick1_VC (n m : Int) (K : AV → Prop) : Prop :=
  ((decide (m < 1)) = true →
    K (AV.int IntKind.i64 0)) ∧
  ((decide (m < 1)) = false →
    (!decide (m = 0)) = true ∧
    (((decide (Int.tmod n m < 0)) = true →
      K (AV.int IntKind.i64 (IntKind.wrap IntKind.i64 (Int.tmod n m + m)))) ∧
    ((decide (Int.tmod n m < 0)) = false →
      K (AV.int IntKind.i64 (Int.tmod n m)))))
def pick1_scr : Plan := .b (.z) (.t (.b (.z) (.z)))
theorem pick1_vc (n m : Int) (K : AV → Prop) : (funP XAy 11 [.int .i64 n, .int .i64 m] h0 pick1_scr (fun v _ _ => K v)) = pick1_VC n m K := by kernel_rfl
end Go.Proofs.Ytggegljiepbefaa.V
