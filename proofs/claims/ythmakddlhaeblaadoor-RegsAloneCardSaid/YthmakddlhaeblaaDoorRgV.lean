/- Printed by vc.py: what must hold for functions' ways (RgV). -/
import Derived.Test.YthmakddlhaeblaaDoorRgC
namespace Go.Proofs.YthmakddlhaeblaaDoor.V
open Go Go.Proofs
set_option maxRecDepth 100000
set_option linter.unusedVariables false
def spl_VC (x : Int) (K : AV → Prop) : Prop :=
  K
  (AV.tup
    [AV.int IntKind.u8 (IntKind.wrap IntKind.u8 (x / (256 : Int))), AV.int IntKind.u8 (IntKind.wrap IntKind.u8 x)])
def spl_scr : Plan := .z
theorem spl_vc (x : Int) (K : AV → Prop) : (funP (XR0) 18 [.int .u16 x] h0 spl_scr (fun v _ _ => K v)) = spl_VC x K := by kernel_rfl
def prr_VC (a b : Int) (K : AV → Prop) : Prop :=
  K
  (AV.int IntKind.u16
    (bits BinOp.or IntKind.u16 (IntKind.wrap IntKind.u16 (IntKind.wrap IntKind.u16 a * (256 : Int)))
      (IntKind.wrap IntKind.u16 b)))
def prr_scr : Plan := .z
theorem prr_vc (a b : Int) (K : AV → Prop) : (funP (XR0) 16 [.int .u8 a, .int .u8 b] h0 prr_scr (fun v _ _ => K v)) = prr_VC a b K := by kernel_rfl
def md_VC (n m : Int) (K : AV → Prop) : Prop :=
  (!decide (m = (0 : Int))) = true ∧
  ((!decide (m = (0 : Int))) = true ∧
  (K (AV.int IntKind.i64 (Int.tmod (IntKind.wrap IntKind.i64 (Int.tmod n m + m)) m))))
def md_scr : Plan := .t (.t (.z))
theorem md_vc (n m : Int) (K : AV → Prop) : (funP (XR0) 17 [.int .i64 n, .int .i64 m] h0 md_scr (fun v _ _ => K v)) = md_VC n m K := by kernel_rfl
def md3_VC (n : Int) (K : AV → Prop) : Prop :=
  K (AV.int IntKind.i64 (Int.tmod (IntKind.wrap IntKind.i64 (Int.tmod n (3 : Int) + (3 : Int))) (3 : Int)))
def md3_scr : Plan := .z
theorem md3_vc (n : Int) (K : AV → Prop) : (funP (XR0) 17 [.int .i64 n, .int .i64 3] h0 md3_scr (fun v _ _ => K v)) = md3_VC n K := by kernel_rfl
def md8_VC (n : Int) (K : AV → Prop) : Prop :=
  K (AV.int IntKind.i64 (Int.tmod (IntKind.wrap IntKind.i64 (Int.tmod n (8 : Int) + (8 : Int))) (8 : Int)))
def md8_scr : Plan := .z
theorem md8_vc (n : Int) (K : AV → Prop) : (funP (XR0) 17 [.int .i64 n, .int .i64 8] h0 md8_scr (fun v _ _ => K v)) = md8_VC n K := by kernel_rfl
def md4_VC (n : Int) (K : AV → Prop) : Prop :=
  K (AV.int IntKind.i64 (Int.tmod (IntKind.wrap IntKind.i64 (Int.tmod n (4 : Int) + (4 : Int))) (4 : Int)))
def md4_scr : Plan := .z
theorem md4_vc (n : Int) (K : AV → Prop) : (funP (XR0) 17 [.int .i64 n, .int .i64 4] h0 md4_scr (fun v _ _ => K v)) = md4_VC n K := by kernel_rfl
def rf_VC (a b c d e f g h i r ix iy sp pc wz af bc de hl im : Int) (p q u v : Bool) (K : AV → Prop) : Prop :=
  K
  (AV.agg
    [AV.int IntKind.u8 a, AV.int IntKind.u8 b, AV.int IntKind.u8 c, AV.int IntKind.u8 d, AV.int IntKind.u8 e,
      AV.int IntKind.u8 f, AV.int IntKind.u8 g, AV.int IntKind.u8 h, AV.int IntKind.u8 i,
      AV.int IntKind.u8
        (bits BinOp.or IntKind.u8 (bits BinOp.and IntKind.u8 r (128 : Int))
          (bits BinOp.and IntKind.u8 (IntKind.wrap IntKind.u8 (r + (1 : Int))) (127 : Int))),
      AV.int IntKind.u16 ix, AV.int IntKind.u16 iy, AV.int IntKind.u16 sp, AV.int IntKind.u16 pc, AV.int IntKind.u16 wz,
      AV.int IntKind.u16 af, AV.int IntKind.u16 bc, AV.int IntKind.u16 de, AV.int IntKind.u16 hl, AV.bool p, AV.bool q,
      AV.int IntKind.i64 im, AV.bool u, AV.bool v])
def rf_scr : Plan := .z
theorem rf_vc (a b c d e f g h i r ix iy sp pc wz af bc de hl im : Int) (p q u v : Bool) (K : AV → Prop) : (funP (XR0) 7 [.agg [.int .u8 a, .int .u8 b, .int .u8 c, .int .u8 d, .int .u8 e, .int .u8 f, .int .u8 g, .int .u8 h, .int .u8 i, .int .u8 r, .int .u16 ix, .int .u16 iy, .int .u16 sp, .int .u16 pc, .int .u16 wz, .int .u16 af, .int .u16 bc, .int .u16 de, .int .u16 hl, .bool p, .bool q, .int .i64 im, .bool u, .bool v]] h0 rf_scr (fun v _ _ => K v)) = rf_VC a b c d e f g h i r ix iy sp pc wz af bc de hl im p q u v K := by kernel_rfl
end Go.Proofs.YthmakddlhaeblaaDoor.V
