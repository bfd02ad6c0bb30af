/- Printed by vc.py: what must hold for functions' ways (RgW). -/
import Derived.Test.YthmakddlhaeblaaDoorRgD
namespace Go.Proofs.YthmakddlhaeblaaDoor.V
open Go Go.Proofs
set_option maxRecDepth 100000
set_option linter.unusedVariables false
def sw_VC (a b c d e f g h i r ix iy sp pc wz af bc de hl im : Int) (p q u v : Bool) (k : Int) (K : AV → Prop) : Prop :=
  ((decide (mdN k (3 : Int) = (0 : Int))) = true →
    K
  (AV.agg
    [AV.int IntKind.u8 (hiN af), AV.int IntKind.u8 (loN af), AV.int IntKind.u8 c, AV.int IntKind.u8 d,
      AV.int IntKind.u8 e, AV.int IntKind.u8 f, AV.int IntKind.u8 g, AV.int IntKind.u8 h, AV.int IntKind.u8 i,
      AV.int IntKind.u8 r, AV.int IntKind.u16 ix, AV.int IntKind.u16 iy, AV.int IntKind.u16 sp, AV.int IntKind.u16 pc,
      AV.int IntKind.u16 wz, AV.int IntKind.u16 (prN a b), AV.int IntKind.u16 bc, AV.int IntKind.u16 de,
      AV.int IntKind.u16 hl, AV.bool p, AV.bool q, AV.int IntKind.i64 im, AV.bool u, AV.bool v])) ∧
  ((decide (mdN k (3 : Int) = (0 : Int))) = false →
    ((decide (mdN k (3 : Int) = (1 : Int))) = true →
      K
  (AV.agg
    [AV.int IntKind.u8 a, AV.int IntKind.u8 b, AV.int IntKind.u8 (hiN bc), AV.int IntKind.u8 (loN bc),
      AV.int IntKind.u8 (hiN de), AV.int IntKind.u8 (loN de), AV.int IntKind.u8 (hiN hl), AV.int IntKind.u8 (loN hl),
      AV.int IntKind.u8 i, AV.int IntKind.u8 r, AV.int IntKind.u16 ix, AV.int IntKind.u16 iy, AV.int IntKind.u16 sp,
      AV.int IntKind.u16 pc, AV.int IntKind.u16 wz, AV.int IntKind.u16 af, AV.int IntKind.u16 (prN c d),
      AV.int IntKind.u16 (prN e f), AV.int IntKind.u16 (prN g h), AV.bool p, AV.bool q, AV.int IntKind.i64 im,
      AV.bool u, AV.bool v])) ∧
    ((decide (mdN k (3 : Int) = (1 : Int))) = false →
      K
  (AV.agg
    [AV.int IntKind.u8 a, AV.int IntKind.u8 b, AV.int IntKind.u8 c, AV.int IntKind.u8 d, AV.int IntKind.u8 g,
      AV.int IntKind.u8 h, AV.int IntKind.u8 e, AV.int IntKind.u8 f, AV.int IntKind.u8 i, AV.int IntKind.u8 r,
      AV.int IntKind.u16 ix, AV.int IntKind.u16 iy, AV.int IntKind.u16 sp, AV.int IntKind.u16 pc, AV.int IntKind.u16 wz,
      AV.int IntKind.u16 af, AV.int IntKind.u16 bc, AV.int IntKind.u16 de, AV.int IntKind.u16 hl, AV.bool p, AV.bool q,
      AV.int IntKind.i64 im, AV.bool u, AV.bool v])))
def sw_scr : Plan := .b (.z) (.b (.z) (.z))
theorem sw_vc (a b c d e f g h i r ix iy sp pc wz af bc de hl im : Int) (p q u v : Bool) (k : Int) (K : AV → Prop) : (funP (XR1) 6 [.agg [.int .u8 a, .int .u8 b, .int .u8 c, .int .u8 d, .int .u8 e, .int .u8 f, .int .u8 g, .int .u8 h, .int .u8 i, .int .u8 r, .int .u16 ix, .int .u16 iy, .int .u16 sp, .int .u16 pc, .int .u16 wz, .int .u16 af, .int .u16 bc, .int .u16 de, .int .u16 hl, .bool p, .bool q, .int .i64 im, .bool u, .bool v], .int .i64 k] h0 sw_scr (fun v _ _ => K v)) = sw_VC a b c d e f g h i r ix iy sp pc wz af bc de hl im p q u v k K := by kernel_rfl
end Go.Proofs.YthmakddlhaeblaaDoor.V
