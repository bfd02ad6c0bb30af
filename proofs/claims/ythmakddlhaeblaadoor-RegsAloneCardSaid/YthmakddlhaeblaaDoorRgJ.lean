/- Printed by vc.py: what must hold for functions' ways (RgJ). -/
import Derived.Test.YthmakddlhaeblaaDoorRgI
namespace Go.Proofs.YthmakddlhaeblaaDoor.V
open Go Go.Proofs
set_option maxRecDepth 100000
set_option linter.unusedVariables false
def get00_VC (a b c d e f g h i r ix iy sp pc wz af bc de hl im : Int) (p q u v : Bool) (j k : Int) (K : AV → Prop) : Prop :=
  (decide (mdN j (3 : Int) = (0 : Int))) = true ∧
  ((decide (mdN k (8 : Int) = (0 : Int))) = true ∧
  (K (AV.int IntKind.u8 c)))
def get00_scr : Plan := .t (.t (.z))
theorem get00_vc (a b c d e f g h i r ix iy sp pc wz af bc de hl im : Int) (p q u v : Bool) (j k : Int) (K : AV → Prop) : (funP (XG 0 0 0) 11 [.agg [.int .u8 a, .int .u8 b, .int .u8 c, .int .u8 d, .int .u8 e, .int .u8 f, .int .u8 g, .int .u8 h, .int .u8 i, .int .u8 r, .int .u16 ix, .int .u16 iy, .int .u16 sp, .int .u16 pc, .int .u16 wz, .int .u16 af, .int .u16 bc, .int .u16 de, .int .u16 hl, .bool p, .bool q, .int .i64 im, .bool u, .bool v], .int .i64 j, .int .i64 k] h0 get00_scr (fun v _ _ => K v)) = get00_VC a b c d e f g h i r ix iy sp pc wz af bc de hl im p q u v j k K := by kernel_rfl
def put00_VC (a b c d e f g h i r ix iy sp pc wz af bc de hl im : Int) (p q u v : Bool) (j k w : Int) (K : AV → Prop) : Prop :=
  (decide (mdN j (3 : Int) = (0 : Int))) = true ∧
  ((decide (mdN k (8 : Int) = (0 : Int))) = true ∧
  (K
  (AV.agg
    [AV.int IntKind.u8 a, AV.int IntKind.u8 b, AV.int IntKind.u8 w, AV.int IntKind.u8 d, AV.int IntKind.u8 e,
      AV.int IntKind.u8 f, AV.int IntKind.u8 g, AV.int IntKind.u8 h, AV.int IntKind.u8 i, AV.int IntKind.u8 r,
      AV.int IntKind.u16 ix, AV.int IntKind.u16 iy, AV.int IntKind.u16 sp, AV.int IntKind.u16 pc, AV.int IntKind.u16 wz,
      AV.int IntKind.u16 af, AV.int IntKind.u16 bc, AV.int IntKind.u16 de, AV.int IntKind.u16 hl, AV.bool p, AV.bool q,
      AV.int IntKind.i64 im, AV.bool u, AV.bool v])))
def put00_scr : Plan := .t (.t (.z))
theorem put00_vc (a b c d e f g h i r ix iy sp pc wz af bc de hl im : Int) (p q u v : Bool) (j k w : Int) (K : AV → Prop) : (funP (XG 0 0 0) 10 [.agg [.int .u8 a, .int .u8 b, .int .u8 c, .int .u8 d, .int .u8 e, .int .u8 f, .int .u8 g, .int .u8 h, .int .u8 i, .int .u8 r, .int .u16 ix, .int .u16 iy, .int .u16 sp, .int .u16 pc, .int .u16 wz, .int .u16 af, .int .u16 bc, .int .u16 de, .int .u16 hl, .bool p, .bool q, .int .i64 im, .bool u, .bool v], .int .i64 j, .int .i64 k, .int .u8 w] h0 put00_scr (fun v _ _ => K v)) = put00_VC a b c d e f g h i r ix iy sp pc wz af bc de hl im p q u v j k w K := by kernel_rfl
def get01_VC (a b c d e f g h i r ix iy sp pc wz af bc de hl im : Int) (p q u v : Bool) (j k : Int) (K : AV → Prop) : Prop :=
  (decide (mdN j (3 : Int) = (0 : Int))) = true ∧
  ((decide (mdN k (8 : Int) = (1 : Int))) = true ∧
  (K (AV.int IntKind.u8 d)))
def get01_scr : Plan := .t (.t (.z))
theorem get01_vc (a b c d e f g h i r ix iy sp pc wz af bc de hl im : Int) (p q u v : Bool) (j k : Int) (K : AV → Prop) : (funP (XG 0 1 0) 11 [.agg [.int .u8 a, .int .u8 b, .int .u8 c, .int .u8 d, .int .u8 e, .int .u8 f, .int .u8 g, .int .u8 h, .int .u8 i, .int .u8 r, .int .u16 ix, .int .u16 iy, .int .u16 sp, .int .u16 pc, .int .u16 wz, .int .u16 af, .int .u16 bc, .int .u16 de, .int .u16 hl, .bool p, .bool q, .int .i64 im, .bool u, .bool v], .int .i64 j, .int .i64 k] h0 get01_scr (fun v _ _ => K v)) = get01_VC a b c d e f g h i r ix iy sp pc wz af bc de hl im p q u v j k K := by kernel_rfl
def put01_VC (a b c d e f g h i r ix iy sp pc wz af bc de hl im : Int) (p q u v : Bool) (j k w : Int) (K : AV → Prop) : Prop :=
  (decide (mdN j (3 : Int) = (0 : Int))) = true ∧
  ((decide (mdN k (8 : Int) = (1 : Int))) = true ∧
  (K
  (AV.agg
    [AV.int IntKind.u8 a, AV.int IntKind.u8 b, AV.int IntKind.u8 c, AV.int IntKind.u8 w, AV.int IntKind.u8 e,
      AV.int IntKind.u8 f, AV.int IntKind.u8 g, AV.int IntKind.u8 h, AV.int IntKind.u8 i, AV.int IntKind.u8 r,
      AV.int IntKind.u16 ix, AV.int IntKind.u16 iy, AV.int IntKind.u16 sp, AV.int IntKind.u16 pc, AV.int IntKind.u16 wz,
      AV.int IntKind.u16 af, AV.int IntKind.u16 bc, AV.int IntKind.u16 de, AV.int IntKind.u16 hl, AV.bool p, AV.bool q,
      AV.int IntKind.i64 im, AV.bool u, AV.bool v])))
def put01_scr : Plan := .t (.t (.z))
theorem put01_vc (a b c d e f g h i r ix iy sp pc wz af bc de hl im : Int) (p q u v : Bool) (j k w : Int) (K : AV → Prop) : (funP (XG 0 1 0) 10 [.agg [.int .u8 a, .int .u8 b, .int .u8 c, .int .u8 d, .int .u8 e, .int .u8 f, .int .u8 g, .int .u8 h, .int .u8 i, .int .u8 r, .int .u16 ix, .int .u16 iy, .int .u16 sp, .int .u16 pc, .int .u16 wz, .int .u16 af, .int .u16 bc, .int .u16 de, .int .u16 hl, .bool p, .bool q, .int .i64 im, .bool u, .bool v], .int .i64 j, .int .i64 k, .int .u8 w] h0 put01_scr (fun v _ _ => K v)) = put01_VC a b c d e f g h i r ix iy sp pc wz af bc de hl im p q u v j k w K := by kernel_rfl
def get02_VC (a b c d e f g h i r ix iy sp pc wz af bc de hl im : Int) (p q u v : Bool) (j k : Int) (K : AV → Prop) : Prop :=
  (decide (mdN j (3 : Int) = (0 : Int))) = true ∧
  ((decide (mdN k (8 : Int) = (2 : Int))) = true ∧
  (K (AV.int IntKind.u8 e)))
def get02_scr : Plan := .t (.t (.z))
theorem get02_vc (a b c d e f g h i r ix iy sp pc wz af bc de hl im : Int) (p q u v : Bool) (j k : Int) (K : AV → Prop) : (funP (XG 0 2 0) 11 [.agg [.int .u8 a, .int .u8 b, .int .u8 c, .int .u8 d, .int .u8 e, .int .u8 f, .int .u8 g, .int .u8 h, .int .u8 i, .int .u8 r, .int .u16 ix, .int .u16 iy, .int .u16 sp, .int .u16 pc, .int .u16 wz, .int .u16 af, .int .u16 bc, .int .u16 de, .int .u16 hl, .bool p, .bool q, .int .i64 im, .bool u, .bool v], .int .i64 j, .int .i64 k] h0 get02_scr (fun v _ _ => K v)) = get02_VC a b c d e f g h i r ix iy sp pc wz af bc de hl im p q u v j k K := by kernel_rfl
def put02_VC (a b c d e f g h i r ix iy sp pc wz af bc de hl im : Int) (p q u v : Bool) (j k w : Int) (K : AV → Prop) : Prop :=
  (decide (mdN j (3 : Int) = (0 : Int))) = true ∧
  ((decide (mdN k (8 : Int) = (2 : Int))) = true ∧
  (K
  (AV.agg
    [AV.int IntKind.u8 a, AV.int IntKind.u8 b, AV.int IntKind.u8 c, AV.int IntKind.u8 d, AV.int IntKind.u8 w,
      AV.int IntKind.u8 f, AV.int IntKind.u8 g, AV.int IntKind.u8 h, AV.int IntKind.u8 i, AV.int IntKind.u8 r,
      AV.int IntKind.u16 ix, AV.int IntKind.u16 iy, AV.int IntKind.u16 sp, AV.int IntKind.u16 pc, AV.int IntKind.u16 wz,
      AV.int IntKind.u16 af, AV.int IntKind.u16 bc, AV.int IntKind.u16 de, AV.int IntKind.u16 hl, AV.bool p, AV.bool q,
      AV.int IntKind.i64 im, AV.bool u, AV.bool v])))
def put02_scr : Plan := .t (.t (.z))
theorem put02_vc (a b c d e f g h i r ix iy sp pc wz af bc de hl im : Int) (p q u v : Bool) (j k w : Int) (K : AV → Prop) : (funP (XG 0 2 0) 10 [.agg [.int .u8 a, .int .u8 b, .int .u8 c, .int .u8 d, .int .u8 e, .int .u8 f, .int .u8 g, .int .u8 h, .int .u8 i, .int .u8 r, .int .u16 ix, .int .u16 iy, .int .u16 sp, .int .u16 pc, .int .u16 wz, .int .u16 af, .int .u16 bc, .int .u16 de, .int .u16 hl, .bool p, .bool q, .int .i64 im, .bool u, .bool v], .int .i64 j, .int .i64 k, .int .u8 w] h0 put02_scr (fun v _ _ => K v)) = put02_VC a b c d e f g h i r ix iy sp pc wz af bc de hl im p q u v j k w K := by kernel_rfl
def get03_VC (a b c d e f g h i r ix iy sp pc wz af bc de hl im : Int) (p q u v : Bool) (j k : Int) (K : AV → Prop) : Prop :=
  (decide (mdN j (3 : Int) = (0 : Int))) = true ∧
  ((decide (mdN k (8 : Int) = (3 : Int))) = true ∧
  (K (AV.int IntKind.u8 f)))
def get03_scr : Plan := .t (.t (.z))
theorem get03_vc (a b c d e f g h i r ix iy sp pc wz af bc de hl im : Int) (p q u v : Bool) (j k : Int) (K : AV → Prop) : (funP (XG 0 3 0) 11 [.agg [.int .u8 a, .int .u8 b, .int .u8 c, .int .u8 d, .int .u8 e, .int .u8 f, .int .u8 g, .int .u8 h, .int .u8 i, .int .u8 r, .int .u16 ix, .int .u16 iy, .int .u16 sp, .int .u16 pc, .int .u16 wz, .int .u16 af, .int .u16 bc, .int .u16 de, .int .u16 hl, .bool p, .bool q, .int .i64 im, .bool u, .bool v], .int .i64 j, .int .i64 k] h0 get03_scr (fun v _ _ => K v)) = get03_VC a b c d e f g h i r ix iy sp pc wz af bc de hl im p q u v j k K := by kernel_rfl
def put03_VC (a b c d e f g h i r ix iy sp pc wz af bc de hl im : Int) (p q u v : Bool) (j k w : Int) (K : AV → Prop) : Prop :=
  (decide (mdN j (3 : Int) = (0 : Int))) = true ∧
  ((decide (mdN k (8 : Int) = (3 : Int))) = true ∧
  (K
  (AV.agg
    [AV.int IntKind.u8 a, AV.int IntKind.u8 b, AV.int IntKind.u8 c, AV.int IntKind.u8 d, AV.int IntKind.u8 e,
      AV.int IntKind.u8 w, AV.int IntKind.u8 g, AV.int IntKind.u8 h, AV.int IntKind.u8 i, AV.int IntKind.u8 r,
      AV.int IntKind.u16 ix, AV.int IntKind.u16 iy, AV.int IntKind.u16 sp, AV.int IntKind.u16 pc, AV.int IntKind.u16 wz,
      AV.int IntKind.u16 af, AV.int IntKind.u16 bc, AV.int IntKind.u16 de, AV.int IntKind.u16 hl, AV.bool p, AV.bool q,
      AV.int IntKind.i64 im, AV.bool u, AV.bool v])))
def put03_scr : Plan := .t (.t (.z))
theorem put03_vc (a b c d e f g h i r ix iy sp pc wz af bc de hl im : Int) (p q u v : Bool) (j k w : Int) (K : AV → Prop) : (funP (XG 0 3 0) 10 [.agg [.int .u8 a, .int .u8 b, .int .u8 c, .int .u8 d, .int .u8 e, .int .u8 f, .int .u8 g, .int .u8 h, .int .u8 i, .int .u8 r, .int .u16 ix, .int .u16 iy, .int .u16 sp, .int .u16 pc, .int .u16 wz, .int .u16 af, .int .u16 bc, .int .u16 de, .int .u16 hl, .bool p, .bool q, .int .i64 im, .bool u, .bool v], .int .i64 j, .int .i64 k, .int .u8 w] h0 put03_scr (fun v _ _ => K v)) = put03_VC a b c d e f g h i r ix iy sp pc wz af bc de hl im p q u v j k w K := by kernel_rfl
def get04_VC (a b c d e f g h i r ix iy sp pc wz af bc de hl im : Int) (p q u v : Bool) (j k : Int) (K : AV → Prop) : Prop :=
  (decide (mdN j (3 : Int) = (0 : Int))) = true ∧
  ((decide (mdN k (8 : Int) = (4 : Int))) = true ∧
  (K (AV.int IntKind.u8 g)))
def get04_scr : Plan := .t (.t (.z))
theorem get04_vc (a b c d e f g h i r ix iy sp pc wz af bc de hl im : Int) (p q u v : Bool) (j k : Int) (K : AV → Prop) : (funP (XG 0 4 0) 11 [.agg [.int .u8 a, .int .u8 b, .int .u8 c, .int .u8 d, .int .u8 e, .int .u8 f, .int .u8 g, .int .u8 h, .int .u8 i, .int .u8 r, .int .u16 ix, .int .u16 iy, .int .u16 sp, .int .u16 pc, .int .u16 wz, .int .u16 af, .int .u16 bc, .int .u16 de, .int .u16 hl, .bool p, .bool q, .int .i64 im, .bool u, .bool v], .int .i64 j, .int .i64 k] h0 get04_scr (fun v _ _ => K v)) = get04_VC a b c d e f g h i r ix iy sp pc wz af bc de hl im p q u v j k K := by kernel_rfl
def put04_VC (a b c d e f g h i r ix iy sp pc wz af bc de hl im : Int) (p q u v : Bool) (j k w : Int) (K : AV → Prop) : Prop :=
  (decide (mdN j (3 : Int) = (0 : Int))) = true ∧
  ((decide (mdN k (8 : Int) = (4 : Int))) = true ∧
  (K
  (AV.agg
    [AV.int IntKind.u8 a, AV.int IntKind.u8 b, AV.int IntKind.u8 c, AV.int IntKind.u8 d, AV.int IntKind.u8 e,
      AV.int IntKind.u8 f, AV.int IntKind.u8 w, AV.int IntKind.u8 h, AV.int IntKind.u8 i, AV.int IntKind.u8 r,
      AV.int IntKind.u16 ix, AV.int IntKind.u16 iy, AV.int IntKind.u16 sp, AV.int IntKind.u16 pc, AV.int IntKind.u16 wz,
      AV.int IntKind.u16 af, AV.int IntKind.u16 bc, AV.int IntKind.u16 de, AV.int IntKind.u16 hl, AV.bool p, AV.bool q,
      AV.int IntKind.i64 im, AV.bool u, AV.bool v])))
def put04_scr : Plan := .t (.t (.z))
theorem put04_vc (a b c d e f g h i r ix iy sp pc wz af bc de hl im : Int) (p q u v : Bool) (j k w : Int) (K : AV → Prop) : (funP (XG 0 4 0) 10 [.agg [.int .u8 a, .int .u8 b, .int .u8 c, .int .u8 d, .int .u8 e, .int .u8 f, .int .u8 g, .int .u8 h, .int .u8 i, .int .u8 r, .int .u16 ix, .int .u16 iy, .int .u16 sp, .int .u16 pc, .int .u16 wz, .int .u16 af, .int .u16 bc, .int .u16 de, .int .u16 hl, .bool p, .bool q, .int .i64 im, .bool u, .bool v], .int .i64 j, .int .i64 k, .int .u8 w] h0 put04_scr (fun v _ _ => K v)) = put04_VC a b c d e f g h i r ix iy sp pc wz af bc de hl im p q u v j k w K := by kernel_rfl
def get05_VC (a b c d e f g h i r ix iy sp pc wz af bc de hl im : Int) (p q u v : Bool) (j k : Int) (K : AV → Prop) : Prop :=
  (decide (mdN j (3 : Int) = (0 : Int))) = true ∧
  ((decide (mdN k (8 : Int) = (5 : Int))) = true ∧
  (K (AV.int IntKind.u8 h)))
def get05_scr : Plan := .t (.t (.z))
theorem get05_vc (a b c d e f g h i r ix iy sp pc wz af bc de hl im : Int) (p q u v : Bool) (j k : Int) (K : AV → Prop) : (funP (XG 0 5 0) 11 [.agg [.int .u8 a, .int .u8 b, .int .u8 c, .int .u8 d, .int .u8 e, .int .u8 f, .int .u8 g, .int .u8 h, .int .u8 i, .int .u8 r, .int .u16 ix, .int .u16 iy, .int .u16 sp, .int .u16 pc, .int .u16 wz, .int .u16 af, .int .u16 bc, .int .u16 de, .int .u16 hl, .bool p, .bool q, .int .i64 im, .bool u, .bool v], .int .i64 j, .int .i64 k] h0 get05_scr (fun v _ _ => K v)) = get05_VC a b c d e f g h i r ix iy sp pc wz af bc de hl im p q u v j k K := by kernel_rfl
def put05_VC (a b c d e f g h i r ix iy sp pc wz af bc de hl im : Int) (p q u v : Bool) (j k w : Int) (K : AV → Prop) : Prop :=
  (decide (mdN j (3 : Int) = (0 : Int))) = true ∧
  ((decide (mdN k (8 : Int) = (5 : Int))) = true ∧
  (K
  (AV.agg
    [AV.int IntKind.u8 a, AV.int IntKind.u8 b, AV.int IntKind.u8 c, AV.int IntKind.u8 d, AV.int IntKind.u8 e,
      AV.int IntKind.u8 f, AV.int IntKind.u8 g, AV.int IntKind.u8 w, AV.int IntKind.u8 i, AV.int IntKind.u8 r,
      AV.int IntKind.u16 ix, AV.int IntKind.u16 iy, AV.int IntKind.u16 sp, AV.int IntKind.u16 pc, AV.int IntKind.u16 wz,
      AV.int IntKind.u16 af, AV.int IntKind.u16 bc, AV.int IntKind.u16 de, AV.int IntKind.u16 hl, AV.bool p, AV.bool q,
      AV.int IntKind.i64 im, AV.bool u, AV.bool v])))
def put05_scr : Plan := .t (.t (.z))
theorem put05_vc (a b c d e f g h i r ix iy sp pc wz af bc de hl im : Int) (p q u v : Bool) (j k w : Int) (K : AV → Prop) : (funP (XG 0 5 0) 10 [.agg [.int .u8 a, .int .u8 b, .int .u8 c, .int .u8 d, .int .u8 e, .int .u8 f, .int .u8 g, .int .u8 h, .int .u8 i, .int .u8 r, .int .u16 ix, .int .u16 iy, .int .u16 sp, .int .u16 pc, .int .u16 wz, .int .u16 af, .int .u16 bc, .int .u16 de, .int .u16 hl, .bool p, .bool q, .int .i64 im, .bool u, .bool v], .int .i64 j, .int .i64 k, .int .u8 w] h0 put05_scr (fun v _ _ => K v)) = put05_VC a b c d e f g h i r ix iy sp pc wz af bc de hl im p q u v j k w K := by kernel_rfl
def get06_VC (a b c d e f g h i r ix iy sp pc wz af bc de hl im : Int) (p q u v : Bool) (j k : Int) (K : AV → Prop) : Prop :=
  (decide (mdN j (3 : Int) = (0 : Int))) = true ∧
  ((decide (mdN k (8 : Int) = (6 : Int))) = true ∧
  (K (AV.int IntKind.u8 (0 : Int))))
def get06_scr : Plan := .t (.t (.z))
theorem get06_vc (a b c d e f g h i r ix iy sp pc wz af bc de hl im : Int) (p q u v : Bool) (j k : Int) (K : AV → Prop) : (funP (XG 0 6 0) 11 [.agg [.int .u8 a, .int .u8 b, .int .u8 c, .int .u8 d, .int .u8 e, .int .u8 f, .int .u8 g, .int .u8 h, .int .u8 i, .int .u8 r, .int .u16 ix, .int .u16 iy, .int .u16 sp, .int .u16 pc, .int .u16 wz, .int .u16 af, .int .u16 bc, .int .u16 de, .int .u16 hl, .bool p, .bool q, .int .i64 im, .bool u, .bool v], .int .i64 j, .int .i64 k] h0 get06_scr (fun v _ _ => K v)) = get06_VC a b c d e f g h i r ix iy sp pc wz af bc de hl im p q u v j k K := by kernel_rfl
def put06_VC (a b c d e f g h i r ix iy sp pc wz af bc de hl im : Int) (p q u v : Bool) (j k w : Int) (K : AV → Prop) : Prop :=
  (decide (mdN j (3 : Int) = (0 : Int))) = true ∧
  ((decide (mdN k (8 : Int) = (6 : Int))) = true ∧
  (K
  (AV.agg
    [AV.int IntKind.u8 a, AV.int IntKind.u8 b, AV.int IntKind.u8 c, AV.int IntKind.u8 d, AV.int IntKind.u8 e,
      AV.int IntKind.u8 f, AV.int IntKind.u8 g, AV.int IntKind.u8 h, AV.int IntKind.u8 i, AV.int IntKind.u8 r,
      AV.int IntKind.u16 ix, AV.int IntKind.u16 iy, AV.int IntKind.u16 sp, AV.int IntKind.u16 pc, AV.int IntKind.u16 wz,
      AV.int IntKind.u16 af, AV.int IntKind.u16 bc, AV.int IntKind.u16 de, AV.int IntKind.u16 hl, AV.bool p, AV.bool q,
      AV.int IntKind.i64 im, AV.bool u, AV.bool v])))
def put06_scr : Plan := .t (.t (.z))
theorem put06_vc (a b c d e f g h i r ix iy sp pc wz af bc de hl im : Int) (p q u v : Bool) (j k w : Int) (K : AV → Prop) : (funP (XG 0 6 0) 10 [.agg [.int .u8 a, .int .u8 b, .int .u8 c, .int .u8 d, .int .u8 e, .int .u8 f, .int .u8 g, .int .u8 h, .int .u8 i, .int .u8 r, .int .u16 ix, .int .u16 iy, .int .u16 sp, .int .u16 pc, .int .u16 wz, .int .u16 af, .int .u16 bc, .int .u16 de, .int .u16 hl, .bool p, .bool q, .int .i64 im, .bool u, .bool v], .int .i64 j, .int .i64 k, .int .u8 w] h0 put06_scr (fun v _ _ => K v)) = put06_VC a b c d e f g h i r ix iy sp pc wz af bc de hl im p q u v j k w K := by kernel_rfl
def get07_VC (a b c d e f g h i r ix iy sp pc wz af bc de hl im : Int) (p q u v : Bool) (j k : Int) (K : AV → Prop) : Prop :=
  (decide (mdN j (3 : Int) = (0 : Int))) = true ∧
  ((decide (mdN k (8 : Int) = (7 : Int))) = true ∧
  (K (AV.int IntKind.u8 a)))
def get07_scr : Plan := .t (.t (.z))
theorem get07_vc (a b c d e f g h i r ix iy sp pc wz af bc de hl im : Int) (p q u v : Bool) (j k : Int) (K : AV → Prop) : (funP (XG 0 7 0) 11 [.agg [.int .u8 a, .int .u8 b, .int .u8 c, .int .u8 d, .int .u8 e, .int .u8 f, .int .u8 g, .int .u8 h, .int .u8 i, .int .u8 r, .int .u16 ix, .int .u16 iy, .int .u16 sp, .int .u16 pc, .int .u16 wz, .int .u16 af, .int .u16 bc, .int .u16 de, .int .u16 hl, .bool p, .bool q, .int .i64 im, .bool u, .bool v], .int .i64 j, .int .i64 k] h0 get07_scr (fun v _ _ => K v)) = get07_VC a b c d e f g h i r ix iy sp pc wz af bc de hl im p q u v j k K := by kernel_rfl
def put07_VC (a b c d e f g h i r ix iy sp pc wz af bc de hl im : Int) (p q u v : Bool) (j k w : Int) (K : AV → Prop) : Prop :=
  (decide (mdN j (3 : Int) = (0 : Int))) = true ∧
  ((decide (mdN k (8 : Int) = (7 : Int))) = true ∧
  (K
  (AV.agg
    [AV.int IntKind.u8 w, AV.int IntKind.u8 b, AV.int IntKind.u8 c, AV.int IntKind.u8 d, AV.int IntKind.u8 e,
      AV.int IntKind.u8 f, AV.int IntKind.u8 g, AV.int IntKind.u8 h, AV.int IntKind.u8 i, AV.int IntKind.u8 r,
      AV.int IntKind.u16 ix, AV.int IntKind.u16 iy, AV.int IntKind.u16 sp, AV.int IntKind.u16 pc, AV.int IntKind.u16 wz,
      AV.int IntKind.u16 af, AV.int IntKind.u16 bc, AV.int IntKind.u16 de, AV.int IntKind.u16 hl, AV.bool p, AV.bool q,
      AV.int IntKind.i64 im, AV.bool u, AV.bool v])))
def put07_scr : Plan := .t (.t (.z))
theorem put07_vc (a b c d e f g h i r ix iy sp pc wz af bc de hl im : Int) (p q u v : Bool) (j k w : Int) (K : AV → Prop) : (funP (XG 0 7 0) 10 [.agg [.int .u8 a, .int .u8 b, .int .u8 c, .int .u8 d, .int .u8 e, .int .u8 f, .int .u8 g, .int .u8 h, .int .u8 i, .int .u8 r, .int .u16 ix, .int .u16 iy, .int .u16 sp, .int .u16 pc, .int .u16 wz, .int .u16 af, .int .u16 bc, .int .u16 de, .int .u16 hl, .bool p, .bool q, .int .i64 im, .bool u, .bool v], .int .i64 j, .int .i64 k, .int .u8 w] h0 put07_scr (fun v _ _ => K v)) = put07_VC a b c d e f g h i r ix iy sp pc wz af bc de hl im p q u v j k w K := by kernel_rfl
def par00_VC (a b c d e f g h i r ix iy sp pc wz af bc de hl im : Int) (p q u v : Bool) (j k : Int) (s : Bool) (K : AV → Prop) : Prop :=
  (decide (mdN j (3 : Int) = (0 : Int))) = true ∧
  ((decide (mdN k (4 : Int) = (0 : Int))) = true ∧
  (K (AV.int IntKind.u16 (prN c d))))
def par00_scr : Plan := .t (.t (.z))
theorem par00_vc (a b c d e f g h i r ix iy sp pc wz af bc de hl im : Int) (p q u v : Bool) (j k : Int) (s : Bool) (K : AV → Prop) : (funP (XG 0 0 0) 13 [.agg [.int .u8 a, .int .u8 b, .int .u8 c, .int .u8 d, .int .u8 e, .int .u8 f, .int .u8 g, .int .u8 h, .int .u8 i, .int .u8 r, .int .u16 ix, .int .u16 iy, .int .u16 sp, .int .u16 pc, .int .u16 wz, .int .u16 af, .int .u16 bc, .int .u16 de, .int .u16 hl, .bool p, .bool q, .int .i64 im, .bool u, .bool v], .int .i64 j, .int .i64 k, .bool s] h0 par00_scr (fun v _ _ => K v)) = par00_VC a b c d e f g h i r ix iy sp pc wz af bc de hl im p q u v j k s K := by kernel_rfl
def ppr00_VC (a b c d e f g h i r ix iy sp pc wz af bc de hl im : Int) (p q u v : Bool) (j k : Int) (s : Bool) (w : Int) (K : AV → Prop) : Prop :=
  (decide (mdN j (3 : Int) = (0 : Int))) = true ∧
  ((decide (mdN k (4 : Int) = (0 : Int))) = true ∧
  (K
  (AV.agg
    [AV.int IntKind.u8 a, AV.int IntKind.u8 b, AV.int IntKind.u8 (hiN w), AV.int IntKind.u8 (loN w),
      AV.int IntKind.u8 e, AV.int IntKind.u8 f, AV.int IntKind.u8 g, AV.int IntKind.u8 h, AV.int IntKind.u8 i,
      AV.int IntKind.u8 r, AV.int IntKind.u16 ix, AV.int IntKind.u16 iy, AV.int IntKind.u16 sp, AV.int IntKind.u16 pc,
      AV.int IntKind.u16 wz, AV.int IntKind.u16 af, AV.int IntKind.u16 bc, AV.int IntKind.u16 de, AV.int IntKind.u16 hl,
      AV.bool p, AV.bool q, AV.int IntKind.i64 im, AV.bool u, AV.bool v])))
def ppr00_scr : Plan := .t (.t (.z))
theorem ppr00_vc (a b c d e f g h i r ix iy sp pc wz af bc de hl im : Int) (p q u v : Bool) (j k : Int) (s : Bool) (w : Int) (K : AV → Prop) : (funP (XG 0 0 0) 12 [.agg [.int .u8 a, .int .u8 b, .int .u8 c, .int .u8 d, .int .u8 e, .int .u8 f, .int .u8 g, .int .u8 h, .int .u8 i, .int .u8 r, .int .u16 ix, .int .u16 iy, .int .u16 sp, .int .u16 pc, .int .u16 wz, .int .u16 af, .int .u16 bc, .int .u16 de, .int .u16 hl, .bool p, .bool q, .int .i64 im, .bool u, .bool v], .int .i64 j, .int .i64 k, .bool s, .int .u16 w] h0 ppr00_scr (fun v _ _ => K v)) = ppr00_VC a b c d e f g h i r ix iy sp pc wz af bc de hl im p q u v j k s w K := by kernel_rfl
def par01_VC (a b c d e f g h i r ix iy sp pc wz af bc de hl im : Int) (p q u v : Bool) (j k : Int) (s : Bool) (K : AV → Prop) : Prop :=
  (decide (mdN j (3 : Int) = (0 : Int))) = true ∧
  ((decide (mdN k (4 : Int) = (1 : Int))) = true ∧
  (K (AV.int IntKind.u16 (prN e f))))
def par01_scr : Plan := .t (.t (.z))
theorem par01_vc (a b c d e f g h i r ix iy sp pc wz af bc de hl im : Int) (p q u v : Bool) (j k : Int) (s : Bool) (K : AV → Prop) : (funP (XG 0 0 1) 13 [.agg [.int .u8 a, .int .u8 b, .int .u8 c, .int .u8 d, .int .u8 e, .int .u8 f, .int .u8 g, .int .u8 h, .int .u8 i, .int .u8 r, .int .u16 ix, .int .u16 iy, .int .u16 sp, .int .u16 pc, .int .u16 wz, .int .u16 af, .int .u16 bc, .int .u16 de, .int .u16 hl, .bool p, .bool q, .int .i64 im, .bool u, .bool v], .int .i64 j, .int .i64 k, .bool s] h0 par01_scr (fun v _ _ => K v)) = par01_VC a b c d e f g h i r ix iy sp pc wz af bc de hl im p q u v j k s K := by kernel_rfl
def ppr01_VC (a b c d e f g h i r ix iy sp pc wz af bc de hl im : Int) (p q u v : Bool) (j k : Int) (s : Bool) (w : Int) (K : AV → Prop) : Prop :=
  (decide (mdN j (3 : Int) = (0 : Int))) = true ∧
  ((decide (mdN k (4 : Int) = (1 : Int))) = true ∧
  (K
  (AV.agg
    [AV.int IntKind.u8 a, AV.int IntKind.u8 b, AV.int IntKind.u8 c, AV.int IntKind.u8 d, AV.int IntKind.u8 (hiN w),
      AV.int IntKind.u8 (loN w), AV.int IntKind.u8 g, AV.int IntKind.u8 h, AV.int IntKind.u8 i, AV.int IntKind.u8 r,
      AV.int IntKind.u16 ix, AV.int IntKind.u16 iy, AV.int IntKind.u16 sp, AV.int IntKind.u16 pc, AV.int IntKind.u16 wz,
      AV.int IntKind.u16 af, AV.int IntKind.u16 bc, AV.int IntKind.u16 de, AV.int IntKind.u16 hl, AV.bool p, AV.bool q,
      AV.int IntKind.i64 im, AV.bool u, AV.bool v])))
def ppr01_scr : Plan := .t (.t (.z))
theorem ppr01_vc (a b c d e f g h i r ix iy sp pc wz af bc de hl im : Int) (p q u v : Bool) (j k : Int) (s : Bool) (w : Int) (K : AV → Prop) : (funP (XG 0 0 1) 12 [.agg [.int .u8 a, .int .u8 b, .int .u8 c, .int .u8 d, .int .u8 e, .int .u8 f, .int .u8 g, .int .u8 h, .int .u8 i, .int .u8 r, .int .u16 ix, .int .u16 iy, .int .u16 sp, .int .u16 pc, .int .u16 wz, .int .u16 af, .int .u16 bc, .int .u16 de, .int .u16 hl, .bool p, .bool q, .int .i64 im, .bool u, .bool v], .int .i64 j, .int .i64 k, .bool s, .int .u16 w] h0 ppr01_scr (fun v _ _ => K v)) = ppr01_VC a b c d e f g h i r ix iy sp pc wz af bc de hl im p q u v j k s w K := by kernel_rfl
def par02_VC (a b c d e f g h i r ix iy sp pc wz af bc de hl im : Int) (p q u v : Bool) (j k : Int) (s : Bool) (K : AV → Prop) : Prop :=
  (decide (mdN j (3 : Int) = (0 : Int))) = true ∧
  ((decide (mdN k (4 : Int) = (2 : Int))) = true ∧
  (K (AV.int IntKind.u16 (prN g h))))
def par02_scr : Plan := .t (.t (.z))
theorem par02_vc (a b c d e f g h i r ix iy sp pc wz af bc de hl im : Int) (p q u v : Bool) (j k : Int) (s : Bool) (K : AV → Prop) : (funP (XG 0 0 2) 13 [.agg [.int .u8 a, .int .u8 b, .int .u8 c, .int .u8 d, .int .u8 e, .int .u8 f, .int .u8 g, .int .u8 h, .int .u8 i, .int .u8 r, .int .u16 ix, .int .u16 iy, .int .u16 sp, .int .u16 pc, .int .u16 wz, .int .u16 af, .int .u16 bc, .int .u16 de, .int .u16 hl, .bool p, .bool q, .int .i64 im, .bool u, .bool v], .int .i64 j, .int .i64 k, .bool s] h0 par02_scr (fun v _ _ => K v)) = par02_VC a b c d e f g h i r ix iy sp pc wz af bc de hl im p q u v j k s K := by kernel_rfl
def ppr02_VC (a b c d e f g h i r ix iy sp pc wz af bc de hl im : Int) (p q u v : Bool) (j k : Int) (s : Bool) (w : Int) (K : AV → Prop) : Prop :=
  (decide (mdN j (3 : Int) = (0 : Int))) = true ∧
  ((decide (mdN k (4 : Int) = (2 : Int))) = true ∧
  (K
  (AV.agg
    [AV.int IntKind.u8 a, AV.int IntKind.u8 b, AV.int IntKind.u8 c, AV.int IntKind.u8 d, AV.int IntKind.u8 e,
      AV.int IntKind.u8 f, AV.int IntKind.u8 (hiN w), AV.int IntKind.u8 (loN w), AV.int IntKind.u8 i,
      AV.int IntKind.u8 r, AV.int IntKind.u16 ix, AV.int IntKind.u16 iy, AV.int IntKind.u16 sp, AV.int IntKind.u16 pc,
      AV.int IntKind.u16 wz, AV.int IntKind.u16 af, AV.int IntKind.u16 bc, AV.int IntKind.u16 de, AV.int IntKind.u16 hl,
      AV.bool p, AV.bool q, AV.int IntKind.i64 im, AV.bool u, AV.bool v])))
def ppr02_scr : Plan := .t (.t (.z))
theorem ppr02_vc (a b c d e f g h i r ix iy sp pc wz af bc de hl im : Int) (p q u v : Bool) (j k : Int) (s : Bool) (w : Int) (K : AV → Prop) : (funP (XG 0 0 2) 12 [.agg [.int .u8 a, .int .u8 b, .int .u8 c, .int .u8 d, .int .u8 e, .int .u8 f, .int .u8 g, .int .u8 h, .int .u8 i, .int .u8 r, .int .u16 ix, .int .u16 iy, .int .u16 sp, .int .u16 pc, .int .u16 wz, .int .u16 af, .int .u16 bc, .int .u16 de, .int .u16 hl, .bool p, .bool q, .int .i64 im, .bool u, .bool v], .int .i64 j, .int .i64 k, .bool s, .int .u16 w] h0 ppr02_scr (fun v _ _ => K v)) = ppr02_VC a b c d e f g h i r ix iy sp pc wz af bc de hl im p q u v j k s w K := by kernel_rfl
def par03_VC (a b c d e f g h i r ix iy sp pc wz af bc de hl im : Int) (p q u v : Bool) (j k : Int) (s : Bool) (K : AV → Prop) : Prop :=
  (decide (mdN j (3 : Int) = (0 : Int))) = true ∧
  ((decide (mdN k (4 : Int) = (3 : Int))) = true ∧
  (((s) = true →
    K (AV.int IntKind.u16 (prN a b))) ∧
  ((s) = false →
    K (AV.int IntKind.u16 sp))))
def par03_scr : Plan := .t (.t (.k (.k (.k (.k (.b (.z) (.z)))))))
theorem par03_vc (a b c d e f g h i r ix iy sp pc wz af bc de hl im : Int) (p q u v : Bool) (j k : Int) (s : Bool) (K : AV → Prop) : (funP (XG 0 0 3) 13 [.agg [.int .u8 a, .int .u8 b, .int .u8 c, .int .u8 d, .int .u8 e, .int .u8 f, .int .u8 g, .int .u8 h, .int .u8 i, .int .u8 r, .int .u16 ix, .int .u16 iy, .int .u16 sp, .int .u16 pc, .int .u16 wz, .int .u16 af, .int .u16 bc, .int .u16 de, .int .u16 hl, .bool p, .bool q, .int .i64 im, .bool u, .bool v], .int .i64 j, .int .i64 k, .bool s] h0 par03_scr (fun v _ _ => K v)) = par03_VC a b c d e f g h i r ix iy sp pc wz af bc de hl im p q u v j k s K := by kernel_rfl
def ppr03_VC (a b c d e f g h i r ix iy sp pc wz af bc de hl im : Int) (p q u v : Bool) (j k : Int) (s : Bool) (w : Int) (K : AV → Prop) : Prop :=
  (decide (mdN j (3 : Int) = (0 : Int))) = true ∧
  ((decide (mdN k (4 : Int) = (3 : Int))) = true ∧
  (((s) = true →
    K
  (AV.agg
    [AV.int IntKind.u8 (hiN w), AV.int IntKind.u8 (loN w), AV.int IntKind.u8 c, AV.int IntKind.u8 d,
      AV.int IntKind.u8 e, AV.int IntKind.u8 f, AV.int IntKind.u8 g, AV.int IntKind.u8 h, AV.int IntKind.u8 i,
      AV.int IntKind.u8 r, AV.int IntKind.u16 ix, AV.int IntKind.u16 iy, AV.int IntKind.u16 sp, AV.int IntKind.u16 pc,
      AV.int IntKind.u16 wz, AV.int IntKind.u16 af, AV.int IntKind.u16 bc, AV.int IntKind.u16 de, AV.int IntKind.u16 hl,
      AV.bool p, AV.bool q, AV.int IntKind.i64 im, AV.bool u, AV.bool v])) ∧
  ((s) = false →
    K
  (AV.agg
    [AV.int IntKind.u8 a, AV.int IntKind.u8 b, AV.int IntKind.u8 c, AV.int IntKind.u8 d, AV.int IntKind.u8 e,
      AV.int IntKind.u8 f, AV.int IntKind.u8 g, AV.int IntKind.u8 h, AV.int IntKind.u8 i, AV.int IntKind.u8 r,
      AV.int IntKind.u16 ix, AV.int IntKind.u16 iy, AV.int IntKind.u16 w, AV.int IntKind.u16 pc, AV.int IntKind.u16 wz,
      AV.int IntKind.u16 af, AV.int IntKind.u16 bc, AV.int IntKind.u16 de, AV.int IntKind.u16 hl, AV.bool p, AV.bool q,
      AV.int IntKind.i64 im, AV.bool u, AV.bool v]))))
def ppr03_scr : Plan := .t (.t (.k (.k (.k (.k (.b (.z) (.z)))))))
theorem ppr03_vc (a b c d e f g h i r ix iy sp pc wz af bc de hl im : Int) (p q u v : Bool) (j k : Int) (s : Bool) (w : Int) (K : AV → Prop) : (funP (XG 0 0 3) 12 [.agg [.int .u8 a, .int .u8 b, .int .u8 c, .int .u8 d, .int .u8 e, .int .u8 f, .int .u8 g, .int .u8 h, .int .u8 i, .int .u8 r, .int .u16 ix, .int .u16 iy, .int .u16 sp, .int .u16 pc, .int .u16 wz, .int .u16 af, .int .u16 bc, .int .u16 de, .int .u16 hl, .bool p, .bool q, .int .i64 im, .bool u, .bool v], .int .i64 j, .int .i64 k, .bool s, .int .u16 w] h0 ppr03_scr (fun v _ _ => K v)) = ppr03_VC a b c d e f g h i r ix iy sp pc wz af bc de hl im p q u v j k s w K := by kernel_rfl
def get10_VC (a b c d e f g h i r ix iy sp pc wz af bc de hl im : Int) (p q u v : Bool) (j k : Int) (K : AV → Prop) : Prop :=
  (decide (mdN j (3 : Int) = (1 : Int))) = true ∧
  ((decide (mdN k (8 : Int) = (0 : Int))) = true ∧
  (K (AV.int IntKind.u8 c)))
def get10_scr : Plan := .t (.t (.z))
theorem get10_vc (a b c d e f g h i r ix iy sp pc wz af bc de hl im : Int) (p q u v : Bool) (j k : Int) (K : AV → Prop) : (funP (XG 1 0 0) 11 [.agg [.int .u8 a, .int .u8 b, .int .u8 c, .int .u8 d, .int .u8 e, .int .u8 f, .int .u8 g, .int .u8 h, .int .u8 i, .int .u8 r, .int .u16 ix, .int .u16 iy, .int .u16 sp, .int .u16 pc, .int .u16 wz, .int .u16 af, .int .u16 bc, .int .u16 de, .int .u16 hl, .bool p, .bool q, .int .i64 im, .bool u, .bool v], .int .i64 j, .int .i64 k] h0 get10_scr (fun v _ _ => K v)) = get10_VC a b c d e f g h i r ix iy sp pc wz af bc de hl im p q u v j k K := by kernel_rfl
def put10_VC (a b c d e f g h i r ix iy sp pc wz af bc de hl im : Int) (p q u v : Bool) (j k w : Int) (K : AV → Prop) : Prop :=
  (decide (mdN j (3 : Int) = (1 : Int))) = true ∧
  ((decide (mdN k (8 : Int) = (0 : Int))) = true ∧
  (K
  (AV.agg
    [AV.int IntKind.u8 a, AV.int IntKind.u8 b, AV.int IntKind.u8 w, AV.int IntKind.u8 d, AV.int IntKind.u8 e,
      AV.int IntKind.u8 f, AV.int IntKind.u8 g, AV.int IntKind.u8 h, AV.int IntKind.u8 i, AV.int IntKind.u8 r,
      AV.int IntKind.u16 ix, AV.int IntKind.u16 iy, AV.int IntKind.u16 sp, AV.int IntKind.u16 pc, AV.int IntKind.u16 wz,
      AV.int IntKind.u16 af, AV.int IntKind.u16 bc, AV.int IntKind.u16 de, AV.int IntKind.u16 hl, AV.bool p, AV.bool q,
      AV.int IntKind.i64 im, AV.bool u, AV.bool v])))
def put10_scr : Plan := .t (.t (.z))
theorem put10_vc (a b c d e f g h i r ix iy sp pc wz af bc de hl im : Int) (p q u v : Bool) (j k w : Int) (K : AV → Prop) : (funP (XG 1 0 0) 10 [.agg [.int .u8 a, .int .u8 b, .int .u8 c, .int .u8 d, .int .u8 e, .int .u8 f, .int .u8 g, .int .u8 h, .int .u8 i, .int .u8 r, .int .u16 ix, .int .u16 iy, .int .u16 sp, .int .u16 pc, .int .u16 wz, .int .u16 af, .int .u16 bc, .int .u16 de, .int .u16 hl, .bool p, .bool q, .int .i64 im, .bool u, .bool v], .int .i64 j, .int .i64 k, .int .u8 w] h0 put10_scr (fun v _ _ => K v)) = put10_VC a b c d e f g h i r ix iy sp pc wz af bc de hl im p q u v j k w K := by kernel_rfl
def get11_VC (a b c d e f g h i r ix iy sp pc wz af bc de hl im : Int) (p q u v : Bool) (j k : Int) (K : AV → Prop) : Prop :=
  (decide (mdN j (3 : Int) = (1 : Int))) = true ∧
  ((decide (mdN k (8 : Int) = (1 : Int))) = true ∧
  (K (AV.int IntKind.u8 d)))
def get11_scr : Plan := .t (.t (.z))
theorem get11_vc (a b c d e f g h i r ix iy sp pc wz af bc de hl im : Int) (p q u v : Bool) (j k : Int) (K : AV → Prop) : (funP (XG 1 1 0) 11 [.agg [.int .u8 a, .int .u8 b, .int .u8 c, .int .u8 d, .int .u8 e, .int .u8 f, .int .u8 g, .int .u8 h, .int .u8 i, .int .u8 r, .int .u16 ix, .int .u16 iy, .int .u16 sp, .int .u16 pc, .int .u16 wz, .int .u16 af, .int .u16 bc, .int .u16 de, .int .u16 hl, .bool p, .bool q, .int .i64 im, .bool u, .bool v], .int .i64 j, .int .i64 k] h0 get11_scr (fun v _ _ => K v)) = get11_VC a b c d e f g h i r ix iy sp pc wz af bc de hl im p q u v j k K := by kernel_rfl
def put11_VC (a b c d e f g h i r ix iy sp pc wz af bc de hl im : Int) (p q u v : Bool) (j k w : Int) (K : AV → Prop) : Prop :=
  (decide (mdN j (3 : Int) = (1 : Int))) = true ∧
  ((decide (mdN k (8 : Int) = (1 : Int))) = true ∧
  (K
  (AV.agg
    [AV.int IntKind.u8 a, AV.int IntKind.u8 b, AV.int IntKind.u8 c, AV.int IntKind.u8 w, AV.int IntKind.u8 e,
      AV.int IntKind.u8 f, AV.int IntKind.u8 g, AV.int IntKind.u8 h, AV.int IntKind.u8 i, AV.int IntKind.u8 r,
      AV.int IntKind.u16 ix, AV.int IntKind.u16 iy, AV.int IntKind.u16 sp, AV.int IntKind.u16 pc, AV.int IntKind.u16 wz,
      AV.int IntKind.u16 af, AV.int IntKind.u16 bc, AV.int IntKind.u16 de, AV.int IntKind.u16 hl, AV.bool p, AV.bool q,
      AV.int IntKind.i64 im, AV.bool u, AV.bool v])))
def put11_scr : Plan := .t (.t (.z))
theorem put11_vc (a b c d e f g h i r ix iy sp pc wz af bc de hl im : Int) (p q u v : Bool) (j k w : Int) (K : AV → Prop) : (funP (XG 1 1 0) 10 [.agg [.int .u8 a, .int .u8 b, .int .u8 c, .int .u8 d, .int .u8 e, .int .u8 f, .int .u8 g, .int .u8 h, .int .u8 i, .int .u8 r, .int .u16 ix, .int .u16 iy, .int .u16 sp, .int .u16 pc, .int .u16 wz, .int .u16 af, .int .u16 bc, .int .u16 de, .int .u16 hl, .bool p, .bool q, .int .i64 im, .bool u, .bool v], .int .i64 j, .int .i64 k, .int .u8 w] h0 put11_scr (fun v _ _ => K v)) = put11_VC a b c d e f g h i r ix iy sp pc wz af bc de hl im p q u v j k w K := by kernel_rfl
def get12_VC (a b c d e f g h i r ix iy sp pc wz af bc de hl im : Int) (p q u v : Bool) (j k : Int) (K : AV → Prop) : Prop :=
  (decide (mdN j (3 : Int) = (1 : Int))) = true ∧
  ((decide (mdN k (8 : Int) = (2 : Int))) = true ∧
  (K (AV.int IntKind.u8 e)))
def get12_scr : Plan := .t (.t (.z))
theorem get12_vc (a b c d e f g h i r ix iy sp pc wz af bc de hl im : Int) (p q u v : Bool) (j k : Int) (K : AV → Prop) : (funP (XG 1 2 0) 11 [.agg [.int .u8 a, .int .u8 b, .int .u8 c, .int .u8 d, .int .u8 e, .int .u8 f, .int .u8 g, .int .u8 h, .int .u8 i, .int .u8 r, .int .u16 ix, .int .u16 iy, .int .u16 sp, .int .u16 pc, .int .u16 wz, .int .u16 af, .int .u16 bc, .int .u16 de, .int .u16 hl, .bool p, .bool q, .int .i64 im, .bool u, .bool v], .int .i64 j, .int .i64 k] h0 get12_scr (fun v _ _ => K v)) = get12_VC a b c d e f g h i r ix iy sp pc wz af bc de hl im p q u v j k K := by kernel_rfl
def put12_VC (a b c d e f g h i r ix iy sp pc wz af bc de hl im : Int) (p q u v : Bool) (j k w : Int) (K : AV → Prop) : Prop :=
  (decide (mdN j (3 : Int) = (1 : Int))) = true ∧
  ((decide (mdN k (8 : Int) = (2 : Int))) = true ∧
  (K
  (AV.agg
    [AV.int IntKind.u8 a, AV.int IntKind.u8 b, AV.int IntKind.u8 c, AV.int IntKind.u8 d, AV.int IntKind.u8 w,
      AV.int IntKind.u8 f, AV.int IntKind.u8 g, AV.int IntKind.u8 h, AV.int IntKind.u8 i, AV.int IntKind.u8 r,
      AV.int IntKind.u16 ix, AV.int IntKind.u16 iy, AV.int IntKind.u16 sp, AV.int IntKind.u16 pc, AV.int IntKind.u16 wz,
      AV.int IntKind.u16 af, AV.int IntKind.u16 bc, AV.int IntKind.u16 de, AV.int IntKind.u16 hl, AV.bool p, AV.bool q,
      AV.int IntKind.i64 im, AV.bool u, AV.bool v])))
def put12_scr : Plan := .t (.t (.z))
theorem put12_vc (a b c d e f g h i r ix iy sp pc wz af bc de hl im : Int) (p q u v : Bool) (j k w : Int) (K : AV → Prop) : (funP (XG 1 2 0) 10 [.agg [.int .u8 a, .int .u8 b, .int .u8 c, .int .u8 d, .int .u8 e, .int .u8 f, .int .u8 g, .int .u8 h, .int .u8 i, .int .u8 r, .int .u16 ix, .int .u16 iy, .int .u16 sp, .int .u16 pc, .int .u16 wz, .int .u16 af, .int .u16 bc, .int .u16 de, .int .u16 hl, .bool p, .bool q, .int .i64 im, .bool u, .bool v], .int .i64 j, .int .i64 k, .int .u8 w] h0 put12_scr (fun v _ _ => K v)) = put12_VC a b c d e f g h i r ix iy sp pc wz af bc de hl im p q u v j k w K := by kernel_rfl
def get13_VC (a b c d e f g h i r ix iy sp pc wz af bc de hl im : Int) (p q u v : Bool) (j k : Int) (K : AV → Prop) : Prop :=
  (decide (mdN j (3 : Int) = (1 : Int))) = true ∧
  ((decide (mdN k (8 : Int) = (3 : Int))) = true ∧
  (K (AV.int IntKind.u8 f)))
def get13_scr : Plan := .t (.t (.z))
theorem get13_vc (a b c d e f g h i r ix iy sp pc wz af bc de hl im : Int) (p q u v : Bool) (j k : Int) (K : AV → Prop) : (funP (XG 1 3 0) 11 [.agg [.int .u8 a, .int .u8 b, .int .u8 c, .int .u8 d, .int .u8 e, .int .u8 f, .int .u8 g, .int .u8 h, .int .u8 i, .int .u8 r, .int .u16 ix, .int .u16 iy, .int .u16 sp, .int .u16 pc, .int .u16 wz, .int .u16 af, .int .u16 bc, .int .u16 de, .int .u16 hl, .bool p, .bool q, .int .i64 im, .bool u, .bool v], .int .i64 j, .int .i64 k] h0 get13_scr (fun v _ _ => K v)) = get13_VC a b c d e f g h i r ix iy sp pc wz af bc de hl im p q u v j k K := by kernel_rfl
def put13_VC (a b c d e f g h i r ix iy sp pc wz af bc de hl im : Int) (p q u v : Bool) (j k w : Int) (K : AV → Prop) : Prop :=
  (decide (mdN j (3 : Int) = (1 : Int))) = true ∧
  ((decide (mdN k (8 : Int) = (3 : Int))) = true ∧
  (K
  (AV.agg
    [AV.int IntKind.u8 a, AV.int IntKind.u8 b, AV.int IntKind.u8 c, AV.int IntKind.u8 d, AV.int IntKind.u8 e,
      AV.int IntKind.u8 w, AV.int IntKind.u8 g, AV.int IntKind.u8 h, AV.int IntKind.u8 i, AV.int IntKind.u8 r,
      AV.int IntKind.u16 ix, AV.int IntKind.u16 iy, AV.int IntKind.u16 sp, AV.int IntKind.u16 pc, AV.int IntKind.u16 wz,
      AV.int IntKind.u16 af, AV.int IntKind.u16 bc, AV.int IntKind.u16 de, AV.int IntKind.u16 hl, AV.bool p, AV.bool q,
      AV.int IntKind.i64 im, AV.bool u, AV.bool v])))
def put13_scr : Plan := .t (.t (.z))
theorem put13_vc (a b c d e f g h i r ix iy sp pc wz af bc de hl im : Int) (p q u v : Bool) (j k w : Int) (K : AV → Prop) : (funP (XG 1 3 0) 10 [.agg [.int .u8 a, .int .u8 b, .int .u8 c, .int .u8 d, .int .u8 e, .int .u8 f, .int .u8 g, .int .u8 h, .int .u8 i, .int .u8 r, .int .u16 ix, .int .u16 iy, .int .u16 sp, .int .u16 pc, .int .u16 wz, .int .u16 af, .int .u16 bc, .int .u16 de, .int .u16 hl, .bool p, .bool q, .int .i64 im, .bool u, .bool v], .int .i64 j, .int .i64 k, .int .u8 w] h0 put13_scr (fun v _ _ => K v)) = put13_VC a b c d e f g h i r ix iy sp pc wz af bc de hl im p q u v j k w K := by kernel_rfl
def get14_VC (a b c d e f g h i r ix iy sp pc wz af bc de hl im : Int) (p q u v : Bool) (j k : Int) (K : AV → Prop) : Prop :=
  (decide (mdN j (3 : Int) = (1 : Int))) = true ∧
  ((decide (mdN k (8 : Int) = (4 : Int))) = true ∧
  (K (AV.int IntKind.u8 (hiN ix))))
def get14_scr : Plan := .t (.t (.z))
theorem get14_vc (a b c d e f g h i r ix iy sp pc wz af bc de hl im : Int) (p q u v : Bool) (j k : Int) (K : AV → Prop) : (funP (XG 1 4 0) 11 [.agg [.int .u8 a, .int .u8 b, .int .u8 c, .int .u8 d, .int .u8 e, .int .u8 f, .int .u8 g, .int .u8 h, .int .u8 i, .int .u8 r, .int .u16 ix, .int .u16 iy, .int .u16 sp, .int .u16 pc, .int .u16 wz, .int .u16 af, .int .u16 bc, .int .u16 de, .int .u16 hl, .bool p, .bool q, .int .i64 im, .bool u, .bool v], .int .i64 j, .int .i64 k] h0 get14_scr (fun v _ _ => K v)) = get14_VC a b c d e f g h i r ix iy sp pc wz af bc de hl im p q u v j k K := by kernel_rfl
def put14_VC (a b c d e f g h i r ix iy sp pc wz af bc de hl im : Int) (p q u v : Bool) (j k w : Int) (K : AV → Prop) : Prop :=
  (decide (mdN j (3 : Int) = (1 : Int))) = true ∧
  ((decide (mdN k (8 : Int) = (4 : Int))) = true ∧
  (K
  (AV.agg
    [AV.int IntKind.u8 a, AV.int IntKind.u8 b, AV.int IntKind.u8 c, AV.int IntKind.u8 d, AV.int IntKind.u8 e,
      AV.int IntKind.u8 f, AV.int IntKind.u8 g, AV.int IntKind.u8 h, AV.int IntKind.u8 i, AV.int IntKind.u8 r,
      AV.int IntKind.u16 (prN w (IntKind.wrap IntKind.u8 ix)), AV.int IntKind.u16 iy, AV.int IntKind.u16 sp,
      AV.int IntKind.u16 pc, AV.int IntKind.u16 wz, AV.int IntKind.u16 af, AV.int IntKind.u16 bc, AV.int IntKind.u16 de,
      AV.int IntKind.u16 hl, AV.bool p, AV.bool q, AV.int IntKind.i64 im, AV.bool u, AV.bool v])))
def put14_scr : Plan := .t (.t (.z))
theorem put14_vc (a b c d e f g h i r ix iy sp pc wz af bc de hl im : Int) (p q u v : Bool) (j k w : Int) (K : AV → Prop) : (funP (XG 1 4 0) 10 [.agg [.int .u8 a, .int .u8 b, .int .u8 c, .int .u8 d, .int .u8 e, .int .u8 f, .int .u8 g, .int .u8 h, .int .u8 i, .int .u8 r, .int .u16 ix, .int .u16 iy, .int .u16 sp, .int .u16 pc, .int .u16 wz, .int .u16 af, .int .u16 bc, .int .u16 de, .int .u16 hl, .bool p, .bool q, .int .i64 im, .bool u, .bool v], .int .i64 j, .int .i64 k, .int .u8 w] h0 put14_scr (fun v _ _ => K v)) = put14_VC a b c d e f g h i r ix iy sp pc wz af bc de hl im p q u v j k w K := by kernel_rfl
def get15_VC (a b c d e f g h i r ix iy sp pc wz af bc de hl im : Int) (p q u v : Bool) (j k : Int) (K : AV → Prop) : Prop :=
  (decide (mdN j (3 : Int) = (1 : Int))) = true ∧
  ((decide (mdN k (8 : Int) = (5 : Int))) = true ∧
  (K (AV.int IntKind.u8 (loN ix))))
def get15_scr : Plan := .t (.t (.z))
theorem get15_vc (a b c d e f g h i r ix iy sp pc wz af bc de hl im : Int) (p q u v : Bool) (j k : Int) (K : AV → Prop) : (funP (XG 1 5 0) 11 [.agg [.int .u8 a, .int .u8 b, .int .u8 c, .int .u8 d, .int .u8 e, .int .u8 f, .int .u8 g, .int .u8 h, .int .u8 i, .int .u8 r, .int .u16 ix, .int .u16 iy, .int .u16 sp, .int .u16 pc, .int .u16 wz, .int .u16 af, .int .u16 bc, .int .u16 de, .int .u16 hl, .bool p, .bool q, .int .i64 im, .bool u, .bool v], .int .i64 j, .int .i64 k] h0 get15_scr (fun v _ _ => K v)) = get15_VC a b c d e f g h i r ix iy sp pc wz af bc de hl im p q u v j k K := by kernel_rfl
def put15_VC (a b c d e f g h i r ix iy sp pc wz af bc de hl im : Int) (p q u v : Bool) (j k w : Int) (K : AV → Prop) : Prop :=
  (decide (mdN j (3 : Int) = (1 : Int))) = true ∧
  ((decide (mdN k (8 : Int) = (5 : Int))) = true ∧
  (K
  (AV.agg
    [AV.int IntKind.u8 a, AV.int IntKind.u8 b, AV.int IntKind.u8 c, AV.int IntKind.u8 d, AV.int IntKind.u8 e,
      AV.int IntKind.u8 f, AV.int IntKind.u8 g, AV.int IntKind.u8 h, AV.int IntKind.u8 i, AV.int IntKind.u8 r,
      AV.int IntKind.u16 (prN (IntKind.wrap IntKind.u8 (ix / (256 : Int))) w), AV.int IntKind.u16 iy,
      AV.int IntKind.u16 sp, AV.int IntKind.u16 pc, AV.int IntKind.u16 wz, AV.int IntKind.u16 af, AV.int IntKind.u16 bc,
      AV.int IntKind.u16 de, AV.int IntKind.u16 hl, AV.bool p, AV.bool q, AV.int IntKind.i64 im, AV.bool u, AV.bool v])))
def put15_scr : Plan := .t (.t (.z))
theorem put15_vc (a b c d e f g h i r ix iy sp pc wz af bc de hl im : Int) (p q u v : Bool) (j k w : Int) (K : AV → Prop) : (funP (XG 1 5 0) 10 [.agg [.int .u8 a, .int .u8 b, .int .u8 c, .int .u8 d, .int .u8 e, .int .u8 f, .int .u8 g, .int .u8 h, .int .u8 i, .int .u8 r, .int .u16 ix, .int .u16 iy, .int .u16 sp, .int .u16 pc, .int .u16 wz, .int .u16 af, .int .u16 bc, .int .u16 de, .int .u16 hl, .bool p, .bool q, .int .i64 im, .bool u, .bool v], .int .i64 j, .int .i64 k, .int .u8 w] h0 put15_scr (fun v _ _ => K v)) = put15_VC a b c d e f g h i r ix iy sp pc wz af bc de hl im p q u v j k w K := by kernel_rfl
def get16_VC (a b c d e f g h i r ix iy sp pc wz af bc de hl im : Int) (p q u v : Bool) (j k : Int) (K : AV → Prop) : Prop :=
  (decide (mdN j (3 : Int) = (1 : Int))) = true ∧
  ((decide (mdN k (8 : Int) = (6 : Int))) = true ∧
  (K (AV.int IntKind.u8 (0 : Int))))
def get16_scr : Plan := .t (.t (.z))
theorem get16_vc (a b c d e f g h i r ix iy sp pc wz af bc de hl im : Int) (p q u v : Bool) (j k : Int) (K : AV → Prop) : (funP (XG 1 6 0) 11 [.agg [.int .u8 a, .int .u8 b, .int .u8 c, .int .u8 d, .int .u8 e, .int .u8 f, .int .u8 g, .int .u8 h, .int .u8 i, .int .u8 r, .int .u16 ix, .int .u16 iy, .int .u16 sp, .int .u16 pc, .int .u16 wz, .int .u16 af, .int .u16 bc, .int .u16 de, .int .u16 hl, .bool p, .bool q, .int .i64 im, .bool u, .bool v], .int .i64 j, .int .i64 k] h0 get16_scr (fun v _ _ => K v)) = get16_VC a b c d e f g h i r ix iy sp pc wz af bc de hl im p q u v j k K := by kernel_rfl
def put16_VC (a b c d e f g h i r ix iy sp pc wz af bc de hl im : Int) (p q u v : Bool) (j k w : Int) (K : AV → Prop) : Prop :=
  (decide (mdN j (3 : Int) = (1 : Int))) = true ∧
  ((decide (mdN k (8 : Int) = (6 : Int))) = true ∧
  (K
  (AV.agg
    [AV.int IntKind.u8 a, AV.int IntKind.u8 b, AV.int IntKind.u8 c, AV.int IntKind.u8 d, AV.int IntKind.u8 e,
      AV.int IntKind.u8 f, AV.int IntKind.u8 g, AV.int IntKind.u8 h, AV.int IntKind.u8 i, AV.int IntKind.u8 r,
      AV.int IntKind.u16 ix, AV.int IntKind.u16 iy, AV.int IntKind.u16 sp, AV.int IntKind.u16 pc, AV.int IntKind.u16 wz,
      AV.int IntKind.u16 af, AV.int IntKind.u16 bc, AV.int IntKind.u16 de, AV.int IntKind.u16 hl, AV.bool p, AV.bool q,
      AV.int IntKind.i64 im, AV.bool u, AV.bool v])))
def put16_scr : Plan := .t (.t (.z))
theorem put16_vc (a b c d e f g h i r ix iy sp pc wz af bc de hl im : Int) (p q u v : Bool) (j k w : Int) (K : AV → Prop) : (funP (XG 1 6 0) 10 [.agg [.int .u8 a, .int .u8 b, .int .u8 c, .int .u8 d, .int .u8 e, .int .u8 f, .int .u8 g, .int .u8 h, .int .u8 i, .int .u8 r, .int .u16 ix, .int .u16 iy, .int .u16 sp, .int .u16 pc, .int .u16 wz, .int .u16 af, .int .u16 bc, .int .u16 de, .int .u16 hl, .bool p, .bool q, .int .i64 im, .bool u, .bool v], .int .i64 j, .int .i64 k, .int .u8 w] h0 put16_scr (fun v _ _ => K v)) = put16_VC a b c d e f g h i r ix iy sp pc wz af bc de hl im p q u v j k w K := by kernel_rfl
def get17_VC (a b c d e f g h i r ix iy sp pc wz af bc de hl im : Int) (p q u v : Bool) (j k : Int) (K : AV → Prop) : Prop :=
  (decide (mdN j (3 : Int) = (1 : Int))) = true ∧
  ((decide (mdN k (8 : Int) = (7 : Int))) = true ∧
  (K (AV.int IntKind.u8 a)))
def get17_scr : Plan := .t (.t (.z))
theorem get17_vc (a b c d e f g h i r ix iy sp pc wz af bc de hl im : Int) (p q u v : Bool) (j k : Int) (K : AV → Prop) : (funP (XG 1 7 0) 11 [.agg [.int .u8 a, .int .u8 b, .int .u8 c, .int .u8 d, .int .u8 e, .int .u8 f, .int .u8 g, .int .u8 h, .int .u8 i, .int .u8 r, .int .u16 ix, .int .u16 iy, .int .u16 sp, .int .u16 pc, .int .u16 wz, .int .u16 af, .int .u16 bc, .int .u16 de, .int .u16 hl, .bool p, .bool q, .int .i64 im, .bool u, .bool v], .int .i64 j, .int .i64 k] h0 get17_scr (fun v _ _ => K v)) = get17_VC a b c d e f g h i r ix iy sp pc wz af bc de hl im p q u v j k K := by kernel_rfl
def put17_VC (a b c d e f g h i r ix iy sp pc wz af bc de hl im : Int) (p q u v : Bool) (j k w : Int) (K : AV → Prop) : Prop :=
  (decide (mdN j (3 : Int) = (1 : Int))) = true ∧
  ((decide (mdN k (8 : Int) = (7 : Int))) = true ∧
  (K
  (AV.agg
    [AV.int IntKind.u8 w, AV.int IntKind.u8 b, AV.int IntKind.u8 c, AV.int IntKind.u8 d, AV.int IntKind.u8 e,
      AV.int IntKind.u8 f, AV.int IntKind.u8 g, AV.int IntKind.u8 h, AV.int IntKind.u8 i, AV.int IntKind.u8 r,
      AV.int IntKind.u16 ix, AV.int IntKind.u16 iy, AV.int IntKind.u16 sp, AV.int IntKind.u16 pc, AV.int IntKind.u16 wz,
      AV.int IntKind.u16 af, AV.int IntKind.u16 bc, AV.int IntKind.u16 de, AV.int IntKind.u16 hl, AV.bool p, AV.bool q,
      AV.int IntKind.i64 im, AV.bool u, AV.bool v])))
def put17_scr : Plan := .t (.t (.z))
theorem put17_vc (a b c d e f g h i r ix iy sp pc wz af bc de hl im : Int) (p q u v : Bool) (j k w : Int) (K : AV → Prop) : (funP (XG 1 7 0) 10 [.agg [.int .u8 a, .int .u8 b, .int .u8 c, .int .u8 d, .int .u8 e, .int .u8 f, .int .u8 g, .int .u8 h, .int .u8 i, .int .u8 r, .int .u16 ix, .int .u16 iy, .int .u16 sp, .int .u16 pc, .int .u16 wz, .int .u16 af, .int .u16 bc, .int .u16 de, .int .u16 hl, .bool p, .bool q, .int .i64 im, .bool u, .bool v], .int .i64 j, .int .i64 k, .int .u8 w] h0 put17_scr (fun v _ _ => K v)) = put17_VC a b c d e f g h i r ix iy sp pc wz af bc de hl im p q u v j k w K := by kernel_rfl
def par10_VC (a b c d e f g h i r ix iy sp pc wz af bc de hl im : Int) (p q u v : Bool) (j k : Int) (s : Bool) (K : AV → Prop) : Prop :=
  (decide (mdN j (3 : Int) = (1 : Int))) = true ∧
  ((decide (mdN k (4 : Int) = (0 : Int))) = true ∧
  (K (AV.int IntKind.u16 (prN c d))))
def par10_scr : Plan := .t (.t (.z))
theorem par10_vc (a b c d e f g h i r ix iy sp pc wz af bc de hl im : Int) (p q u v : Bool) (j k : Int) (s : Bool) (K : AV → Prop) : (funP (XG 1 0 0) 13 [.agg [.int .u8 a, .int .u8 b, .int .u8 c, .int .u8 d, .int .u8 e, .int .u8 f, .int .u8 g, .int .u8 h, .int .u8 i, .int .u8 r, .int .u16 ix, .int .u16 iy, .int .u16 sp, .int .u16 pc, .int .u16 wz, .int .u16 af, .int .u16 bc, .int .u16 de, .int .u16 hl, .bool p, .bool q, .int .i64 im, .bool u, .bool v], .int .i64 j, .int .i64 k, .bool s] h0 par10_scr (fun v _ _ => K v)) = par10_VC a b c d e f g h i r ix iy sp pc wz af bc de hl im p q u v j k s K := by kernel_rfl
def ppr10_VC (a b c d e f g h i r ix iy sp pc wz af bc de hl im : Int) (p q u v : Bool) (j k : Int) (s : Bool) (w : Int) (K : AV → Prop) : Prop :=
  (decide (mdN j (3 : Int) = (1 : Int))) = true ∧
  ((decide (mdN k (4 : Int) = (0 : Int))) = true ∧
  (K
  (AV.agg
    [AV.int IntKind.u8 a, AV.int IntKind.u8 b, AV.int IntKind.u8 (hiN w), AV.int IntKind.u8 (loN w),
      AV.int IntKind.u8 e, AV.int IntKind.u8 f, AV.int IntKind.u8 g, AV.int IntKind.u8 h, AV.int IntKind.u8 i,
      AV.int IntKind.u8 r, AV.int IntKind.u16 ix, AV.int IntKind.u16 iy, AV.int IntKind.u16 sp, AV.int IntKind.u16 pc,
      AV.int IntKind.u16 wz, AV.int IntKind.u16 af, AV.int IntKind.u16 bc, AV.int IntKind.u16 de, AV.int IntKind.u16 hl,
      AV.bool p, AV.bool q, AV.int IntKind.i64 im, AV.bool u, AV.bool v])))
def ppr10_scr : Plan := .t (.t (.z))
theorem ppr10_vc (a b c d e f g h i r ix iy sp pc wz af bc de hl im : Int) (p q u v : Bool) (j k : Int) (s : Bool) (w : Int) (K : AV → Prop) : (funP (XG 1 0 0) 12 [.agg [.int .u8 a, .int .u8 b, .int .u8 c, .int .u8 d, .int .u8 e, .int .u8 f, .int .u8 g, .int .u8 h, .int .u8 i, .int .u8 r, .int .u16 ix, .int .u16 iy, .int .u16 sp, .int .u16 pc, .int .u16 wz, .int .u16 af, .int .u16 bc, .int .u16 de, .int .u16 hl, .bool p, .bool q, .int .i64 im, .bool u, .bool v], .int .i64 j, .int .i64 k, .bool s, .int .u16 w] h0 ppr10_scr (fun v _ _ => K v)) = ppr10_VC a b c d e f g h i r ix iy sp pc wz af bc de hl im p q u v j k s w K := by kernel_rfl
def par11_VC (a b c d e f g h i r ix iy sp pc wz af bc de hl im : Int) (p q u v : Bool) (j k : Int) (s : Bool) (K : AV → Prop) : Prop :=
  (decide (mdN j (3 : Int) = (1 : Int))) = true ∧
  ((decide (mdN k (4 : Int) = (1 : Int))) = true ∧
  (K (AV.int IntKind.u16 (prN e f))))
def par11_scr : Plan := .t (.t (.z))
theorem par11_vc (a b c d e f g h i r ix iy sp pc wz af bc de hl im : Int) (p q u v : Bool) (j k : Int) (s : Bool) (K : AV → Prop) : (funP (XG 1 0 1) 13 [.agg [.int .u8 a, .int .u8 b, .int .u8 c, .int .u8 d, .int .u8 e, .int .u8 f, .int .u8 g, .int .u8 h, .int .u8 i, .int .u8 r, .int .u16 ix, .int .u16 iy, .int .u16 sp, .int .u16 pc, .int .u16 wz, .int .u16 af, .int .u16 bc, .int .u16 de, .int .u16 hl, .bool p, .bool q, .int .i64 im, .bool u, .bool v], .int .i64 j, .int .i64 k, .bool s] h0 par11_scr (fun v _ _ => K v)) = par11_VC a b c d e f g h i r ix iy sp pc wz af bc de hl im p q u v j k s K := by kernel_rfl
def ppr11_VC (a b c d e f g h i r ix iy sp pc wz af bc de hl im : Int) (p q u v : Bool) (j k : Int) (s : Bool) (w : Int) (K : AV → Prop) : Prop :=
  (decide (mdN j (3 : Int) = (1 : Int))) = true ∧
  ((decide (mdN k (4 : Int) = (1 : Int))) = true ∧
  (K
  (AV.agg
    [AV.int IntKind.u8 a, AV.int IntKind.u8 b, AV.int IntKind.u8 c, AV.int IntKind.u8 d, AV.int IntKind.u8 (hiN w),
      AV.int IntKind.u8 (loN w), AV.int IntKind.u8 g, AV.int IntKind.u8 h, AV.int IntKind.u8 i, AV.int IntKind.u8 r,
      AV.int IntKind.u16 ix, AV.int IntKind.u16 iy, AV.int IntKind.u16 sp, AV.int IntKind.u16 pc, AV.int IntKind.u16 wz,
      AV.int IntKind.u16 af, AV.int IntKind.u16 bc, AV.int IntKind.u16 de, AV.int IntKind.u16 hl, AV.bool p, AV.bool q,
      AV.int IntKind.i64 im, AV.bool u, AV.bool v])))
def ppr11_scr : Plan := .t (.t (.z))
theorem ppr11_vc (a b c d e f g h i r ix iy sp pc wz af bc de hl im : Int) (p q u v : Bool) (j k : Int) (s : Bool) (w : Int) (K : AV → Prop) : (funP (XG 1 0 1) 12 [.agg [.int .u8 a, .int .u8 b, .int .u8 c, .int .u8 d, .int .u8 e, .int .u8 f, .int .u8 g, .int .u8 h, .int .u8 i, .int .u8 r, .int .u16 ix, .int .u16 iy, .int .u16 sp, .int .u16 pc, .int .u16 wz, .int .u16 af, .int .u16 bc, .int .u16 de, .int .u16 hl, .bool p, .bool q, .int .i64 im, .bool u, .bool v], .int .i64 j, .int .i64 k, .bool s, .int .u16 w] h0 ppr11_scr (fun v _ _ => K v)) = ppr11_VC a b c d e f g h i r ix iy sp pc wz af bc de hl im p q u v j k s w K := by kernel_rfl
def par12_VC (a b c d e f g h i r ix iy sp pc wz af bc de hl im : Int) (p q u v : Bool) (j k : Int) (s : Bool) (K : AV → Prop) : Prop :=
  (decide (mdN j (3 : Int) = (1 : Int))) = true ∧
  ((decide (mdN k (4 : Int) = (2 : Int))) = true ∧
  (K (AV.int IntKind.u16 ix)))
def par12_scr : Plan := .t (.t (.z))
theorem par12_vc (a b c d e f g h i r ix iy sp pc wz af bc de hl im : Int) (p q u v : Bool) (j k : Int) (s : Bool) (K : AV → Prop) : (funP (XG 1 0 2) 13 [.agg [.int .u8 a, .int .u8 b, .int .u8 c, .int .u8 d, .int .u8 e, .int .u8 f, .int .u8 g, .int .u8 h, .int .u8 i, .int .u8 r, .int .u16 ix, .int .u16 iy, .int .u16 sp, .int .u16 pc, .int .u16 wz, .int .u16 af, .int .u16 bc, .int .u16 de, .int .u16 hl, .bool p, .bool q, .int .i64 im, .bool u, .bool v], .int .i64 j, .int .i64 k, .bool s] h0 par12_scr (fun v _ _ => K v)) = par12_VC a b c d e f g h i r ix iy sp pc wz af bc de hl im p q u v j k s K := by kernel_rfl
def ppr12_VC (a b c d e f g h i r ix iy sp pc wz af bc de hl im : Int) (p q u v : Bool) (j k : Int) (s : Bool) (w : Int) (K : AV → Prop) : Prop :=
  (decide (mdN j (3 : Int) = (1 : Int))) = true ∧
  ((decide (mdN k (4 : Int) = (2 : Int))) = true ∧
  (K
  (AV.agg
    [AV.int IntKind.u8 a, AV.int IntKind.u8 b, AV.int IntKind.u8 c, AV.int IntKind.u8 d, AV.int IntKind.u8 e,
      AV.int IntKind.u8 f, AV.int IntKind.u8 g, AV.int IntKind.u8 h, AV.int IntKind.u8 i, AV.int IntKind.u8 r,
      AV.int IntKind.u16 w, AV.int IntKind.u16 iy, AV.int IntKind.u16 sp, AV.int IntKind.u16 pc, AV.int IntKind.u16 wz,
      AV.int IntKind.u16 af, AV.int IntKind.u16 bc, AV.int IntKind.u16 de, AV.int IntKind.u16 hl, AV.bool p, AV.bool q,
      AV.int IntKind.i64 im, AV.bool u, AV.bool v])))
def ppr12_scr : Plan := .t (.t (.z))
theorem ppr12_vc (a b c d e f g h i r ix iy sp pc wz af bc de hl im : Int) (p q u v : Bool) (j k : Int) (s : Bool) (w : Int) (K : AV → Prop) : (funP (XG 1 0 2) 12 [.agg [.int .u8 a, .int .u8 b, .int .u8 c, .int .u8 d, .int .u8 e, .int .u8 f, .int .u8 g, .int .u8 h, .int .u8 i, .int .u8 r, .int .u16 ix, .int .u16 iy, .int .u16 sp, .int .u16 pc, .int .u16 wz, .int .u16 af, .int .u16 bc, .int .u16 de, .int .u16 hl, .bool p, .bool q, .int .i64 im, .bool u, .bool v], .int .i64 j, .int .i64 k, .bool s, .int .u16 w] h0 ppr12_scr (fun v _ _ => K v)) = ppr12_VC a b c d e f g h i r ix iy sp pc wz af bc de hl im p q u v j k s w K := by kernel_rfl
def par13_VC (a b c d e f g h i r ix iy sp pc wz af bc de hl im : Int) (p q u v : Bool) (j k : Int) (s : Bool) (K : AV → Prop) : Prop :=
  (decide (mdN j (3 : Int) = (1 : Int))) = true ∧
  ((decide (mdN k (4 : Int) = (3 : Int))) = true ∧
  (((s) = true →
    K (AV.int IntKind.u16 (prN a b))) ∧
  ((s) = false →
    K (AV.int IntKind.u16 sp))))
def par13_scr : Plan := .t (.t (.k (.k (.k (.k (.b (.z) (.z)))))))
theorem par13_vc (a b c d e f g h i r ix iy sp pc wz af bc de hl im : Int) (p q u v : Bool) (j k : Int) (s : Bool) (K : AV → Prop) : (funP (XG 1 0 3) 13 [.agg [.int .u8 a, .int .u8 b, .int .u8 c, .int .u8 d, .int .u8 e, .int .u8 f, .int .u8 g, .int .u8 h, .int .u8 i, .int .u8 r, .int .u16 ix, .int .u16 iy, .int .u16 sp, .int .u16 pc, .int .u16 wz, .int .u16 af, .int .u16 bc, .int .u16 de, .int .u16 hl, .bool p, .bool q, .int .i64 im, .bool u, .bool v], .int .i64 j, .int .i64 k, .bool s] h0 par13_scr (fun v _ _ => K v)) = par13_VC a b c d e f g h i r ix iy sp pc wz af bc de hl im p q u v j k s K := by kernel_rfl
def ppr13_VC (a b c d e f g h i r ix iy sp pc wz af bc de hl im : Int) (p q u v : Bool) (j k : Int) (s : Bool) (w : Int) (K : AV → Prop) : Prop :=
  (decide (mdN j (3 : Int) = (1 : Int))) = true ∧
  ((decide (mdN k (4 : Int) = (3 : Int))) = true ∧
  (((s) = true →
    K
  (AV.agg
    [AV.int IntKind.u8 (hiN w), AV.int IntKind.u8 (loN w), AV.int IntKind.u8 c, AV.int IntKind.u8 d,
      AV.int IntKind.u8 e, AV.int IntKind.u8 f, AV.int IntKind.u8 g, AV.int IntKind.u8 h, AV.int IntKind.u8 i,
      AV.int IntKind.u8 r, AV.int IntKind.u16 ix, AV.int IntKind.u16 iy, AV.int IntKind.u16 sp, AV.int IntKind.u16 pc,
      AV.int IntKind.u16 wz, AV.int IntKind.u16 af, AV.int IntKind.u16 bc, AV.int IntKind.u16 de, AV.int IntKind.u16 hl,
      AV.bool p, AV.bool q, AV.int IntKind.i64 im, AV.bool u, AV.bool v])) ∧
  ((s) = false →
    K
  (AV.agg
    [AV.int IntKind.u8 a, AV.int IntKind.u8 b, AV.int IntKind.u8 c, AV.int IntKind.u8 d, AV.int IntKind.u8 e,
      AV.int IntKind.u8 f, AV.int IntKind.u8 g, AV.int IntKind.u8 h, AV.int IntKind.u8 i, AV.int IntKind.u8 r,
      AV.int IntKind.u16 ix, AV.int IntKind.u16 iy, AV.int IntKind.u16 w, AV.int IntKind.u16 pc, AV.int IntKind.u16 wz,
      AV.int IntKind.u16 af, AV.int IntKind.u16 bc, AV.int IntKind.u16 de, AV.int IntKind.u16 hl, AV.bool p, AV.bool q,
      AV.int IntKind.i64 im, AV.bool u, AV.bool v]))))
def ppr13_scr : Plan := .t (.t (.k (.k (.k (.k (.b (.z) (.z)))))))
theorem ppr13_vc (a b c d e f g h i r ix iy sp pc wz af bc de hl im : Int) (p q u v : Bool) (j k : Int) (s : Bool) (w : Int) (K : AV → Prop) : (funP (XG 1 0 3) 12 [.agg [.int .u8 a, .int .u8 b, .int .u8 c, .int .u8 d, .int .u8 e, .int .u8 f, .int .u8 g, .int .u8 h, .int .u8 i, .int .u8 r, .int .u16 ix, .int .u16 iy, .int .u16 sp, .int .u16 pc, .int .u16 wz, .int .u16 af, .int .u16 bc, .int .u16 de, .int .u16 hl, .bool p, .bool q, .int .i64 im, .bool u, .bool v], .int .i64 j, .int .i64 k, .bool s, .int .u16 w] h0 ppr13_scr (fun v _ _ => K v)) = ppr13_VC a b c d e f g h i r ix iy sp pc wz af bc de hl im p q u v j k s w K := by kernel_rfl
def get20_VC (a b c d e f g h i r ix iy sp pc wz af bc de hl im : Int) (p q u v : Bool) (j k : Int) (K : AV → Prop) : Prop :=
  (decide (mdN j (3 : Int) = (2 : Int))) = true ∧
  ((decide (mdN k (8 : Int) = (0 : Int))) = true ∧
  (K (AV.int IntKind.u8 c)))
def get20_scr : Plan := .t (.t (.z))
theorem get20_vc (a b c d e f g h i r ix iy sp pc wz af bc de hl im : Int) (p q u v : Bool) (j k : Int) (K : AV → Prop) : (funP (XG 2 0 0) 11 [.agg [.int .u8 a, .int .u8 b, .int .u8 c, .int .u8 d, .int .u8 e, .int .u8 f, .int .u8 g, .int .u8 h, .int .u8 i, .int .u8 r, .int .u16 ix, .int .u16 iy, .int .u16 sp, .int .u16 pc, .int .u16 wz, .int .u16 af, .int .u16 bc, .int .u16 de, .int .u16 hl, .bool p, .bool q, .int .i64 im, .bool u, .bool v], .int .i64 j, .int .i64 k] h0 get20_scr (fun v _ _ => K v)) = get20_VC a b c d e f g h i r ix iy sp pc wz af bc de hl im p q u v j k K := by kernel_rfl
def put20_VC (a b c d e f g h i r ix iy sp pc wz af bc de hl im : Int) (p q u v : Bool) (j k w : Int) (K : AV → Prop) : Prop :=
  (decide (mdN j (3 : Int) = (2 : Int))) = true ∧
  ((decide (mdN k (8 : Int) = (0 : Int))) = true ∧
  (K
  (AV.agg
    [AV.int IntKind.u8 a, AV.int IntKind.u8 b, AV.int IntKind.u8 w, AV.int IntKind.u8 d, AV.int IntKind.u8 e,
      AV.int IntKind.u8 f, AV.int IntKind.u8 g, AV.int IntKind.u8 h, AV.int IntKind.u8 i, AV.int IntKind.u8 r,
      AV.int IntKind.u16 ix, AV.int IntKind.u16 iy, AV.int IntKind.u16 sp, AV.int IntKind.u16 pc, AV.int IntKind.u16 wz,
      AV.int IntKind.u16 af, AV.int IntKind.u16 bc, AV.int IntKind.u16 de, AV.int IntKind.u16 hl, AV.bool p, AV.bool q,
      AV.int IntKind.i64 im, AV.bool u, AV.bool v])))
def put20_scr : Plan := .t (.t (.z))
theorem put20_vc (a b c d e f g h i r ix iy sp pc wz af bc de hl im : Int) (p q u v : Bool) (j k w : Int) (K : AV → Prop) : (funP (XG 2 0 0) 10 [.agg [.int .u8 a, .int .u8 b, .int .u8 c, .int .u8 d, .int .u8 e, .int .u8 f, .int .u8 g, .int .u8 h, .int .u8 i, .int .u8 r, .int .u16 ix, .int .u16 iy, .int .u16 sp, .int .u16 pc, .int .u16 wz, .int .u16 af, .int .u16 bc, .int .u16 de, .int .u16 hl, .bool p, .bool q, .int .i64 im, .bool u, .bool v], .int .i64 j, .int .i64 k, .int .u8 w] h0 put20_scr (fun v _ _ => K v)) = put20_VC a b c d e f g h i r ix iy sp pc wz af bc de hl im p q u v j k w K := by kernel_rfl
def get21_VC (a b c d e f g h i r ix iy sp pc wz af bc de hl im : Int) (p q u v : Bool) (j k : Int) (K : AV → Prop) : Prop :=
  (decide (mdN j (3 : Int) = (2 : Int))) = true ∧
  ((decide (mdN k (8 : Int) = (1 : Int))) = true ∧
  (K (AV.int IntKind.u8 d)))
def get21_scr : Plan := .t (.t (.z))
theorem get21_vc (a b c d e f g h i r ix iy sp pc wz af bc de hl im : Int) (p q u v : Bool) (j k : Int) (K : AV → Prop) : (funP (XG 2 1 0) 11 [.agg [.int .u8 a, .int .u8 b, .int .u8 c, .int .u8 d, .int .u8 e, .int .u8 f, .int .u8 g, .int .u8 h, .int .u8 i, .int .u8 r, .int .u16 ix, .int .u16 iy, .int .u16 sp, .int .u16 pc, .int .u16 wz, .int .u16 af, .int .u16 bc, .int .u16 de, .int .u16 hl, .bool p, .bool q, .int .i64 im, .bool u, .bool v], .int .i64 j, .int .i64 k] h0 get21_scr (fun v _ _ => K v)) = get21_VC a b c d e f g h i r ix iy sp pc wz af bc de hl im p q u v j k K := by kernel_rfl
def put21_VC (a b c d e f g h i r ix iy sp pc wz af bc de hl im : Int) (p q u v : Bool) (j k w : Int) (K : AV → Prop) : Prop :=
  (decide (mdN j (3 : Int) = (2 : Int))) = true ∧
  ((decide (mdN k (8 : Int) = (1 : Int))) = true ∧
  (K
  (AV.agg
    [AV.int IntKind.u8 a, AV.int IntKind.u8 b, AV.int IntKind.u8 c, AV.int IntKind.u8 w, AV.int IntKind.u8 e,
      AV.int IntKind.u8 f, AV.int IntKind.u8 g, AV.int IntKind.u8 h, AV.int IntKind.u8 i, AV.int IntKind.u8 r,
      AV.int IntKind.u16 ix, AV.int IntKind.u16 iy, AV.int IntKind.u16 sp, AV.int IntKind.u16 pc, AV.int IntKind.u16 wz,
      AV.int IntKind.u16 af, AV.int IntKind.u16 bc, AV.int IntKind.u16 de, AV.int IntKind.u16 hl, AV.bool p, AV.bool q,
      AV.int IntKind.i64 im, AV.bool u, AV.bool v])))
def put21_scr : Plan := .t (.t (.z))
theorem put21_vc (a b c d e f g h i r ix iy sp pc wz af bc de hl im : Int) (p q u v : Bool) (j k w : Int) (K : AV → Prop) : (funP (XG 2 1 0) 10 [.agg [.int .u8 a, .int .u8 b, .int .u8 c, .int .u8 d, .int .u8 e, .int .u8 f, .int .u8 g, .int .u8 h, .int .u8 i, .int .u8 r, .int .u16 ix, .int .u16 iy, .int .u16 sp, .int .u16 pc, .int .u16 wz, .int .u16 af, .int .u16 bc, .int .u16 de, .int .u16 hl, .bool p, .bool q, .int .i64 im, .bool u, .bool v], .int .i64 j, .int .i64 k, .int .u8 w] h0 put21_scr (fun v _ _ => K v)) = put21_VC a b c d e f g h i r ix iy sp pc wz af bc de hl im p q u v j k w K := by kernel_rfl
def get22_VC (a b c d e f g h i r ix iy sp pc wz af bc de hl im : Int) (p q u v : Bool) (j k : Int) (K : AV → Prop) : Prop :=
  (decide (mdN j (3 : Int) = (2 : Int))) = true ∧
  ((decide (mdN k (8 : Int) = (2 : Int))) = true ∧
  (K (AV.int IntKind.u8 e)))
def get22_scr : Plan := .t (.t (.z))
theorem get22_vc (a b c d e f g h i r ix iy sp pc wz af bc de hl im : Int) (p q u v : Bool) (j k : Int) (K : AV → Prop) : (funP (XG 2 2 0) 11 [.agg [.int .u8 a, .int .u8 b, .int .u8 c, .int .u8 d, .int .u8 e, .int .u8 f, .int .u8 g, .int .u8 h, .int .u8 i, .int .u8 r, .int .u16 ix, .int .u16 iy, .int .u16 sp, .int .u16 pc, .int .u16 wz, .int .u16 af, .int .u16 bc, .int .u16 de, .int .u16 hl, .bool p, .bool q, .int .i64 im, .bool u, .bool v], .int .i64 j, .int .i64 k] h0 get22_scr (fun v _ _ => K v)) = get22_VC a b c d e f g h i r ix iy sp pc wz af bc de hl im p q u v j k K := by kernel_rfl
def put22_VC (a b c d e f g h i r ix iy sp pc wz af bc de hl im : Int) (p q u v : Bool) (j k w : Int) (K : AV → Prop) : Prop :=
  (decide (mdN j (3 : Int) = (2 : Int))) = true ∧
  ((decide (mdN k (8 : Int) = (2 : Int))) = true ∧
  (K
  (AV.agg
    [AV.int IntKind.u8 a, AV.int IntKind.u8 b, AV.int IntKind.u8 c, AV.int IntKind.u8 d, AV.int IntKind.u8 w,
      AV.int IntKind.u8 f, AV.int IntKind.u8 g, AV.int IntKind.u8 h, AV.int IntKind.u8 i, AV.int IntKind.u8 r,
      AV.int IntKind.u16 ix, AV.int IntKind.u16 iy, AV.int IntKind.u16 sp, AV.int IntKind.u16 pc, AV.int IntKind.u16 wz,
      AV.int IntKind.u16 af, AV.int IntKind.u16 bc, AV.int IntKind.u16 de, AV.int IntKind.u16 hl, AV.bool p, AV.bool q,
      AV.int IntKind.i64 im, AV.bool u, AV.bool v])))
def put22_scr : Plan := .t (.t (.z))
theorem put22_vc (a b c d e f g h i r ix iy sp pc wz af bc de hl im : Int) (p q u v : Bool) (j k w : Int) (K : AV → Prop) : (funP (XG 2 2 0) 10 [.agg [.int .u8 a, .int .u8 b, .int .u8 c, .int .u8 d, .int .u8 e, .int .u8 f, .int .u8 g, .int .u8 h, .int .u8 i, .int .u8 r, .int .u16 ix, .int .u16 iy, .int .u16 sp, .int .u16 pc, .int .u16 wz, .int .u16 af, .int .u16 bc, .int .u16 de, .int .u16 hl, .bool p, .bool q, .int .i64 im, .bool u, .bool v], .int .i64 j, .int .i64 k, .int .u8 w] h0 put22_scr (fun v _ _ => K v)) = put22_VC a b c d e f g h i r ix iy sp pc wz af bc de hl im p q u v j k w K := by kernel_rfl
def get23_VC (a b c d e f g h i r ix iy sp pc wz af bc de hl im : Int) (p q u v : Bool) (j k : Int) (K : AV → Prop) : Prop :=
  (decide (mdN j (3 : Int) = (2 : Int))) = true ∧
  ((decide (mdN k (8 : Int) = (3 : Int))) = true ∧
  (K (AV.int IntKind.u8 f)))
def get23_scr : Plan := .t (.t (.z))
theorem get23_vc (a b c d e f g h i r ix iy sp pc wz af bc de hl im : Int) (p q u v : Bool) (j k : Int) (K : AV → Prop) : (funP (XG 2 3 0) 11 [.agg [.int .u8 a, .int .u8 b, .int .u8 c, .int .u8 d, .int .u8 e, .int .u8 f, .int .u8 g, .int .u8 h, .int .u8 i, .int .u8 r, .int .u16 ix, .int .u16 iy, .int .u16 sp, .int .u16 pc, .int .u16 wz, .int .u16 af, .int .u16 bc, .int .u16 de, .int .u16 hl, .bool p, .bool q, .int .i64 im, .bool u, .bool v], .int .i64 j, .int .i64 k] h0 get23_scr (fun v _ _ => K v)) = get23_VC a b c d e f g h i r ix iy sp pc wz af bc de hl im p q u v j k K := by kernel_rfl
def put23_VC (a b c d e f g h i r ix iy sp pc wz af bc de hl im : Int) (p q u v : Bool) (j k w : Int) (K : AV → Prop) : Prop :=
  (decide (mdN j (3 : Int) = (2 : Int))) = true ∧
  ((decide (mdN k (8 : Int) = (3 : Int))) = true ∧
  (K
  (AV.agg
    [AV.int IntKind.u8 a, AV.int IntKind.u8 b, AV.int IntKind.u8 c, AV.int IntKind.u8 d, AV.int IntKind.u8 e,
      AV.int IntKind.u8 w, AV.int IntKind.u8 g, AV.int IntKind.u8 h, AV.int IntKind.u8 i, AV.int IntKind.u8 r,
      AV.int IntKind.u16 ix, AV.int IntKind.u16 iy, AV.int IntKind.u16 sp, AV.int IntKind.u16 pc, AV.int IntKind.u16 wz,
      AV.int IntKind.u16 af, AV.int IntKind.u16 bc, AV.int IntKind.u16 de, AV.int IntKind.u16 hl, AV.bool p, AV.bool q,
      AV.int IntKind.i64 im, AV.bool u, AV.bool v])))
def put23_scr : Plan := .t (.t (.z))
theorem put23_vc (a b c d e f g h i r ix iy sp pc wz af bc de hl im : Int) (p q u v : Bool) (j k w : Int) (K : AV → Prop) : (funP (XG 2 3 0) 10 [.agg [.int .u8 a, .int .u8 b, .int .u8 c, .int .u8 d, .int .u8 e, .int .u8 f, .int .u8 g, .int .u8 h, .int .u8 i, .int .u8 r, .int .u16 ix, .int .u16 iy, .int .u16 sp, .int .u16 pc, .int .u16 wz, .int .u16 af, .int .u16 bc, .int .u16 de, .int .u16 hl, .bool p, .bool q, .int .i64 im, .bool u, .bool v], .int .i64 j, .int .i64 k, .int .u8 w] h0 put23_scr (fun v _ _ => K v)) = put23_VC a b c d e f g h i r ix iy sp pc wz af bc de hl im p q u v j k w K := by kernel_rfl
def get24_VC (a b c d e f g h i r ix iy sp pc wz af bc de hl im : Int) (p q u v : Bool) (j k : Int) (K : AV → Prop) : Prop :=
  (decide (mdN j (3 : Int) = (2 : Int))) = true ∧
  ((decide (mdN k (8 : Int) = (4 : Int))) = true ∧
  (K (AV.int IntKind.u8 (hiN iy))))
def get24_scr : Plan := .t (.t (.z))
theorem get24_vc (a b c d e f g h i r ix iy sp pc wz af bc de hl im : Int) (p q u v : Bool) (j k : Int) (K : AV → Prop) : (funP (XG 2 4 0) 11 [.agg [.int .u8 a, .int .u8 b, .int .u8 c, .int .u8 d, .int .u8 e, .int .u8 f, .int .u8 g, .int .u8 h, .int .u8 i, .int .u8 r, .int .u16 ix, .int .u16 iy, .int .u16 sp, .int .u16 pc, .int .u16 wz, .int .u16 af, .int .u16 bc, .int .u16 de, .int .u16 hl, .bool p, .bool q, .int .i64 im, .bool u, .bool v], .int .i64 j, .int .i64 k] h0 get24_scr (fun v _ _ => K v)) = get24_VC a b c d e f g h i r ix iy sp pc wz af bc de hl im p q u v j k K := by kernel_rfl
def put24_VC (a b c d e f g h i r ix iy sp pc wz af bc de hl im : Int) (p q u v : Bool) (j k w : Int) (K : AV → Prop) : Prop :=
  (decide (mdN j (3 : Int) = (2 : Int))) = true ∧
  ((decide (mdN k (8 : Int) = (4 : Int))) = true ∧
  (K
  (AV.agg
    [AV.int IntKind.u8 a, AV.int IntKind.u8 b, AV.int IntKind.u8 c, AV.int IntKind.u8 d, AV.int IntKind.u8 e,
      AV.int IntKind.u8 f, AV.int IntKind.u8 g, AV.int IntKind.u8 h, AV.int IntKind.u8 i, AV.int IntKind.u8 r,
      AV.int IntKind.u16 ix, AV.int IntKind.u16 (prN w (IntKind.wrap IntKind.u8 iy)), AV.int IntKind.u16 sp,
      AV.int IntKind.u16 pc, AV.int IntKind.u16 wz, AV.int IntKind.u16 af, AV.int IntKind.u16 bc, AV.int IntKind.u16 de,
      AV.int IntKind.u16 hl, AV.bool p, AV.bool q, AV.int IntKind.i64 im, AV.bool u, AV.bool v])))
def put24_scr : Plan := .t (.t (.z))
theorem put24_vc (a b c d e f g h i r ix iy sp pc wz af bc de hl im : Int) (p q u v : Bool) (j k w : Int) (K : AV → Prop) : (funP (XG 2 4 0) 10 [.agg [.int .u8 a, .int .u8 b, .int .u8 c, .int .u8 d, .int .u8 e, .int .u8 f, .int .u8 g, .int .u8 h, .int .u8 i, .int .u8 r, .int .u16 ix, .int .u16 iy, .int .u16 sp, .int .u16 pc, .int .u16 wz, .int .u16 af, .int .u16 bc, .int .u16 de, .int .u16 hl, .bool p, .bool q, .int .i64 im, .bool u, .bool v], .int .i64 j, .int .i64 k, .int .u8 w] h0 put24_scr (fun v _ _ => K v)) = put24_VC a b c d e f g h i r ix iy sp pc wz af bc de hl im p q u v j k w K := by kernel_rfl
def get25_VC (a b c d e f g h i r ix iy sp pc wz af bc de hl im : Int) (p q u v : Bool) (j k : Int) (K : AV → Prop) : Prop :=
  (decide (mdN j (3 : Int) = (2 : Int))) = true ∧
  ((decide (mdN k (8 : Int) = (5 : Int))) = true ∧
  (K (AV.int IntKind.u8 (loN iy))))
def get25_scr : Plan := .t (.t (.z))
theorem get25_vc (a b c d e f g h i r ix iy sp pc wz af bc de hl im : Int) (p q u v : Bool) (j k : Int) (K : AV → Prop) : (funP (XG 2 5 0) 11 [.agg [.int .u8 a, .int .u8 b, .int .u8 c, .int .u8 d, .int .u8 e, .int .u8 f, .int .u8 g, .int .u8 h, .int .u8 i, .int .u8 r, .int .u16 ix, .int .u16 iy, .int .u16 sp, .int .u16 pc, .int .u16 wz, .int .u16 af, .int .u16 bc, .int .u16 de, .int .u16 hl, .bool p, .bool q, .int .i64 im, .bool u, .bool v], .int .i64 j, .int .i64 k] h0 get25_scr (fun v _ _ => K v)) = get25_VC a b c d e f g h i r ix iy sp pc wz af bc de hl im p q u v j k K := by kernel_rfl
def put25_VC (a b c d e f g h i r ix iy sp pc wz af bc de hl im : Int) (p q u v : Bool) (j k w : Int) (K : AV → Prop) : Prop :=
  (decide (mdN j (3 : Int) = (2 : Int))) = true ∧
  ((decide (mdN k (8 : Int) = (5 : Int))) = true ∧
  (K
  (AV.agg
    [AV.int IntKind.u8 a, AV.int IntKind.u8 b, AV.int IntKind.u8 c, AV.int IntKind.u8 d, AV.int IntKind.u8 e,
      AV.int IntKind.u8 f, AV.int IntKind.u8 g, AV.int IntKind.u8 h, AV.int IntKind.u8 i, AV.int IntKind.u8 r,
      AV.int IntKind.u16 ix, AV.int IntKind.u16 (prN (IntKind.wrap IntKind.u8 (iy / (256 : Int))) w),
      AV.int IntKind.u16 sp, AV.int IntKind.u16 pc, AV.int IntKind.u16 wz, AV.int IntKind.u16 af, AV.int IntKind.u16 bc,
      AV.int IntKind.u16 de, AV.int IntKind.u16 hl, AV.bool p, AV.bool q, AV.int IntKind.i64 im, AV.bool u, AV.bool v])))
def put25_scr : Plan := .t (.t (.z))
theorem put25_vc (a b c d e f g h i r ix iy sp pc wz af bc de hl im : Int) (p q u v : Bool) (j k w : Int) (K : AV → Prop) : (funP (XG 2 5 0) 10 [.agg [.int .u8 a, .int .u8 b, .int .u8 c, .int .u8 d, .int .u8 e, .int .u8 f, .int .u8 g, .int .u8 h, .int .u8 i, .int .u8 r, .int .u16 ix, .int .u16 iy, .int .u16 sp, .int .u16 pc, .int .u16 wz, .int .u16 af, .int .u16 bc, .int .u16 de, .int .u16 hl, .bool p, .bool q, .int .i64 im, .bool u, .bool v], .int .i64 j, .int .i64 k, .int .u8 w] h0 put25_scr (fun v _ _ => K v)) = put25_VC a b c d e f g h i r ix iy sp pc wz af bc de hl im p q u v j k w K := by kernel_rfl
def get26_VC (a b c d e f g h i r ix iy sp pc wz af bc de hl im : Int) (p q u v : Bool) (j k : Int) (K : AV → Prop) : Prop :=
  (decide (mdN j (3 : Int) = (2 : Int))) = true ∧
  ((decide (mdN k (8 : Int) = (6 : Int))) = true ∧
  (K (AV.int IntKind.u8 (0 : Int))))
def get26_scr : Plan := .t (.t (.z))
theorem get26_vc (a b c d e f g h i r ix iy sp pc wz af bc de hl im : Int) (p q u v : Bool) (j k : Int) (K : AV → Prop) : (funP (XG 2 6 0) 11 [.agg [.int .u8 a, .int .u8 b, .int .u8 c, .int .u8 d, .int .u8 e, .int .u8 f, .int .u8 g, .int .u8 h, .int .u8 i, .int .u8 r, .int .u16 ix, .int .u16 iy, .int .u16 sp, .int .u16 pc, .int .u16 wz, .int .u16 af, .int .u16 bc, .int .u16 de, .int .u16 hl, .bool p, .bool q, .int .i64 im, .bool u, .bool v], .int .i64 j, .int .i64 k] h0 get26_scr (fun v _ _ => K v)) = get26_VC a b c d e f g h i r ix iy sp pc wz af bc de hl im p q u v j k K := by kernel_rfl
def put26_VC (a b c d e f g h i r ix iy sp pc wz af bc de hl im : Int) (p q u v : Bool) (j k w : Int) (K : AV → Prop) : Prop :=
  (decide (mdN j (3 : Int) = (2 : Int))) = true ∧
  ((decide (mdN k (8 : Int) = (6 : Int))) = true ∧
  (K
  (AV.agg
    [AV.int IntKind.u8 a, AV.int IntKind.u8 b, AV.int IntKind.u8 c, AV.int IntKind.u8 d, AV.int IntKind.u8 e,
      AV.int IntKind.u8 f, AV.int IntKind.u8 g, AV.int IntKind.u8 h, AV.int IntKind.u8 i, AV.int IntKind.u8 r,
      AV.int IntKind.u16 ix, AV.int IntKind.u16 iy, AV.int IntKind.u16 sp, AV.int IntKind.u16 pc, AV.int IntKind.u16 wz,
      AV.int IntKind.u16 af, AV.int IntKind.u16 bc, AV.int IntKind.u16 de, AV.int IntKind.u16 hl, AV.bool p, AV.bool q,
      AV.int IntKind.i64 im, AV.bool u, AV.bool v])))
def put26_scr : Plan := .t (.t (.z))
theorem put26_vc (a b c d e f g h i r ix iy sp pc wz af bc de hl im : Int) (p q u v : Bool) (j k w : Int) (K : AV → Prop) : (funP (XG 2 6 0) 10 [.agg [.int .u8 a, .int .u8 b, .int .u8 c, .int .u8 d, .int .u8 e, .int .u8 f, .int .u8 g, .int .u8 h, .int .u8 i, .int .u8 r, .int .u16 ix, .int .u16 iy, .int .u16 sp, .int .u16 pc, .int .u16 wz, .int .u16 af, .int .u16 bc, .int .u16 de, .int .u16 hl, .bool p, .bool q, .int .i64 im, .bool u, .bool v], .int .i64 j, .int .i64 k, .int .u8 w] h0 put26_scr (fun v _ _ => K v)) = put26_VC a b c d e f g h i r ix iy sp pc wz af bc de hl im p q u v j k w K := by kernel_rfl
def get27_VC (a b c d e f g h i r ix iy sp pc wz af bc de hl im : Int) (p q u v : Bool) (j k : Int) (K : AV → Prop) : Prop :=
  (decide (mdN j (3 : Int) = (2 : Int))) = true ∧
  ((decide (mdN k (8 : Int) = (7 : Int))) = true ∧
  (K (AV.int IntKind.u8 a)))
def get27_scr : Plan := .t (.t (.z))
theorem get27_vc (a b c d e f g h i r ix iy sp pc wz af bc de hl im : Int) (p q u v : Bool) (j k : Int) (K : AV → Prop) : (funP (XG 2 7 0) 11 [.agg [.int .u8 a, .int .u8 b, .int .u8 c, .int .u8 d, .int .u8 e, .int .u8 f, .int .u8 g, .int .u8 h, .int .u8 i, .int .u8 r, .int .u16 ix, .int .u16 iy, .int .u16 sp, .int .u16 pc, .int .u16 wz, .int .u16 af, .int .u16 bc, .int .u16 de, .int .u16 hl, .bool p, .bool q, .int .i64 im, .bool u, .bool v], .int .i64 j, .int .i64 k] h0 get27_scr (fun v _ _ => K v)) = get27_VC a b c d e f g h i r ix iy sp pc wz af bc de hl im p q u v j k K := by kernel_rfl
def put27_VC (a b c d e f g h i r ix iy sp pc wz af bc de hl im : Int) (p q u v : Bool) (j k w : Int) (K : AV → Prop) : Prop :=
  (decide (mdN j (3 : Int) = (2 : Int))) = true ∧
  ((decide (mdN k (8 : Int) = (7 : Int))) = true ∧
  (K
  (AV.agg
    [AV.int IntKind.u8 w, AV.int IntKind.u8 b, AV.int IntKind.u8 c, AV.int IntKind.u8 d, AV.int IntKind.u8 e,
      AV.int IntKind.u8 f, AV.int IntKind.u8 g, AV.int IntKind.u8 h, AV.int IntKind.u8 i, AV.int IntKind.u8 r,
      AV.int IntKind.u16 ix, AV.int IntKind.u16 iy, AV.int IntKind.u16 sp, AV.int IntKind.u16 pc, AV.int IntKind.u16 wz,
      AV.int IntKind.u16 af, AV.int IntKind.u16 bc, AV.int IntKind.u16 de, AV.int IntKind.u16 hl, AV.bool p, AV.bool q,
      AV.int IntKind.i64 im, AV.bool u, AV.bool v])))
def put27_scr : Plan := .t (.t (.z))
theorem put27_vc (a b c d e f g h i r ix iy sp pc wz af bc de hl im : Int) (p q u v : Bool) (j k w : Int) (K : AV → Prop) : (funP (XG 2 7 0) 10 [.agg [.int .u8 a, .int .u8 b, .int .u8 c, .int .u8 d, .int .u8 e, .int .u8 f, .int .u8 g, .int .u8 h, .int .u8 i, .int .u8 r, .int .u16 ix, .int .u16 iy, .int .u16 sp, .int .u16 pc, .int .u16 wz, .int .u16 af, .int .u16 bc, .int .u16 de, .int .u16 hl, .bool p, .bool q, .int .i64 im, .bool u, .bool v], .int .i64 j, .int .i64 k, .int .u8 w] h0 put27_scr (fun v _ _ => K v)) = put27_VC a b c d e f g h i r ix iy sp pc wz af bc de hl im p q u v j k w K := by kernel_rfl
def par20_VC (a b c d e f g h i r ix iy sp pc wz af bc de hl im : Int) (p q u v : Bool) (j k : Int) (s : Bool) (K : AV → Prop) : Prop :=
  (decide (mdN j (3 : Int) = (2 : Int))) = true ∧
  ((decide (mdN k (4 : Int) = (0 : Int))) = true ∧
  (K (AV.int IntKind.u16 (prN c d))))
def par20_scr : Plan := .t (.t (.z))
theorem par20_vc (a b c d e f g h i r ix iy sp pc wz af bc de hl im : Int) (p q u v : Bool) (j k : Int) (s : Bool) (K : AV → Prop) : (funP (XG 2 0 0) 13 [.agg [.int .u8 a, .int .u8 b, .int .u8 c, .int .u8 d, .int .u8 e, .int .u8 f, .int .u8 g, .int .u8 h, .int .u8 i, .int .u8 r, .int .u16 ix, .int .u16 iy, .int .u16 sp, .int .u16 pc, .int .u16 wz, .int .u16 af, .int .u16 bc, .int .u16 de, .int .u16 hl, .bool p, .bool q, .int .i64 im, .bool u, .bool v], .int .i64 j, .int .i64 k, .bool s] h0 par20_scr (fun v _ _ => K v)) = par20_VC a b c d e f g h i r ix iy sp pc wz af bc de hl im p q u v j k s K := by kernel_rfl
def ppr20_VC (a b c d e f g h i r ix iy sp pc wz af bc de hl im : Int) (p q u v : Bool) (j k : Int) (s : Bool) (w : Int) (K : AV → Prop) : Prop :=
  (decide (mdN j (3 : Int) = (2 : Int))) = true ∧
  ((decide (mdN k (4 : Int) = (0 : Int))) = true ∧
  (K
  (AV.agg
    [AV.int IntKind.u8 a, AV.int IntKind.u8 b, AV.int IntKind.u8 (hiN w), AV.int IntKind.u8 (loN w),
      AV.int IntKind.u8 e, AV.int IntKind.u8 f, AV.int IntKind.u8 g, AV.int IntKind.u8 h, AV.int IntKind.u8 i,
      AV.int IntKind.u8 r, AV.int IntKind.u16 ix, AV.int IntKind.u16 iy, AV.int IntKind.u16 sp, AV.int IntKind.u16 pc,
      AV.int IntKind.u16 wz, AV.int IntKind.u16 af, AV.int IntKind.u16 bc, AV.int IntKind.u16 de, AV.int IntKind.u16 hl,
      AV.bool p, AV.bool q, AV.int IntKind.i64 im, AV.bool u, AV.bool v])))
def ppr20_scr : Plan := .t (.t (.z))
theorem ppr20_vc (a b c d e f g h i r ix iy sp pc wz af bc de hl im : Int) (p q u v : Bool) (j k : Int) (s : Bool) (w : Int) (K : AV → Prop) : (funP (XG 2 0 0) 12 [.agg [.int .u8 a, .int .u8 b, .int .u8 c, .int .u8 d, .int .u8 e, .int .u8 f, .int .u8 g, .int .u8 h, .int .u8 i, .int .u8 r, .int .u16 ix, .int .u16 iy, .int .u16 sp, .int .u16 pc, .int .u16 wz, .int .u16 af, .int .u16 bc, .int .u16 de, .int .u16 hl, .bool p, .bool q, .int .i64 im, .bool u, .bool v], .int .i64 j, .int .i64 k, .bool s, .int .u16 w] h0 ppr20_scr (fun v _ _ => K v)) = ppr20_VC a b c d e f g h i r ix iy sp pc wz af bc de hl im p q u v j k s w K := by kernel_rfl
def par21_VC (a b c d e f g h i r ix iy sp pc wz af bc de hl im : Int) (p q u v : Bool) (j k : Int) (s : Bool) (K : AV → Prop) : Prop :=
  (decide (mdN j (3 : Int) = (2 : Int))) = true ∧
  ((decide (mdN k (4 : Int) = (1 : Int))) = true ∧
  (K (AV.int IntKind.u16 (prN e f))))
def par21_scr : Plan := .t (.t (.z))
theorem par21_vc (a b c d e f g h i r ix iy sp pc wz af bc de hl im : Int) (p q u v : Bool) (j k : Int) (s : Bool) (K : AV → Prop) : (funP (XG 2 0 1) 13 [.agg [.int .u8 a, .int .u8 b, .int .u8 c, .int .u8 d, .int .u8 e, .int .u8 f, .int .u8 g, .int .u8 h, .int .u8 i, .int .u8 r, .int .u16 ix, .int .u16 iy, .int .u16 sp, .int .u16 pc, .int .u16 wz, .int .u16 af, .int .u16 bc, .int .u16 de, .int .u16 hl, .bool p, .bool q, .int .i64 im, .bool u, .bool v], .int .i64 j, .int .i64 k, .bool s] h0 par21_scr (fun v _ _ => K v)) = par21_VC a b c d e f g h i r ix iy sp pc wz af bc de hl im p q u v j k s K := by kernel_rfl
def ppr21_VC (a b c d e f g h i r ix iy sp pc wz af bc de hl im : Int) (p q u v : Bool) (j k : Int) (s : Bool) (w : Int) (K : AV → Prop) : Prop :=
  (decide (mdN j (3 : Int) = (2 : Int))) = true ∧
  ((decide (mdN k (4 : Int) = (1 : Int))) = true ∧
  (K
  (AV.agg
    [AV.int IntKind.u8 a, AV.int IntKind.u8 b, AV.int IntKind.u8 c, AV.int IntKind.u8 d, AV.int IntKind.u8 (hiN w),
      AV.int IntKind.u8 (loN w), AV.int IntKind.u8 g, AV.int IntKind.u8 h, AV.int IntKind.u8 i, AV.int IntKind.u8 r,
      AV.int IntKind.u16 ix, AV.int IntKind.u16 iy, AV.int IntKind.u16 sp, AV.int IntKind.u16 pc, AV.int IntKind.u16 wz,
      AV.int IntKind.u16 af, AV.int IntKind.u16 bc, AV.int IntKind.u16 de, AV.int IntKind.u16 hl, AV.bool p, AV.bool q,
      AV.int IntKind.i64 im, AV.bool u, AV.bool v])))
def ppr21_scr : Plan := .t (.t (.z))
theorem ppr21_vc (a b c d e f g h i r ix iy sp pc wz af bc de hl im : Int) (p q u v : Bool) (j k : Int) (s : Bool) (w : Int) (K : AV → Prop) : (funP (XG 2 0 1) 12 [.agg [.int .u8 a, .int .u8 b, .int .u8 c, .int .u8 d, .int .u8 e, .int .u8 f, .int .u8 g, .int .u8 h, .int .u8 i, .int .u8 r, .int .u16 ix, .int .u16 iy, .int .u16 sp, .int .u16 pc, .int .u16 wz, .int .u16 af, .int .u16 bc, .int .u16 de, .int .u16 hl, .bool p, .bool q, .int .i64 im, .bool u, .bool v], .int .i64 j, .int .i64 k, .bool s, .int .u16 w] h0 ppr21_scr (fun v _ _ => K v)) = ppr21_VC a b c d e f g h i r ix iy sp pc wz af bc de hl im p q u v j k s w K := by kernel_rfl
def par22_VC (a b c d e f g h i r ix iy sp pc wz af bc de hl im : Int) (p q u v : Bool) (j k : Int) (s : Bool) (K : AV → Prop) : Prop :=
  (decide (mdN j (3 : Int) = (2 : Int))) = true ∧
  ((decide (mdN k (4 : Int) = (2 : Int))) = true ∧
  (K (AV.int IntKind.u16 iy)))
def par22_scr : Plan := .t (.t (.z))
theorem par22_vc (a b c d e f g h i r ix iy sp pc wz af bc de hl im : Int) (p q u v : Bool) (j k : Int) (s : Bool) (K : AV → Prop) : (funP (XG 2 0 2) 13 [.agg [.int .u8 a, .int .u8 b, .int .u8 c, .int .u8 d, .int .u8 e, .int .u8 f, .int .u8 g, .int .u8 h, .int .u8 i, .int .u8 r, .int .u16 ix, .int .u16 iy, .int .u16 sp, .int .u16 pc, .int .u16 wz, .int .u16 af, .int .u16 bc, .int .u16 de, .int .u16 hl, .bool p, .bool q, .int .i64 im, .bool u, .bool v], .int .i64 j, .int .i64 k, .bool s] h0 par22_scr (fun v _ _ => K v)) = par22_VC a b c d e f g h i r ix iy sp pc wz af bc de hl im p q u v j k s K := by kernel_rfl
def ppr22_VC (a b c d e f g h i r ix iy sp pc wz af bc de hl im : Int) (p q u v : Bool) (j k : Int) (s : Bool) (w : Int) (K : AV → Prop) : Prop :=
  (decide (mdN j (3 : Int) = (2 : Int))) = true ∧
  ((decide (mdN k (4 : Int) = (2 : Int))) = true ∧
  (K
  (AV.agg
    [AV.int IntKind.u8 a, AV.int IntKind.u8 b, AV.int IntKind.u8 c, AV.int IntKind.u8 d, AV.int IntKind.u8 e,
      AV.int IntKind.u8 f, AV.int IntKind.u8 g, AV.int IntKind.u8 h, AV.int IntKind.u8 i, AV.int IntKind.u8 r,
      AV.int IntKind.u16 ix, AV.int IntKind.u16 w, AV.int IntKind.u16 sp, AV.int IntKind.u16 pc, AV.int IntKind.u16 wz,
      AV.int IntKind.u16 af, AV.int IntKind.u16 bc, AV.int IntKind.u16 de, AV.int IntKind.u16 hl, AV.bool p, AV.bool q,
      AV.int IntKind.i64 im, AV.bool u, AV.bool v])))
def ppr22_scr : Plan := .t (.t (.z))
theorem ppr22_vc (a b c d e f g h i r ix iy sp pc wz af bc de hl im : Int) (p q u v : Bool) (j k : Int) (s : Bool) (w : Int) (K : AV → Prop) : (funP (XG 2 0 2) 12 [.agg [.int .u8 a, .int .u8 b, .int .u8 c, .int .u8 d, .int .u8 e, .int .u8 f, .int .u8 g, .int .u8 h, .int .u8 i, .int .u8 r, .int .u16 ix, .int .u16 iy, .int .u16 sp, .int .u16 pc, .int .u16 wz, .int .u16 af, .int .u16 bc, .int .u16 de, .int .u16 hl, .bool p, .bool q, .int .i64 im, .bool u, .bool v], .int .i64 j, .int .i64 k, .bool s, .int .u16 w] h0 ppr22_scr (fun v _ _ => K v)) = ppr22_VC a b c d e f g h i r ix iy sp pc wz af bc de hl im p q u v j k s w K := by kernel_rfl
def par23_VC (a b c d e f g h i r ix iy sp pc wz af bc de hl im : Int) (p q u v : Bool) (j k : Int) (s : Bool) (K : AV → Prop) : Prop :=
  (decide (mdN j (3 : Int) = (2 : Int))) = true ∧
  ((decide (mdN k (4 : Int) = (3 : Int))) = true ∧
  (((s) = true →
    K (AV.int IntKind.u16 (prN a b))) ∧
  ((s) = false →
    K (AV.int IntKind.u16 sp))))
def par23_scr : Plan := .t (.t (.k (.k (.k (.k (.b (.z) (.z)))))))
theorem par23_vc (a b c d e f g h i r ix iy sp pc wz af bc de hl im : Int) (p q u v : Bool) (j k : Int) (s : Bool) (K : AV → Prop) : (funP (XG 2 0 3) 13 [.agg [.int .u8 a, .int .u8 b, .int .u8 c, .int .u8 d, .int .u8 e, .int .u8 f, .int .u8 g, .int .u8 h, .int .u8 i, .int .u8 r, .int .u16 ix, .int .u16 iy, .int .u16 sp, .int .u16 pc, .int .u16 wz, .int .u16 af, .int .u16 bc, .int .u16 de, .int .u16 hl, .bool p, .bool q, .int .i64 im, .bool u, .bool v], .int .i64 j, .int .i64 k, .bool s] h0 par23_scr (fun v _ _ => K v)) = par23_VC a b c d e f g h i r ix iy sp pc wz af bc de hl im p q u v j k s K := by kernel_rfl
def ppr23_VC (a b c d e f g h i r ix iy sp pc wz af bc de hl im : Int) (p q u v : Bool) (j k : Int) (s : Bool) (w : Int) (K : AV → Prop) : Prop :=
  (decide (mdN j (3 : Int) = (2 : Int))) = true ∧
  ((decide (mdN k (4 : Int) = (3 : Int))) = true ∧
  (((s) = true →
    K
  (AV.agg
    [AV.int IntKind.u8 (hiN w), AV.int IntKind.u8 (loN w), AV.int IntKind.u8 c, AV.int IntKind.u8 d,
      AV.int IntKind.u8 e, AV.int IntKind.u8 f, AV.int IntKind.u8 g, AV.int IntKind.u8 h, AV.int IntKind.u8 i,
      AV.int IntKind.u8 r, AV.int IntKind.u16 ix, AV.int IntKind.u16 iy, AV.int IntKind.u16 sp, AV.int IntKind.u16 pc,
      AV.int IntKind.u16 wz, AV.int IntKind.u16 af, AV.int IntKind.u16 bc, AV.int IntKind.u16 de, AV.int IntKind.u16 hl,
      AV.bool p, AV.bool q, AV.int IntKind.i64 im, AV.bool u, AV.bool v])) ∧
  ((s) = false →
    K
  (AV.agg
    [AV.int IntKind.u8 a, AV.int IntKind.u8 b, AV.int IntKind.u8 c, AV.int IntKind.u8 d, AV.int IntKind.u8 e,
      AV.int IntKind.u8 f, AV.int IntKind.u8 g, AV.int IntKind.u8 h, AV.int IntKind.u8 i, AV.int IntKind.u8 r,
      AV.int IntKind.u16 ix, AV.int IntKind.u16 iy, AV.int IntKind.u16 w, AV.int IntKind.u16 pc, AV.int IntKind.u16 wz,
      AV.int IntKind.u16 af, AV.int IntKind.u16 bc, AV.int IntKind.u16 de, AV.int IntKind.u16 hl, AV.bool p, AV.bool q,
      AV.int IntKind.i64 im, AV.bool u, AV.bool v]))))
def ppr23_scr : Plan := .t (.t (.k (.k (.k (.k (.b (.z) (.z)))))))
theorem ppr23_vc (a b c d e f g h i r ix iy sp pc wz af bc de hl im : Int) (p q u v : Bool) (j k : Int) (s : Bool) (w : Int) (K : AV → Prop) : (funP (XG 2 0 3) 12 [.agg [.int .u8 a, .int .u8 b, .int .u8 c, .int .u8 d, .int .u8 e, .int .u8 f, .int .u8 g, .int .u8 h, .int .u8 i, .int .u8 r, .int .u16 ix, .int .u16 iy, .int .u16 sp, .int .u16 pc, .int .u16 wz, .int .u16 af, .int .u16 bc, .int .u16 de, .int .u16 hl, .bool p, .bool q, .int .i64 im, .bool u, .bool v], .int .i64 j, .int .i64 k, .bool s, .int .u16 w] h0 ppr23_scr (fun v _ _ => K v)) = ppr23_VC a b c d e f g h i r ix iy sp pc wz af bc de hl im p q u v j k s w K := by kernel_rfl
end Go.Proofs.YthmakddlhaeblaaDoor.V
