/- Printed by vc.py: what must hold for functions' ways (LkW). -/
import Derived.Test.YtfamikdibjhnpaaLkB
namespace Go.Proofs.Ytfamikdibjhnpaa.V
open Go Go.Proofs
set_option maxRecDepth 100000
set_option linter.unusedVariables false
def ck1_VC (t c h b p v : Int) (K : AV → Prop) : Prop :=
  ((!decide (t < (0 : Int))) = true →
    (!decide (t < (0 : Int))) = true ∧
    ((!decide (t < (0 : Int))) = true ∧
    ((decide (t < (0 : Int))) = false ∧
    (((!decide (t > (1099511627776 : Int))) = true →
      (!decide (t > (1099511627776 : Int))) = true ∧
      ((!decide (t > (1099511627776 : Int))) = true ∧
      ((!decide (t > (1099511627776 : Int))) = true ∧
      ((!decide (t > (1099511627776 : Int))) = true ∧
      ((!decide (t > (1099511627776 : Int))) = true ∧
      ((!decide (t > (1099511627776 : Int))) = true ∧
      ((decide (t > (1099511627776 : Int))) = false ∧
      (((!g2 (1 : Int) t c h b p v) = true →
        K (AV.int IntKind.i64 (2 : Int))) ∧
      ((!g2 (1 : Int) t c h b p v) = false →
        K (AV.int IntKind.i64 (0 : Int))))))))))) ∧
    ((!decide (t > (1099511627776 : Int))) = false →
      (!decide (t > (1099511627776 : Int))) = false ∧
      ((!decide (t > (1099511627776 : Int))) = false ∧
      ((!decide (t > (1099511627776 : Int))) = false ∧
      ((!decide (t > (1099511627776 : Int))) = false ∧
      ((!decide (t > (1099511627776 : Int))) = false ∧
      ((!decide (t > (1099511627776 : Int))) = false ∧
      ((decide (t > (1099511627776 : Int))) = true ∧
      (K (AV.int IntKind.i64 (2 : Int)))))))))))))) ∧
  ((!decide (t < (0 : Int))) = false →
    (!decide (t < (0 : Int))) = false ∧
    ((!decide (t < (0 : Int))) = false ∧
    ((decide (t < (0 : Int))) = true ∧
    (K (AV.int IntKind.i64 (2 : Int))))))
def ck1_scr : Plan := .k (.k (.k (.k (.k (.k (.k (.k (.b (.t (.t (.f (.b (.t (.t (.t (.k (.k (.t (.t (.t (.f (.b (.z) (.z))))))))))) (.f (.f (.f (.f (.f (.f (.t (.z)))))))))))) (.f (.f (.t (.z))))))))))))
theorem ck1_vc (t c h b p v : Int) (K : AV → Prop) : (funP (XCk) 9 [.agg [.int .i64 1, .int .i64 t, .int .i64 c, .int .u8 h, .int .i64 b, .int .i64 p, .int .u8 v]] h0 ck1_scr (fun v _ _ => K v)) = ck1_VC t c h b p v K := by kernel_rfl
def ck2_VC (t c h b p v : Int) (K : AV → Prop) : Prop :=
  ((!decide (t < (0 : Int))) = true →
    (!decide (t < (0 : Int))) = true ∧
    ((!decide (t < (0 : Int))) = true ∧
    ((decide (t < (0 : Int))) = false ∧
    (((!decide (t > (1099511627776 : Int))) = true →
      (!decide (t > (1099511627776 : Int))) = true ∧
      ((!decide (t > (1099511627776 : Int))) = true ∧
      ((!decide (t > (1099511627776 : Int))) = true ∧
      ((!decide (t > (1099511627776 : Int))) = true ∧
      ((!decide (t > (1099511627776 : Int))) = true ∧
      ((!decide (t > (1099511627776 : Int))) = true ∧
      ((decide (t > (1099511627776 : Int))) = false ∧
      (((!g3 (2 : Int) t c h b p v) = true →
        K (AV.int IntKind.i64 (2 : Int))) ∧
      ((!g3 (2 : Int) t c h b p v) = false →
        K (AV.int IntKind.i64 (0 : Int))))))))))) ∧
    ((!decide (t > (1099511627776 : Int))) = false →
      (!decide (t > (1099511627776 : Int))) = false ∧
      ((!decide (t > (1099511627776 : Int))) = false ∧
      ((!decide (t > (1099511627776 : Int))) = false ∧
      ((!decide (t > (1099511627776 : Int))) = false ∧
      ((!decide (t > (1099511627776 : Int))) = false ∧
      ((!decide (t > (1099511627776 : Int))) = false ∧
      ((decide (t > (1099511627776 : Int))) = true ∧
      (K (AV.int IntKind.i64 (2 : Int)))))))))))))) ∧
  ((!decide (t < (0 : Int))) = false →
    (!decide (t < (0 : Int))) = false ∧
    ((!decide (t < (0 : Int))) = false ∧
    ((decide (t < (0 : Int))) = true ∧
    (K (AV.int IntKind.i64 (2 : Int))))))
def ck2_scr : Plan := .k (.k (.k (.k (.k (.k (.k (.k (.b (.t (.t (.f (.b (.t (.t (.t (.k (.k (.t (.t (.t (.f (.b (.z) (.z))))))))))) (.f (.f (.f (.f (.f (.f (.t (.z)))))))))))) (.f (.f (.t (.z))))))))))))
theorem ck2_vc (t c h b p v : Int) (K : AV → Prop) : (funP (XCk) 9 [.agg [.int .i64 2, .int .i64 t, .int .i64 c, .int .u8 h, .int .i64 b, .int .i64 p, .int .u8 v]] h0 ck2_scr (fun v _ _ => K v)) = ck2_VC t c h b p v K := by kernel_rfl
def ck3_VC (t c h b p v : Int) (K : AV → Prop) : Prop :=
  ((!decide (t < (0 : Int))) = true →
    (!decide (t < (0 : Int))) = true ∧
    ((!decide (t < (0 : Int))) = true ∧
    ((decide (t < (0 : Int))) = false ∧
    (((!decide (t > (1099511627776 : Int))) = true →
      (!decide (t > (1099511627776 : Int))) = true ∧
      ((!decide (t > (1099511627776 : Int))) = true ∧
      ((!decide (t > (1099511627776 : Int))) = true ∧
      ((!decide (t > (1099511627776 : Int))) = true ∧
      ((!decide (t > (1099511627776 : Int))) = true ∧
      ((!decide (t > (1099511627776 : Int))) = true ∧
      ((decide (t > (1099511627776 : Int))) = false ∧
      (((!g4 (3 : Int) t c h b p v) = true →
        K (AV.int IntKind.i64 (2 : Int))) ∧
      ((!g4 (3 : Int) t c h b p v) = false →
        K (AV.int IntKind.i64 (0 : Int))))))))))) ∧
    ((!decide (t > (1099511627776 : Int))) = false →
      (!decide (t > (1099511627776 : Int))) = false ∧
      ((!decide (t > (1099511627776 : Int))) = false ∧
      ((!decide (t > (1099511627776 : Int))) = false ∧
      ((!decide (t > (1099511627776 : Int))) = false ∧
      ((!decide (t > (1099511627776 : Int))) = false ∧
      ((!decide (t > (1099511627776 : Int))) = false ∧
      ((decide (t > (1099511627776 : Int))) = true ∧
      (K (AV.int IntKind.i64 (2 : Int)))))))))))))) ∧
  ((!decide (t < (0 : Int))) = false →
    (!decide (t < (0 : Int))) = false ∧
    ((!decide (t < (0 : Int))) = false ∧
    ((decide (t < (0 : Int))) = true ∧
    (K (AV.int IntKind.i64 (2 : Int))))))
def ck3_scr : Plan := .k (.k (.k (.k (.k (.k (.k (.k (.b (.t (.t (.f (.b (.t (.t (.t (.k (.k (.t (.t (.t (.f (.b (.z) (.z))))))))))) (.f (.f (.f (.f (.f (.f (.t (.z)))))))))))) (.f (.f (.t (.z))))))))))))
theorem ck3_vc (t c h b p v : Int) (K : AV → Prop) : (funP (XCk) 9 [.agg [.int .i64 3, .int .i64 t, .int .i64 c, .int .u8 h, .int .i64 b, .int .i64 p, .int .u8 v]] h0 ck3_scr (fun v _ _ => K v)) = ck3_VC t c h b p v K := by kernel_rfl
def ck4_VC (t c h b p v : Int) (K : AV → Prop) : Prop :=
  ((!decide (t < (0 : Int))) = true →
    (!decide (t < (0 : Int))) = true ∧
    ((!decide (t < (0 : Int))) = true ∧
    ((decide (t < (0 : Int))) = false ∧
    (((!decide (t > (1099511627776 : Int))) = true →
      (!decide (t > (1099511627776 : Int))) = true ∧
      ((!decide (t > (1099511627776 : Int))) = true ∧
      ((!decide (t > (1099511627776 : Int))) = true ∧
      ((!decide (t > (1099511627776 : Int))) = true ∧
      ((!decide (t > (1099511627776 : Int))) = true ∧
      ((!decide (t > (1099511627776 : Int))) = true ∧
      ((decide (t > (1099511627776 : Int))) = false ∧
      (((!g1 (4 : Int) t c h b p v) = true →
        K (AV.int IntKind.i64 (2 : Int))) ∧
      ((!g1 (4 : Int) t c h b p v) = false →
        K (AV.int IntKind.i64 (0 : Int))))))))))) ∧
    ((!decide (t > (1099511627776 : Int))) = false →
      (!decide (t > (1099511627776 : Int))) = false ∧
      ((!decide (t > (1099511627776 : Int))) = false ∧
      ((!decide (t > (1099511627776 : Int))) = false ∧
      ((!decide (t > (1099511627776 : Int))) = false ∧
      ((!decide (t > (1099511627776 : Int))) = false ∧
      ((!decide (t > (1099511627776 : Int))) = false ∧
      ((decide (t > (1099511627776 : Int))) = true ∧
      (K (AV.int IntKind.i64 (2 : Int)))))))))))))) ∧
  ((!decide (t < (0 : Int))) = false →
    (!decide (t < (0 : Int))) = false ∧
    ((!decide (t < (0 : Int))) = false ∧
    ((decide (t < (0 : Int))) = true ∧
    (K (AV.int IntKind.i64 (2 : Int))))))
def ck4_scr : Plan := .k (.k (.k (.k (.k (.k (.k (.k (.b (.t (.t (.f (.b (.t (.t (.t (.k (.k (.t (.t (.t (.f (.b (.z) (.z))))))))))) (.f (.f (.f (.f (.f (.f (.t (.z)))))))))))) (.f (.f (.t (.z))))))))))))
theorem ck4_vc (t c h b p v : Int) (K : AV → Prop) : (funP (XCk) 9 [.agg [.int .i64 4, .int .i64 t, .int .i64 c, .int .u8 h, .int .i64 b, .int .i64 p, .int .u8 v]] h0 ck4_scr (fun v _ _ => K v)) = ck4_VC t c h b p v K := by kernel_rfl
def ck5_VC (t c h b p v : Int) (K : AV → Prop) : Prop :=
  ((!decide (t < (0 : Int))) = true →
    (!decide (t < (0 : Int))) = true ∧
    ((!decide (t < (0 : Int))) = true ∧
    ((decide (t < (0 : Int))) = false ∧
    (((!decide (t > (1099511627776 : Int))) = true →
      (!decide (t > (1099511627776 : Int))) = true ∧
      ((!decide (t > (1099511627776 : Int))) = true ∧
      ((!decide (t > (1099511627776 : Int))) = true ∧
      ((!decide (t > (1099511627776 : Int))) = true ∧
      ((!decide (t > (1099511627776 : Int))) = true ∧
      ((!decide (t > (1099511627776 : Int))) = true ∧
      ((decide (t > (1099511627776 : Int))) = false ∧
      (((!g1 (5 : Int) t c h b p v) = true →
        K (AV.int IntKind.i64 (2 : Int))) ∧
      ((!g1 (5 : Int) t c h b p v) = false →
        K (AV.int IntKind.i64 (0 : Int))))))))))) ∧
    ((!decide (t > (1099511627776 : Int))) = false →
      (!decide (t > (1099511627776 : Int))) = false ∧
      ((!decide (t > (1099511627776 : Int))) = false ∧
      ((!decide (t > (1099511627776 : Int))) = false ∧
      ((!decide (t > (1099511627776 : Int))) = false ∧
      ((!decide (t > (1099511627776 : Int))) = false ∧
      ((!decide (t > (1099511627776 : Int))) = false ∧
      ((decide (t > (1099511627776 : Int))) = true ∧
      (K (AV.int IntKind.i64 (2 : Int)))))))))))))) ∧
  ((!decide (t < (0 : Int))) = false →
    (!decide (t < (0 : Int))) = false ∧
    ((!decide (t < (0 : Int))) = false ∧
    ((decide (t < (0 : Int))) = true ∧
    (K (AV.int IntKind.i64 (2 : Int))))))
def ck5_scr : Plan := .k (.k (.k (.k (.k (.k (.k (.k (.b (.t (.t (.f (.b (.t (.t (.t (.k (.k (.t (.t (.t (.f (.b (.z) (.z))))))))))) (.f (.f (.f (.f (.f (.f (.t (.z)))))))))))) (.f (.f (.t (.z))))))))))))
theorem ck5_vc (t c h b p v : Int) (K : AV → Prop) : (funP (XCk) 9 [.agg [.int .i64 5, .int .i64 t, .int .i64 c, .int .u8 h, .int .i64 b, .int .i64 p, .int .u8 v]] h0 ck5_scr (fun v _ _ => K v)) = ck5_VC t c h b p v K := by kernel_rfl
def ck6_VC (t c h b p v : Int) (K : AV → Prop) : Prop :=
  ((!decide (t < (0 : Int))) = true →
    (!decide (t < (0 : Int))) = true ∧
    ((!decide (t < (0 : Int))) = true ∧
    ((decide (t < (0 : Int))) = false ∧
    (((!decide (t > (1099511627776 : Int))) = true →
      (!decide (t > (1099511627776 : Int))) = true ∧
      ((!decide (t > (1099511627776 : Int))) = true ∧
      ((!decide (t > (1099511627776 : Int))) = true ∧
      ((!decide (t > (1099511627776 : Int))) = true ∧
      ((!decide (t > (1099511627776 : Int))) = true ∧
      ((!decide (t > (1099511627776 : Int))) = true ∧
      ((decide (t > (1099511627776 : Int))) = false ∧
      (((!g5 (6 : Int) t c h b p v) = true →
        K (AV.int IntKind.i64 (2 : Int))) ∧
      ((!g5 (6 : Int) t c h b p v) = false →
        K (AV.int IntKind.i64 (0 : Int))))))))))) ∧
    ((!decide (t > (1099511627776 : Int))) = false →
      (!decide (t > (1099511627776 : Int))) = false ∧
      ((!decide (t > (1099511627776 : Int))) = false ∧
      ((!decide (t > (1099511627776 : Int))) = false ∧
      ((!decide (t > (1099511627776 : Int))) = false ∧
      ((!decide (t > (1099511627776 : Int))) = false ∧
      ((!decide (t > (1099511627776 : Int))) = false ∧
      ((decide (t > (1099511627776 : Int))) = true ∧
      (K (AV.int IntKind.i64 (2 : Int)))))))))))))) ∧
  ((!decide (t < (0 : Int))) = false →
    (!decide (t < (0 : Int))) = false ∧
    ((!decide (t < (0 : Int))) = false ∧
    ((decide (t < (0 : Int))) = true ∧
    (K (AV.int IntKind.i64 (2 : Int))))))
def ck6_scr : Plan := .k (.k (.k (.k (.k (.k (.k (.k (.b (.t (.t (.f (.b (.t (.t (.t (.k (.k (.t (.t (.t (.f (.b (.z) (.z))))))))))) (.f (.f (.f (.f (.f (.f (.t (.z)))))))))))) (.f (.f (.t (.z))))))))))))
theorem ck6_vc (t c h b p v : Int) (K : AV → Prop) : (funP (XCk) 9 [.agg [.int .i64 6, .int .i64 t, .int .i64 c, .int .u8 h, .int .i64 b, .int .i64 p, .int .u8 v]] h0 ck6_scr (fun v _ _ => K v)) = ck6_VC t c h b p v K := by kernel_rfl
end Go.Proofs.Ytfamikdibjhnpaa.V
