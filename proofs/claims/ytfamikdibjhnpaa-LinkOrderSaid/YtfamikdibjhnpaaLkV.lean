/- Printed by vc.py: what must hold for functions' ways (LkV). -/
import Derived.Test.YtfamikdibjhnpaaLkA
namespace Go.Proofs.Ytfamikdibjhnpaa.V
open Go Go.Proofs
set_option maxRecDepth 100000
set_option linter.unusedVariables false
def f1_VC (k t c h b p v : Int) (K : AV → Prop) : Prop :=
  K
  (AV.bool
    (k == k &&
      (t == t &&
        (c == (0 : Int) && (h == (0 : Int) && (b == (0 : Int) && (p == (0 : Int) && (v == (0 : Int) && true))))))))
def f1_scr : Plan := .z
theorem f1_vc (k t c h b p v : Int) (K : AV → Prop) : (funP (XL0) 20 [.agg [.int .i64 k, .int .i64 t, .int .i64 c, .int .u8 h, .int .i64 b, .int .i64 p, .int .u8 v]] h0 f1_scr (fun v _ _ => K v)) = f1_VC k t c h b p v K := by kernel_rfl
def f2_VC (k t c h b p v : Int) (K : AV → Prop) : Prop :=
  ((decide (c ≥ (1 : Int))) = true →
    (decide (c ≥ (1 : Int))) = true ∧
    ((decide (c ≥ (1 : Int))) = true ∧
    ((decide (c ≥ (1 : Int))) = true ∧
    (((decide (c ≤ (7 : Int))) = true →
      (decide (c ≤ (7 : Int))) = true ∧
      ((decide (c ≤ (7 : Int))) = true ∧
      ((decide (c ≤ (7 : Int))) = true ∧
      ((decide (c ≤ (7 : Int))) = true ∧
      ((decide (c ≤ (7 : Int))) = true ∧
      ((decide (c ≤ (7 : Int))) = true ∧
      ((decide (c ≤ (7 : Int))) = true ∧
      ((decide (c ≤ (7 : Int))) = true ∧
      ((decide (c ≤ (7 : Int))) = true ∧
      ((decide (c ≤ (7 : Int))) = true ∧
      ((decide (c ≤ (7 : Int))) = true ∧
      (K
  (AV.bool
    (k == k && (t == t && (c == c && (h == (0 : Int) && (b == (0 : Int) && (p == (0 : Int) && (v == v && true)))))))))))))))))))) ∧
    ((decide (c ≤ (7 : Int))) = false →
      (decide (c ≤ (7 : Int))) = false ∧
      ((decide (c ≤ (7 : Int))) = false ∧
      ((decide (c ≤ (7 : Int))) = false ∧
      ((decide (c ≤ (7 : Int))) = false ∧
      ((decide (c ≤ (7 : Int))) = false ∧
      ((decide (c ≤ (7 : Int))) = false ∧
      ((decide (c ≤ (7 : Int))) = false ∧
      ((decide (c ≤ (7 : Int))) = false ∧
      ((decide (c ≤ (7 : Int))) = false ∧
      ((decide (c ≤ (7 : Int))) = false ∧
      ((decide (c ≤ (7 : Int))) = false ∧
      (K (AV.bool false))))))))))))))))) ∧
  ((decide (c ≥ (1 : Int))) = false →
    (decide (c ≥ (1 : Int))) = false ∧
    ((decide (c ≥ (1 : Int))) = false ∧
    ((decide (c ≥ (1 : Int))) = false ∧
    (K (AV.bool false)))))
def f2_scr : Plan := .b (.t (.t (.t (.b (.t (.t (.t (.t (.t (.t (.t (.t (.t (.t (.t (.z)))))))))))) (.f (.f (.f (.f (.f (.f (.f (.f (.f (.f (.f (.z)))))))))))))))) (.f (.f (.f (.z))))
theorem f2_vc (k t c h b p v : Int) (K : AV → Prop) : (funP (XL0) 21 [.agg [.int .i64 k, .int .i64 t, .int .i64 c, .int .u8 h, .int .i64 b, .int .i64 p, .int .u8 v]] h0 f2_scr (fun v _ _ => K v)) = f2_VC k t c h b p v K := by kernel_rfl
def f3_VC (k t c h b p v : Int) (K : AV → Prop) : Prop :=
  ((decide (c ≥ (1 : Int))) = true →
    (decide (c ≥ (1 : Int))) = true ∧
    ((decide (c ≥ (1 : Int))) = true ∧
    ((decide (c ≥ (1 : Int))) = true ∧
    (((decide (c ≤ (8 : Int))) = true →
      (decide (c ≤ (8 : Int))) = true ∧
      ((decide (c ≤ (8 : Int))) = true ∧
      ((decide (c ≤ (8 : Int))) = true ∧
      ((decide (c ≤ (8 : Int))) = true ∧
      ((decide (c ≤ (8 : Int))) = true ∧
      ((decide (c ≤ (8 : Int))) = true ∧
      ((decide (c ≤ (8 : Int))) = true ∧
      ((decide (c ≤ (8 : Int))) = true ∧
      ((decide (c ≤ (8 : Int))) = true ∧
      ((decide (c ≤ (8 : Int))) = true ∧
      ((decide (c ≤ (8 : Int))) = true ∧
      (K
  (AV.bool
    (k == k && (t == t && (c == c && (h == h && (b == (0 : Int) && (p == (0 : Int) && (v == (0 : Int) && true)))))))))))))))))))) ∧
    ((decide (c ≤ (8 : Int))) = false →
      (decide (c ≤ (8 : Int))) = false ∧
      ((decide (c ≤ (8 : Int))) = false ∧
      ((decide (c ≤ (8 : Int))) = false ∧
      ((decide (c ≤ (8 : Int))) = false ∧
      ((decide (c ≤ (8 : Int))) = false ∧
      ((decide (c ≤ (8 : Int))) = false ∧
      ((decide (c ≤ (8 : Int))) = false ∧
      ((decide (c ≤ (8 : Int))) = false ∧
      ((decide (c ≤ (8 : Int))) = false ∧
      ((decide (c ≤ (8 : Int))) = false ∧
      ((decide (c ≤ (8 : Int))) = false ∧
      (K (AV.bool false))))))))))))))))) ∧
  ((decide (c ≥ (1 : Int))) = false →
    (decide (c ≥ (1 : Int))) = false ∧
    ((decide (c ≥ (1 : Int))) = false ∧
    ((decide (c ≥ (1 : Int))) = false ∧
    (K (AV.bool false)))))
def f3_scr : Plan := .b (.t (.t (.t (.b (.t (.t (.t (.t (.t (.t (.t (.t (.t (.t (.t (.z)))))))))))) (.f (.f (.f (.f (.f (.f (.f (.f (.f (.f (.f (.z)))))))))))))))) (.f (.f (.f (.z))))
theorem f3_vc (k t c h b p v : Int) (K : AV → Prop) : (funP (XL0) 22 [.agg [.int .i64 k, .int .i64 t, .int .i64 c, .int .u8 h, .int .i64 b, .int .i64 p, .int .u8 v]] h0 f3_scr (fun v _ _ => K v)) = f3_VC k t c h b p v K := by kernel_rfl
def f4_VC (k t c h b p v : Int) (K : AV → Prop) : Prop :=
  ((!decide (b = (5 : Int))) = true →
    (!decide (b = (5 : Int))) = true ∧
    ((!decide (b = (5 : Int))) = true ∧
    ((decide (b = (5 : Int))) = false ∧
    (((decide (b = (7 : Int))) = true →
      (decide (b = (7 : Int))) = true ∧
      ((decide (b = (7 : Int))) = true ∧
      ((decide (b = (7 : Int))) = true ∧
      (((decide (p ≥ (0 : Int))) = true →
        (decide (p ≥ (0 : Int))) = true ∧
        ((decide (p ≥ (0 : Int))) = true ∧
        ((decide (p ≥ (0 : Int))) = true ∧
        (((decide (p < (16384 : Int))) = true →
          (decide (p < (16384 : Int))) = true ∧
          ((decide (p < (16384 : Int))) = true ∧
          ((decide (p < (16384 : Int))) = true ∧
          ((decide (p < (16384 : Int))) = true ∧
          ((decide (p < (16384 : Int))) = true ∧
          ((decide (p < (16384 : Int))) = true ∧
          ((decide (p < (16384 : Int))) = true ∧
          ((decide (p < (16384 : Int))) = true ∧
          ((decide (p < (16384 : Int))) = true ∧
          ((decide (p < (16384 : Int))) = true ∧
          ((decide (p < (16384 : Int))) = true ∧
          ((decide (p < (16384 : Int))) = true ∧
          ((decide (p < (16384 : Int))) = true ∧
          (K (AV.bool (k == k && (t == t && (c == (0 : Int) && (h == (0 : Int) && (b == b && (p == p && (v == v && true)))))))))))))))))))))) ∧
        ((decide (p < (16384 : Int))) = false →
          (decide (p < (16384 : Int))) = false ∧
          ((decide (p < (16384 : Int))) = false ∧
          ((decide (p < (16384 : Int))) = false ∧
          ((decide (p < (16384 : Int))) = false ∧
          ((decide (p < (16384 : Int))) = false ∧
          ((decide (p < (16384 : Int))) = false ∧
          ((decide (p < (16384 : Int))) = false ∧
          ((decide (p < (16384 : Int))) = false ∧
          ((decide (p < (16384 : Int))) = false ∧
          ((decide (p < (16384 : Int))) = false ∧
          ((decide (p < (16384 : Int))) = false ∧
          ((decide (p < (16384 : Int))) = false ∧
          ((decide (p < (16384 : Int))) = false ∧
          (K (AV.bool false))))))))))))))))))) ∧
      ((decide (p ≥ (0 : Int))) = false →
        (decide (p ≥ (0 : Int))) = false ∧
        ((decide (p ≥ (0 : Int))) = false ∧
        ((decide (p ≥ (0 : Int))) = false ∧
        (K (AV.bool false))))))))) ∧
    ((decide (b = (7 : Int))) = false →
      (decide (b = (7 : Int))) = false ∧
      ((decide (b = (7 : Int))) = false ∧
      ((decide (b = (7 : Int))) = false ∧
      (K (AV.bool false))))))))) ∧
  ((!decide (b = (5 : Int))) = false →
    (!decide (b = (5 : Int))) = false ∧
    ((!decide (b = (5 : Int))) = false ∧
    ((decide (b = (5 : Int))) = true ∧
    (((decide (p ≥ (0 : Int))) = true →
      (decide (p ≥ (0 : Int))) = true ∧
      ((decide (p ≥ (0 : Int))) = true ∧
      ((decide (p ≥ (0 : Int))) = true ∧
      (((decide (p < (16384 : Int))) = true →
        (decide (p < (16384 : Int))) = true ∧
        ((decide (p < (16384 : Int))) = true ∧
        ((decide (p < (16384 : Int))) = true ∧
        ((decide (p < (16384 : Int))) = true ∧
        ((decide (p < (16384 : Int))) = true ∧
        ((decide (p < (16384 : Int))) = true ∧
        ((decide (p < (16384 : Int))) = true ∧
        ((decide (p < (16384 : Int))) = true ∧
        ((decide (p < (16384 : Int))) = true ∧
        ((decide (p < (16384 : Int))) = true ∧
        ((decide (p < (16384 : Int))) = true ∧
        ((decide (p < (16384 : Int))) = true ∧
        ((decide (p < (16384 : Int))) = true ∧
        (K (AV.bool (k == k && (t == t && (c == (0 : Int) && (h == (0 : Int) && (b == b && (p == p && (v == v && true)))))))))))))))))))))) ∧
      ((decide (p < (16384 : Int))) = false →
        (decide (p < (16384 : Int))) = false ∧
        ((decide (p < (16384 : Int))) = false ∧
        ((decide (p < (16384 : Int))) = false ∧
        ((decide (p < (16384 : Int))) = false ∧
        ((decide (p < (16384 : Int))) = false ∧
        ((decide (p < (16384 : Int))) = false ∧
        ((decide (p < (16384 : Int))) = false ∧
        ((decide (p < (16384 : Int))) = false ∧
        ((decide (p < (16384 : Int))) = false ∧
        ((decide (p < (16384 : Int))) = false ∧
        ((decide (p < (16384 : Int))) = false ∧
        ((decide (p < (16384 : Int))) = false ∧
        ((decide (p < (16384 : Int))) = false ∧
        (K (AV.bool false))))))))))))))))))) ∧
    ((decide (p ≥ (0 : Int))) = false →
      (decide (p ≥ (0 : Int))) = false ∧
      ((decide (p ≥ (0 : Int))) = false ∧
      ((decide (p ≥ (0 : Int))) = false ∧
      (K (AV.bool false)))))))))
def f4_scr : Plan := .b (.t (.t (.f (.b (.t (.t (.t (.b (.t (.t (.t (.b (.t (.t (.t (.t (.t (.t (.t (.t (.t (.t (.t (.t (.t (.z)))))))))))))) (.f (.f (.f (.f (.f (.f (.f (.f (.f (.f (.f (.f (.f (.z)))))))))))))))))) (.f (.f (.f (.z)))))))) (.f (.f (.f (.z)))))))) (.f (.f (.t (.k (.k (.k (.k (.b (.t (.t (.t (.b (.t (.t (.t (.t (.t (.t (.t (.t (.t (.t (.t (.t (.t (.z)))))))))))))) (.f (.f (.f (.f (.f (.f (.f (.f (.f (.f (.f (.f (.f (.z)))))))))))))))))) (.f (.f (.f (.z))))))))))))
theorem f4_vc (k t c h b p v : Int) (K : AV → Prop) : (funP (XL0) 23 [.agg [.int .i64 k, .int .i64 t, .int .i64 c, .int .u8 h, .int .i64 b, .int .i64 p, .int .u8 v]] h0 f4_scr (fun v _ _ => K v)) = f4_VC k t c h b p v K := by kernel_rfl
def f5_VC (k t c h b p v : Int) (K : AV → Prop) : Prop :=
  K
  (AV.bool
    (k == k &&
      (t == t && (c == (0 : Int) && (h == (0 : Int) && (b == (0 : Int) && (p == (0 : Int) && (v == v && true))))))))
def f5_scr : Plan := .z
theorem f5_vc (k t c h b p v : Int) (K : AV → Prop) : (funP (XL0) 24 [.agg [.int .i64 k, .int .i64 t, .int .i64 c, .int .u8 h, .int .i64 b, .int .i64 p, .int .u8 v]] h0 f5_scr (fun v _ _ => K v)) = f5_VC k t c h b p v K := by kernel_rfl
def fit_VC  (K : AV → Prop) : Prop :=
  K
  (AV.agg
    [AV.nilFunc, AV.func (Fn.func (21 : Nat)) [] [], AV.func (Fn.func (22 : Nat)) [] [],
      AV.func (Fn.func (23 : Nat)) [] [], AV.func (Fn.func (20 : Nat)) [] [], AV.func (Fn.func (20 : Nat)) [] [],
      AV.func (Fn.func (24 : Nat)) [] []])
def fit_scr : Plan := .z
theorem fit_vc  (K : AV → Prop) : (funP (XL0) 18 [] h0 fit_scr (fun v _ _ => K v)) = fit_VC  K := by kernel_rfl
end Go.Proofs.Ytfamikdibjhnpaa.V
