/- Printed by vc.py: what must hold for functions' ways (TbJ). -/
import Derived.Test.YtnfelncgeihihaaTbI
namespace Go.Proofs.Ytnfelncgeihihaa.V
open Go Go.Proofs
set_option maxRecDepth 100000
set_option linter.unusedVariables false
def tbk_VC (L C T R F W U t f l c : Int) (n : Nat) (cs : List AV) (K : AV → Prop) : Prop :=
  ((!decide ((if okF L C T R F W U = true then (0 : Int) else (2 : Int)) = (0 : Int))) = true →
    K (AV.bool true)) ∧
  ((!decide ((if okF L C T R F W U = true then (0 : Int) else (2 : Int)) = (0 : Int))) = false →
    need ([AV.agg
      [AV.int IntKind.i64 L, AV.int IntKind.i64 C, AV.int IntKind.i64 T, AV.int IntKind.i64 R, AV.int IntKind.i64 F,
        AV.int IntKind.i64 W, AV.int IntKind.i64 U]] =
  [AV.agg
      [AV.int IntKind.i64 L, AV.int IntKind.i64 C, AV.int IntKind.i64 T, AV.int IntKind.i64 R, AV.int IntKind.i64 F,
        AV.int IntKind.i64 W, AV.int IntKind.i64 U]]) ∧
    (need (okF L C T R F W U = true ∧
  n = List.length (bts (scX L C T R F W U) (7 : Nat)) ∧ cs = encI IntKind.u8 (bts (scX L C T R F W U) (7 : Nat))) ∧
    (need (n = n ∧
  cs = cs ∧
    (2 : Nat) < (3 : Nat) ∧
      okF L C T R F W U = true ∧
        n = List.length (bts (scX L C T R F W U) (7 : Nat)) ∧ cs = encI IntKind.u8 (bts (scX L C T R F W U) (7 : Nat))) ∧
    (((!(L == L && (C == C && (T == T && (R == R && (F == F && (W == W && (U == U && true)))))))) = true →
      K (AV.bool false)) ∧
    ((!(L == L && (C == C && (T == T && (R == R && (F == F && (W == W && (U == U && true)))))))) = false →
      ((decide (tmE L C T R F W U f l c = (0 : Int))) = true →
        ((!!decide (spE L C T R F W U (tmT L C T R F W U f l c) = (0 : Int))) = true →
          (!!decide (spE L C T R F W U (tmT L C T R F W U f l c) = (0 : Int))) = true ∧
          ((!!decide (spE L C T R F W U (tmT L C T R F W U f l c) = (0 : Int))) = true ∧
          ((!decide (spE L C T R F W U (tmT L C T R F W U f l c) = (0 : Int))) = false ∧
          (((!(spF L C T R F W U (tmT L C T R F W U f l c) == f &&
    (spL L C T R F W U (tmT L C T R F W U f l c) == l && (spC L C T R F W U (tmT L C T R F W U f l c) == c && true)))) = true →
            K (AV.bool false)) ∧
          ((!(spF L C T R F W U (tmT L C T R F W U f l c) == f &&
    (spL L C T R F W U (tmT L C T R F W U f l c) == l && (spC L C T R F W U (tmT L C T R F W U f l c) == c && true)))) = false →
            ((!decide (t < (0 : Int))) = true →
              (!decide (t < (0 : Int))) = true ∧
              ((decide (t < (0 : Int))) = false ∧
              (((decide (t ≥ (1099511627776 : Int))) = true →
                K (AV.bool true)) ∧
              ((decide (t ≥ (1099511627776 : Int))) = false →
                ((!!decide (spE L C T R F W U t = (0 : Int))) = true →
                  (!!decide (spE L C T R F W U t = (0 : Int))) = true ∧
                  ((!decide (spE L C T R F W U t = (0 : Int))) = false ∧
                  (((!!decide (tmE L C T R F W U (spF L C T R F W U t) (spL L C T R F W U t) (spC L C T R F W U t) = (0 : Int))) = true →
                    (!!decide (tmE L C T R F W U (spF L C T R F W U t) (spL L C T R F W U t) (spC L C T R F W U t) = (0 : Int))) = true ∧
                    ((!decide (tmE L C T R F W U (spF L C T R F W U t) (spL L C T R F W U t) (spC L C T R F W U t) = (0 : Int))) = false ∧
                    (((!!decide (spE L C T R F W U (IntKind.wrap IntKind.i64 (t + (1 : Int))) = (0 : Int))) = true →
                      (!!decide (spE L C T R F W U (IntKind.wrap IntKind.i64 (t + (1 : Int))) = (0 : Int))) = true ∧
                      ((!!decide (spE L C T R F W U (IntKind.wrap IntKind.i64 (t + (1 : Int))) = (0 : Int))) = true ∧
                      ((!decide (spE L C T R F W U (IntKind.wrap IntKind.i64 (t + (1 : Int))) = (0 : Int))) = false ∧
                      (((!decide (tmT L C T R F W U (spF L C T R F W U t) (spL L C T R F W U t) (spC L C T R F W U t) = t)) = true →
                        K (AV.bool false)) ∧
                      ((!decide (tmT L C T R F W U (spF L C T R F W U t) (spL L C T R F W U t) (spC L C T R F W U t) = t)) = false →
                        ((decide (IntKind.wrap IntKind.i64 (spC L C T R F W U t + (1 : Int)) = C)) = true →
                          ((decide (IntKind.wrap IntKind.i64 (spL L C T R F W U t + (1 : Int)) = L)) = true →
                            K
  (AV.bool
    (IntKind.wrap IntKind.i64 (spF L C T R F W U t + (1 : Int)) ==
        spF L C T R F W U (IntKind.wrap IntKind.i64 (t + (1 : Int))) &&
      ((0 : Int) == spL L C T R F W U (IntKind.wrap IntKind.i64 (t + (1 : Int))) &&
        ((0 : Int) == spC L C T R F W U (IntKind.wrap IntKind.i64 (t + (1 : Int))) && true))))) ∧
                          ((decide (IntKind.wrap IntKind.i64 (spL L C T R F W U t + (1 : Int)) = L)) = false →
                            K
  (AV.bool
    (spF L C T R F W U t == spF L C T R F W U (IntKind.wrap IntKind.i64 (t + (1 : Int))) &&
      (IntKind.wrap IntKind.i64 (spL L C T R F W U t + (1 : Int)) ==
          spL L C T R F W U (IntKind.wrap IntKind.i64 (t + (1 : Int))) &&
        ((0 : Int) == spC L C T R F W U (IntKind.wrap IntKind.i64 (t + (1 : Int))) && true)))))) ∧
                        ((decide (IntKind.wrap IntKind.i64 (spC L C T R F W U t + (1 : Int)) = C)) = false →
                          ((decide (spL L C T R F W U t = L)) = true →
                            K
  (AV.bool
    (IntKind.wrap IntKind.i64 (spF L C T R F W U t + (1 : Int)) ==
        spF L C T R F W U (IntKind.wrap IntKind.i64 (t + (1 : Int))) &&
      ((0 : Int) == spL L C T R F W U (IntKind.wrap IntKind.i64 (t + (1 : Int))) &&
        (IntKind.wrap IntKind.i64 (spC L C T R F W U t + (1 : Int)) ==
            spC L C T R F W U (IntKind.wrap IntKind.i64 (t + (1 : Int))) &&
          true))))) ∧
                          ((decide (spL L C T R F W U t = L)) = false →
                            K
  (AV.bool
    (spF L C T R F W U t == spF L C T R F W U (IntKind.wrap IntKind.i64 (t + (1 : Int))) &&
      (spL L C T R F W U t == spL L C T R F W U (IntKind.wrap IntKind.i64 (t + (1 : Int))) &&
        (IntKind.wrap IntKind.i64 (spC L C T R F W U t + (1 : Int)) ==
            spC L C T R F W U (IntKind.wrap IntKind.i64 (t + (1 : Int))) &&
          true))))))))))) ∧
                    ((!!decide (spE L C T R F W U (IntKind.wrap IntKind.i64 (t + (1 : Int))) = (0 : Int))) = false →
                      (!!decide (spE L C T R F W U (IntKind.wrap IntKind.i64 (t + (1 : Int))) = (0 : Int))) = false ∧
                      ((!!decide (spE L C T R F W U (IntKind.wrap IntKind.i64 (t + (1 : Int))) = (0 : Int))) = false ∧
                      ((!decide (spE L C T R F W U (IntKind.wrap IntKind.i64 (t + (1 : Int))) = (0 : Int))) = true ∧
                      (K (AV.bool false)))))))) ∧
                  ((!!decide (tmE L C T R F W U (spF L C T R F W U t) (spL L C T R F W U t) (spC L C T R F W U t) = (0 : Int))) = false →
                    (!!decide (tmE L C T R F W U (spF L C T R F W U t) (spL L C T R F W U t) (spC L C T R F W U t) = (0 : Int))) = false ∧
                    ((!decide (tmE L C T R F W U (spF L C T R F W U t) (spL L C T R F W U t) (spC L C T R F W U t) = (0 : Int))) = true ∧
                    (K (AV.bool false))))))) ∧
                ((!!decide (spE L C T R F W U t = (0 : Int))) = false →
                  (!!decide (spE L C T R F W U t = (0 : Int))) = false ∧
                  ((!decide (spE L C T R F W U t = (0 : Int))) = true ∧
                  (K (AV.bool false)))))))) ∧
            ((!decide (t < (0 : Int))) = false →
              (!decide (t < (0 : Int))) = false ∧
              ((decide (t < (0 : Int))) = true ∧
              (K (AV.bool true))))))))) ∧
        ((!!decide (spE L C T R F W U (tmT L C T R F W U f l c) = (0 : Int))) = false →
          (!!decide (spE L C T R F W U (tmT L C T R F W U f l c) = (0 : Int))) = false ∧
          ((!!decide (spE L C T R F W U (tmT L C T R F W U f l c) = (0 : Int))) = false ∧
          ((!decide (spE L C T R F W U (tmT L C T R F W U f l c) = (0 : Int))) = true ∧
          (K (AV.bool false)))))) ∧
      ((decide (tmE L C T R F W U f l c = (0 : Int))) = false →
        ((!decide (t < (0 : Int))) = true →
          (!decide (t < (0 : Int))) = true ∧
          ((decide (t < (0 : Int))) = false ∧
          (((decide (t ≥ (1099511627776 : Int))) = true →
            K (AV.bool true)) ∧
          ((decide (t ≥ (1099511627776 : Int))) = false →
            ((!!decide (spE L C T R F W U t = (0 : Int))) = true →
              (!!decide (spE L C T R F W U t = (0 : Int))) = true ∧
              ((!decide (spE L C T R F W U t = (0 : Int))) = false ∧
              (((!!decide (tmE L C T R F W U (spF L C T R F W U t) (spL L C T R F W U t) (spC L C T R F W U t) = (0 : Int))) = true →
                (!!decide (tmE L C T R F W U (spF L C T R F W U t) (spL L C T R F W U t) (spC L C T R F W U t) = (0 : Int))) = true ∧
                ((!decide (tmE L C T R F W U (spF L C T R F W U t) (spL L C T R F W U t) (spC L C T R F W U t) = (0 : Int))) = false ∧
                (((!!decide (spE L C T R F W U (IntKind.wrap IntKind.i64 (t + (1 : Int))) = (0 : Int))) = true →
                  (!!decide (spE L C T R F W U (IntKind.wrap IntKind.i64 (t + (1 : Int))) = (0 : Int))) = true ∧
                  ((!!decide (spE L C T R F W U (IntKind.wrap IntKind.i64 (t + (1 : Int))) = (0 : Int))) = true ∧
                  ((!decide (spE L C T R F W U (IntKind.wrap IntKind.i64 (t + (1 : Int))) = (0 : Int))) = false ∧
                  (((!decide (tmT L C T R F W U (spF L C T R F W U t) (spL L C T R F W U t) (spC L C T R F W U t) = t)) = true →
                    K (AV.bool false)) ∧
                  ((!decide (tmT L C T R F W U (spF L C T R F W U t) (spL L C T R F W U t) (spC L C T R F W U t) = t)) = false →
                    ((decide (IntKind.wrap IntKind.i64 (spC L C T R F W U t + (1 : Int)) = C)) = true →
                      ((decide (IntKind.wrap IntKind.i64 (spL L C T R F W U t + (1 : Int)) = L)) = true →
                        K
  (AV.bool
    (IntKind.wrap IntKind.i64 (spF L C T R F W U t + (1 : Int)) ==
        spF L C T R F W U (IntKind.wrap IntKind.i64 (t + (1 : Int))) &&
      ((0 : Int) == spL L C T R F W U (IntKind.wrap IntKind.i64 (t + (1 : Int))) &&
        ((0 : Int) == spC L C T R F W U (IntKind.wrap IntKind.i64 (t + (1 : Int))) && true))))) ∧
                      ((decide (IntKind.wrap IntKind.i64 (spL L C T R F W U t + (1 : Int)) = L)) = false →
                        K
  (AV.bool
    (spF L C T R F W U t == spF L C T R F W U (IntKind.wrap IntKind.i64 (t + (1 : Int))) &&
      (IntKind.wrap IntKind.i64 (spL L C T R F W U t + (1 : Int)) ==
          spL L C T R F W U (IntKind.wrap IntKind.i64 (t + (1 : Int))) &&
        ((0 : Int) == spC L C T R F W U (IntKind.wrap IntKind.i64 (t + (1 : Int))) && true)))))) ∧
                    ((decide (IntKind.wrap IntKind.i64 (spC L C T R F W U t + (1 : Int)) = C)) = false →
                      ((decide (spL L C T R F W U t = L)) = true →
                        K
  (AV.bool
    (IntKind.wrap IntKind.i64 (spF L C T R F W U t + (1 : Int)) ==
        spF L C T R F W U (IntKind.wrap IntKind.i64 (t + (1 : Int))) &&
      ((0 : Int) == spL L C T R F W U (IntKind.wrap IntKind.i64 (t + (1 : Int))) &&
        (IntKind.wrap IntKind.i64 (spC L C T R F W U t + (1 : Int)) ==
            spC L C T R F W U (IntKind.wrap IntKind.i64 (t + (1 : Int))) &&
          true))))) ∧
                      ((decide (spL L C T R F W U t = L)) = false →
                        K
  (AV.bool
    (spF L C T R F W U t == spF L C T R F W U (IntKind.wrap IntKind.i64 (t + (1 : Int))) &&
      (spL L C T R F W U t == spL L C T R F W U (IntKind.wrap IntKind.i64 (t + (1 : Int))) &&
        (IntKind.wrap IntKind.i64 (spC L C T R F W U t + (1 : Int)) ==
            spC L C T R F W U (IntKind.wrap IntKind.i64 (t + (1 : Int))) &&
          true))))))))))) ∧
                ((!!decide (spE L C T R F W U (IntKind.wrap IntKind.i64 (t + (1 : Int))) = (0 : Int))) = false →
                  (!!decide (spE L C T R F W U (IntKind.wrap IntKind.i64 (t + (1 : Int))) = (0 : Int))) = false ∧
                  ((!!decide (spE L C T R F W U (IntKind.wrap IntKind.i64 (t + (1 : Int))) = (0 : Int))) = false ∧
                  ((!decide (spE L C T R F W U (IntKind.wrap IntKind.i64 (t + (1 : Int))) = (0 : Int))) = true ∧
                  (K (AV.bool false)))))))) ∧
              ((!!decide (tmE L C T R F W U (spF L C T R F W U t) (spL L C T R F W U t) (spC L C T R F W U t) = (0 : Int))) = false →
                (!!decide (tmE L C T R F W U (spF L C T R F W U t) (spL L C T R F W U t) (spC L C T R F W U t) = (0 : Int))) = false ∧
                ((!decide (tmE L C T R F W U (spF L C T R F W U t) (spL L C T R F W U t) (spC L C T R F W U t) = (0 : Int))) = true ∧
                (K (AV.bool false))))))) ∧
            ((!!decide (spE L C T R F W U t = (0 : Int))) = false →
              (!!decide (spE L C T R F W U t = (0 : Int))) = false ∧
              ((!decide (spE L C T R F W U t = (0 : Int))) = true ∧
              (K (AV.bool false)))))))) ∧
        ((!decide (t < (0 : Int))) = false →
          (!decide (t < (0 : Int))) = false ∧
          ((decide (t < (0 : Int))) = true ∧
          (K (AV.bool true))))))))))
def tbk_scr : Plan := .k (.b (.z) (.k (.k (.k (.k (.k (.k (.k (.b (.z) (.b (.b (.t (.t (.f (.b (.z) (.b (.t (.f (.b (.z) (.b (.t (.f (.b (.t (.f (.b (.t (.t (.f (.b (.z) (.b (.b (.z) (.z)) (.b (.z) (.z))))))) (.f (.f (.t (.z))))))) (.f (.t (.z)))))) (.f (.t (.z))))))) (.f (.t (.z)))))))) (.f (.f (.t (.z))))) (.b (.t (.f (.b (.z) (.b (.t (.f (.b (.t (.f (.b (.t (.t (.f (.b (.z) (.b (.b (.z) (.z)) (.b (.z) (.z))))))) (.f (.f (.t (.z))))))) (.f (.t (.z)))))) (.f (.t (.z))))))) (.f (.t (.z))))))))))))))
theorem tbk_vc (L C T R F W U t f l c : Int) (n : Nat) (cs : List AV) (K : AV → Prop) : (funP (XTbk L C T R F W U n cs) 15 [.agg [.int .i64 L, .int .i64 C, .int .i64 T, .int .i64 R, .int .i64 F, .int .i64 W, .int .i64 U], .int .i64 t, .agg [.int .i64 f, .int .i64 l, .int .i64 c]] h0 tbk_scr (fun v _ _ => K v)) = tbk_VC L C T R F W U t f l c n cs K := by kernel_rfl
end Go.Proofs.Ytnfelncgeihihaa.V
