/- Printed by vc.py: what must hold for functions' ways (AyW). -/
import Derived.Test.YtggegljiepbefaaAyB
namespace Go.Proofs.Ytggegljiepbefaa.V
open Go Go.Proofs
set_option maxRecDepth 100000
set_option linter.unusedVariables false
def noiseL_VC (x y : Int) (K : AV → Prop) : Prop :=
  ((!!decide (noiseN (Int.tmod x 131072) = noiseN (Int.tmod y 131072)) == decide (Int.tmod x 131072 = Int.tmod y 131072)) = true →
    (!!decide (noiseN (Int.tmod x 131072) = noiseN (Int.tmod y 131072)) == decide (Int.tmod x 131072 = Int.tmod y 131072)) = true ∧
    ((!decide (noiseN (Int.tmod x 131072) = noiseN (Int.tmod y 131072)) == decide (Int.tmod x 131072 = Int.tmod y 131072)) = false ∧
    (((!decide (noiseN (Int.tmod x 131072) ≥ 131072)) = true →
      (!decide (noiseN (Int.tmod x 131072) ≥ 131072)) = true ∧
      ((!decide (noiseN (Int.tmod x 131072) ≥ 131072)) = true ∧
      ((!decide (noiseN (Int.tmod x 131072) ≥ 131072)) = true ∧
      ((!decide (noiseN (Int.tmod x 131072) ≥ 131072)) = true ∧
      ((decide (noiseN (Int.tmod x 131072) ≥ 131072)) = false ∧
      (((!decide (Int.tmod (noiseN (Int.tmod x 131072)) 65536 = IntKind.wrap IntKind.u32 (Int.tdiv (Int.tmod x 131072) 2))) = true →
        K (AV.bool false)) ∧
      ((!decide (Int.tmod (noiseN (Int.tmod x 131072)) 65536 = IntKind.wrap IntKind.u32 (Int.tdiv (Int.tmod x 131072) 2))) = false →
        K (AV.bool (decide (noiseN (Int.tmod x 131072) = 0) == decide (Int.tmod x 131072 = 0)))))))))) ∧
    ((!decide (noiseN (Int.tmod x 131072) ≥ 131072)) = false →
      (!decide (noiseN (Int.tmod x 131072) ≥ 131072)) = false ∧
      ((!decide (noiseN (Int.tmod x 131072) ≥ 131072)) = false ∧
      ((!decide (noiseN (Int.tmod x 131072) ≥ 131072)) = false ∧
      ((!decide (noiseN (Int.tmod x 131072) ≥ 131072)) = false ∧
      ((decide (noiseN (Int.tmod x 131072) ≥ 131072)) = true ∧
      (K (AV.bool false)))))))))) ∧
  ((!!decide (noiseN (Int.tmod x 131072) = noiseN (Int.tmod y 131072)) == decide (Int.tmod x 131072 = Int.tmod y 131072)) = false →
    (!!decide (noiseN (Int.tmod x 131072) = noiseN (Int.tmod y 131072)) == decide (Int.tmod x 131072 = Int.tmod y 131072)) = false ∧
    ((!decide (noiseN (Int.tmod x 131072) = noiseN (Int.tmod y 131072)) == decide (Int.tmod x 131072 = Int.tmod y 131072)) = true ∧
    (K (AV.bool false))))
def noiseL_scr : Plan := .k (.b (.t (.f (.b (.t (.t (.t (.t (.f (.b (.z) (.z))))))) (.f (.f (.f (.f (.t (.z))))))))) (.f (.t (.z))))
theorem noiseL_vc (x y : Int) (K : AV → Prop) : (funP XAy2 3 [.int .u32 x, .int .u32 y] h0 noiseL_scr (fun v _ _ => K v)) = noiseL_VC x y K := by kernel_rfl
def shapeL_VC (s p q : Int) (K : AV → Prop) : Prop :=
  ((!decide (envN s (pick p 16) < 0)) = true →
    (!decide (envN s (pick p 16) < 0)) = true ∧
    ((decide (envN s (pick p 16) < 0)) = false ∧
    (((!decide (envN s (pick p 16) > 15)) = true →
      (!decide (envN s (pick p 16) > 15)) = true ∧
      ((decide (envN s (pick p 16) > 15)) = false ∧
      (((!decide (envN s (IntKind.wrap IntKind.i64 (16 + pick q 16)) < 0)) = true →
        (!decide (envN s (IntKind.wrap IntKind.i64 (16 + pick q 16)) < 0)) = true ∧
        ((decide (envN s (IntKind.wrap IntKind.i64 (16 + pick q 16)) < 0)) = false ∧
        (((!decide (envN s (IntKind.wrap IntKind.i64 (16 + pick q 16)) > 15)) = true →
          (!decide (envN s (IntKind.wrap IntKind.i64 (16 + pick q 16)) > 15)) = true ∧
          ((!decide (envN s (IntKind.wrap IntKind.i64 (16 + pick q 16)) > 15)) = true ∧
          ((!decide (envN s (IntKind.wrap IntKind.i64 (16 + pick q 16)) > 15)) = true ∧
          ((!decide (envN s (IntKind.wrap IntKind.i64 (16 + pick q 16)) > 15)) = true ∧
          ((!decide (envN s (IntKind.wrap IntKind.i64 (16 + pick q 16)) > 15)) = true ∧
          ((!decide (envN s (IntKind.wrap IntKind.i64 (16 + pick q 16)) > 15)) = true ∧
          ((decide (envN s (IntKind.wrap IntKind.i64 (16 + pick q 16)) > 15)) = false ∧
          (((!!decide (IntKind.wrap IntKind.i64 (envN s (pick p 16) + envN (bits BinOp.xor IntKind.u8 s 4) (pick p 16)) = 15)) = true →
            (!!decide (IntKind.wrap IntKind.i64 (envN s (pick p 16) + envN (bits BinOp.xor IntKind.u8 s 4) (pick p 16)) = 15)) = true ∧
            ((!!decide (IntKind.wrap IntKind.i64 (envN s (pick p 16) + envN (bits BinOp.xor IntKind.u8 s 4) (pick p 16)) = 15)) = true ∧
            ((!!decide (IntKind.wrap IntKind.i64 (envN s (pick p 16) + envN (bits BinOp.xor IntKind.u8 s 4) (pick p 16)) = 15)) = true ∧
            ((!!decide (IntKind.wrap IntKind.i64 (envN s (pick p 16) + envN (bits BinOp.xor IntKind.u8 s 4) (pick p 16)) = 15)) = true ∧
            ((!!decide (IntKind.wrap IntKind.i64 (envN s (pick p 16) + envN (bits BinOp.xor IntKind.u8 s 4) (pick p 16)) = 15)) = true ∧
            ((!decide (IntKind.wrap IntKind.i64 (envN s (pick p 16) + envN (bits BinOp.xor IntKind.u8 s 4) (pick p 16)) = 15)) = false ∧
            (((!!decide (envN s (IntKind.wrap IntKind.i64 (pick p 16 + 32)) = envN s (pick p 16))) = true →
              (!!decide (envN s (IntKind.wrap IntKind.i64 (pick p 16 + 32)) = envN s (pick p 16))) = true ∧
              ((!!decide (envN s (IntKind.wrap IntKind.i64 (pick p 16 + 32)) = envN s (pick p 16))) = true ∧
              ((!!decide (envN s (IntKind.wrap IntKind.i64 (pick p 16 + 32)) = envN s (pick p 16))) = true ∧
              ((!!decide (envN s (IntKind.wrap IntKind.i64 (pick p 16 + 32)) = envN s (pick p 16))) = true ∧
              ((!!decide (envN s (IntKind.wrap IntKind.i64 (pick p 16 + 32)) = envN s (pick p 16))) = true ∧
              ((!decide (envN s (IntKind.wrap IntKind.i64 (pick p 16 + 32)) = envN s (pick p 16))) = false ∧
              (((!!decide (envN s (IntKind.wrap IntKind.i64 (48 + pick q 16)) = envN s (IntKind.wrap IntKind.i64 (16 + pick q 16)))) = true →
                (!!decide (envN s (IntKind.wrap IntKind.i64 (48 + pick q 16)) = envN s (IntKind.wrap IntKind.i64 (16 + pick q 16)))) = true ∧
                ((!!decide (envN s (IntKind.wrap IntKind.i64 (48 + pick q 16)) = envN s (IntKind.wrap IntKind.i64 (16 + pick q 16)))) = true ∧
                ((!!decide (envN s (IntKind.wrap IntKind.i64 (48 + pick q 16)) = envN s (IntKind.wrap IntKind.i64 (16 + pick q 16)))) = true ∧
                ((!!decide (envN s (IntKind.wrap IntKind.i64 (48 + pick q 16)) = envN s (IntKind.wrap IntKind.i64 (16 + pick q 16)))) = true ∧
                ((!!decide (envN s (IntKind.wrap IntKind.i64 (48 + pick q 16)) = envN s (IntKind.wrap IntKind.i64 (16 + pick q 16)))) = true ∧
                ((!decide (envN s (IntKind.wrap IntKind.i64 (48 + pick q 16)) = envN s (IntKind.wrap IntKind.i64 (16 + pick q 16)))) = false ∧
                (((!decide (envN (bits BinOp.and IntKind.u8 s 15) (pick p 16) = envN s (pick p 16))) = true →
                  K (AV.bool false)) ∧
                ((!decide (envN (bits BinOp.and IntKind.u8 s 15) (pick p 16) = envN s (pick p 16))) = false →
                  ((decide (pick p 16 > 0)) = true →
                    ((!!decide (IntKind.wrap IntKind.i64 (envN s (pick p 16) - envN s (IntKind.wrap IntKind.i64 (pick p 16 - 1))) = 1) ==
      !decide (bits BinOp.and IntKind.u8 s 4 = 0)) = true →
                      (!!decide (IntKind.wrap IntKind.i64 (envN s (pick p 16) - envN s (IntKind.wrap IntKind.i64 (pick p 16 - 1))) = 1) ==
      !decide (bits BinOp.and IntKind.u8 s 4 = 0)) = true ∧
                      ((!!decide (IntKind.wrap IntKind.i64 (envN s (pick p 16) - envN s (IntKind.wrap IntKind.i64 (pick p 16 - 1))) = 1) ==
      !decide (bits BinOp.and IntKind.u8 s 4 = 0)) = true ∧
                      (((!decide (IntKind.wrap IntKind.i64 (envN s (pick p 16) - envN s (IntKind.wrap IntKind.i64 (pick p 16 - 1))) = 1)) = true →
                        (!decide (IntKind.wrap IntKind.i64 (envN s (pick p 16) - envN s (IntKind.wrap IntKind.i64 (pick p 16 - 1))) = 1)) = true ∧
                        ((!!decide (IntKind.wrap IntKind.i64 (envN s (pick p 16) - envN s (IntKind.wrap IntKind.i64 (pick p 16 - 1))) = 1) ==
      !decide (bits BinOp.and IntKind.u8 s 4 = 0)) = true ∧
                        ((!decide (IntKind.wrap IntKind.i64 (envN s (pick p 16) - envN s (IntKind.wrap IntKind.i64 (pick p 16 - 1))) = 1)) = true ∧
                        ((!decide (IntKind.wrap IntKind.i64 (envN s (pick p 16) - envN s (IntKind.wrap IntKind.i64 (pick p 16 - 1))) = 1) ==
    !decide (bits BinOp.and IntKind.u8 s 4 = 0)) = false ∧
                        (((!decide (IntKind.wrap IntKind.i64 (envN s (pick p 16) - envN s (IntKind.wrap IntKind.i64 (pick p 16 - 1))) = -1)) = true →
                          K (AV.bool false)) ∧
                        ((!decide (IntKind.wrap IntKind.i64 (envN s (pick p 16) - envN s (IntKind.wrap IntKind.i64 (pick p 16 - 1))) = -1)) = false →
                          ((decide (bits BinOp.and IntKind.u8 s 8 = 0)) = true →
                            K (AV.bool (decide (envN s (IntKind.wrap IntKind.i64 (16 + pick q 16)) = 0)))) ∧
                          ((decide (bits BinOp.and IntKind.u8 s 8 = 0)) = false →
                            ((!decide (bits BinOp.and IntKind.u8 s 1 = 0)) = true →
                              ((decide (envN s (IntKind.wrap IntKind.i64 (16 + pick q 16)) = envN s 16)) = true →
                                (decide (envN s (IntKind.wrap IntKind.i64 (16 + pick q 16)) = envN s 16)) = true ∧
                                ((decide (envN s (IntKind.wrap IntKind.i64 (16 + pick q 16)) = envN s 16)) = true ∧
                                ((decide (envN s (IntKind.wrap IntKind.i64 (16 + pick q 16)) = envN s 16)) = true ∧
                                ((decide (envN s (IntKind.wrap IntKind.i64 (16 + pick q 16)) = envN s 16)) = true ∧
                                ((decide (envN s (IntKind.wrap IntKind.i64 (16 + pick q 16)) = envN s 16)) = true ∧
                                ((decide (envN s (IntKind.wrap IntKind.i64 (16 + pick q 16)) = envN s 16)) = true ∧
                                ((decide (envN s (IntKind.wrap IntKind.i64 (16 + pick q 16)) = envN s 16)) = true ∧
                                ((decide (envN s (IntKind.wrap IntKind.i64 (16 + pick q 16)) = envN s 16)) = true ∧
                                (K
  (AV.bool
    (decide (envN s (IntKind.wrap IntKind.i64 (16 + pick q 16)) = envN s 15) ==
      decide (bits BinOp.and IntKind.u8 s 2 = 0)))))))))))) ∧
                              ((decide (envN s (IntKind.wrap IntKind.i64 (16 + pick q 16)) = envN s 16)) = false →
                                (decide (envN s (IntKind.wrap IntKind.i64 (16 + pick q 16)) = envN s 16)) = false ∧
                                ((decide (envN s (IntKind.wrap IntKind.i64 (16 + pick q 16)) = envN s 16)) = false ∧
                                ((decide (envN s (IntKind.wrap IntKind.i64 (16 + pick q 16)) = envN s 16)) = false ∧
                                ((decide (envN s (IntKind.wrap IntKind.i64 (16 + pick q 16)) = envN s 16)) = false ∧
                                ((decide (envN s (IntKind.wrap IntKind.i64 (16 + pick q 16)) = envN s 16)) = false ∧
                                ((decide (envN s (IntKind.wrap IntKind.i64 (16 + pick q 16)) = envN s 16)) = false ∧
                                ((decide (envN s (IntKind.wrap IntKind.i64 (16 + pick q 16)) = envN s 16)) = false ∧
                                ((decide (envN s (IntKind.wrap IntKind.i64 (16 + pick q 16)) = envN s 16)) = false ∧
                                (K (AV.bool false))))))))))) ∧
                            ((!decide (bits BinOp.and IntKind.u8 s 1 = 0)) = false →
                              ((!decide (bits BinOp.and IntKind.u8 s 2 = 0)) = true →
                                K
  (AV.bool
    (decide (envN s (IntKind.wrap IntKind.i64 (16 + pick q 16)) = IntKind.wrap IntKind.i64 (15 - envN s (pick q 16)))))) ∧
                              ((!decide (bits BinOp.and IntKind.u8 s 2 = 0)) = false →
                                K (AV.bool (decide (envN s (IntKind.wrap IntKind.i64 (16 + pick q 16)) = envN s (pick q 16))))))))))))) ∧
                      ((!decide (IntKind.wrap IntKind.i64 (envN s (pick p 16) - envN s (IntKind.wrap IntKind.i64 (pick p 16 - 1))) = 1)) = false →
                        (!decide (IntKind.wrap IntKind.i64 (envN s (pick p 16) - envN s (IntKind.wrap IntKind.i64 (pick p 16 - 1))) = 1)) = false ∧
                        ((!!decide (IntKind.wrap IntKind.i64 (envN s (pick p 16) - envN s (IntKind.wrap IntKind.i64 (pick p 16 - 1))) = 1) ==
      !decide (bits BinOp.and IntKind.u8 s 4 = 0)) = true ∧
                        ((!decide (IntKind.wrap IntKind.i64 (envN s (pick p 16) - envN s (IntKind.wrap IntKind.i64 (pick p 16 - 1))) = 1)) = false ∧
                        ((!decide (IntKind.wrap IntKind.i64 (envN s (pick p 16) - envN s (IntKind.wrap IntKind.i64 (pick p 16 - 1))) = 1) ==
    !decide (bits BinOp.and IntKind.u8 s 4 = 0)) = false ∧
                        (((decide (bits BinOp.and IntKind.u8 s 8 = 0)) = true →
                          K (AV.bool (decide (envN s (IntKind.wrap IntKind.i64 (16 + pick q 16)) = 0)))) ∧
                        ((decide (bits BinOp.and IntKind.u8 s 8 = 0)) = false →
                          ((!decide (bits BinOp.and IntKind.u8 s 1 = 0)) = true →
                            ((decide (envN s (IntKind.wrap IntKind.i64 (16 + pick q 16)) = envN s 16)) = true →
                              (decide (envN s (IntKind.wrap IntKind.i64 (16 + pick q 16)) = envN s 16)) = true ∧
                              ((decide (envN s (IntKind.wrap IntKind.i64 (16 + pick q 16)) = envN s 16)) = true ∧
                              ((decide (envN s (IntKind.wrap IntKind.i64 (16 + pick q 16)) = envN s 16)) = true ∧
                              ((decide (envN s (IntKind.wrap IntKind.i64 (16 + pick q 16)) = envN s 16)) = true ∧
                              ((decide (envN s (IntKind.wrap IntKind.i64 (16 + pick q 16)) = envN s 16)) = true ∧
                              ((decide (envN s (IntKind.wrap IntKind.i64 (16 + pick q 16)) = envN s 16)) = true ∧
                              ((decide (envN s (IntKind.wrap IntKind.i64 (16 + pick q 16)) = envN s 16)) = true ∧
                              ((decide (envN s (IntKind.wrap IntKind.i64 (16 + pick q 16)) = envN s 16)) = true ∧
                              (K
  (AV.bool
    (decide (envN s (IntKind.wrap IntKind.i64 (16 + pick q 16)) = envN s 15) ==
      decide (bits BinOp.and IntKind.u8 s 2 = 0)))))))))))) ∧
                            ((decide (envN s (IntKind.wrap IntKind.i64 (16 + pick q 16)) = envN s 16)) = false →
                              (decide (envN s (IntKind.wrap IntKind.i64 (16 + pick q 16)) = envN s 16)) = false ∧
                              ((decide (envN s (IntKind.wrap IntKind.i64 (16 + pick q 16)) = envN s 16)) = false ∧
                              ((decide (envN s (IntKind.wrap IntKind.i64 (16 + pick q 16)) = envN s 16)) = false ∧
                              ((decide (envN s (IntKind.wrap IntKind.i64 (16 + pick q 16)) = envN s 16)) = false ∧
                              ((decide (envN s (IntKind.wrap IntKind.i64 (16 + pick q 16)) = envN s 16)) = false ∧
                              ((decide (envN s (IntKind.wrap IntKind.i64 (16 + pick q 16)) = envN s 16)) = false ∧
                              ((decide (envN s (IntKind.wrap IntKind.i64 (16 + pick q 16)) = envN s 16)) = false ∧
                              ((decide (envN s (IntKind.wrap IntKind.i64 (16 + pick q 16)) = envN s 16)) = false ∧
                              (K (AV.bool false))))))))))) ∧
                          ((!decide (bits BinOp.and IntKind.u8 s 1 = 0)) = false →
                            ((!decide (bits BinOp.and IntKind.u8 s 2 = 0)) = true →
                              K
  (AV.bool
    (decide (envN s (IntKind.wrap IntKind.i64 (16 + pick q 16)) = IntKind.wrap IntKind.i64 (15 - envN s (pick q 16)))))) ∧
                            ((!decide (bits BinOp.and IntKind.u8 s 2 = 0)) = false →
                              K (AV.bool (decide (envN s (IntKind.wrap IntKind.i64 (16 + pick q 16)) = envN s (pick q 16))))))))))))))) ∧
                    ((!!decide (IntKind.wrap IntKind.i64 (envN s (pick p 16) - envN s (IntKind.wrap IntKind.i64 (pick p 16 - 1))) = 1) ==
      !decide (bits BinOp.and IntKind.u8 s 4 = 0)) = false →
                      (!!decide (IntKind.wrap IntKind.i64 (envN s (pick p 16) - envN s (IntKind.wrap IntKind.i64 (pick p 16 - 1))) = 1) ==
      !decide (bits BinOp.and IntKind.u8 s 4 = 0)) = false ∧
                      ((!!decide (IntKind.wrap IntKind.i64 (envN s (pick p 16) - envN s (IntKind.wrap IntKind.i64 (pick p 16 - 1))) = 1) ==
      !decide (bits BinOp.and IntKind.u8 s 4 = 0)) = false ∧
                      ((!!decide (IntKind.wrap IntKind.i64 (envN s (pick p 16) - envN s (IntKind.wrap IntKind.i64 (pick p 16 - 1))) = 1) ==
      !decide (bits BinOp.and IntKind.u8 s 4 = 0)) = false ∧
                      ((!decide (IntKind.wrap IntKind.i64 (envN s (pick p 16) - envN s (IntKind.wrap IntKind.i64 (pick p 16 - 1))) = 1) ==
    !decide (bits BinOp.and IntKind.u8 s 4 = 0)) = true ∧
                      (K (AV.bool false))))))) ∧
                  ((decide (pick p 16 > 0)) = false →
                    ((decide (bits BinOp.and IntKind.u8 s 8 = 0)) = true →
                      K (AV.bool (decide (envN s (IntKind.wrap IntKind.i64 (16 + pick q 16)) = 0)))) ∧
                    ((decide (bits BinOp.and IntKind.u8 s 8 = 0)) = false →
                      ((!decide (bits BinOp.and IntKind.u8 s 1 = 0)) = true →
                        ((decide (envN s (IntKind.wrap IntKind.i64 (16 + pick q 16)) = envN s 16)) = true →
                          (decide (envN s (IntKind.wrap IntKind.i64 (16 + pick q 16)) = envN s 16)) = true ∧
                          ((decide (envN s (IntKind.wrap IntKind.i64 (16 + pick q 16)) = envN s 16)) = true ∧
                          ((decide (envN s (IntKind.wrap IntKind.i64 (16 + pick q 16)) = envN s 16)) = true ∧
                          ((decide (envN s (IntKind.wrap IntKind.i64 (16 + pick q 16)) = envN s 16)) = true ∧
                          ((decide (envN s (IntKind.wrap IntKind.i64 (16 + pick q 16)) = envN s 16)) = true ∧
                          ((decide (envN s (IntKind.wrap IntKind.i64 (16 + pick q 16)) = envN s 16)) = true ∧
                          ((decide (envN s (IntKind.wrap IntKind.i64 (16 + pick q 16)) = envN s 16)) = true ∧
                          ((decide (envN s (IntKind.wrap IntKind.i64 (16 + pick q 16)) = envN s 16)) = true ∧
                          (K
  (AV.bool
    (decide (envN s (IntKind.wrap IntKind.i64 (16 + pick q 16)) = envN s 15) ==
      decide (bits BinOp.and IntKind.u8 s 2 = 0)))))))))))) ∧
                        ((decide (envN s (IntKind.wrap IntKind.i64 (16 + pick q 16)) = envN s 16)) = false →
                          (decide (envN s (IntKind.wrap IntKind.i64 (16 + pick q 16)) = envN s 16)) = false ∧
                          ((decide (envN s (IntKind.wrap IntKind.i64 (16 + pick q 16)) = envN s 16)) = false ∧
                          ((decide (envN s (IntKind.wrap IntKind.i64 (16 + pick q 16)) = envN s 16)) = false ∧
                          ((decide (envN s (IntKind.wrap IntKind.i64 (16 + pick q 16)) = envN s 16)) = false ∧
                          ((decide (envN s (IntKind.wrap IntKind.i64 (16 + pick q 16)) = envN s 16)) = false ∧
                          ((decide (envN s (IntKind.wrap IntKind.i64 (16 + pick q 16)) = envN s 16)) = false ∧
                          ((decide (envN s (IntKind.wrap IntKind.i64 (16 + pick q 16)) = envN s 16)) = false ∧
                          ((decide (envN s (IntKind.wrap IntKind.i64 (16 + pick q 16)) = envN s 16)) = false ∧
                          (K (AV.bool false))))))))))) ∧
                      ((!decide (bits BinOp.and IntKind.u8 s 1 = 0)) = false →
                        ((!decide (bits BinOp.and IntKind.u8 s 2 = 0)) = true →
                          K
  (AV.bool
    (decide (envN s (IntKind.wrap IntKind.i64 (16 + pick q 16)) = IntKind.wrap IntKind.i64 (15 - envN s (pick q 16)))))) ∧
                        ((!decide (bits BinOp.and IntKind.u8 s 2 = 0)) = false →
                          K (AV.bool (decide (envN s (IntKind.wrap IntKind.i64 (16 + pick q 16)) = envN s (pick q 16)))))))))))))))) ∧
              ((!!decide (envN s (IntKind.wrap IntKind.i64 (48 + pick q 16)) = envN s (IntKind.wrap IntKind.i64 (16 + pick q 16)))) = false →
                (!!decide (envN s (IntKind.wrap IntKind.i64 (48 + pick q 16)) = envN s (IntKind.wrap IntKind.i64 (16 + pick q 16)))) = false ∧
                ((!!decide (envN s (IntKind.wrap IntKind.i64 (48 + pick q 16)) = envN s (IntKind.wrap IntKind.i64 (16 + pick q 16)))) = false ∧
                ((!!decide (envN s (IntKind.wrap IntKind.i64 (48 + pick q 16)) = envN s (IntKind.wrap IntKind.i64 (16 + pick q 16)))) = false ∧
                ((!!decide (envN s (IntKind.wrap IntKind.i64 (48 + pick q 16)) = envN s (IntKind.wrap IntKind.i64 (16 + pick q 16)))) = false ∧
                ((!!decide (envN s (IntKind.wrap IntKind.i64 (48 + pick q 16)) = envN s (IntKind.wrap IntKind.i64 (16 + pick q 16)))) = false ∧
                ((!decide (envN s (IntKind.wrap IntKind.i64 (48 + pick q 16)) = envN s (IntKind.wrap IntKind.i64 (16 + pick q 16)))) = true ∧
                (K (AV.bool false))))))))))))))) ∧
            ((!!decide (envN s (IntKind.wrap IntKind.i64 (pick p 16 + 32)) = envN s (pick p 16))) = false →
              (!!decide (envN s (IntKind.wrap IntKind.i64 (pick p 16 + 32)) = envN s (pick p 16))) = false ∧
              ((!!decide (envN s (IntKind.wrap IntKind.i64 (pick p 16 + 32)) = envN s (pick p 16))) = false ∧
              ((!!decide (envN s (IntKind.wrap IntKind.i64 (pick p 16 + 32)) = envN s (pick p 16))) = false ∧
              ((!!decide (envN s (IntKind.wrap IntKind.i64 (pick p 16 + 32)) = envN s (pick p 16))) = false ∧
              ((!!decide (envN s (IntKind.wrap IntKind.i64 (pick p 16 + 32)) = envN s (pick p 16))) = false ∧
              ((!decide (envN s (IntKind.wrap IntKind.i64 (pick p 16 + 32)) = envN s (pick p 16))) = true ∧
              (K (AV.bool false))))))))))))))) ∧
          ((!!decide (IntKind.wrap IntKind.i64 (envN s (pick p 16) + envN (bits BinOp.xor IntKind.u8 s 4) (pick p 16)) = 15)) = false →
            (!!decide (IntKind.wrap IntKind.i64 (envN s (pick p 16) + envN (bits BinOp.xor IntKind.u8 s 4) (pick p 16)) = 15)) = false ∧
            ((!!decide (IntKind.wrap IntKind.i64 (envN s (pick p 16) + envN (bits BinOp.xor IntKind.u8 s 4) (pick p 16)) = 15)) = false ∧
            ((!!decide (IntKind.wrap IntKind.i64 (envN s (pick p 16) + envN (bits BinOp.xor IntKind.u8 s 4) (pick p 16)) = 15)) = false ∧
            ((!!decide (IntKind.wrap IntKind.i64 (envN s (pick p 16) + envN (bits BinOp.xor IntKind.u8 s 4) (pick p 16)) = 15)) = false ∧
            ((!!decide (IntKind.wrap IntKind.i64 (envN s (pick p 16) + envN (bits BinOp.xor IntKind.u8 s 4) (pick p 16)) = 15)) = false ∧
            ((!decide (IntKind.wrap IntKind.i64 (envN s (pick p 16) + envN (bits BinOp.xor IntKind.u8 s 4) (pick p 16)) = 15)) = true ∧
            (K (AV.bool false)))))))))))))))) ∧
        ((!decide (envN s (IntKind.wrap IntKind.i64 (16 + pick q 16)) > 15)) = false →
          (!decide (envN s (IntKind.wrap IntKind.i64 (16 + pick q 16)) > 15)) = false ∧
          ((!decide (envN s (IntKind.wrap IntKind.i64 (16 + pick q 16)) > 15)) = false ∧
          ((!decide (envN s (IntKind.wrap IntKind.i64 (16 + pick q 16)) > 15)) = false ∧
          ((!decide (envN s (IntKind.wrap IntKind.i64 (16 + pick q 16)) > 15)) = false ∧
          ((!decide (envN s (IntKind.wrap IntKind.i64 (16 + pick q 16)) > 15)) = false ∧
          ((!decide (envN s (IntKind.wrap IntKind.i64 (16 + pick q 16)) > 15)) = false ∧
          ((decide (envN s (IntKind.wrap IntKind.i64 (16 + pick q 16)) > 15)) = true ∧
          (K (AV.bool false)))))))))))) ∧
      ((!decide (envN s (IntKind.wrap IntKind.i64 (16 + pick q 16)) < 0)) = false →
        (!decide (envN s (IntKind.wrap IntKind.i64 (16 + pick q 16)) < 0)) = false ∧
        ((decide (envN s (IntKind.wrap IntKind.i64 (16 + pick q 16)) < 0)) = true ∧
        (K (AV.bool false))))))) ∧
    ((!decide (envN s (pick p 16) > 15)) = false →
      (!decide (envN s (pick p 16) > 15)) = false ∧
      ((decide (envN s (pick p 16) > 15)) = true ∧
      (K (AV.bool false))))))) ∧
  ((!decide (envN s (pick p 16) < 0)) = false →
    (!decide (envN s (pick p 16) < 0)) = false ∧
    ((decide (envN s (pick p 16) < 0)) = true ∧
    (K (AV.bool false))))
def shapeL_scr : Plan := .k (.b (.t (.f (.b (.t (.f (.b (.t (.f (.b (.t (.t (.t (.t (.t (.t (.f (.b (.t (.t (.t (.t (.t (.f (.b (.t (.t (.t (.t (.t (.f (.b (.t (.t (.t (.t (.t (.f (.b (.z) (.b (.b (.t (.t (.b (.t (.t (.t (.f (.b (.z) (.b (.z) (.b (.b (.t (.t (.t (.t (.t (.t (.t (.t (.z))))))))) (.f (.f (.f (.f (.f (.f (.f (.f (.z)))))))))) (.b (.z) (.z))))))))) (.f (.t (.f (.f (.k (.b (.z) (.b (.b (.t (.t (.t (.t (.t (.t (.t (.t (.z))))))))) (.f (.f (.f (.f (.f (.f (.f (.f (.z)))))))))) (.b (.z) (.z)))))))))))) (.f (.f (.k (.k (.f (.t (.z)))))))) (.b (.z) (.b (.b (.t (.t (.t (.t (.t (.t (.t (.t (.z))))))))) (.f (.f (.f (.f (.f (.f (.f (.f (.z)))))))))) (.b (.z) (.z)))))))))))) (.f (.f (.f (.f (.f (.t (.z)))))))))))))) (.f (.f (.f (.f (.f (.t (.z)))))))))))))) (.f (.f (.f (.f (.f (.t (.z))))))))))))))) (.f (.f (.f (.f (.f (.f (.t (.z))))))))))) (.f (.t (.z)))))) (.f (.t (.z)))))) (.f (.t (.z))))
theorem shapeL_vc (s p q : Int) (K : AV → Prop) : (funP XAy2 4 [.int .u8 s, .int .i64 p, .int .i64 q] h0 shapeL_scr (fun v _ _ => K v)) = shapeL_VC s p q K := by kernel_rfl
end Go.Proofs.Ytggegljiepbefaa.V
