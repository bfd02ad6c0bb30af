/- regs: the law of what is put (part 3, codes 0 and 1). -/
import Derived.Test.YthmakddlhaeblaaDoorRgO0
namespace Go.Proofs.YthmakddlhaeblaaDoor.V
open Go Go.Proofs
set_option maxRecDepth 100000
set_option maxHeartbeats 8000000
set_option linter.unusedSimpArgs false
set_option linter.unusedVariables false
theorem raw_pr (x y : Int) : bits BinOp.or IntKind.u16 (IntKind.wrap IntKind.u16 (IntKind.wrap IntKind.u16 x * (256 : Int))) (IntKind.wrap IntKind.u16 y) = prN x y := (rfl)
theorem al00_ok {a b c d e f g h i r ix iy sp pc wz af bc de hl im : Int} {p q u v : Bool} {j k : Int} {s : Bool} {w y : Int} {K : AV → Prop} (hK : K (.bool true)) (y1 : mdN j 3 = 0) (y2 : mdN k 8 = 0) (q1 : hiN (prN w (loN ix)) = w) (q2 : loN (prN w (loN ix)) = loN ix) (q3 : hiN (prN (hiN ix) w) = hiN ix) (q4 : loN (prN (hiN ix) w) = w) (q5 : hiN (prN w (loN iy)) = w) (q6 : loN (prN w (loN iy)) = loN iy) (q7 : hiN (prN (hiN iy) w) = hiN iy) (q8 : loN (prN (hiN iy) w) = w) (q9 : prN (hiN ix) (loN ix) = ix) (q10 : prN (hiN iy) (loN iy) = iy) (q11 : prN (hiN y) (loN y) = y) : al0_VC a b c d e f g h i r ix iy sp pc wz af bc de hl im p q u v j k s w y K := by
  have y4 : mdN k 4 = 0 := by rw [md_48, y2]; rfl
  unfold al0_VC
  cases s <;> simp [y1, y2, y4, getN, pairN, aP, cP, dP, eP, fP, gP, hP, ixP, iyP, aQ, bQ, cQ, dQ, eQ, fQ, gQ, hQ, ixQ, iyQ, spQ, raw_pr, q1, q2, q3, q4, q5, q6, q7, q8, q9, q10, q11, hK]
theorem al01_ok {a b c d e f g h i r ix iy sp pc wz af bc de hl im : Int} {p q u v : Bool} {j k : Int} {s : Bool} {w y : Int} {K : AV → Prop} (hK : K (.bool true)) (y1 : mdN j 3 = 1) (y2 : mdN k 8 = 0) (q1 : hiN (prN w (loN ix)) = w) (q2 : loN (prN w (loN ix)) = loN ix) (q3 : hiN (prN (hiN ix) w) = hiN ix) (q4 : loN (prN (hiN ix) w) = w) (q5 : hiN (prN w (loN iy)) = w) (q6 : loN (prN w (loN iy)) = loN iy) (q7 : hiN (prN (hiN iy) w) = hiN iy) (q8 : loN (prN (hiN iy) w) = w) (q9 : prN (hiN ix) (loN ix) = ix) (q10 : prN (hiN iy) (loN iy) = iy) (q11 : prN (hiN y) (loN y) = y) : al0_VC a b c d e f g h i r ix iy sp pc wz af bc de hl im p q u v j k s w y K := by
  have y4 : mdN k 4 = 0 := by rw [md_48, y2]; rfl
  unfold al0_VC
  cases s <;> simp [y1, y2, y4, getN, pairN, aP, cP, dP, eP, fP, gP, hP, ixP, iyP, aQ, bQ, cQ, dQ, eQ, fQ, gQ, hQ, ixQ, iyQ, spQ, raw_pr, q1, q2, q3, q4, q5, q6, q7, q8, q9, q10, q11, hK]
theorem al02_ok {a b c d e f g h i r ix iy sp pc wz af bc de hl im : Int} {p q u v : Bool} {j k : Int} {s : Bool} {w y : Int} {K : AV → Prop} (hK : K (.bool true)) (y1 : mdN j 3 = 2) (y2 : mdN k 8 = 0) (q1 : hiN (prN w (loN ix)) = w) (q2 : loN (prN w (loN ix)) = loN ix) (q3 : hiN (prN (hiN ix) w) = hiN ix) (q4 : loN (prN (hiN ix) w) = w) (q5 : hiN (prN w (loN iy)) = w) (q6 : loN (prN w (loN iy)) = loN iy) (q7 : hiN (prN (hiN iy) w) = hiN iy) (q8 : loN (prN (hiN iy) w) = w) (q9 : prN (hiN ix) (loN ix) = ix) (q10 : prN (hiN iy) (loN iy) = iy) (q11 : prN (hiN y) (loN y) = y) : al0_VC a b c d e f g h i r ix iy sp pc wz af bc de hl im p q u v j k s w y K := by
  have y4 : mdN k 4 = 0 := by rw [md_48, y2]; rfl
  unfold al0_VC
  cases s <;> simp [y1, y2, y4, getN, pairN, aP, cP, dP, eP, fP, gP, hP, ixP, iyP, aQ, bQ, cQ, dQ, eQ, fQ, gQ, hQ, ixQ, iyQ, spQ, raw_pr, q1, q2, q3, q4, q5, q6, q7, q8, q9, q10, q11, hK]
theorem al10_ok {a b c d e f g h i r ix iy sp pc wz af bc de hl im : Int} {p q u v : Bool} {j k : Int} {s : Bool} {w y : Int} {K : AV → Prop} (hK : K (.bool true)) (y1 : mdN j 3 = 0) (y2 : mdN k 8 = 1) (q1 : hiN (prN w (loN ix)) = w) (q2 : loN (prN w (loN ix)) = loN ix) (q3 : hiN (prN (hiN ix) w) = hiN ix) (q4 : loN (prN (hiN ix) w) = w) (q5 : hiN (prN w (loN iy)) = w) (q6 : loN (prN w (loN iy)) = loN iy) (q7 : hiN (prN (hiN iy) w) = hiN iy) (q8 : loN (prN (hiN iy) w) = w) (q9 : prN (hiN ix) (loN ix) = ix) (q10 : prN (hiN iy) (loN iy) = iy) (q11 : prN (hiN y) (loN y) = y) : al1_VC a b c d e f g h i r ix iy sp pc wz af bc de hl im p q u v j k s w y K := by
  have y4 : mdN k 4 = 1 := by rw [md_48, y2]; rfl
  unfold al1_VC
  cases s <;> simp [y1, y2, y4, getN, pairN, aP, cP, dP, eP, fP, gP, hP, ixP, iyP, aQ, bQ, cQ, dQ, eQ, fQ, gQ, hQ, ixQ, iyQ, spQ, raw_pr, q1, q2, q3, q4, q5, q6, q7, q8, q9, q10, q11, hK]
theorem al11_ok {a b c d e f g h i r ix iy sp pc wz af bc de hl im : Int} {p q u v : Bool} {j k : Int} {s : Bool} {w y : Int} {K : AV → Prop} (hK : K (.bool true)) (y1 : mdN j 3 = 1) (y2 : mdN k 8 = 1) (q1 : hiN (prN w (loN ix)) = w) (q2 : loN (prN w (loN ix)) = loN ix) (q3 : hiN (prN (hiN ix) w) = hiN ix) (q4 : loN (prN (hiN ix) w) = w) (q5 : hiN (prN w (loN iy)) = w) (q6 : loN (prN w (loN iy)) = loN iy) (q7 : hiN (prN (hiN iy) w) = hiN iy) (q8 : loN (prN (hiN iy) w) = w) (q9 : prN (hiN ix) (loN ix) = ix) (q10 : prN (hiN iy) (loN iy) = iy) (q11 : prN (hiN y) (loN y) = y) : al1_VC a b c d e f g h i r ix iy sp pc wz af bc de hl im p q u v j k s w y K := by
  have y4 : mdN k 4 = 1 := by rw [md_48, y2]; rfl
  unfold al1_VC
  cases s <;> simp [y1, y2, y4, getN, pairN, aP, cP, dP, eP, fP, gP, hP, ixP, iyP, aQ, bQ, cQ, dQ, eQ, fQ, gQ, hQ, ixQ, iyQ, spQ, raw_pr, q1, q2, q3, q4, q5, q6, q7, q8, q9, q10, q11, hK]
theorem al12_ok {a b c d e f g h i r ix iy sp pc wz af bc de hl im : Int} {p q u v : Bool} {j k : Int} {s : Bool} {w y : Int} {K : AV → Prop} (hK : K (.bool true)) (y1 : mdN j 3 = 2) (y2 : mdN k 8 = 1) (q1 : hiN (prN w (loN ix)) = w) (q2 : loN (prN w (loN ix)) = loN ix) (q3 : hiN (prN (hiN ix) w) = hiN ix) (q4 : loN (prN (hiN ix) w) = w) (q5 : hiN (prN w (loN iy)) = w) (q6 : loN (prN w (loN iy)) = loN iy) (q7 : hiN (prN (hiN iy) w) = hiN iy) (q8 : loN (prN (hiN iy) w) = w) (q9 : prN (hiN ix) (loN ix) = ix) (q10 : prN (hiN iy) (loN iy) = iy) (q11 : prN (hiN y) (loN y) = y) : al1_VC a b c d e f g h i r ix iy sp pc wz af bc de hl im p q u v j k s w y K := by
  have y4 : mdN k 4 = 1 := by rw [md_48, y2]; rfl
  unfold al1_VC
  cases s <;> simp [y1, y2, y4, getN, pairN, aP, cP, dP, eP, fP, gP, hP, ixP, iyP, aQ, bQ, cQ, dQ, eQ, fQ, gQ, hQ, ixQ, iyQ, spQ, raw_pr, q1, q2, q3, q4, q5, q6, q7, q8, q9, q10, q11, hK]
end Go.Proofs.YthmakddlhaeblaaDoor.V
