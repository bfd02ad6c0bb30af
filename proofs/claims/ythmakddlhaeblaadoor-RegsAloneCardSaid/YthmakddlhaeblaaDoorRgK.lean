/- regs: Get, Put, Pair, PutPair, each code by itself. -/
import Derived.Test.YthmakddlhaeblaaDoorRgJ
namespace Go.Proofs.YthmakddlhaeblaaDoor.V
open Go Go.Proofs
set_option maxRecDepth 100000
set_option maxHeartbeats 4000000
set_option linter.unusedSimpArgs false
set_option linter.unusedVariables false
theorem get_tr : TrOk Tryd.prog 11 (pureT getF) := by
  refine pureT_ok ?_
  intro xs v h
  unfold getF at h
  split at h
  · cases h
    rename_i a b c d e f g h i r ix iy sp pc wz af bc de hl im p q u v j k
    refine ⟨rfl, rfl, ?_⟩
    have x1 := md_in (n := j) (m := 3) (by decide) (by decide)
    have x2 := md_in (n := k) (m := 8) (by decide) (by decide)
    have y1 : mdN j 3 = 0 ∨ mdN j 3 = 1 ∨ mdN j 3 = 2 := by omega
    have y2 : mdN k 8 = 0 ∨ mdN k 8 = 1 ∨ mdN k 8 = 2 ∨ mdN k 8 = 3 ∨ mdN k 8 = 4 ∨ mdN k 8 = 5 ∨ mdN k 8 = 6 ∨ mdN k 8 = 7 := by omega
    rcases y1 with y1 | y1 | y1
    · rcases y2 with y2 | y2 | y2 | y2 | y2 | y2 | y2 | y2
      · exact sc_of_vcG (by kernel_rfl) (get00_vc _ _ _ _ _ _ _ _ _ _ _ _ _ _ _ _ _ _ _ _ _ _ _ _ j k _) (by unfold get00_VC; simp [y1, y2, getN, hiN, loN])
      · exact sc_of_vcG (by kernel_rfl) (get01_vc _ _ _ _ _ _ _ _ _ _ _ _ _ _ _ _ _ _ _ _ _ _ _ _ j k _) (by unfold get01_VC; simp [y1, y2, getN, hiN, loN])
      · exact sc_of_vcG (by kernel_rfl) (get02_vc _ _ _ _ _ _ _ _ _ _ _ _ _ _ _ _ _ _ _ _ _ _ _ _ j k _) (by unfold get02_VC; simp [y1, y2, getN, hiN, loN])
      · exact sc_of_vcG (by kernel_rfl) (get03_vc _ _ _ _ _ _ _ _ _ _ _ _ _ _ _ _ _ _ _ _ _ _ _ _ j k _) (by unfold get03_VC; simp [y1, y2, getN, hiN, loN])
      · exact sc_of_vcG (by kernel_rfl) (get04_vc _ _ _ _ _ _ _ _ _ _ _ _ _ _ _ _ _ _ _ _ _ _ _ _ j k _) (by unfold get04_VC; simp [y1, y2, getN, hiN, loN])
      · exact sc_of_vcG (by kernel_rfl) (get05_vc _ _ _ _ _ _ _ _ _ _ _ _ _ _ _ _ _ _ _ _ _ _ _ _ j k _) (by unfold get05_VC; simp [y1, y2, getN, hiN, loN])
      · exact sc_of_vcG (by kernel_rfl) (get06_vc _ _ _ _ _ _ _ _ _ _ _ _ _ _ _ _ _ _ _ _ _ _ _ _ j k _) (by unfold get06_VC; simp [y1, y2, getN, hiN, loN])
      · exact sc_of_vcG (by kernel_rfl) (get07_vc _ _ _ _ _ _ _ _ _ _ _ _ _ _ _ _ _ _ _ _ _ _ _ _ j k _) (by unfold get07_VC; simp [y1, y2, getN, hiN, loN])
    · rcases y2 with y2 | y2 | y2 | y2 | y2 | y2 | y2 | y2
      · exact sc_of_vcG (by kernel_rfl) (get10_vc _ _ _ _ _ _ _ _ _ _ _ _ _ _ _ _ _ _ _ _ _ _ _ _ j k _) (by unfold get10_VC; simp [y1, y2, getN, hiN, loN])
      · exact sc_of_vcG (by kernel_rfl) (get11_vc _ _ _ _ _ _ _ _ _ _ _ _ _ _ _ _ _ _ _ _ _ _ _ _ j k _) (by unfold get11_VC; simp [y1, y2, getN, hiN, loN])
      · exact sc_of_vcG (by kernel_rfl) (get12_vc _ _ _ _ _ _ _ _ _ _ _ _ _ _ _ _ _ _ _ _ _ _ _ _ j k _) (by unfold get12_VC; simp [y1, y2, getN, hiN, loN])
      · exact sc_of_vcG (by kernel_rfl) (get13_vc _ _ _ _ _ _ _ _ _ _ _ _ _ _ _ _ _ _ _ _ _ _ _ _ j k _) (by unfold get13_VC; simp [y1, y2, getN, hiN, loN])
      · exact sc_of_vcG (by kernel_rfl) (get14_vc _ _ _ _ _ _ _ _ _ _ _ _ _ _ _ _ _ _ _ _ _ _ _ _ j k _) (by unfold get14_VC; simp [y1, y2, getN, hiN, loN])
      · exact sc_of_vcG (by kernel_rfl) (get15_vc _ _ _ _ _ _ _ _ _ _ _ _ _ _ _ _ _ _ _ _ _ _ _ _ j k _) (by unfold get15_VC; simp [y1, y2, getN, hiN, loN])
      · exact sc_of_vcG (by kernel_rfl) (get16_vc _ _ _ _ _ _ _ _ _ _ _ _ _ _ _ _ _ _ _ _ _ _ _ _ j k _) (by unfold get16_VC; simp [y1, y2, getN, hiN, loN])
      · exact sc_of_vcG (by kernel_rfl) (get17_vc _ _ _ _ _ _ _ _ _ _ _ _ _ _ _ _ _ _ _ _ _ _ _ _ j k _) (by unfold get17_VC; simp [y1, y2, getN, hiN, loN])
    · rcases y2 with y2 | y2 | y2 | y2 | y2 | y2 | y2 | y2
      · exact sc_of_vcG (by kernel_rfl) (get20_vc _ _ _ _ _ _ _ _ _ _ _ _ _ _ _ _ _ _ _ _ _ _ _ _ j k _) (by unfold get20_VC; simp [y1, y2, getN, hiN, loN])
      · exact sc_of_vcG (by kernel_rfl) (get21_vc _ _ _ _ _ _ _ _ _ _ _ _ _ _ _ _ _ _ _ _ _ _ _ _ j k _) (by unfold get21_VC; simp [y1, y2, getN, hiN, loN])
      · exact sc_of_vcG (by kernel_rfl) (get22_vc _ _ _ _ _ _ _ _ _ _ _ _ _ _ _ _ _ _ _ _ _ _ _ _ j k _) (by unfold get22_VC; simp [y1, y2, getN, hiN, loN])
      · exact sc_of_vcG (by kernel_rfl) (get23_vc _ _ _ _ _ _ _ _ _ _ _ _ _ _ _ _ _ _ _ _ _ _ _ _ j k _) (by unfold get23_VC; simp [y1, y2, getN, hiN, loN])
      · exact sc_of_vcG (by kernel_rfl) (get24_vc _ _ _ _ _ _ _ _ _ _ _ _ _ _ _ _ _ _ _ _ _ _ _ _ j k _) (by unfold get24_VC; simp [y1, y2, getN, hiN, loN])
      · exact sc_of_vcG (by kernel_rfl) (get25_vc _ _ _ _ _ _ _ _ _ _ _ _ _ _ _ _ _ _ _ _ _ _ _ _ j k _) (by unfold get25_VC; simp [y1, y2, getN, hiN, loN])
      · exact sc_of_vcG (by kernel_rfl) (get26_vc _ _ _ _ _ _ _ _ _ _ _ _ _ _ _ _ _ _ _ _ _ _ _ _ j k _) (by unfold get26_VC; simp [y1, y2, getN, hiN, loN])
      · exact sc_of_vcG (by kernel_rfl) (get27_vc _ _ _ _ _ _ _ _ _ _ _ _ _ _ _ _ _ _ _ _ _ _ _ _ j k _) (by unfold get27_VC; simp [y1, y2, getN, hiN, loN])
  · cases h
theorem put_tr : TrOk Tryd.prog 10 (pureT putF) := by
  refine pureT_ok ?_
  intro xs v h
  unfold putF at h
  split at h
  · cases h
    rename_i a b c d e f g h i r ix iy sp pc wz af bc de hl im p q u v j k w
    refine ⟨rfl, rfl, ?_⟩
    have x1 := md_in (n := j) (m := 3) (by decide) (by decide)
    have x2 := md_in (n := k) (m := 8) (by decide) (by decide)
    have y1 : mdN j 3 = 0 ∨ mdN j 3 = 1 ∨ mdN j 3 = 2 := by omega
    have y2 : mdN k 8 = 0 ∨ mdN k 8 = 1 ∨ mdN k 8 = 2 ∨ mdN k 8 = 3 ∨ mdN k 8 = 4 ∨ mdN k 8 = 5 ∨ mdN k 8 = 6 ∨ mdN k 8 = 7 := by omega
    rcases y1 with y1 | y1 | y1
    · rcases y2 with y2 | y2 | y2 | y2 | y2 | y2 | y2 | y2
      · exact sc_of_vcG (by kernel_rfl) (put00_vc _ _ _ _ _ _ _ _ _ _ _ _ _ _ _ _ _ _ _ _ _ _ _ _ j k w _) (by unfold put00_VC; simp [y1, y2, aP, cP, dP, eP, fP, gP, hP, ixP, iyP, hiN, loN, prN])
      · exact sc_of_vcG (by kernel_rfl) (put01_vc _ _ _ _ _ _ _ _ _ _ _ _ _ _ _ _ _ _ _ _ _ _ _ _ j k w _) (by unfold put01_VC; simp [y1, y2, aP, cP, dP, eP, fP, gP, hP, ixP, iyP, hiN, loN, prN])
      · exact sc_of_vcG (by kernel_rfl) (put02_vc _ _ _ _ _ _ _ _ _ _ _ _ _ _ _ _ _ _ _ _ _ _ _ _ j k w _) (by unfold put02_VC; simp [y1, y2, aP, cP, dP, eP, fP, gP, hP, ixP, iyP, hiN, loN, prN])
      · exact sc_of_vcG (by kernel_rfl) (put03_vc _ _ _ _ _ _ _ _ _ _ _ _ _ _ _ _ _ _ _ _ _ _ _ _ j k w _) (by unfold put03_VC; simp [y1, y2, aP, cP, dP, eP, fP, gP, hP, ixP, iyP, hiN, loN, prN])
      · exact sc_of_vcG (by kernel_rfl) (put04_vc _ _ _ _ _ _ _ _ _ _ _ _ _ _ _ _ _ _ _ _ _ _ _ _ j k w _) (by unfold put04_VC; simp [y1, y2, aP, cP, dP, eP, fP, gP, hP, ixP, iyP, hiN, loN, prN])
      · exact sc_of_vcG (by kernel_rfl) (put05_vc _ _ _ _ _ _ _ _ _ _ _ _ _ _ _ _ _ _ _ _ _ _ _ _ j k w _) (by unfold put05_VC; simp [y1, y2, aP, cP, dP, eP, fP, gP, hP, ixP, iyP, hiN, loN, prN])
      · exact sc_of_vcG (by kernel_rfl) (put06_vc _ _ _ _ _ _ _ _ _ _ _ _ _ _ _ _ _ _ _ _ _ _ _ _ j k w _) (by unfold put06_VC; simp [y1, y2, aP, cP, dP, eP, fP, gP, hP, ixP, iyP, hiN, loN, prN])
      · exact sc_of_vcG (by kernel_rfl) (put07_vc _ _ _ _ _ _ _ _ _ _ _ _ _ _ _ _ _ _ _ _ _ _ _ _ j k w _) (by unfold put07_VC; simp [y1, y2, aP, cP, dP, eP, fP, gP, hP, ixP, iyP, hiN, loN, prN])
    · rcases y2 with y2 | y2 | y2 | y2 | y2 | y2 | y2 | y2
      · exact sc_of_vcG (by kernel_rfl) (put10_vc _ _ _ _ _ _ _ _ _ _ _ _ _ _ _ _ _ _ _ _ _ _ _ _ j k w _) (by unfold put10_VC; simp [y1, y2, aP, cP, dP, eP, fP, gP, hP, ixP, iyP, hiN, loN, prN])
      · exact sc_of_vcG (by kernel_rfl) (put11_vc _ _ _ _ _ _ _ _ _ _ _ _ _ _ _ _ _ _ _ _ _ _ _ _ j k w _) (by unfold put11_VC; simp [y1, y2, aP, cP, dP, eP, fP, gP, hP, ixP, iyP, hiN, loN, prN])
      · exact sc_of_vcG (by kernel_rfl) (put12_vc _ _ _ _ _ _ _ _ _ _ _ _ _ _ _ _ _ _ _ _ _ _ _ _ j k w _) (by unfold put12_VC; simp [y1, y2, aP, cP, dP, eP, fP, gP, hP, ixP, iyP, hiN, loN, prN])
      · exact sc_of_vcG (by kernel_rfl) (put13_vc _ _ _ _ _ _ _ _ _ _ _ _ _ _ _ _ _ _ _ _ _ _ _ _ j k w _) (by unfold put13_VC; simp [y1, y2, aP, cP, dP, eP, fP, gP, hP, ixP, iyP, hiN, loN, prN])
      · exact sc_of_vcG (by kernel_rfl) (put14_vc _ _ _ _ _ _ _ _ _ _ _ _ _ _ _ _ _ _ _ _ _ _ _ _ j k w _) (by unfold put14_VC; simp [y1, y2, aP, cP, dP, eP, fP, gP, hP, ixP, iyP, hiN, loN, prN])
      · exact sc_of_vcG (by kernel_rfl) (put15_vc _ _ _ _ _ _ _ _ _ _ _ _ _ _ _ _ _ _ _ _ _ _ _ _ j k w _) (by unfold put15_VC; simp [y1, y2, aP, cP, dP, eP, fP, gP, hP, ixP, iyP, hiN, loN, prN])
      · exact sc_of_vcG (by kernel_rfl) (put16_vc _ _ _ _ _ _ _ _ _ _ _ _ _ _ _ _ _ _ _ _ _ _ _ _ j k w _) (by unfold put16_VC; simp [y1, y2, aP, cP, dP, eP, fP, gP, hP, ixP, iyP, hiN, loN, prN])
      · exact sc_of_vcG (by kernel_rfl) (put17_vc _ _ _ _ _ _ _ _ _ _ _ _ _ _ _ _ _ _ _ _ _ _ _ _ j k w _) (by unfold put17_VC; simp [y1, y2, aP, cP, dP, eP, fP, gP, hP, ixP, iyP, hiN, loN, prN])
    · rcases y2 with y2 | y2 | y2 | y2 | y2 | y2 | y2 | y2
      · exact sc_of_vcG (by kernel_rfl) (put20_vc _ _ _ _ _ _ _ _ _ _ _ _ _ _ _ _ _ _ _ _ _ _ _ _ j k w _) (by unfold put20_VC; simp [y1, y2, aP, cP, dP, eP, fP, gP, hP, ixP, iyP, hiN, loN, prN])
      · exact sc_of_vcG (by kernel_rfl) (put21_vc _ _ _ _ _ _ _ _ _ _ _ _ _ _ _ _ _ _ _ _ _ _ _ _ j k w _) (by unfold put21_VC; simp [y1, y2, aP, cP, dP, eP, fP, gP, hP, ixP, iyP, hiN, loN, prN])
      · exact sc_of_vcG (by kernel_rfl) (put22_vc _ _ _ _ _ _ _ _ _ _ _ _ _ _ _ _ _ _ _ _ _ _ _ _ j k w _) (by unfold put22_VC; simp [y1, y2, aP, cP, dP, eP, fP, gP, hP, ixP, iyP, hiN, loN, prN])
      · exact sc_of_vcG (by kernel_rfl) (put23_vc _ _ _ _ _ _ _ _ _ _ _ _ _ _ _ _ _ _ _ _ _ _ _ _ j k w _) (by unfold put23_VC; simp [y1, y2, aP, cP, dP, eP, fP, gP, hP, ixP, iyP, hiN, loN, prN])
      · exact sc_of_vcG (by kernel_rfl) (put24_vc _ _ _ _ _ _ _ _ _ _ _ _ _ _ _ _ _ _ _ _ _ _ _ _ j k w _) (by unfold put24_VC; simp [y1, y2, aP, cP, dP, eP, fP, gP, hP, ixP, iyP, hiN, loN, prN])
      · exact sc_of_vcG (by kernel_rfl) (put25_vc _ _ _ _ _ _ _ _ _ _ _ _ _ _ _ _ _ _ _ _ _ _ _ _ j k w _) (by unfold put25_VC; simp [y1, y2, aP, cP, dP, eP, fP, gP, hP, ixP, iyP, hiN, loN, prN])
      · exact sc_of_vcG (by kernel_rfl) (put26_vc _ _ _ _ _ _ _ _ _ _ _ _ _ _ _ _ _ _ _ _ _ _ _ _ j k w _) (by unfold put26_VC; simp [y1, y2, aP, cP, dP, eP, fP, gP, hP, ixP, iyP, hiN, loN, prN])
      · exact sc_of_vcG (by kernel_rfl) (put27_vc _ _ _ _ _ _ _ _ _ _ _ _ _ _ _ _ _ _ _ _ _ _ _ _ j k w _) (by unfold put27_VC; simp [y1, y2, aP, cP, dP, eP, fP, gP, hP, ixP, iyP, hiN, loN, prN])
  · cases h
theorem pair_tr : TrOk Tryd.prog 13 (pureT pairF) := by
  refine pureT_ok ?_
  intro xs v h
  unfold pairF at h
  split at h
  · cases h
    rename_i a b c d e f g h i r ix iy sp pc wz af bc de hl im p q u v j k s
    refine ⟨rfl, rfl, ?_⟩
    have x1 := md_in (n := j) (m := 3) (by decide) (by decide)
    have x2 := md_in (n := k) (m := 4) (by decide) (by decide)
    have y1 : mdN j 3 = 0 ∨ mdN j 3 = 1 ∨ mdN j 3 = 2 := by omega
    have y2 : mdN k 4 = 0 ∨ mdN k 4 = 1 ∨ mdN k 4 = 2 ∨ mdN k 4 = 3 := by omega
    rcases y1 with y1 | y1 | y1
    · rcases y2 with y2 | y2 | y2 | y2
      · exact sc_of_vcG (by kernel_rfl) (par00_vc _ _ _ _ _ _ _ _ _ _ _ _ _ _ _ _ _ _ _ _ _ _ _ _ j k s _) (by unfold par00_VC; cases s <;> simp [y1, y2, pairN])
      · exact sc_of_vcG (by kernel_rfl) (par01_vc _ _ _ _ _ _ _ _ _ _ _ _ _ _ _ _ _ _ _ _ _ _ _ _ j k s _) (by unfold par01_VC; cases s <;> simp [y1, y2, pairN])
      · exact sc_of_vcG (by kernel_rfl) (par02_vc _ _ _ _ _ _ _ _ _ _ _ _ _ _ _ _ _ _ _ _ _ _ _ _ j k s _) (by unfold par02_VC; cases s <;> simp [y1, y2, pairN])
      · exact sc_of_vcG (by kernel_rfl) (par03_vc _ _ _ _ _ _ _ _ _ _ _ _ _ _ _ _ _ _ _ _ _ _ _ _ j k s _) (by unfold par03_VC; cases s <;> simp [y1, y2, pairN])
    · rcases y2 with y2 | y2 | y2 | y2
      · exact sc_of_vcG (by kernel_rfl) (par10_vc _ _ _ _ _ _ _ _ _ _ _ _ _ _ _ _ _ _ _ _ _ _ _ _ j k s _) (by unfold par10_VC; cases s <;> simp [y1, y2, pairN])
      · exact sc_of_vcG (by kernel_rfl) (par11_vc _ _ _ _ _ _ _ _ _ _ _ _ _ _ _ _ _ _ _ _ _ _ _ _ j k s _) (by unfold par11_VC; cases s <;> simp [y1, y2, pairN])
      · exact sc_of_vcG (by kernel_rfl) (par12_vc _ _ _ _ _ _ _ _ _ _ _ _ _ _ _ _ _ _ _ _ _ _ _ _ j k s _) (by unfold par12_VC; cases s <;> simp [y1, y2, pairN])
      · exact sc_of_vcG (by kernel_rfl) (par13_vc _ _ _ _ _ _ _ _ _ _ _ _ _ _ _ _ _ _ _ _ _ _ _ _ j k s _) (by unfold par13_VC; cases s <;> simp [y1, y2, pairN])
    · rcases y2 with y2 | y2 | y2 | y2
      · exact sc_of_vcG (by kernel_rfl) (par20_vc _ _ _ _ _ _ _ _ _ _ _ _ _ _ _ _ _ _ _ _ _ _ _ _ j k s _) (by unfold par20_VC; cases s <;> simp [y1, y2, pairN])
      · exact sc_of_vcG (by kernel_rfl) (par21_vc _ _ _ _ _ _ _ _ _ _ _ _ _ _ _ _ _ _ _ _ _ _ _ _ j k s _) (by unfold par21_VC; cases s <;> simp [y1, y2, pairN])
      · exact sc_of_vcG (by kernel_rfl) (par22_vc _ _ _ _ _ _ _ _ _ _ _ _ _ _ _ _ _ _ _ _ _ _ _ _ j k s _) (by unfold par22_VC; cases s <;> simp [y1, y2, pairN])
      · exact sc_of_vcG (by kernel_rfl) (par23_vc _ _ _ _ _ _ _ _ _ _ _ _ _ _ _ _ _ _ _ _ _ _ _ _ j k s _) (by unfold par23_VC; cases s <;> simp [y1, y2, pairN])
  · cases h
theorem putP_tr : TrOk Tryd.prog 12 (pureT putPF) := by
  refine pureT_ok ?_
  intro xs v h
  unfold putPF at h
  split at h
  · cases h
    rename_i a b c d e f g h i r ix iy sp pc wz af bc de hl im p q u v j k s w
    refine ⟨rfl, rfl, ?_⟩
    have x1 := md_in (n := j) (m := 3) (by decide) (by decide)
    have x2 := md_in (n := k) (m := 4) (by decide) (by decide)
    have y1 : mdN j 3 = 0 ∨ mdN j 3 = 1 ∨ mdN j 3 = 2 := by omega
    have y2 : mdN k 4 = 0 ∨ mdN k 4 = 1 ∨ mdN k 4 = 2 ∨ mdN k 4 = 3 := by omega
    rcases y1 with y1 | y1 | y1
    · rcases y2 with y2 | y2 | y2 | y2
      · exact sc_of_vcG (by kernel_rfl) (ppr00_vc _ _ _ _ _ _ _ _ _ _ _ _ _ _ _ _ _ _ _ _ _ _ _ _ j k s w _) (by unfold ppr00_VC; cases s <;> simp [y1, y2, aQ, bQ, cQ, dQ, eQ, fQ, gQ, hQ, ixQ, iyQ, spQ])
      · exact sc_of_vcG (by kernel_rfl) (ppr01_vc _ _ _ _ _ _ _ _ _ _ _ _ _ _ _ _ _ _ _ _ _ _ _ _ j k s w _) (by unfold ppr01_VC; cases s <;> simp [y1, y2, aQ, bQ, cQ, dQ, eQ, fQ, gQ, hQ, ixQ, iyQ, spQ])
      · exact sc_of_vcG (by kernel_rfl) (ppr02_vc _ _ _ _ _ _ _ _ _ _ _ _ _ _ _ _ _ _ _ _ _ _ _ _ j k s w _) (by unfold ppr02_VC; cases s <;> simp [y1, y2, aQ, bQ, cQ, dQ, eQ, fQ, gQ, hQ, ixQ, iyQ, spQ])
      · exact sc_of_vcG (by kernel_rfl) (ppr03_vc _ _ _ _ _ _ _ _ _ _ _ _ _ _ _ _ _ _ _ _ _ _ _ _ j k s w _) (by unfold ppr03_VC; cases s <;> simp [y1, y2, aQ, bQ, cQ, dQ, eQ, fQ, gQ, hQ, ixQ, iyQ, spQ])
    · rcases y2 with y2 | y2 | y2 | y2
      · exact sc_of_vcG (by kernel_rfl) (ppr10_vc _ _ _ _ _ _ _ _ _ _ _ _ _ _ _ _ _ _ _ _ _ _ _ _ j k s w _) (by unfold ppr10_VC; cases s <;> simp [y1, y2, aQ, bQ, cQ, dQ, eQ, fQ, gQ, hQ, ixQ, iyQ, spQ])
      · exact sc_of_vcG (by kernel_rfl) (ppr11_vc _ _ _ _ _ _ _ _ _ _ _ _ _ _ _ _ _ _ _ _ _ _ _ _ j k s w _) (by unfold ppr11_VC; cases s <;> simp [y1, y2, aQ, bQ, cQ, dQ, eQ, fQ, gQ, hQ, ixQ, iyQ, spQ])
      · exact sc_of_vcG (by kernel_rfl) (ppr12_vc _ _ _ _ _ _ _ _ _ _ _ _ _ _ _ _ _ _ _ _ _ _ _ _ j k s w _) (by unfold ppr12_VC; cases s <;> simp [y1, y2, aQ, bQ, cQ, dQ, eQ, fQ, gQ, hQ, ixQ, iyQ, spQ])
      · exact sc_of_vcG (by kernel_rfl) (ppr13_vc _ _ _ _ _ _ _ _ _ _ _ _ _ _ _ _ _ _ _ _ _ _ _ _ j k s w _) (by unfold ppr13_VC; cases s <;> simp [y1, y2, aQ, bQ, cQ, dQ, eQ, fQ, gQ, hQ, ixQ, iyQ, spQ])
    · rcases y2 with y2 | y2 | y2 | y2
      · exact sc_of_vcG (by kernel_rfl) (ppr20_vc _ _ _ _ _ _ _ _ _ _ _ _ _ _ _ _ _ _ _ _ _ _ _ _ j k s w _) (by unfold ppr20_VC; cases s <;> simp [y1, y2, aQ, bQ, cQ, dQ, eQ, fQ, gQ, hQ, ixQ, iyQ, spQ])
      · exact sc_of_vcG (by kernel_rfl) (ppr21_vc _ _ _ _ _ _ _ _ _ _ _ _ _ _ _ _ _ _ _ _ _ _ _ _ j k s w _) (by unfold ppr21_VC; cases s <;> simp [y1, y2, aQ, bQ, cQ, dQ, eQ, fQ, gQ, hQ, ixQ, iyQ, spQ])
      · exact sc_of_vcG (by kernel_rfl) (ppr22_vc _ _ _ _ _ _ _ _ _ _ _ _ _ _ _ _ _ _ _ _ _ _ _ _ j k s w _) (by unfold ppr22_VC; cases s <;> simp [y1, y2, aQ, bQ, cQ, dQ, eQ, fQ, gQ, hQ, ixQ, iyQ, spQ])
      · exact sc_of_vcG (by kernel_rfl) (ppr23_vc _ _ _ _ _ _ _ _ _ _ _ _ _ _ _ _ _ _ _ _ _ _ _ _ j k s w _) (by unfold ppr23_VC; cases s <;> simp [y1, y2, aQ, bQ, cQ, dQ, eQ, fQ, gQ, hQ, ixQ, iyQ, spQ])
  · cases h
end Go.Proofs.YthmakddlhaeblaaDoor.V
