/- raster: the law of the next thing, plainly. -/
import Derived.Test.YtnfelncgeihihaaRnW
namespace Go.Proofs.Ytnfelncgeihihaa.V
open Go Go.Proofs
set_option maxRecDepth 100000
set_option maxHeartbeats 4000000
set_option linter.unusedSimpArgs false
set_option linter.unusedVariables false
theorem pickS_in {w d : Int} (h1 : 1 ≤ d) (h2 : d ≤ 1000) :
    0 ≤ (if d < 1 then 0 else if (w.tmod d).tmod d < 0 then IntKind.i64.wrap ((w.tmod d).tmod d + d) else (w.tmod d).tmod d : Int) ∧ (if d < 1 then 0 else if (w.tmod d).tmod d < 0 then IntKind.i64.wrap ((w.tmod d).tmod d + d) else (w.tmod d).tmod d : Int) < d := by
  rw [if_neg (by omega)]
  have a := Int.tmod_lt_of_pos (w.tmod d) (show 0 < d by omega)
  have b : -d < (w.tmod d).tmod d := by
    have := Int.tmod_lt_of_pos (-(w.tmod d)) (show 0 < d by omega)
    rw [Int.neg_tmod] at this
    omega
  split
  · rw [wrap_in (by omega) (by omega)]; omega
  · omega
theorem nextsLaw_sc (L C T R F W U t w : Int) : SC Try.prog 7 [.agg [.int .i64 L, .int .i64 C, .int .i64 T, .int .i64 R, .int .i64 F, .int .i64 W, .int .i64 U], .int .i64 t, .int .i64 w] h0 (fun u _ => u = .bool true) := by
  refine (funP_sound XRn2_ok (f := 7) (by kernel_rfl) (fun p _ L hL => by cases hL) _ _ _ _ ((nxLaw_vc L C T R F W U t w _).mpr ?_)).mono (fun v σ ⟨s, q⟩ => q)
  unfold nxLaw_VC
  by_cases hk : okF L C T R F W U = true
  · by_cases h0 : t < 0
    · have h1 : ¬ t > 549755813888 := by omega
      simp [hk, h0, h1]
    · by_cases h1 : t > 549755813888
      · simp [hk, h0, h1]
      · have hu : (if t > 0 then t else 0) = t := by split <;> omega
        have hs := nxtN_spec (t := t) hk (by omega) (by omega)
        have hi := okF_iff.1 hk
        have hl : lenF L C T R F W U = L * C := by simp [lenF, hk]
        have hC : C ≤ L * C := by
          have : 1 * C ≤ L * C := Int.mul_le_mul_of_nonneg_right (by omega) (by omega)
          omega
        simp only [hu]
        obtain ⟨a, b, c, d, e⟩ := hs
        have hpre : nxPre L C T R F W U t = true := nxPre_iff.2 ⟨hk, by omega, by omega⟩
        generalize nxtN L C T R F W U t = N at *
        have w1 : IntKind.i64.wrap (N - t) = N - t := wrap_in (by omega) (by omega)
        have w2 : IntKind.i64.wrap (N + 1) = N + 1 := wrap_in (by omega) (by omega)
        have w3 : (if N + 1 > 0 then N + 1 else 0) = N + 1 := by rw [if_pos (by omega)]
        have hpre2 : nxPre L C T R F W U (N + 1) = true := nxPre_iff.2 ⟨hk, by omega, by omega⟩
        have hgt : nxtN L C T R F W U (N + 1) > N := by
          have := (nxtN_spec (t := N + 1) hk (by omega) (by omega)).1
          omega
        have hz := (at_zero (t := N) hk (by omega) (by omega)).1
        have hd : ¬ atD L C T R F W U N = 0 := by simpa [evB] using d
        have g1 : ¬ N < t := by omega
        have g2 : ¬ N - t > lenF L C T R F W U := by omega
        simp only [w1, w2, w3]
        by_cases hNt : N > t
        · have hp := pickS_in (w := w) (d := N - t) (by omega) (by omega)
          generalize (if N - t < 1 then 0 else if (w.tmod (N - t)).tmod (N - t) < 0 then IntKind.i64.wrap ((w.tmod (N - t)).tmod (N - t) + (N - t)) else (w.tmod (N - t)).tmod (N - t) : Int) = p at *
          have w4 : IntKind.i64.wrap (t + p) = t + p := wrap_in (by omega) (by omega)
          have hz2 := (at_zero (t := t + p) hk (by omega) (by omega)).1
          have hd2 : atD L C T R F W U (t + p) = 0 := by
            have := e (t + p) (by omega) (by omega)
            simpa [evB] using this
          have g3 : ¬ N - t = 0 := by omega
          simp only [w4]
          simp [hk, h0, h1, hpre, g1, g2, hz, hd, hNt, hz2, hd2, g3, hpre2, hgt]
        · simp [hk, h0, h1, hpre, g1, g2, hz, hd, hNt, hpre2, hgt]
  · simp [hk]
end Go.Proofs.Ytnfelncgeihihaa.V
