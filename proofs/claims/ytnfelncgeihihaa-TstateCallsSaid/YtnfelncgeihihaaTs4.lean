/- The laws of pendulumlaw02 over plain values. -/
import Derived.Test.YtnfelncgeihihaaTs3
namespace Go.Proofs.Ytnfelncgeihihaa.V
open Go Go.Proofs
set_option maxRecDepth 100000
set_option linter.unusedSimpArgs false
set_option linter.unusedVariables false

theorem ok_classic : okF 311 228 63 192 14 32 36 = true := by decide +kernel
theorem len_classic : lenF 311 228 63 192 14 32 36 = 70908 := by decide +kernel
theorem lives_sc : SC Try.prog 17 [] h0 (fun u _ => u = .bool true) := by
  refine walk good_pulses Try.func17 rfl (by simp [Try.ntmps17]) (by kernel_rfl) ?_
  have a1 : spotA 311 228 63 192 14 32 36 70908 = .tup [.agg [.int .i64 1, .int .i64 0, .int .i64 0], .int .i64 0] := by kernel_rfl
  have a2 : spotA 311 228 63 192 14 32 36 14364 = .tup [.agg [.int .i64 0, .int .i64 63, .int .i64 0], .int .i64 0] := by kernel_rfl
  have a3 : pulseB 311 228 63 192 14 32 36 35 = true := by decide +kernel
  have a4 : pulseB 311 228 63 192 14 32 36 36 = false := by decide +kernel
  have a5 : pulsesN 311 228 63 192 14 32 36 30 70910 = 8 := by decide +kernel
  simp [Try.ntmps17, Try.results17, h0, a1, a2, a3, a4, a5, len_classic]
def livesF : List AV → Option AV
  | [] => some (.bool true)
  | _ => none
@[simp] theorem livesF_ap : livesF [] = some (.bool true) := rfl
theorem good_lives : Good Try.prog (lookO [(17, pureO livesF), (24, pureO pulsesF), (23, pureO nextF), (22, pureO classicF), (21, pureO spotF), (20, pureO pulseF), (67, pureO mayF), (19, pureO lengthF), (18, pureO checkF)]) := by
  refine Good.pure good_pulses _ _ ?_
  intro xs v h
  unfold livesF at h
  split at h
  · cases h; exact ⟨by simp, by simp, lives_sc⟩
  · cases h

theorem names_sc : SC Try.prog 4 [] h0 (fun u _ => u = .bool true) := by
  refine walk good_lives Try.func4 rfl (by simp [Try.ntmps4]) (by kernel_rfl) ?_
  have a1 : nextA 311 228 63 192 14 32 36 0 = .tup [.int .i64 70908, .bool true] := by kernel_rfl
  have a2 : pulseB 311 228 63 192 14 32 36 70908 = true := by decide +kernel
  have a3 : pulsesN 311 228 63 192 14 32 36 0 100 = 36 := by decide +kernel
  have a4 : okF 0 0 0 0 0 0 0 = false := by decide +kernel
  simp [Try.ntmps4, Try.results4, h0, a1, a2, a3, a4, ok_classic]

theorem fits_sc (L C T R F W U t : Int) : SC Try.prog 3 [.agg [.int .i64 L, .int .i64 C, .int .i64 T, .int .i64 R, .int .i64 F, .int .i64 W, .int .i64 U], .int .i64 t] h0 (fun u _ => u = .bool true) := by
  refine walk good_lives Try.func3 rfl (by simp [Try.ntmps3]) (by kernel_rfl) ?_
  simp [Try.ntmps3, Try.results3, h0]
  rcases Bool.eq_false_or_eq_true (okF L C T R F W U) with h | h
  · have hb := okF_bd h
    have hs := okF_sz h
    have hl : lenF L C T R F W U = L * C := by simp [lenF, h]
    have e1 : IntKind.i64.wrap (T + R) = T + R := wrap_in (by omega) (by omega)
    have e2 : IntKind.i64.wrap (4 * W) = 4 * W := wrap_in (by omega) (by omega)
    have e3 : IntKind.i64.wrap (F + 4 * W) = F + 4 * W := wrap_in (by omega) (by omega)
    have e4 : IntKind.i64.wrap (L * C) = L * C := wrap_in (by omega) (by omega)
    have e5 : IntKind.i64.wrap (L + 1) = L + 1 := wrap_in (by omega) (by omega)
    have b1 : ¬ L < T + R := by omega
    have b2 : ¬ C < F + 4 * W := by omega
    have b3 : ¬ L * C < U := by omega
    by_cases h1 : t < 0
    · simp [h, hl, e1, e2, e3, e4, e5, b1, b2, b3, h1]
    · by_cases h2 : L * C ≤ t
      · simp [h, hl, e1, e2, e3, e4, e5, b1, b2, b3, h1, h2]
      · rcases Bool.eq_false_or_eq_true (okF (L + 1) C T R F W U) with h3 | h3
        · have hs2 := okF_sz h3
          have hl2 : lenF (L + 1) C T R F W U = (L + 1) * C := by simp [lenF, h3]
          have hx : (L + 1) * C = L * C + C := by rw [Int.add_mul]; omega
          have hm : mayB t = true := by simp [mayB]; omega
          have n1 : L * C ≠ 0 := by omega
          have n2 : (L + 1) * C ≠ 0 := by omega
          have q1 : spotA L C T R F W U t = .tup [.agg [.int .i64 0, .int .i64 (t.tdiv C), .int .i64 (t.tmod C)], .int .i64 0] := by
            simp only [spotA, hl, n1, hm]
            simp [Int.tdiv_eq_zero_of_lt (by omega : 0 ≤ t) (by omega : t < L * C), Int.tmod_eq_of_lt (by omega : 0 ≤ t) (by omega : t < L * C)]
          have q2 : spotA (L + 1) C T R F W U t = .tup [.agg [.int .i64 0, .int .i64 (t.tdiv C), .int .i64 (t.tmod C)], .int .i64 0] := by
            simp only [spotA, hl2, n2, hm]
            simp [Int.tdiv_eq_zero_of_lt (by omega : 0 ≤ t) (by omega : t < (L + 1) * C), Int.tmod_eq_of_lt (by omega : 0 ≤ t) (by omega : t < (L + 1) * C)]
          simp [h, hl, e1, e2, e3, e4, e5, b1, b2, b3, h1, h2, h3, q1, q2]
        · simp [h, hl, e1, e2, e3, e4, e5, b1, b2, b3, h1, h2, h3]
  · have hl : lenF L C T R F W U = 0 := by simp [lenF, h]
    have hp : pulseB L C T R F W U t = false := by simp [pulseB, hl]
    simp [h, hl, hp]
end Go.Proofs.Ytnfelncgeihihaa.V
