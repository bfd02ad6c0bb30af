/- raster: what its functions answer (part 2), and what the reference for screens answers. -/
import Derived.Test.YtnfelncgeihihaaRa1
namespace Go.Proofs.Ytnfelncgeihihaa.V
open Go Go.Proofs
set_option maxRecDepth 100000
set_option linter.unusedSimpArgs false
set_option linter.unusedVariables false

theorem okF_iff {L C T R F W U : Int} : okF L C T R F W U = true ↔ (1 ≤ L ∧ L ≤ 400) ∧ (8 ≤ C ∧ C ≤ 400 ∧ C.tmod 4 = 0) ∧ (0 ≤ R ∧ R ≤ 192 ∧ R.tmod 8 = 0) ∧ (0 ≤ W ∧ W ≤ 32 ∧ W.tmod 2 = 0) ∧ (1 ≤ F ∧ F ≤ 400) ∧ (1 ≤ U ∧ U ≤ 64) ∧ (0 ≤ T ∧ T ≤ 400) ∧ T + R ≤ L ∧ F + 4 * W ≤ C ∧ U ≤ L * C := by
  simp [okF, Scr.ok, wi, and_assoc]
theorem and_mask {x : Int} (i : Nat) (hi : i ≤ 63) (h0 : 0 ≤ x) (h1 : x ≤ 9223372036854775807) : bits .and .i64 x (2 ^ i - 1) = x % 2 ^ i :=
  bits_mask .i64 63 (by decide) (fun n a b => wrap_in (by omega) (by omega)) i hi x h0 (by omega)
theorem and1 {x : Int} (h0 : 0 ≤ x) (h1 : x ≤ 9223372036854775807) : bits .and .i64 x 1 = x % 2 := by simpa using and_mask 1 (by decide) h0 h1
theorem and7 {x : Int} (h0 : 0 ≤ x) (h1 : x ≤ 9223372036854775807) : bits .and .i64 x 7 = x % 8 := by simpa using and_mask 3 (by decide) h0 h1


def check2F : List AV → Option AV
  | [.agg [.int .i64 L, .int .i64 C, .int .i64 T, .int .i64 R, .int .i64 F, .int .i64 W, .int .i64 U]] => some (.int .i64 (if okF L C T R F W U = true then 0 else 2))
  | _ => none
@[simp] theorem check2F_ap {L C T R F W U : Int} : check2F [.agg [.int .i64 L, .int .i64 C, .int .i64 T, .int .i64 R, .int .i64 F, .int .i64 W, .int .i64 U]] = some (.int .i64 (if okF L C T R F W U = true then 0 else 2)) := rfl
theorem check2F_some {xs : List AV} {v : AV} (h : check2F xs = some v) : ∃ L C T R F W U, xs = [.agg [.int .i64 L, .int .i64 C, .int .i64 T, .int .i64 R, .int .i64 F, .int .i64 W, .int .i64 U]] ∧ v = .int .i64 (if okF L C T R F W U = true then 0 else 2) := by
  unfold check2F at h
  split at h
  · cases h; exact ⟨_, _, _, _, _, _, _, rfl, rfl⟩
  · cases h
theorem check2_sc (L C T R F W U : Int) : SC Try.prog 27 [.agg [.int .i64 L, .int .i64 C, .int .i64 T, .int .i64 R, .int .i64 F, .int .i64 W, .int .i64 U]] h0 (fun u _ => u = .int .i64 (if okF L C T R F W U = true then 0 else 2)) := by
  refine walk good_livesB Try.func27 rfl (by simp [Try.ntmps27]) (by kernel_rfl) ?_
  simp [Try.ntmps27, Try.results27, h0]
  by_cases c0 : L < 1
  · have hk : okF L C T R F W U = false := by rw [Bool.eq_false_iff]; intro hh; have := okF_iff.1 hh; omega
    simp [c0, hk]
  by_cases c1 : 400 < L
  · have hk : okF L C T R F W U = false := by rw [Bool.eq_false_iff]; intro hh; have := okF_iff.1 hh; omega
    simp [c0, c1, hk]
  by_cases c2 : C < 8
  · have hk : okF L C T R F W U = false := by rw [Bool.eq_false_iff]; intro hh; have := okF_iff.1 hh; omega
    simp [c0, c1, c2, hk]
  by_cases c3 : 400 < C
  · have hk : okF L C T R F W U = false := by rw [Bool.eq_false_iff]; intro hh; have := okF_iff.1 hh; omega
    simp [c0, c1, c2, c3, hk]
  by_cases c4 : C.tmod 4 ≠ 0
  · have hk : okF L C T R F W U = false := by rw [Bool.eq_false_iff]; intro hh; have := okF_iff.1 hh; omega
    simp [c0, c1, c2, c3, c4, hk]
  have z4 : C.tmod 4 = 0 := by omega
  by_cases c5 : R < 0
  · have hk : okF L C T R F W U = false := by rw [Bool.eq_false_iff]; intro hh; have := okF_iff.1 hh; omega
    simp [c0, c1, c2, c3, z4, c5, hk]
  by_cases c6 : 192 < R
  · have hk : okF L C T R F W U = false := by rw [Bool.eq_false_iff]; intro hh; have := okF_iff.1 hh; omega
    simp [c0, c1, c2, c3, z4, c5, c6, hk]
  by_cases c7 : R.tmod 8 ≠ 0
  · have hk : okF L C T R F W U = false := by rw [Bool.eq_false_iff]; intro hh; have := okF_iff.1 hh; omega
    simp [c0, c1, c2, c3, z4, c5, c6, c7, hk]
  have z7 : R.tmod 8 = 0 := by omega
  by_cases c8 : W < 0
  · have hk : okF L C T R F W U = false := by rw [Bool.eq_false_iff]; intro hh; have := okF_iff.1 hh; omega
    simp [c0, c1, c2, c3, z4, c5, c6, z7, c8, hk]
  by_cases c9 : 32 < W
  · have hk : okF L C T R F W U = false := by rw [Bool.eq_false_iff]; intro hh; have := okF_iff.1 hh; omega
    simp [c0, c1, c2, c3, z4, c5, c6, z7, c8, c9, hk]
  by_cases c10 : W.tmod 2 ≠ 0
  · have hk : okF L C T R F W U = false := by rw [Bool.eq_false_iff]; intro hh; have := okF_iff.1 hh; omega
    simp [c0, c1, c2, c3, z4, c5, c6, z7, c8, c9, c10, hk]
  have z10 : W.tmod 2 = 0 := by omega
  by_cases c11 : U < 1
  · have hk : okF L C T R F W U = false := by rw [Bool.eq_false_iff]; intro hh; have := okF_iff.1 hh; omega
    simp [c0, c1, c2, c3, z4, c5, c6, z7, c8, c9, z10, c11, hk]
  by_cases c12 : 64 < U
  · have hk : okF L C T R F W U = false := by rw [Bool.eq_false_iff]; intro hh; have := okF_iff.1 hh; omega
    simp [c0, c1, c2, c3, z4, c5, c6, z7, c8, c9, z10, c11, c12, hk]
  have lb : 1 * 8 ≤ L * C := Int.mul_le_mul (by omega) (by omega) (by omega) (by omega)
  have ub : L * C ≤ 400 * 400 := Int.mul_le_mul (by omega) (by omega) (by omega) (by omega)
  have w0 : IntKind.i64.wrap (L * C) = L * C := wrap_in (by omega) (by omega)
  by_cases c13 : L * C < U
  · have hk : okF L C T R F W U = false := by rw [Bool.eq_false_iff]; intro hh; have := okF_iff.1 hh; omega
    simp [c0, c1, c2, c3, z4, c5, c6, z7, c8, c9, z10, c11, c12, w0, c13, hk]
  by_cases c14 : T < 0
  · have hk : okF L C T R F W U = false := by rw [Bool.eq_false_iff]; intro hh; have := okF_iff.1 hh; omega
    simp [c0, c1, c2, c3, z4, c5, c6, z7, c8, c9, z10, c11, c12, w0, c13, c14, hk]
  have w1 : IntKind.i64.wrap (L - R) = L - R := wrap_in (by omega) (by omega)
  by_cases c15 : L - R < T
  · have hk : okF L C T R F W U = false := by rw [Bool.eq_false_iff]; intro hh; have := okF_iff.1 hh; omega
    simp [c0, c1, c2, c3, z4, c5, c6, z7, c8, c9, z10, c11, c12, w0, c13, c14, w1, c15, hk]
  by_cases c16 : F < 1
  · have hk : okF L C T R F W U = false := by rw [Bool.eq_false_iff]; intro hh; have := okF_iff.1 hh; omega
    simp [c0, c1, c2, c3, z4, c5, c6, z7, c8, c9, z10, c11, c12, w0, c13, c14, w1, c15, c16, hk]
  have w2 : IntKind.i64.wrap (4 * W) = 4 * W := wrap_in (by omega) (by omega)
  have w3 : IntKind.i64.wrap (C - 4 * W) = C - 4 * W := wrap_in (by omega) (by omega)
  by_cases c17 : C - 4 * W < F
  · have hk : okF L C T R F W U = false := by rw [Bool.eq_false_iff]; intro hh; have := okF_iff.1 hh; omega
    simp [c0, c1, c2, c3, z4, c5, c6, z7, c8, c9, z10, c11, c12, w0, c13, c14, w1, c15, c16, w2, w3, c17, hk]
  have hk : okF L C T R F W U = true := okF_iff.2 (by omega)
  simp [c0, c1, c2, c3, z4, c5, c6, z7, c8, c9, z10, c11, c12, w0, c13, c14, w1, c15, c16, w2, w3, c17, hk]
theorem good_check2 : Good Try.prog (lookO [(27, pureO check2F), (26, pureO livesBF), (43, pureO classicRF), (30, pureO atF), (69, pureO beamF), (35, pureO whereF), (34, pureO attrF), (36, pureO pixelF), (71, pureO onF), (25, pureO pickF), (17, pureO livesF), (24, pureO pulsesF), (23, pureO nextF), (22, pureO classicF), (21, pureO spotF), (20, pureO pulseF), (67, pureO mayF), (19, pureO lengthF), (18, pureO checkF)]) := by
  refine Good.pure good_livesB _ _ ?_
  intro xs v h
  obtain ⟨L, C, T, R, F, W, U, rfl, rfl⟩ := check2F_some h
  exact ⟨by simp, by simp, check2_sc L C T R F W U⟩


def length2F : List AV → Option AV
  | [.agg [.int .i64 L, .int .i64 C, .int .i64 T, .int .i64 R, .int .i64 F, .int .i64 W, .int .i64 U]] => some (.int .i64 (lenF L C T R F W U))
  | _ => none
@[simp] theorem length2F_ap {L C T R F W U : Int} : length2F [.agg [.int .i64 L, .int .i64 C, .int .i64 T, .int .i64 R, .int .i64 F, .int .i64 W, .int .i64 U]] = some (.int .i64 (lenF L C T R F W U)) := rfl
theorem length2F_some {xs : List AV} {v : AV} (h : length2F xs = some v) : ∃ L C T R F W U, xs = [.agg [.int .i64 L, .int .i64 C, .int .i64 T, .int .i64 R, .int .i64 F, .int .i64 W, .int .i64 U]] ∧ v = .int .i64 (lenF L C T R F W U) := by
  unfold length2F at h
  split at h
  · cases h; exact ⟨_, _, _, _, _, _, _, rfl, rfl⟩
  · cases h
theorem length2_sc (L C T R F W U : Int) : SC Try.prog 28 [.agg [.int .i64 L, .int .i64 C, .int .i64 T, .int .i64 R, .int .i64 F, .int .i64 W, .int .i64 U]] h0 (fun u _ => u = .int .i64 (lenF L C T R F W U)) := by
  refine walk good_check2 Try.func28 rfl (by simp [Try.ntmps28]) (by kernel_rfl) ?_
  simp [Try.ntmps28, Try.results28, h0]
  rcases Bool.eq_false_or_eq_true (okF L C T R F W U) with h | h
  · have hb := okF_sz h
    have e1 : IntKind.i64.wrap (L * C) = L * C := wrap_in (by omega) (by omega)
    simp [h, lenF, e1]
  · simp [h, lenF]
theorem good_length2 : Good Try.prog (lookO [(28, pureO length2F), (27, pureO check2F), (26, pureO livesBF), (43, pureO classicRF), (30, pureO atF), (69, pureO beamF), (35, pureO whereF), (34, pureO attrF), (36, pureO pixelF), (71, pureO onF), (25, pureO pickF), (17, pureO livesF), (24, pureO pulsesF), (23, pureO nextF), (22, pureO classicF), (21, pureO spotF), (20, pureO pulseF), (67, pureO mayF), (19, pureO lengthF), (18, pureO checkF)]) := by
  refine Good.pure good_check2 _ _ ?_
  intro xs v h
  obtain ⟨L, C, T, R, F, W, U, rfl, rfl⟩ := length2F_some h
  exact ⟨by simp, by simp, length2_sc L C T R F W U⟩

def whenA (L C T R F W U x y : Int) : AV := if okF L C T R F W U = true ∧ (0 ≤ x ∧ x < W ∧ 0 ≤ y ∧ y < R) then .tup [.int .i64 ((T + y) * C + (F + x / 2 * 8 + x % 2 * 2)), .bool true] else .tup [.int .i64 0, .bool false]
def whenF : List AV → Option AV
  | [.agg [.int .i64 L, .int .i64 C, .int .i64 T, .int .i64 R, .int .i64 F, .int .i64 W, .int .i64 U], .int .i64 x, .int .i64 y] => some (whenA L C T R F W U x y)
  | _ => none
@[simp] theorem whenF_ap {L C T R F W U x y : Int} : whenF [.agg [.int .i64 L, .int .i64 C, .int .i64 T, .int .i64 R, .int .i64 F, .int .i64 W, .int .i64 U], .int .i64 x, .int .i64 y] = some (whenA L C T R F W U x y) := rfl
theorem whenF_some {xs : List AV} {v : AV} (h : whenF xs = some v) : ∃ L C T R F W U x y, xs = [.agg [.int .i64 L, .int .i64 C, .int .i64 T, .int .i64 R, .int .i64 F, .int .i64 W, .int .i64 U], .int .i64 x, .int .i64 y] ∧ v = whenA L C T R F W U x y := by
  unfold whenF at h
  split at h
  · cases h; exact ⟨_, _, _, _, _, _, _, _, _, rfl, rfl⟩
  · cases h
theorem when_sc (L C T R F W U x y : Int) : SC Try.prog 29 [.agg [.int .i64 L, .int .i64 C, .int .i64 T, .int .i64 R, .int .i64 F, .int .i64 W, .int .i64 U], .int .i64 x, .int .i64 y] h0 (fun u _ => u = whenA L C T R F W U x y) := by
  refine walk good_length2 Try.func29 rfl (by simp [Try.ntmps29]) (by kernel_rfl) ?_
  simp [Try.ntmps29, Try.results29, h0]
  unfold whenA
  rcases Bool.eq_false_or_eq_true (okF L C T R F W U) with h | h
  case inr => simp [h]
  by_cases h1 : x < 0
  · have n1 : ¬ (0 ≤ x ∧ x < W ∧ 0 ≤ y ∧ y < R) := by omega
    simp only [n1]; simp [h, h1]
  by_cases h2 : W ≤ x
  · have n1 : ¬ (0 ≤ x ∧ x < W ∧ 0 ≤ y ∧ y < R) := by omega
    simp only [n1]; simp [h, h1, h2]
  by_cases h3 : y < 0
  · have n1 : ¬ (0 ≤ x ∧ x < W ∧ 0 ≤ y ∧ y < R) := by omega
    simp only [n1]; simp [h, h1, h2, h3]
  by_cases h4 : R ≤ y
  · have n1 : ¬ (0 ≤ x ∧ x < W ∧ 0 ≤ y ∧ y < R) := by omega
    simp only [n1]; simp [h, h1, h2, h3, h4]
  have n1 : (0 ≤ x ∧ x < W ∧ 0 ≤ y ∧ y < R) := by omega
  have hb := okF_bd h
  have m1 : 0 * 8 ≤ (T + y) * C := Int.mul_le_mul (by omega) (by omega) (by omega) (by omega)
  have m2 : (T + y) * C ≤ 400 * 400 := Int.mul_le_mul (by omega) (by omega) (by omega) (by omega)
  have e0 := and1 (x := x) (by omega) (by omega)
  have e1 : IntKind.i64.wrap (T + y) = T + y := wrap_in (by omega) (by omega)
  have e2 : IntKind.i64.wrap ((T + y) * C) = (T + y) * C := wrap_in (by omega) (by omega)
  have e3 : IntKind.i64.wrap (x / 2 * 8) = x / 2 * 8 := wrap_in (by omega) (by omega)
  have e4 : IntKind.i64.wrap (F + x / 2 * 8) = F + x / 2 * 8 := wrap_in (by omega) (by omega)
  have e5 : IntKind.i64.wrap (x % 2 * 2) = x % 2 * 2 := wrap_in (by omega) (by omega)
  have e6 : IntKind.i64.wrap (F + x / 2 * 8 + x % 2 * 2) = F + x / 2 * 8 + x % 2 * 2 := wrap_in (by omega) (by omega)
  have e7 : IntKind.i64.wrap ((T + y) * C + (F + x / 2 * 8 + x % 2 * 2)) = (T + y) * C + (F + x / 2 * 8 + x % 2 * 2) := wrap_in (by omega) (by omega)
  simp only [n1]
  simp [h, h1, h2, h3, h4, e0, e1, e2, e3, e4, e5, e6, e7]
theorem good_when : Good Try.prog (lookO [(29, pureO whenF), (28, pureO length2F), (27, pureO check2F), (26, pureO livesBF), (43, pureO classicRF), (30, pureO atF), (69, pureO beamF), (35, pureO whereF), (34, pureO attrF), (36, pureO pixelF), (71, pureO onF), (25, pureO pickF), (17, pureO livesF), (24, pureO pulsesF), (23, pureO nextF), (22, pureO classicF), (21, pureO spotF), (20, pureO pulseF), (67, pureO mayF), (19, pureO lengthF), (18, pureO checkF)]) := by
  refine Good.pure good_length2 _ _ ?_
  intro xs v h
  obtain ⟨L, C, T, R, F, W, U, x, y, rfl, rfl⟩ := whenF_some h
  exact ⟨by simp, by unfold whenA; split <;> simp, when_sc L C T R F W U x y⟩

end Go.Proofs.Ytnfelncgeihihaa.V
