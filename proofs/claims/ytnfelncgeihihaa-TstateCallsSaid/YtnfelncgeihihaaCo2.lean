/- The reference for screens: what its functions answer (part 2). -/
import Derived.Test.YtnfelncgeihihaaRa4
namespace Go.Proofs.Ytnfelncgeihihaa.V
open Go Go.Proofs
set_option maxRecDepth 100000
set_option linter.unusedSimpArgs false
set_option linter.unusedVariables false


def may2F : List AV → Option AV
  | [.int .i64 t] => some (.bool (mayB t))
  | _ => none
@[simp] theorem may2F_ap {t : Int} : may2F [.int .i64 t] = some (.bool (mayB t)) := rfl
theorem may2F_some {xs : List AV} {v : AV} (h : may2F xs = some v) : ∃ t, xs = [.int .i64 t] ∧ v = .bool (mayB t) := by
  unfold may2F at h
  split at h
  · cases h; exact ⟨_, rfl, rfl⟩
  · cases h
theorem may2_sc (t : Int) : SC Try.prog 74 [.int .i64 t] h0 (fun u _ => u = .bool (mayB t)) := by
  refine walk good_when Try.func74 rfl (by simp [Try.ntmps74]) (by kernel_rfl) ?_
  simp [Try.ntmps74, Try.results74, h0]
  refine guardS_if ?_ ?_ <;> intro h1
  · simp [h1, mayB]
  · simp [h1, mayB]
theorem good_may2 : Good Try.prog (lookO [(74, pureO may2F), (29, pureO whenF), (28, pureO length2F), (27, pureO check2F), (26, pureO livesBF), (43, pureO classicRF), (30, pureO atF), (69, pureO beamF), (35, pureO whereF), (34, pureO attrF), (36, pureO pixelF), (71, pureO onF), (25, pureO pickF), (17, pureO livesF), (24, pureO pulsesF), (23, pureO nextF), (22, pureO classicF), (21, pureO spotF), (20, pureO pulseF), (67, pureO mayF), (19, pureO lengthF), (18, pureO checkF)]) := by
  refine Good.pure good_when _ _ ?_
  intro xs v h
  obtain ⟨t, rfl, rfl⟩ := may2F_some h
  exact ⟨by simp, by simp, may2_sc t⟩


def spot2F : List AV → Option AV
  | [.agg [.int .i64 L, .int .i64 C, .int .i64 T, .int .i64 R, .int .i64 F, .int .i64 W, .int .i64 U], .int .i64 t] => some (spotA L C T R F W U t)
  | _ => none
@[simp] theorem spot2F_ap {L C T R F W U t : Int} : spot2F [.agg [.int .i64 L, .int .i64 C, .int .i64 T, .int .i64 R, .int .i64 F, .int .i64 W, .int .i64 U], .int .i64 t] = some (spotA L C T R F W U t) := rfl
theorem spot2F_some {xs : List AV} {v : AV} (h : spot2F xs = some v) : ∃ L C T R F W U t, xs = [.agg [.int .i64 L, .int .i64 C, .int .i64 T, .int .i64 R, .int .i64 F, .int .i64 W, .int .i64 U], .int .i64 t] ∧ v = spotA L C T R F W U t := by
  unfold spot2F at h
  split at h
  · cases h; exact ⟨_, _, _, _, _, _, _, _, rfl, rfl⟩
  · cases h
theorem spot2_sc (L C T R F W U t : Int) : SC Try.prog 41 [.agg [.int .i64 L, .int .i64 C, .int .i64 T, .int .i64 R, .int .i64 F, .int .i64 W, .int .i64 U], .int .i64 t] h0 (fun u _ => u = spotA L C T R F W U t) := by
  refine walk good_may2 Try.func41 rfl (by simp [Try.ntmps41]) (by kernel_rfl) ?_
  simp [Try.ntmps41, Try.results41, h0]
  unfold spotA
  have hc := lenF_cases L C T R F W U
  rcases hc with h | ⟨h, h2, h3, h4⟩
  · have hk : okF L C T R F W U = false := by
      rw [Bool.eq_false_iff]; intro q
      have := okF_sz q
      simp [lenF, q] at h
      omega
    simp [h, hk]
  · generalize hl : lenF L C T R F W U = l at h2 h3 h4 ⊢
    have n0 : l ≠ 0 := by omega
    rcases Bool.eq_false_or_eq_true (mayB t) with h5 | h5
    · obtain ⟨m1, m2⟩ := mayB_true h5
      have hb := okF_bd h
      have c0 : C ≠ 0 := by omega
      have d1 := tdiv_bd m1 (b := l) (by omega)
      have d2 := tmod_bd m1 (b := l) (by omega)
      have d3 := tdiv_bd d2.1 (b := C) (by omega)
      have d4 : (t.tmod l).tmod C = t.tmod C := by
        rw [Int.tmod_eq_emod_of_nonneg d2.1, Int.tmod_eq_emod_of_nonneg m1, Int.tmod_eq_emod_of_nonneg m1, h2]
        exact Int.emod_emod_of_dvd t (Int.dvd_mul_left _ _)
      have e1 : IntKind.i64.wrap (t.tdiv l) = t.tdiv l := wrap_in (by omega) (by omega)
      have e2 : IntKind.i64.wrap ((t.tmod l).tdiv C) = (t.tmod l).tdiv C := wrap_in (by omega) (by omega)
      simp [h, hl, n0, h5, c0, e1, e2, d4]
    · simp [h, hl, n0, h5]
theorem good_spot2 : Good Try.prog (lookO [(41, pureO spot2F), (74, pureO may2F), (29, pureO whenF), (28, pureO length2F), (27, pureO check2F), (26, pureO livesBF), (43, pureO classicRF), (30, pureO atF), (69, pureO beamF), (35, pureO whereF), (34, pureO attrF), (36, pureO pixelF), (71, pureO onF), (25, pureO pickF), (17, pureO livesF), (24, pureO pulsesF), (23, pureO nextF), (22, pureO classicF), (21, pureO spotF), (20, pureO pulseF), (67, pureO mayF), (19, pureO lengthF), (18, pureO checkF)]) := by
  refine Good.pure good_may2 _ _ ?_
  intro xs v h
  obtain ⟨L, C, T, R, F, W, U, t, rfl, rfl⟩ := spot2F_some h
  exact ⟨by simp, by unfold spotA; split <;> simp, spot2_sc L C T R F W U t⟩

end Go.Proofs.Ytnfelncgeihihaa.V
