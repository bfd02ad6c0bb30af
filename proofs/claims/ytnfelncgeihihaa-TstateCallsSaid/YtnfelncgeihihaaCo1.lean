/- contend: what its functions answer (part 1). -/
import Derived.Test.YtnfelncgeihihaaRa1
import Derived.Test.YtnfelncgeihihaaV16
namespace Go.Proofs.Ytnfelncgeihihaa.V
open Go Go.Proofs
set_option maxRecDepth 100000
set_option linter.unusedSimpArgs false
set_option linter.unusedVariables false

def waitN (L C T R F W U t : Int) : Int := if lenF L C T R F W U = 0 ∨ mayB t = false then 0 else
  if (t.tmod (lenF L C T R F W U)).tdiv C < T ∨ IntKind.i64.wrap (T + R) ≤ (t.tmod (lenF L C T R F W U)).tdiv C ∨ IntKind.i64.wrap (t.tmod C - IntKind.i64.wrap (F - 1)) < 0 ∨ IntKind.i64.wrap (4 * W) ≤ IntKind.i64.wrap (t.tmod C - IntKind.i64.wrap (F - 1)) then 0
  else max 0 (IntKind.i64.wrap (6 - bits .and .i64 (IntKind.i64.wrap (t.tmod C - IntKind.i64.wrap (F - 1))) 7))
def waitF : List AV → Option AV
  | [.agg [.int .i64 L, .int .i64 C, .int .i64 T, .int .i64 R, .int .i64 F, .int .i64 W, .int .i64 U], .int .i64 t] => some (.int .i64 (waitN L C T R F W U t))
  | _ => none
@[simp] theorem waitF_ap {L C T R F W U t : Int} : waitF [.agg [.int .i64 L, .int .i64 C, .int .i64 T, .int .i64 R, .int .i64 F, .int .i64 W, .int .i64 U], .int .i64 t] = some (.int .i64 (waitN L C T R F W U t)) := rfl
theorem waitF_some {xs : List AV} {v : AV} (h : waitF xs = some v) : ∃ L C T R F W U t, xs = [.agg [.int .i64 L, .int .i64 C, .int .i64 T, .int .i64 R, .int .i64 F, .int .i64 W, .int .i64 U], .int .i64 t] ∧ v = .int .i64 (waitN L C T R F W U t) := by
  unfold waitF at h
  split at h
  · cases h; exact ⟨_, _, _, _, _, _, _, _, rfl, rfl⟩
  · cases h
theorem wait_sc (L C T R F W U t : Int) : SC Try.prog 40 [.agg [.int .i64 L, .int .i64 C, .int .i64 T, .int .i64 R, .int .i64 F, .int .i64 W, .int .i64 U], .int .i64 t] h0 (fun u _ => u = .int .i64 (waitN L C T R F W U t)) := by
  refine walk good_livesB Try.func40 rfl (by simp [Try.ntmps40]) (by kernel_rfl) ?_
  simp [Try.ntmps40, Try.results40, h0]
  unfold waitN
  by_cases h : lenF L C T R F W U = 0 ∨ mayB t = false
  · simp [spotA, h]
  · simp [spotA, h]
    generalize (t.tmod (lenF L C T R F W U)).tdiv C = y
    generalize IntKind.i64.wrap (t.tmod C - IntKind.i64.wrap (F - 1)) = q
    by_cases h1 : y < T
    · simp [h1]
    · by_cases h2 : IntKind.i64.wrap (T + R) ≤ y
      · simp [h1, h2]
      · by_cases h3 : q < 0
        · simp [h1, h2, h3]
        · by_cases h4 : IntKind.i64.wrap (4 * W) ≤ q
          · simp [h1, h2, h3, h4]
          · simp [h1, h2, h3, h4]
theorem good_wait : Good Try.prog (lookO [(40, pureO waitF), (26, pureO livesBF), (43, pureO classicRF), (30, pureO atF), (69, pureO beamF), (35, pureO whereF), (34, pureO attrF), (36, pureO pixelF), (71, pureO onF), (25, pureO pickF), (17, pureO livesF), (24, pureO pulsesF), (23, pureO nextF), (22, pureO classicF), (21, pureO spotF), (20, pureO pulseF), (67, pureO mayF), (19, pureO lengthF), (18, pureO checkF)]) := by
  refine Good.pure good_livesB _ _ ?_
  intro xs v h
  obtain ⟨L, C, T, R, F, W, U, t, rfl, rfl⟩ := waitF_some h
  exact ⟨by simp, by simp, wait_sc L C T R F W U t⟩

def okN : List Nat := [13, 37, 39, 73, 44, 42, 72]
theorem okN_ok : okFuns Try.prog okN = true := by kernel_rfl
theorem contendNames_sc : SC Try.prog 13 [] h0 (fun u _ => u = .bool true) :=
  run_true good_wait okN_ok (n := 20) (by kernel_rfl)
end Go.Proofs.Ytnfelncgeihihaa.V
