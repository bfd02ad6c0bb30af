/- tstate: what its functions answer (part 2: length, pulses, spots). -/
import Derived.Test.YtnfelncgeihihaaTs1
namespace Go.Proofs.Ytnfelncgeihihaa.V
open Go Go.Proofs
set_option maxRecDepth 100000
set_option linter.unusedSimpArgs false
set_option linter.unusedVariables false

def okF (L C T R F W U : Int) : Bool := Scr.ok ⟨L, C, T, R, F, W, U⟩
def lenF (L C T R F W U : Int) : Int := if okF L C T R F W U = true then L * C else 0
theorem okF_bd {L C T R F W U : Int} (h : okF L C T R F W U = true) : (1 ≤ L ∧ L ≤ 400) ∧ (8 ≤ C ∧ C ≤ 400) ∧ (0 ≤ R ∧ R ≤ 192) ∧ (0 ≤ W ∧ W ≤ 32) ∧ (1 ≤ F ∧ F ≤ 400) ∧ (1 ≤ U ∧ U ≤ 64) ∧ (0 ≤ T ∧ T ≤ 400) ∧ T + R ≤ L ∧ F + 4 * W ≤ C ∧ U ≤ L * C := by
  simp [okF, Scr.ok, wi] at h
  omega
theorem okF_sz {L C T R F W U : Int} (h : okF L C T R F W U = true) : 8 ≤ L * C ∧ L * C ≤ 160000 := by
  obtain ⟨⟨a1, a2⟩, ⟨b1, b2⟩, _⟩ := okF_bd h
  have h1 : 1 * 8 ≤ L * C := Int.mul_le_mul a1 b1 (by omega) (by omega)
  have h2 : L * C ≤ 400 * 400 := Int.mul_le_mul a2 b2 (by omega) (by omega)
  omega
def checkF : List AV → Option AV
  | [.agg [.int .i64 L, .int .i64 C, .int .i64 T, .int .i64 R, .int .i64 F, .int .i64 W, .int .i64 U]] => some (.int .i64 (if okF L C T R F W U = true then 0 else 2))
  | _ => none
@[simp] theorem checkF_ap {L C T R F W U : Int} : checkF [.agg [.int .i64 L, .int .i64 C, .int .i64 T, .int .i64 R, .int .i64 F, .int .i64 W, .int .i64 U]] = some (.int .i64 (if okF L C T R F W U = true then 0 else 2)) := rfl
theorem checkF_some {xs : List AV} {v : AV} (h : checkF xs = some v) : ∃ L C T R F W U, xs = [.agg [.int .i64 L, .int .i64 C, .int .i64 T, .int .i64 R, .int .i64 F, .int .i64 W, .int .i64 U]] ∧ v = .int .i64 (if okF L C T R F W U = true then 0 else 2) := by
  unfold checkF at h
  split at h
  · cases h; exact ⟨_, _, _, _, _, _, _, rfl, rfl⟩
  · cases h
theorem good1 : Good Try.prog (lookO [(18, pureO checkF)]) := by
  refine Good.pure (Good.nil mixed) _ _ ?_
  intro xs v h
  obtain ⟨L, C, T, R, F, W, U, rfl, rfl⟩ := checkF_some h
  exact ⟨by simp, by simp, check_sc (Good.nil mixed) ⟨L, C, T, R, F, W, U⟩⟩

def lengthF : List AV → Option AV
  | [.agg [.int .i64 L, .int .i64 C, .int .i64 T, .int .i64 R, .int .i64 F, .int .i64 W, .int .i64 U]] => some (.int .i64 (lenF L C T R F W U))
  | _ => none
@[simp] theorem lengthF_ap {L C T R F W U : Int} : lengthF [.agg [.int .i64 L, .int .i64 C, .int .i64 T, .int .i64 R, .int .i64 F, .int .i64 W, .int .i64 U]] = some (.int .i64 (lenF L C T R F W U)) := rfl
theorem lengthF_some {xs : List AV} {v : AV} (h : lengthF xs = some v) : ∃ L C T R F W U, xs = [.agg [.int .i64 L, .int .i64 C, .int .i64 T, .int .i64 R, .int .i64 F, .int .i64 W, .int .i64 U]] ∧ v = .int .i64 (lenF L C T R F W U) := by
  unfold lengthF at h
  split at h
  · cases h; exact ⟨_, _, _, _, _, _, _, rfl, rfl⟩
  · cases h
theorem length_sc (L C T R F W U : Int) : SC Try.prog 19 [.agg [.int .i64 L, .int .i64 C, .int .i64 T, .int .i64 R, .int .i64 F, .int .i64 W, .int .i64 U]] h0 (fun u _ => u = .int .i64 (lenF L C T R F W U)) := by
  refine walk good1 Try.func19 rfl (by simp [Try.ntmps19]) (by kernel_rfl) ?_
  simp [Try.ntmps19, Try.results19, h0]
  rcases Bool.eq_false_or_eq_true (okF L C T R F W U) with h | h
  · have hb := okF_sz h
    have e1 : IntKind.i64.wrap (L * C) = L * C := wrap_in (by omega) (by omega)
    simp [h, lenF, e1]
  · simp [h, lenF]
theorem good2 : Good Try.prog (lookO [(19, pureO lengthF), (18, pureO checkF)]) := by
  refine Good.pure good1 _ _ ?_
  intro xs v h
  obtain ⟨L, C, T, R, F, W, U, rfl, rfl⟩ := lengthF_some h
  exact ⟨by simp, by simp, length_sc L C T R F W U⟩

def mayB (t : Int) : Bool := decide (0 ≤ t) && decide (t ≤ 1099511627776)
def mayF : List AV → Option AV
  | [.int .i64 t] => some (.bool (mayB t))
  | _ => none
@[simp] theorem mayF_ap {t : Int} : mayF [.int .i64 t] = some (.bool (mayB t)) := rfl
theorem mayF_some {xs : List AV} {v : AV} (h : mayF xs = some v) : ∃ t, xs = [.int .i64 t] ∧ v = .bool (mayB t) := by
  unfold mayF at h
  split at h
  · cases h; exact ⟨_, rfl, rfl⟩
  · cases h
theorem may_sc (t : Int) : SC Try.prog 67 [.int .i64 t] h0 (fun u _ => u = .bool (mayB t)) := by
  refine walk good2 Try.func67 rfl (by simp [Try.ntmps67]) (by kernel_rfl) ?_
  simp [Try.ntmps67, Try.results67, h0]
  refine guardS_if ?_ ?_ <;> intro h1
  · simp [h1, mayB]
  · simp [h1, mayB]
theorem good3 : Good Try.prog (lookO [(67, pureO mayF), (19, pureO lengthF), (18, pureO checkF)]) := by
  refine Good.pure good2 _ _ ?_
  intro xs v h
  obtain ⟨t, rfl, rfl⟩ := mayF_some h
  exact ⟨by simp, by simp, may_sc t⟩

def pulseB (L C T R F W U t : Int) : Bool := decide (0 < lenF L C T R F W U) && mayB t && decide (t.tmod (lenF L C T R F W U) < U)
def pulseF : List AV → Option AV
  | [.agg [.int .i64 L, .int .i64 C, .int .i64 T, .int .i64 R, .int .i64 F, .int .i64 W, .int .i64 U], .int .i64 t] => some (.bool (pulseB L C T R F W U t))
  | _ => none
@[simp] theorem pulseF_ap {L C T R F W U t : Int} : pulseF [.agg [.int .i64 L, .int .i64 C, .int .i64 T, .int .i64 R, .int .i64 F, .int .i64 W, .int .i64 U], .int .i64 t] = some (.bool (pulseB L C T R F W U t)) := rfl
theorem pulseF_some {xs : List AV} {v : AV} (h : pulseF xs = some v) : ∃ L C T R F W U t, xs = [.agg [.int .i64 L, .int .i64 C, .int .i64 T, .int .i64 R, .int .i64 F, .int .i64 W, .int .i64 U], .int .i64 t] ∧ v = .bool (pulseB L C T R F W U t) := by
  unfold pulseF at h
  split at h
  · cases h; exact ⟨_, _, _, _, _, _, _, _, rfl, rfl⟩
  · cases h
theorem pulse_sc (L C T R F W U t : Int) : SC Try.prog 20 [.agg [.int .i64 L, .int .i64 C, .int .i64 T, .int .i64 R, .int .i64 F, .int .i64 W, .int .i64 U], .int .i64 t] h0 (fun u _ => u = .bool (pulseB L C T R F W U t)) := by
  refine walk good3 Try.func20 rfl (by simp [Try.ntmps20]) (by kernel_rfl) ?_
  simp [Try.ntmps20, Try.results20, h0]
  unfold pulseB
  generalize hl : lenF L C T R F W U = l
  refine guardT_if ?_ ?_ <;> intro h1
  · simp [h1]
    refine guardT_bool ?_ ?_ <;> intro h2
    · have h3 : l ≠ 0 := by omega
      simp [h1, h2, h3]
    · simp [h1, h2]
  · simp [h1]

end Go.Proofs.Ytnfelncgeihihaa.V
