/- tstate: what its functions answer (part 3). -/
import Derived.Test.YtnfelncgeihihaaTs2
namespace Go.Proofs.Ytnfelncgeihihaa.V
open Go Go.Proofs
set_option maxRecDepth 100000
set_option linter.unusedSimpArgs false
set_option linter.unusedVariables false

theorem tdiv_bd {a b : Int} (h1 : 0 ≤ a) (h2 : 0 < b) : 0 ≤ a.tdiv b ∧ a.tdiv b ≤ a := by
  rw [Int.tdiv_eq_ediv_of_nonneg h1]
  exact ⟨Int.ediv_nonneg h1 (by omega), Int.ediv_le_self _ h1⟩
theorem tmod_bd {a b : Int} (h1 : 0 ≤ a) (h2 : 0 < b) : 0 ≤ a.tmod b ∧ a.tmod b < b ∧ a.tmod b ≤ a := by
  rw [Int.tmod_eq_emod_of_nonneg h1]
  have h3 := Int.mul_ediv_add_emod a b
  have h4 : 0 ≤ b * (a / b) := Int.mul_nonneg (by omega) (Int.ediv_nonneg h1 (by omega))
  exact ⟨Int.emod_nonneg _ (by omega), Int.emod_lt_of_pos _ h2, by omega⟩
@[simp] theorem ite_min {p q : Int} : (if p < q then p else q) = min q p := by omega
@[simp] theorem ite_max {p q : Int} : (if p < q then q else p) = max p q := by omega
theorem tdiv_tmod (a b : Int) : a.tdiv b * b + a.tmod b = a := Int.tdiv_mul_add_tmod a b
theorem lenF_pos {L C T R F W U : Int} (h : 0 < lenF L C T R F W U) : okF L C T R F W U = true ∧ lenF L C T R F W U = L * C := by
  unfold lenF at h ⊢
  split at h
  · rename_i h1
    simp [h1]
  · omega
theorem lenF_cases (L C T R F W U : Int) : lenF L C T R F W U = 0 ∨ (okF L C T R F W U = true ∧ lenF L C T R F W U = L * C ∧ 8 ≤ lenF L C T R F W U ∧ lenF L C T R F W U ≤ 160000) := by
  unfold lenF
  split
  · rename_i h1
    have := okF_sz h1
    exact .inr ⟨h1, rfl, this.1, this.2⟩
  · exact .inl rfl
theorem mayB_true {t : Int} (h : mayB t = true) : 0 ≤ t ∧ t ≤ 1099511627776 := by simpa [mayB] using h


theorem good_pulse : Good Try.prog (lookO [(20, pureO pulseF), (67, pureO mayF), (19, pureO lengthF), (18, pureO checkF)]) := by
  refine Good.pure good3 _ _ ?_
  intro xs v h
  obtain ⟨L, C, T, R, F, W, U, t, rfl, rfl⟩ := pulseF_some h
  exact ⟨by simp, by simp, pulse_sc L C T R F W U t⟩

def spotA (L C T R F W U t : Int) : AV := if lenF L C T R F W U = 0 ∨ mayB t = false then .tup [.agg [.int .i64 0, .int .i64 0, .int .i64 0], .int .i64 2] else .tup [.agg [.int .i64 (t.tdiv (lenF L C T R F W U)), .int .i64 ((t.tmod (lenF L C T R F W U)).tdiv C), .int .i64 (t.tmod C)], .int .i64 0]
def spotF : List AV → Option AV
  | [.agg [.int .i64 L, .int .i64 C, .int .i64 T, .int .i64 R, .int .i64 F, .int .i64 W, .int .i64 U], .int .i64 t] => some (spotA L C T R F W U t)
  | _ => none
@[simp] theorem spotF_ap {L C T R F W U t : Int} : spotF [.agg [.int .i64 L, .int .i64 C, .int .i64 T, .int .i64 R, .int .i64 F, .int .i64 W, .int .i64 U], .int .i64 t] = some (spotA L C T R F W U t) := rfl
theorem spotF_some {xs : List AV} {v : AV} (h : spotF xs = some v) : ∃ L C T R F W U t, xs = [.agg [.int .i64 L, .int .i64 C, .int .i64 T, .int .i64 R, .int .i64 F, .int .i64 W, .int .i64 U], .int .i64 t] ∧ v = spotA L C T R F W U t := by
  unfold spotF at h
  split at h
  · cases h; exact ⟨_, _, _, _, _, _, _, _, rfl, rfl⟩
  · cases h
theorem spot_sc (L C T R F W U t : Int) : SC Try.prog 21 [.agg [.int .i64 L, .int .i64 C, .int .i64 T, .int .i64 R, .int .i64 F, .int .i64 W, .int .i64 U], .int .i64 t] h0 (fun u _ => u = spotA L C T R F W U t) := by
  refine walk good_pulse Try.func21 rfl (by simp [Try.ntmps21]) (by kernel_rfl) ?_
  simp [Try.ntmps21, Try.results21, h0]
  unfold spotA
  have hc := lenF_cases L C T R F W U
  generalize hl : lenF L C T R F W U = l at hc ⊢
  rcases hc with h | ⟨h, h2, h3, h4⟩
  · simp [h]
  · have n0 : l ≠ 0 := by omega
    rcases Bool.eq_false_or_eq_true (mayB t) with h5 | h5
    · obtain ⟨m1, m2⟩ := mayB_true h5
      have hb := okF_bd h
      have c0 : C ≠ 0 := by omega
      have d1 := tdiv_bd m1 (b := l) (by omega)
      have d2 := tmod_bd m1 (b := l) (by omega)
      have d3 := tdiv_bd d2.1 (b := C) (by omega)
      have e1 : IntKind.i64.wrap (t.tdiv l) = t.tdiv l := wrap_in (by omega) (by omega)
      have e2 : IntKind.i64.wrap ((t.tmod l).tdiv C) = (t.tmod l).tdiv C := wrap_in (by omega) (by omega)
      simp [n0, h5, c0, e1, e2]
    · simp [n0, h5]
theorem good_spot : Good Try.prog (lookO [(21, pureO spotF), (20, pureO pulseF), (67, pureO mayF), (19, pureO lengthF), (18, pureO checkF)]) := by
  refine Good.pure good_pulse _ _ ?_
  intro xs v h
  obtain ⟨L, C, T, R, F, W, U, t, rfl, rfl⟩ := spotF_some h
  exact ⟨by simp, by unfold spotA; split <;> simp, spot_sc L C T R F W U t⟩


def classicF : List AV → Option AV
  | [] => some (.agg [.int .i64 311, .int .i64 228, .int .i64 63, .int .i64 192, .int .i64 14, .int .i64 32, .int .i64 36])
  | _ => none
@[simp] theorem classicF_ap : classicF [] = some (.agg [.int .i64 311, .int .i64 228, .int .i64 63, .int .i64 192, .int .i64 14, .int .i64 32, .int .i64 36]) := rfl
theorem classicF_some {xs : List AV} {v : AV} (h : classicF xs = some v) : xs = [] ∧ v = .agg [.int .i64 311, .int .i64 228, .int .i64 63, .int .i64 192, .int .i64 14, .int .i64 32, .int .i64 36] := by
  unfold classicF at h
  split at h
  · cases h; exact ⟨rfl, rfl⟩
  · cases h
theorem classic_sc  : SC Try.prog 22 [] h0 (fun u _ => u = .agg [.int .i64 311, .int .i64 228, .int .i64 63, .int .i64 192, .int .i64 14, .int .i64 32, .int .i64 36]) := by
  refine walk good_spot Try.func22 rfl (by simp [Try.ntmps22]) (by kernel_rfl) ?_
  simp [Try.ntmps22, Try.results22, h0]

theorem good_classic : Good Try.prog (lookO [(22, pureO classicF), (21, pureO spotF), (20, pureO pulseF), (67, pureO mayF), (19, pureO lengthF), (18, pureO checkF)]) := by
  refine Good.pure good_spot _ _ ?_
  intro xs v h
  obtain ⟨rfl, rfl⟩ := classicF_some h
  exact ⟨by simp, by simp, classic_sc ⟩

def nextA (L C T R F W U t : Int) : AV := if lenF L C T R F W U = 0 ∨ 1099511627776 ≤ t then .tup [.int .i64 0, .bool false] else if t < 0 then .tup [.int .i64 0, .bool true] else if 1099511627776 < (t.tdiv (lenF L C T R F W U) + 1) * lenF L C T R F W U then .tup [.int .i64 0, .bool false] else .tup [.int .i64 ((t.tdiv (lenF L C T R F W U) + 1) * lenF L C T R F W U), .bool true]
def nextF : List AV → Option AV
  | [.agg [.int .i64 L, .int .i64 C, .int .i64 T, .int .i64 R, .int .i64 F, .int .i64 W, .int .i64 U], .int .i64 t] => some (nextA L C T R F W U t)
  | _ => none
@[simp] theorem nextF_ap {L C T R F W U t : Int} : nextF [.agg [.int .i64 L, .int .i64 C, .int .i64 T, .int .i64 R, .int .i64 F, .int .i64 W, .int .i64 U], .int .i64 t] = some (nextA L C T R F W U t) := rfl
theorem nextF_some {xs : List AV} {v : AV} (h : nextF xs = some v) : ∃ L C T R F W U t, xs = [.agg [.int .i64 L, .int .i64 C, .int .i64 T, .int .i64 R, .int .i64 F, .int .i64 W, .int .i64 U], .int .i64 t] ∧ v = nextA L C T R F W U t := by
  unfold nextF at h
  split at h
  · cases h; exact ⟨_, _, _, _, _, _, _, _, rfl, rfl⟩
  · cases h
theorem next_sc (L C T R F W U t : Int) : SC Try.prog 23 [.agg [.int .i64 L, .int .i64 C, .int .i64 T, .int .i64 R, .int .i64 F, .int .i64 W, .int .i64 U], .int .i64 t] h0 (fun u _ => u = nextA L C T R F W U t) := by
  refine walk good_classic Try.func23 rfl (by simp [Try.ntmps23]) (by kernel_rfl) ?_
  simp [Try.ntmps23, Try.results23, h0]
  unfold nextA
  have hc := lenF_cases L C T R F W U
  generalize hl : lenF L C T R F W U = l at hc ⊢
  rcases hc with h | ⟨h, h2, h3, h4⟩
  · simp [h]
  · have n0 : l ≠ 0 := by omega
    by_cases h5 : 1099511627776 ≤ t
    · simp [n0, h5]
    · by_cases h6 : t < 0
      · simp [n0, h5, h6]
      · have d1 := tdiv_bd (a := t) (by omega) (b := l) (by omega)
        have d2 := tmod_bd (a := t) (by omega) (b := l) (by omega)
        have d3 := tdiv_tmod t l
        have d4 : (t.tdiv l + 1) * l = t.tdiv l * l + l := by rw [Int.add_mul]; omega
        have e1 : IntKind.i64.wrap (t.tdiv l) = t.tdiv l := wrap_in (by omega) (by omega)
        have e2 : IntKind.i64.wrap (t.tdiv l + 1) = t.tdiv l + 1 := wrap_in (by omega) (by omega)
        have e3 : IntKind.i64.wrap ((t.tdiv l + 1) * l) = (t.tdiv l + 1) * l := wrap_in (by omega) (by omega)
        by_cases h7 : 1099511627776 < (t.tdiv l + 1) * l
        · simp [n0, h5, h6, e1, e2, e3, h7]
        · simp [n0, h5, h6, e1, e2, e3, h7]
theorem good_next : Good Try.prog (lookO [(23, pureO nextF), (22, pureO classicF), (21, pureO spotF), (20, pureO pulseF), (67, pureO mayF), (19, pureO lengthF), (18, pureO checkF)]) := by
  refine Good.pure good_classic _ _ ?_
  intro xs v h
  obtain ⟨L, C, T, R, F, W, U, t, rfl, rfl⟩ := nextF_some h
  exact ⟨by simp, by unfold nextA; split <;> (try split) <;> (try split) <;> simp, next_sc L C T R F W U t⟩

def below (l U t : Int) : Int := t.tdiv l * U + min (t.tmod l) U
theorem below_bd {l U t : Int} (h1 : 8 ≤ l) (h2 : 1 ≤ U) (h3 : U ≤ 64) (h4 : 0 ≤ t) (h5 : t ≤ 1099511627777) : IntKind.i64.wrap (t.tdiv l) = t.tdiv l ∧ IntKind.i64.wrap (t.tdiv l * U) = t.tdiv l * U ∧ IntKind.i64.wrap (below l U t) = below l U t ∧ 0 ≤ below l U t ∧ below l U t ≤ 70368744177793 := by
  have d1 := tdiv_bd h4 (b := l) (by omega)
  have d2 := tmod_bd h4 (b := l) (by omega)
  have h6 : 0 ≤ t.tdiv l * U := Int.mul_nonneg d1.1 (by omega)
  have h7 : t.tdiv l * U ≤ 1099511627777 * 64 := Int.mul_le_mul (by omega) h3 (by omega) (by omega)
  have h8 : 0 ≤ below l U t ∧ below l U t ≤ 70368744177793 := by
    have h9 : t.tdiv l * 8 ≤ t.tdiv l * l := Int.mul_le_mul_of_nonneg_left h1 d1.1
    have h10 := tdiv_tmod t l
    have h11 : t.tdiv l * U ≤ 137438953473 * 64 := Int.mul_le_mul (by omega) h3 (by omega) (by omega)
    unfold below; omega
  exact ⟨wrap_in (by omega) (by omega), wrap_in (by omega) (by omega), wrap_in (by omega) (by omega), h8⟩
theorem below_sc (L C T R F W U l t : Int) (σ : AH) (p q : Nat) (hp : σ.get p = .cells 2 [.int .i64 l]) (hq : σ.get q = .cells 23 [.int .i64 L, .int .i64 C, .int .i64 T, .int .i64 R, .int .i64 F, .int .i64 W, .int .i64 U])
    (h1 : 8 ≤ l) (h2 : 1 ≤ U) (h3 : U ≤ 64) (h4 : 0 ≤ t) (h5 : t ≤ 1099511627777) (Q : AV → AH → Prop) (h : Q (.int .i64 (below l U t)) σ) :
    SC Try.prog 68 [.int .i64 t, .ptr p 0, .ptr q 0] σ Q := by
  refine walk good_next Try.func68 rfl (by simp [Try.ntmps68]) (by kernel_rfl) ?_
  obtain ⟨e1, e2, e3, _⟩ := below_bd h1 h2 h3 h4 h5
  have n0 : l ≠ 0 := by omega
  unfold below at e3 h
  simp [Try.ntmps68, Try.results68, hp, hq, n0, e1, e2, e3]
  exact h

def pulsesN (L C T R F W U a b : Int) : Int := if lenF L C T R F W U = 0 ∨ min b 1099511627777 ≤ max 0 a then 0 else below (lenF L C T R F W U) U (min b 1099511627777) - below (lenF L C T R F W U) U (max 0 a)
def pulsesF : List AV → Option AV
  | [.agg [.int .i64 L, .int .i64 C, .int .i64 T, .int .i64 R, .int .i64 F, .int .i64 W, .int .i64 U], .int .i64 a, .int .i64 b] => some (.int .i64 (pulsesN L C T R F W U a b))
  | _ => none
@[simp] theorem pulsesF_ap {L C T R F W U a b : Int} : pulsesF [.agg [.int .i64 L, .int .i64 C, .int .i64 T, .int .i64 R, .int .i64 F, .int .i64 W, .int .i64 U], .int .i64 a, .int .i64 b] = some (.int .i64 (pulsesN L C T R F W U a b)) := rfl
theorem pulsesF_some {xs : List AV} {v : AV} (h : pulsesF xs = some v) : ∃ L C T R F W U a b, xs = [.agg [.int .i64 L, .int .i64 C, .int .i64 T, .int .i64 R, .int .i64 F, .int .i64 W, .int .i64 U], .int .i64 a, .int .i64 b] ∧ v = .int .i64 (pulsesN L C T R F W U a b) := by
  unfold pulsesF at h
  split at h
  · cases h; exact ⟨_, _, _, _, _, _, _, _, _, rfl, rfl⟩
  · cases h
theorem pulses_sc (L C T R F W U a b : Int) : SC Try.prog 24 [.agg [.int .i64 L, .int .i64 C, .int .i64 T, .int .i64 R, .int .i64 F, .int .i64 W, .int .i64 U], .int .i64 a, .int .i64 b] h0 (fun u _ => u = .int .i64 (pulsesN L C T R F W U a b)) := by
  refine walk good_next Try.func24 rfl (by simp [Try.ntmps24]) (by kernel_rfl) ?_
  simp [Try.ntmps24, Try.results24, h0]
  unfold pulsesN
  have hc := lenF_cases L C T R F W U
  generalize hl : lenF L C T R F W U = l at hc ⊢
  rcases hc with h | ⟨h, h2, h3, h4⟩
  · simp [h]
  · have n0 : l ≠ 0 := by omega
    have hb := okF_bd h
    by_cases h5 : min b 1099511627777 ≤ max 0 a
    · simp [n0, h5]
    · simp [n0, h5]
      obtain ⟨_, _, _, x1, x2⟩ := below_bd (l := l) (U := U) (t := min b 1099511627777) h3 (by omega) (by omega) (by omega) (by omega)
      obtain ⟨_, _, _, y1, y2⟩ := below_bd (l := l) (U := U) (t := max 0 a) h3 (by omega) (by omega) (by omega) (by omega)
      have e1 : IntKind.i64.wrap (below l U (min b 1099511627777) - below l U (max 0 a)) = below l U (min b 1099511627777) - below l U (max 0 a) := wrap_in (by omega) (by omega)
      refine below_sc L C T R F W U l _ _ _ _ (by simp) (by simp) h3 (by omega) (by omega) (by omega) (by omega) _ ?_
      simp
      refine below_sc L C T R F W U l _ _ _ _ (by simp) (by simp) h3 (by omega) (by omega) (by omega) (by omega) _ ?_
      simp [e1]
theorem good_pulses : Good Try.prog (lookO [(24, pureO pulsesF), (23, pureO nextF), (22, pureO classicF), (21, pureO spotF), (20, pureO pulseF), (67, pureO mayF), (19, pureO lengthF), (18, pureO checkF)]) := by
  refine Good.pure good_next _ _ ?_
  intro xs v h
  obtain ⟨L, C, T, R, F, W, U, a, b, rfl, rfl⟩ := pulsesF_some h
  exact ⟨by simp, by simp, pulses_sc L C T R F W U a b⟩

end Go.Proofs.Ytnfelncgeihihaa.V
