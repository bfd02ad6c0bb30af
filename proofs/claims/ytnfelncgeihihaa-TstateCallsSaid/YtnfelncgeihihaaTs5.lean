/- The law of pulses over plain values. -/
import Derived.Test.YtnfelncgeihihaaTs4
import Derived.Test.YtnfelncgeihihaaV15
namespace Go.Proofs.Ytnfelncgeihihaa.V
open Go Go.Proofs
set_option maxRecDepth 100000
set_option linter.unusedSimpArgs false
set_option linter.unusedVariables false

def pick (n m : Int) : Int := if m < 1 then 0 else if n.tmod m < 0 then IntKind.i64.wrap (n.tmod m + m) else n.tmod m
theorem pick_bd {n m : Int} (h1 : 1 ≤ m) (h2 : m ≤ 1000000000) : 0 ≤ pick n m ∧ pick n m < m := by
  have a1 := Int.lt_tmod_of_pos n (b := m) (by omega)
  have a2 := Int.tmod_lt_of_pos n (b := m) (by omega)
  unfold pick
  split
  · omega
  · split
    · rw [wrap_in (by omega) (by omega)]; omega
    · omega
def pickF : List AV → Option AV
  | [.int .i64 n, .int .i64 m] => some (.int .i64 (pick n m))
  | _ => none
@[simp] theorem pickF_ap {n m : Int} : pickF [.int .i64 n, .int .i64 m] = some (.int .i64 (pick n m)) := rfl
theorem pick_sc (n m : Int) : SC Try.prog 25 [.int .i64 n, .int .i64 m] h0 (fun u _ => u = .int .i64 (pick n m)) := by
  refine walk good_lives Try.func25 rfl (by simp [Try.ntmps25]) (by kernel_rfl) ?_
  simp [Try.ntmps25, Try.results25, h0]
  unfold pick
  by_cases h1 : m < 1
  · simp [h1]
  · have h2 : m ≠ 0 := by omega
    by_cases h3 : n.tmod m < 0
    · simp [h1, h2, h3]
    · simp [h1, h2, h3]
theorem good_pick : Good Try.prog (lookO [(25, pureO pickF), (17, pureO livesF), (24, pureO pulsesF), (23, pureO nextF), (22, pureO classicF), (21, pureO spotF), (20, pureO pulseF), (67, pureO mayF), (19, pureO lengthF), (18, pureO checkF)]) := by
  refine Good.pure good_lives _ _ ?_
  intro xs v h
  unfold pickF at h
  split at h
  · cases h; exact ⟨by simp, by simp, pick_sc _ _⟩
  · cases h

theorem below_step {l U t : Int} (h1 : 8 ≤ l) (h2 : 1 ≤ U) (h3 : U ≤ l) (h4 : 0 ≤ t) : below l U (t + 1) = below l U t + if t.tmod l < U then 1 else 0 := by
  unfold below
  rw [Int.tdiv_eq_ediv_of_nonneg (by omega : 0 ≤ t + 1), Int.tmod_eq_emod_of_nonneg (by omega : 0 ≤ t + 1), Int.tdiv_eq_ediv_of_nonneg h4, Int.tmod_eq_emod_of_nonneg h4]
  have e1 := Int.mul_ediv_add_emod t l
  have e2 := Int.emod_nonneg t (b := l) (by omega)
  have e3 := Int.emod_lt_of_pos t (b := l) (by omega)
  generalize t / l = q at *
  generalize t % l = r at *
  by_cases hr : r + 1 < l
  · have hu : (t + 1) / l = q ∧ (t + 1) % l = r + 1 := (Int.ediv_emod_unique (by omega)).2 ⟨by omega, by omega, hr⟩
    rw [hu.1, hu.2]
    split <;> omega
  · have hx : l * (q + 1) = l * q + l := by rw [Int.mul_add]; omega
    have hu : (t + 1) / l = q + 1 ∧ (t + 1) % l = 0 := (Int.ediv_emod_unique (by omega)).2 ⟨by omega, by omega, by omega⟩
    rw [hu.1, hu.2, Int.add_mul]
    split <;> omega
theorem pulsesN_eq {L C T R F W U a b : Int} (h : lenF L C T R F W U ≠ 0) (h1 : 0 ≤ a) (h2 : a ≤ b) (h3 : b ≤ 1099511627777) : pulsesN L C T R F W U a b = below (lenF L C T R F W U) U b - below (lenF L C T R F W U) U a := by
  unfold pulsesN
  have e1 : min b 1099511627777 = b := by omega
  have e2 : max 0 a = a := by omega
  rw [e1, e2]
  split
  · rename_i h4
    have : b = a := by omega
    subst this
    omega
  · rfl
theorem pulsesN_step {L C T R F W U a i : Int} (hk : okF L C T R F W U = true) (h1 : 0 ≤ a) (h2 : 0 ≤ i) (h4 : a ≤ 1099511627776) : pulsesN L C T R F W U a (a + (i + 1)) = pulsesN L C T R F W U a (a + i) + if pulseB L C T R F W U (a + i) = true then 1 else 0 := by
  have hs := okF_sz hk
  have hb := okF_bd hk
  have hl : lenF L C T R F W U = L * C := by simp [lenF, hk]
  have h0 : lenF L C T R F W U ≠ 0 := by omega
  by_cases h3 : a + i ≤ 1099511627776
  · rw [pulsesN_eq h0 h1 (by omega) (by omega), pulsesN_eq h0 h1 (by omega) (by omega), ← Int.add_assoc, below_step (by omega) (by omega) (by omega) (by omega)]
    have hm : mayB (a + i) = true := by simp [mayB]; omega
    have hp : 0 < lenF L C T R F W U := by omega
    simp [pulseB, hm, hp]
    omega
  · have hm : mayB (a + i) = false := by simp [mayB]; omega
    simp [pulseB, hm]
    unfold pulsesN
    have e1 : min (a + (i + 1)) 1099511627777 = 1099511627777 := by omega
    have e2 : min (a + i) 1099511627777 = 1099511627777 := by omega
    rw [e1, e2]
theorem pulsesN_bd {L C T R F W U a b : Int} (hk : okF L C T R F W U = true) : -70368744177793 ≤ pulsesN L C T R F W U a b ∧ pulsesN L C T R F W U a b ≤ 70368744177793 := by
  have hs := okF_sz hk
  have hb := okF_bd hk
  have hl : lenF L C T R F W U = L * C := by simp [lenF, hk]
  unfold pulsesN
  split
  · omega
  · rw [hl]
    obtain ⟨_, _, _, x1, x2⟩ := below_bd (l := L * C) (U := U) (t := min b 1099511627777) (by omega) (by omega) (by omega) (by omega) (by omega)
    obtain ⟨_, _, _, y1, y2⟩ := below_bd (l := L * C) (U := U) (t := max 0 a) (by omega) (by omega) (by omega) (by omega) (by omega)
    omega
theorem pulsesN_zero {L C T R F W U a : Int} (h1 : 0 ≤ a) : pulsesN L C T R F W U a a = 0 := by
  unfold pulsesN
  split
  · rfl
  · omega
theorem next_cases {L C T R F W U a : Int} (hk : okF L C T R F W U = true) (h1 : 0 ≤ a) : nextA L C T R F W U a = .tup [.int .i64 0, .bool false] ∨
    ∃ n, nextA L C T R F W U a = .tup [.int .i64 n, .bool true] ∧ a < n ∧ n - a ≤ L * C ∧ n ≤ 1099511627776 ∧ spotA L C T R F W U n = .tup [.agg [.int .i64 (n.tdiv (L * C)), .int .i64 0, .int .i64 0], .int .i64 0] := by
  have hs := okF_sz hk
  have hb := okF_bd hk
  have hl : lenF L C T R F W U = L * C := by simp [lenF, hk]
  unfold nextA
  rw [hl]
  have n0 : L * C ≠ 0 := by omega
  split
  · exact .inl rfl
  · split
    · omega
    · split
      · exact .inl rfl
      · rename_i q1 q2 q3
        right
        have d2 := tmod_bd h1 (b := L * C) (by omega)
        have d3 := tdiv_tmod a (L * C)
        have d4 : (a.tdiv (L * C) + 1) * (L * C) = a.tdiv (L * C) * (L * C) + L * C := by rw [Int.add_mul]; omega
        refine ⟨_, rfl, by omega, by omega, by omega, ?_⟩
        have hm : mayB ((a.tdiv (L * C) + 1) * (L * C)) = true := by simp [mayB]; omega
        have z1 : ((a.tdiv (L * C) + 1) * (L * C)).tmod (L * C) = 0 := Int.mul_tmod_left _ _
        have z2 : ((a.tdiv (L * C) + 1) * (L * C)).tmod C = 0 := by rw [← Int.mul_assoc]; exact Int.mul_tmod_left _ _
        simp only [spotA, hl, n0, hm]
        simp [z1, z2]
theorem pulsesLaw_sc (L C T R F W U a b c n : Int) : SC Try.prog 5 [.agg [.int .i64 L, .int .i64 C, .int .i64 T, .int .i64 R, .int .i64 F, .int .i64 W, .int .i64 U], .int .i64 a, .int .i64 b, .int .i64 c, .int .i64 n] h0 (fun u _ => u = .bool true) := by
  refine walk good_pick Try.func5 rfl (by simp [Try.ntmps5]) (by kernel_rfl) ?_
  simp [Try.ntmps5, Try.results5, h0]
  rcases Bool.eq_false_or_eq_true (okF L C T R F W U) with hk | hk
  case inr => simp [hk]
  by_cases h1 : a < 0
  · simp [hk, h1]
  by_cases h2 : b < a
  · simp [hk, h1, h2]
  by_cases h3 : c < b
  · simp [hk, h1, h2, h3]
  by_cases h4 : 1099511627776 < c
  · simp [hk, h1, h2, h3, h4]
  have hs := okF_sz hk
  have hb := okF_bd hk
  have hl : lenF L C T R F W U = L * C := by simp [lenF, hk]
  have hl0 : lenF L C T R F W U ≠ 0 := by omega
  have p1 := pulsesN_eq (a := a) (b := b) hl0 (by omega) (by omega) (by omega)
  have p2 := pulsesN_eq (a := b) (b := c) hl0 (by omega) (by omega) (by omega)
  have p3 := pulsesN_eq (a := a) (b := c) hl0 (by omega) (by omega) (by omega)
  obtain ⟨_, _, _, ba1, ba2⟩ := below_bd (l := L * C) (U := U) (t := a) (by omega) (by omega) (by omega) (by omega) (by omega)
  obtain ⟨_, _, _, bb1, bb2⟩ := below_bd (l := L * C) (U := U) (t := b) (by omega) (by omega) (by omega) (by omega) (by omega)
  obtain ⟨_, _, _, bc1, bc2⟩ := below_bd (l := L * C) (U := U) (t := c) (by omega) (by omega) (by omega) (by omega) (by omega)
  rw [hl] at p1 p2 p3
  have p4 : IntKind.i64.wrap (pulsesN L C T R F W U a b + pulsesN L C T R F W U b c) = pulsesN L C T R F W U a c := by
    rw [wrap_in (by omega) (by omega)]; omega
  simp [hk, h1, h2, h3, h4, p4]
  obtain ⟨k1, k2⟩ := pick_bd (n := n) (m := 500) (by omega) (by omega)
  obtain ⟨m, hm⟩ : ∃ m : Nat, pick n 500 = (m : Int) := ⟨(pick n 500).toNat, by omega⟩
  have head : pulsesN L C T R F W U a a = 0 := pulsesN_zero (by omega)
  refine WL.sub (fr' := (fun i : Nat => ((⟨120, [(13, .int .i64 (i : Int)), (12, .int .i64 (pulsesN L C T R F W U a (a + i))), (11, .int .i64 (pick n 500)), (5, .ptr 0 0), (1, .int .i64 a)]⟩ : AF))) 0) ?_ rfl (by simp [head])
  refine WL_count (fun i : Nat => ((⟨120, [(13, .int .i64 (i : Int)), (12, .int .i64 (pulsesN L C T R F W U a (a + i))), (11, .int .i64 (pick n 500)), (5, .ptr 0 0), (1, .int .i64 a)]⟩ : AF))) (fun _ => _) m ?_ ?_
  · intro i hi hnext
    have hlt : (i : Int) < pick n 500 := by omega
    have e1 : IntKind.i64.wrap (a + i) = a + i := wrap_in (by omega) (by omega)
    have e2 : IntKind.i64.wrap ((i : Int) + 1) = i + 1 := wrap_in (by omega) (by omega)
    have st := pulsesN_step (L := L) (C := C) (T := T) (R := R) (F := F) (W := W) (U := U) (a := a) (i := i) hk (by omega) (by omega) (by omega)
    refine walk_round good_pick (by kernel_rfl) ?_
    simp [hlt, e1]
    have bd := pulsesN_bd (L := L) (C := C) (T := T) (R := R) (F := F) (W := W) (U := U) (a := a) (b := a + i) hk
    have e3 : IntKind.i64.wrap (pulsesN L C T R F W U a (a + i) + 1) = pulsesN L C T R F W U a (a + i) + 1 := wrap_in (by omega) (by omega)
    refine condS_bool ?_ ?_ <;> intro hp
    · simp [e2, e3]
      refine hnext.sub rfl ?_
      rw [hp] at st
      simp [st]
    · simp [e2]
      refine hnext.sub rfl ?_
      rw [hp] at st
      simp [st]
  · have hlt : ¬ (m : Int) < pick n 500 := by omega
    refine walk_round good_pick (by kernel_rfl) ?_
    have e1 : IntKind.i64.wrap (a + (m : Int)) = a + m := wrap_in (by omega) (by omega)
    have z0 : spotA L C T R F W U 0 = .tup [.agg [.int .i64 0, .int .i64 0, .int .i64 0], .int .i64 0] := by
      have n0 : L * C ≠ 0 := by omega
      have hm0 : mayB 0 = true := by decide +kernel
      simp only [spotA, hl, n0, hm0]
      simp
    rcases next_cases hk (by omega : 0 ≤ a) with hn | ⟨nx, hn, q1, q2, q3, q4⟩
    · simp [hm, hn, z0, e1, unk]
    · have e4 : IntKind.i64.wrap (nx - a) = nx - a := wrap_in (by omega) (by omega)
      simp [hm, hn, q4, e4, q1, q2, hl, e1, unk]
end Go.Proofs.Ytnfelncgeihihaa.V
