/- tstate: times, spots, bytes: a time's spot, plainly. -/
import Derived.Test.YtnfelncgeihihaaTbA
namespace Go.Proofs.Ytnfelncgeihihaa.V
open Go Go.Proofs
set_option maxRecDepth 100000
set_option maxHeartbeats 1000000
set_option linter.unusedSimpArgs false
set_option linter.unusedVariables false
theorem spot_of {L C f l c : Int} (hC : 0 < C) (hl0 : 0 ≤ l) (hl : l < L) (hc0 : 0 ≤ c) (hc : c < C) : (f * (L * C) + l * C + c) / (L * C) = f ∧ (f * (L * C) + l * C + c) % (L * C) / C = l ∧ (f * (L * C) + l * C + c) % C = c := by
  have hL : 0 < L := by omega
  have hn : 0 < L * C := Int.mul_pos hL hC
  have hlt : l * C + c < L * C := by
    have h1 : l * C ≤ (L - 1) * C := Int.mul_le_mul_of_nonneg_right (by omega) (by omega)
    rw [Int.sub_mul] at h1
    omega
  have h0 : 0 ≤ l * C + c := by
    have := Int.mul_nonneg hl0 (show 0 ≤ C by omega)
    omega
  have e : f * (L * C) + l * C + c = (l * C + c) + f * (L * C) := by omega
  refine ⟨?_, ?_, ?_⟩
  · rw [e, Int.add_mul_ediv_right _ _ (by omega), Int.ediv_eq_zero_of_lt h0 hlt]; omega
  · rw [e, Int.add_mul_emod_self_right, Int.emod_eq_of_lt h0 hlt, show l * C + c = c + l * C by omega, Int.add_mul_ediv_right _ _ (by omega), Int.ediv_eq_zero_of_lt hc0 hc]; omega
  · have e2 : f * (L * C) + l * C + c = c + (f * L + l) * C := by rw [Int.add_mul, Int.mul_assoc]; omega
    rw [e2, Int.add_mul_emod_self_right, Int.emod_eq_of_lt hc0 hc]
theorem spot_is {L C t : Int} (hC : 0 < C) (hL : 0 < L) (ht : 0 ≤ t) : ∃ f l c, 0 ≤ f ∧ 0 ≤ l ∧ l < L ∧ 0 ≤ c ∧ c < C ∧ t = f * (L * C) + l * C + c ∧ f ≤ t := by
  have hn : 0 < L * C := Int.mul_pos hL hC
  have e1 := Int.mul_ediv_add_emod t (L * C)
  have r0 := Int.emod_nonneg t (b := L * C) (by omega)
  have r1 := Int.emod_lt_of_pos t hn
  have e2 := Int.mul_ediv_add_emod (t % (L * C)) C
  have c0 := Int.emod_nonneg (t % (L * C)) (b := C) (by omega)
  have c1 := Int.emod_lt_of_pos (t % (L * C)) hC
  have f0 : 0 ≤ t / (L * C) := Int.ediv_nonneg ht (by omega)
  have l0 : 0 ≤ t % (L * C) / C := Int.ediv_nonneg r0 (by omega)
  have l1 : t % (L * C) / C < L := Int.ediv_lt_of_lt_mul hC r1
  refine ⟨t / (L * C), t % (L * C) / C, t % (L * C) % C, f0, l0, l1, c0, c1, ?_, Int.ediv_le_self _ ht⟩
  rw [Int.mul_comm (t / (L * C)) (L * C), Int.mul_comm (t % (L * C) / C) C]
  omega
theorem sp_of {L C T R F W U f l c : Int} (hk : okF L C T R F W U = true) (hl0 : 0 ≤ l) (hl : l < L) (hc0 : 0 ≤ c) (hc : c < C) (h0 : 0 ≤ f * (L * C) + l * C + c) (h1 : f * (L * C) + l * C + c ≤ 1099511627776) :
    spE L C T R F W U (f * (L * C) + l * C + c) = 0 ∧ spF L C T R F W U (f * (L * C) + l * C + c) = f ∧ spL L C T R F W U (f * (L * C) + l * C + c) = l ∧ spC L C T R F W U (f * (L * C) + l * C + c) = c := by
  have hq := okF_iff.1 hk
  have hz := okF_sz hk
  have hlen : lenF L C T R F W U = L * C := by simp [lenF, hk]
  have hn : ¬ (lenF L C T R F W U = 0 ∨ mayB (f * (L * C) + l * C + c) = false) := by
    rw [hlen, show mayB (f * (L * C) + l * C + c) = true by simp [mayB, h0, h1]]
    simp; omega
  obtain ⟨a, b, d⟩ := spot_of (f := f) (show 0 < C by omega) hl0 hl hc0 hc
  unfold spE spF spL spC
  rw [if_neg hn, if_neg hn, if_neg hn, if_neg hn, hlen]
  rw [Int.tdiv_eq_ediv_of_nonneg h0, Int.tmod_eq_emod_of_nonneg h0, Int.tmod_eq_emod_of_nonneg h0, Int.tdiv_eq_ediv_of_nonneg (Int.emod_nonneg _ (by omega))]
  exact ⟨rfl, a, b, d⟩
end Go.Proofs.Ytnfelncgeihihaa.V
