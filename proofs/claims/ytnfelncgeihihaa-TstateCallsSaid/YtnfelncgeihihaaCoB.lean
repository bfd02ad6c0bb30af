/- contend: requests that may be. -/
import Derived.Test.YtnfelncgeihihaaCoV
namespace Go.Proofs.Ytnfelncgeihihaa.V
open Go Go.Proofs
set_option maxRecDepth 100000
set_option maxHeartbeats 1000000
set_option linter.unusedSimpArgs false
set_option linter.unusedVariables false
def stepB (k a v n : Int) : Bool := if k = 6 then decide (a = 0) && decide (v = 0) && decide (1 ≤ n) && decide (n ≤ 7) else
  (decide (k = 1 ∧ n = 4) || decide (k = 2 ∧ n = 3) || decide (k = 3 ∧ n = 3) || decide (k = 4 ∧ n = 4) || decide (k = 5 ∧ n = 4) || decide (k = 7 ∧ n = 7)) && (decide (v = 0) || decide (k = 3) || decide (k = 5))
def stepE (k a v n : Int) : Int := if stepB k a v n = true then 0 else 2
def okReqF : List AV → Option AV
  | [.agg [.int .i64 k, .int .u16 a, .int .u8 v, .int .i64 n]] => some (.int .i64 (stepE k a v n))
  | _ => none
theorem k_cases (k : Int) : k = 1 ∨ k = 2 ∨ k = 3 ∨ k = 4 ∨ k = 5 ∨ k = 6 ∨ k = 7 ∨ (k ≠ 1 ∧ k ≠ 2 ∧ k ≠ 3 ∧ k ≠ 4 ∧ k ≠ 5 ∧ k ≠ 6 ∧ k ≠ 7) := by omega
theorem n_cases (n : Int) : n = 3 ∨ n = 4 ∨ n = 7 ∨ (n ≠ 3 ∧ n ≠ 4 ∧ n ≠ 7) := by omega
theorem stepC_sc (k a v n : Int) : stepC_VC k a v n (fun u => u = .int .i64 (stepE k a v n)) := by
  unfold stepC_VC stepE stepB
  rcases k_cases k with rfl | rfl | rfl | rfl | rfl | rfl | rfl | ⟨k1, k2, k3, k4, k5, k6, k7⟩
  rotate_left 5
  · by_cases ha : a = 0 <;> by_cases hv : v = 0 <;> by_cases h1 : n < 1 <;> by_cases h2 : n > 7 <;> simp [ha, hv, h1, h2] <;> omega
  rotate_left 1
  · by_cases hv : v = 0 <;> simp [hv, k1, k2, k3, k4, k5, k6, k7]
  all_goals (rcases n_cases n with rfl | rfl | rfl | ⟨n3, n4, n7⟩ <;> by_cases hv : v = 0 <;> simp [*])
theorem stepR_sc (k a v n : Int) : stepR_VC k a v n (fun u => u = .int .i64 (stepE k a v n)) := by
  unfold stepR_VC stepE stepB
  rcases k_cases k with rfl | rfl | rfl | rfl | rfl | rfl | rfl | ⟨k1, k2, k3, k4, k5, k6, k7⟩
  rotate_left 5
  · by_cases ha : a = 0 <;> by_cases hv : v = 0 <;> by_cases h1 : n < 1 <;> by_cases h2 : n > 7 <;> simp [ha, hv, h1, h2] <;> omega
  rotate_left 1
  · by_cases hv : v = 0 <;> simp [hv, k1, k2, k3, k4, k5, k6, k7]
  all_goals (rcases n_cases n with rfl | rfl | rfl | ⟨n3, n4, n7⟩ <;> by_cases hv : v = 0 <;> simp [*])
theorem stepC_tr : TrOk Try.prog 72 (pureT okReqF) := by
  refine pureT_ok ?_
  intro xs v h
  unfold okReqF at h
  split at h
  · cases h; exact ⟨rfl, rfl, sc_of_vc XCo_ok (by kernel_rfl) (stepC_vc _ _ _ _ _) (stepC_sc _ _ _ _)⟩
  · cases h
theorem stepR_tr : TrOk Try.prog 38 (pureT okReqF) := by
  refine pureT_ok ?_
  intro xs v h
  unfold okReqF at h
  split at h
  · cases h; exact ⟨rfl, rfl, sc_of_vc XCo_ok (by kernel_rfl) (stepR_vc _ _ _ _ _) (stepR_sc _ _ _ _)⟩
  · cases h
def purCo2 : Pur := (72, okReqF) :: (38, okReqF) :: purCo
theorem purCo2_ok : PurOk Try.prog purCo2 := PurOk.cons stepC_tr (PurOk.cons stepR_tr purCo_ok)
def okCo : List Nat := [73]
theorem okCo_ok : okFunsX Try.prog okCo = true := by kernel_rfl
noncomputable def XCo2 : Cx := cxP Try.prog purCo2 okCo
theorem XCo2_ok : CxOk (cxP Try.prog purCo2 okCo) := cxP_ok mixed purCo2_ok okCo_ok
end Go.Proofs.Ytnfelncgeihihaa.V
