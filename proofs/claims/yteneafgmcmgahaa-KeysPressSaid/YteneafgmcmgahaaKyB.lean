/- keys: the chapter's examples, by reckoning. -/
import Derived.Test.YteneafgmcmgahaaKyA
namespace Go.Proofs.Yteneafgmcmgahaa.V
open Go Go.Proofs
set_option maxRecDepth 100000
set_option linter.unusedVariables false
def orcKy : Orc := fun f => if Nat.beq f 23 = true then some sortedO else none
theorem orcKy_ok : OrcOk Try.prog orcKy := by
  intro f o hf xs σ v σ' h
  unfold orcKy at hf
  split at hf
  · rename_i e
    cases hf
    obtain rfl := Nat.eq_of_beq_eq_true e
    exact sortedO_ok xs σ v σ' h
  · cases hf
def okKy : List Nat := [4, 5, 6, 9, 10, 11, 12, 13, 14, 15, 16, 18, 19, 20, 21, 22, 24, 25, 27, 28, 29, 30]
def qtKy : List Nat := [10, 11, 12, 13, 14, 15, 16, 22, 24, 25, 27]
theorem okKy_ok : okFunsX Try.prog okKy = true := by kernel_rfl
theorem run_ky {n f : Nat} {args : List AV} (h : answers (.bool true) (xF Try.prog orcKy qtKy okKy n f args h0) = true) : SC Try.prog f args h0 (fun u _ => u = .bool true) := by
  cases hr : xF Try.prog orcKy qtKy okKy n f args h0 with
  | none => rw [hr] at h; simp [answers] at h
  | some r =>
    obtain ⟨v, τ⟩ := r
    refine (xF_sound orcKy_ok mixedky okKy_ok n f args h0 v τ hr).mono ?_
    rintro u τ' ⟨rfl, rfl⟩
    rw [hr] at h
    unfold answers at h
    split at h
    · rename_i b τ'' e
      cases e
      simpa using h
    · cases h
theorem ky_run : answers (.bool true) (xF Try.prog orcKy qtKy okKy 80 4 [] h0) = true := by kernel_rfl
theorem knames_sc : SC Try.prog 4 [] h0 (fun u _ => u = .bool true) := run_ky ky_run
theorem klives_run : answers (.bool true) (xF Try.prog orcKy qtKy okKy 80 5 [] h0) = true := by kernel_rfl
theorem klives_sc : SC Try.prog 5 [] h0 (fun u _ => u = .bool true) := run_ky klives_run
end Go.Proofs.Yteneafgmcmgahaa.V
