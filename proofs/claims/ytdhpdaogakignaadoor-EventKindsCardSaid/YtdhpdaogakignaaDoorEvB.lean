/- event: the chapter's examples, by reckoning. -/
import Derived.Test.YtdhpdaogakignaaDoorEvA
namespace Go.Proofs.YtdhpdaogakignaaDoor.V
open Go Go.Proofs
set_option maxRecDepth 100000
set_option linter.unusedVariables false
def okEv : List Nat := [3, 6, 7, 8, 9, 10, 12, 14, 16, 15, 11, 20, 24, 25, 26, 18, 19, 17, 31, 40, 41, 42, 27, 28, 46, 53, 54, 55, 65, 64, 66]
def qtEv : List Nat := [3, 6, 7, 8, 9, 10, 12, 13, 14, 16, 15, 11, 20, 21, 22, 24, 25, 23, 26, 18, 19, 17, 30, 31, 32, 33, 40, 41, 42, 27, 28, 46, 47, 49, 50, 53, 54, 56, 58, 61, 65, 64, 66]
theorem okEv_ok : okFunsX Tryd.prog okEv = true := by kernel_rfl
theorem run_ev {n f : Nat} {args : List AV} (h : answers (.bool true) (xF Tryd.prog orcEv qtEv okEv n f args h0) = true) : SC Tryd.prog f args h0 (fun u _ => u = .bool true) := by
  cases hr : xF Tryd.prog orcEv qtEv okEv n f args h0 with
  | none => rw [hr] at h; simp [answers] at h
  | some r =>
    obtain ⟨v, τ⟩ := r
    refine (xF_sound orcEv_ok mixedev okEv_ok n f args h0 v τ hr).mono ?_
    rintro u τ' ⟨rfl, rfl⟩
    rw [hr] at h
    unfold answers at h
    split at h
    · rename_i b τ'' e
      cases e
      simpa using h
    · cases h
theorem ev_run : answers (.bool true) (xF Tryd.prog orcEv qtEv okEv 80 3 [] h0) = true := by kernel_rfl
theorem enames_sc : SC Tryd.prog 3 [] h0 (fun u _ => u = .bool true) := run_ev ev_run
theorem elives_run : answers (.bool true) (xF Tryd.prog orcEv qtEv okEv 80 7 [] h0) = true := by kernel_rfl
theorem elives_sc : SC Tryd.prog 7 [] h0 (fun u _ => u = .bool true) := run_ev elives_run
end Go.Proofs.YtdhpdaogakignaaDoor.V
