/- render: a frame's picture out of nothing (part 8): the chapter's examples hold. -/
import Derived.Test.YtkehopncefhohaaRdZ
namespace Go.Proofs.Ytkehopncefhohaa.V
open Go Go.Proofs
set_option maxRecDepth 100000
set_option linter.unusedSimpArgs false
set_option linter.unusedVariables false
theorem pcs_get {k i : Nat} (h : i < k) : (pcs k).getD i (.tup []) = .int .u8 0 := by
  unfold pcs
  rw [List.getD_eq_getElem?_getD, List.getElem?_replicate, if_pos h]
  rfl
theorem livesR_sc : SC Try.prog 8 [] h0 (fun u _ => u = .bool true) := by
  refine (funP_sound XLv_ok (by kernel_rfl) (fun p _ L hL => by cases hL) _ _ lvs_scr _ ((lvs_vc (pcs 49152) (fun u _ => u = .bool true)).mpr ?_)).mono (fun v σ ⟨s, q⟩ => q)
  unfold lvs_VC
  rw [pcs_get (by omega), pcs_len]
  exact ⟨decide_eq_true (by omega), rfl, fun _ => ⟨rfl, rfl, rfl⟩, fun h => by cases h⟩
def livesRF : List AV → Option AV
  | [] => some (.bool true)
  | _ => none
def purL : List (Nat × (List AV → Option AV)) := [(8, livesRF), (21, colourF)]
theorem purL_ok : PurOk Try.prog purL := by
  refine PurOk.cons (pureT_ok ?_) (PurOk.cons (pureT_ok ?_) PurOk.nil)
  · intro xs v h
    unfold livesRF at h
    split at h
    · cases h; exact ⟨rfl, rfl, livesR_sc⟩
    · cases h
  · intro xs v h
    unfold colourF at h
    split at h
    · cases h; exact ⟨rfl, rfl, colour_sc _ _ _⟩
    · cases h
theorem XLw_ok : CxOk (cxP Try.prog purL []) := cxP_ok mixedR purL_ok rfl
end Go.Proofs.Ytkehopncefhohaa.V
