/- render: the chapter's names (part 5): what is known of the functions. -/
import Derived.Test.YtkehopncefhohaaRkE
namespace Go.Proofs.Ytkehopncefhohaa.V
open Go Go.Proofs
set_option maxRecDepth 100000
set_option linter.unusedSimpArgs false
set_option linter.unusedVariables false
theorem frames_sc : SC Try.prog 6 [classicA, .nilslice] h0 (fun u _ => u = .tup [.nilslice, .int .i64 0]) :=
  (funP_sound XFs_ok (by kernel_rfl) (fun p _ L hL => by cases hL) _ _ frs_scr _ ((frs_vc () (fun u _ => u = .tup [.nilslice, .int .i64 0])).mpr rfl)).mono (fun v σ ⟨s, q⟩ => q)
theorem needs_sc : SC Try.prog 16 [classicA] h0 (fun u _ => u = .int .i64 49152) :=
  (funP_sound XR0_ok (by kernel_rfl) (fun p _ L hL => by cases hL) _ _ nds_scr _ ((nds_vc () (fun u => u = .int .i64 49152)).mpr rfl)).mono (fun v σ ⟨s, q⟩ => q)
theorem check0_sc : SC Try.prog 15 [zeroA] h0 (fun u _ => u = .int .i64 2) :=
  (funP_sound XCk_ok (by kernel_rfl) (fun p _ L hL => by cases hL) _ _ ck0_scr _ ((ck0_vc () (fun u => u = .int .i64 2)).mpr rfl)).mono (fun v σ ⟨s, q⟩ => q)
def check2F : List AV → Option AV
  | [.agg [.int .i64 311, .int .i64 228, .int .i64 63, .int .i64 192, .int .i64 14, .int .i64 32, .int .i64 36]] => some (.int .i64 0)
  | [.agg [.int .i64 0, .int .i64 0, .int .i64 0, .int .i64 0, .int .i64 0, .int .i64 0, .int .i64 0]] => some (.int .i64 2)
  | _ => none
def needsF : List AV → Option AV
  | [.agg [.int .i64 311, .int .i64 228, .int .i64 63, .int .i64 192, .int .i64 14, .int .i64 32, .int .i64 36]] => some (.int .i64 49152)
  | _ => none
def framesF : List AV → Option AV
  | [.agg [.int .i64 311, .int .i64 228, .int .i64 63, .int .i64 192, .int .i64 14, .int .i64 32, .int .i64 36], .nilslice] => some (.tup [.nilslice, .int .i64 0])
  | _ => none
def livesNF : List AV → Option AV
  | [] => some (.bool true)
  | _ => none
def purN : List (Nat × (List AV → Option AV)) := [(15, check2F), (5, classicF), (22, mcheckF), (16, needsF), (6, framesF), (8, livesNF)]
theorem purN_ok : PurOk Try.prog purN := by
  refine PurOk.cons (pureT_ok ?_) (PurOk.cons (pureT_ok ?_) (PurOk.cons (pureT_ok ?_) (PurOk.cons (pureT_ok ?_) (PurOk.cons (pureT_ok ?_) (PurOk.cons (pureT_ok ?_) PurOk.nil)))))
  · intro xs v h
    unfold check2F at h
    split at h
    · cases h; exact ⟨rfl, rfl, check_sc⟩
    · cases h; exact ⟨rfl, rfl, check0_sc⟩
    · cases h
  · intro xs v h
    unfold classicF at h
    split at h
    · cases h; exact ⟨rfl, rfl, classic_sc⟩
    · cases h
  · intro xs v h
    unfold mcheckF at h
    split at h
    · cases h; exact ⟨rfl, rfl, mcheck_sc⟩
    · cases h
  · intro xs v h
    unfold needsF at h
    split at h
    · cases h; exact ⟨rfl, rfl, needs_sc⟩
    · cases h
  · intro xs v h
    unfold framesF at h
    split at h
    · cases h; exact ⟨rfl, rfl, frames_sc⟩
    · cases h
  · intro xs v h
    unfold livesNF at h
    split at h
    · cases h; exact ⟨rfl, rfl, livesR_sc⟩
    · cases h
def okNm : List Nat := [4, 7, 9]
theorem okNm_ok : okFunsX Try.prog okNm = true := by kernel_rfl
theorem XNm_ok : CxOk (cxP Try.prog purN okNm) := cxP_ok mixedR purN_ok okNm_ok
end Go.Proofs.Ytkehopncefhohaa.V
