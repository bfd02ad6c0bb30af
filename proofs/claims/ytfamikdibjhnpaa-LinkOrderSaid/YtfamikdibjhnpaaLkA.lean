/- The law lives over plain values, by reckoning. link: what is known ahead (part 1). -/
import Derived.Test.YtfamikdibjhnpaaV20
import Derived.Test.YtfamikdibjhnpaaT
import Derived.Test.YtfamikdibjhnpaaV30
namespace Go.Proofs.Ytfamikdibjhnpaa.V
open Go Go.Proofs
set_option maxRecDepth 100000
theorem mixedlives : Try.prog.follows .mixedOrders = true := by kernel_rfl
def oklives : List Nat := [4, 6, 14, 8, 10, 15, 7, 11, 16, 17, 9, 19, 18, 20, 21, 22, 23, 24]
def qtlives : List Nat := [6, 14, 15, 7, 11, 16, 17, 9, 19, 18, 20, 21, 22, 23, 24]
theorem oklives_ok : okFunsX Try.prog oklives = true := by kernel_rfl
theorem lives_sc : SC Try.prog 4 [] h0 (fun u _ => u = .bool true) :=
  runX_true mixedlives oklives_ok (qt := qtlives) (n := 40) (by kernel_rfl)
end Go.Proofs.Ytfamikdibjhnpaa.V
namespace Go.Proofs.Ytfamikdibjhnpaa.V
open Go Go.Proofs
set_option maxRecDepth 100000
set_option linter.unusedSimpArgs false
set_option linter.unusedVariables false
def livesF : List AV → Option AV
  | [] => some (.bool true)
  | _ => none
theorem lives_tr : TrOk Try.prog 4 (pureT livesF) := by
  refine pureT_ok ?_
  intro xs v h
  unfold livesF at h
  split at h
  · cases h; exact ⟨rfl, rfl, lives_sc⟩
  · cases h
noncomputable def XL0 : Cx := cxP Try.prog [] []
theorem XL0_ok : CxOk (cxP Try.prog [] []) := cxP_ok mixedlives PurOk.nil rfl
theorem bothF {b : Bool} {p q : Prop} (h : b = false) (k : q) : (b = true → p) ∧ (b = false → q) := ⟨fun e => (by rw [h] at e; cases e), fun _ => k⟩
theorem bothT {b : Bool} {p q : Prop} (h : b = true) (k : p) : (b = true → p) ∧ (b = false → q) := ⟨fun _ => k, fun e => (by rw [h] at e; cases e)⟩
end Go.Proofs.Ytfamikdibjhnpaa.V
