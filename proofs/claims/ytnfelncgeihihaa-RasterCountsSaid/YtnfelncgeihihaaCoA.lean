/- contend: what is known ahead, as transformers. -/
import Derived.Test.YtnfelncgeihihaaCo1
import Derived.Test.YtnfelncgeihihaaCo2
import Derived.Test.YtnfelncgeihihaaV23
namespace Go.Proofs.Ytnfelncgeihihaa.V
open Go Go.Proofs
set_option maxRecDepth 100000
set_option linter.unusedVariables false
theorem tr_of_good {P : Program} {orc : Orc} (g : Good P orc) {f : Nat} {F : List AV → Option AV} (h : orc f = some (pureO F)) : TrOk P f (pureT F) := by
  intro xs σ s K hk
  unfold pureT at hk
  split at hk
  · rename_i v hv
    refine (g.ok f _ h xs σ v σ (by simp [pureO, hv, retV])).mono ?_
    rintro u τ ⟨rfl, rfl⟩
    exact ⟨s, hk⟩
  · exact hk.elim
theorem livesC_sc : SC Try.prog 37 [] h0 (fun u _ => u = .bool true) :=
  run_true good_wait okN_ok (n := 20) (by kernel_rfl)
def livesCF : List AV → Option AV
  | [] => some (.bool true)
  | _ => none
theorem livesC_tr : TrOk Try.prog 37 (pureT livesCF) := by
  refine pureT_ok ?_
  intro xs v h
  unfold livesCF at h
  split at h
  · cases h; exact ⟨rfl, rfl, livesC_sc⟩
  · cases h
def purCo : Pur := [(37, livesCF), (18, checkF), (19, lengthF), (21, spotF), (25, pickF), (40, waitF),
  (27, check2F), (28, length2F), (41, spot2F)]
theorem purCo_ok : PurOk Try.prog purCo :=
  PurOk.cons livesC_tr <| PurOk.cons (tr_of_good good_spot2 rfl) <| PurOk.cons (tr_of_good good_spot2 rfl) <| PurOk.cons (tr_of_good good_spot2 rfl) <| PurOk.cons (tr_of_good good_spot2 rfl) <| PurOk.cons (tr_of_good good_wait rfl) <|
  PurOk.cons (tr_of_good good_spot2 rfl) <| PurOk.cons (tr_of_good good_spot2 rfl) <| PurOk.cons (tr_of_good good_spot2 rfl) PurOk.nil
noncomputable def XCo : Cx := cxP Try.prog purCo []
theorem XCo_ok : CxOk (cxP Try.prog purCo []) := cxP_ok mixed purCo_ok rfl
end Go.Proofs.Ytnfelncgeihihaa.V
