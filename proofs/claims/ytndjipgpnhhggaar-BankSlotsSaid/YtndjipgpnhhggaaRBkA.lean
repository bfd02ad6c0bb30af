/- bank: what is known ahead (part 1): the examples, by reckoning. -/
import Derived.Test.YtndjipgpnhhggaaRV24
import Derived.Test.YtndjipgpnhhggaaRT
namespace Go.Proofs.YtndjipgpnhhggaaR.V
open Go Go.Proofs
set_option maxRecDepth 100000
theorem mixedBk : Try.prog.follows .mixedOrders = true := by kernel_rfl
def okLives : List Nat := [11, 38, 12, 32, 33, 34, 62, 60, 59, 29]
def qtLives : List Nat := [12, 32, 34, 62, 59, 29]
theorem okLives_ok : okFunsX Try.prog okLives = true := by kernel_rfl
theorem lives_sc : SC Try.prog 11 [] h0 (fun u _ => u = .bool true) :=
  runX_true mixedBk okLives_ok (qt := qtLives) (n := 60) (by kernel_rfl)
def livesF : List AV → Option AV
  | [] => some (.bool true)
  | _ => none
theorem lives_tr : TrOk Try.prog 11 (pureT livesF) := by
  refine pureT_ok ?_
  intro xs v h
  unfold livesF at h
  split at h
  · cases h; exact ⟨rfl, rfl, lives_sc⟩
  · cases h
def purBk : Pur := [(11, livesF)]
theorem purBk_ok : PurOk Try.prog purBk := PurOk.cons lives_tr PurOk.nil
noncomputable def XBk : Cx := cxP Try.prog purBk []
theorem XBk_ok : CxOk (cxP Try.prog purBk []) := cxP_ok mixedBk purBk_ok rfl
end Go.Proofs.YtndjipgpnhhggaaR.V
