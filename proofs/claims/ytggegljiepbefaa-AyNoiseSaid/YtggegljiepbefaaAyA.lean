/- ay: what is known ahead (part 1): the examples, by reckoning. -/
import Derived.Test.YtggegljiepbefaaV23
import Derived.Test.YtggegljiepbefaaT
namespace Go.Proofs.Ytggegljiepbefaa.V
open Go Go.Proofs
set_option maxRecDepth 100000
theorem mixedAy : Try.prog.follows .mixedOrders = true := by kernel_rfl
def okLives : List Nat := [9, 24, 25, 14, 12, 10, 30, 28, 15, 43, 13, 44, 45, 66, 65, 67]
def qtLives : List Nat := [24, 12, 10, 30, 28, 43, 45, 66, 67]
theorem okLives_ok : okFunsX Try.prog okLives = true := by kernel_rfl
theorem lives_sc : SC Try.prog 9 [] h0 (fun u _ => u = .bool true) :=
  runX_true mixedAy okLives_ok (qt := qtLives) (n := 60) (by kernel_rfl)
def livesF : List AV → Option AV
  | [] => some (.bool true)
  | _ => none
theorem lives_tr : TrOk Try.prog 9 (pureT livesF) := by
  refine pureT_ok ?_
  intro xs v h
  unfold livesF at h
  split at h
  · cases h; exact ⟨rfl, rfl, lives_sc⟩
  · cases h
def okAy : List Nat := [10, 12, 11]
theorem okAy_ok : okFunsX Try.prog okAy = true := by kernel_rfl
noncomputable def baseAy : Trs := lookT [(9, pureT livesF)]
theorem baseAy_ok : TrsOk Try.prog baseAy := TrsOk.cons lives_tr TrsOk.nil
noncomputable def XAy : Cx := ⟨Try.prog, inl Try.prog (fun _ => none) [] 20 baseAy okAy 4, fun _ => none, [], 20, lookL []⟩
theorem XAy_ok : CxOk XAy := ⟨inl_ok (orc_none _) mixedAy baseAy_ok okAy_ok 4, orc_none _, mixedAy⟩
end Go.Proofs.Ytggegljiepbefaa.V
