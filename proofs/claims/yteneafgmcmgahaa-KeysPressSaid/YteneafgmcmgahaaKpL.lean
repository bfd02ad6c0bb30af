/- keys: the law of keys that go down and up together. -/
import Derived.Test.YteneafgmcmgahaaKpK
namespace Go.Proofs.Yteneafgmcmgahaa.V
open Go Go.Proofs
set_option maxRecDepth 100000
set_option maxHeartbeats 4000000
set_option linter.unusedSimpArgs false
set_option linter.unusedVariables false
theorem enc_take (ks : List Int) : List.take (ks.length * 1) (List.drop 0 (encI .i64 ks)) = encI .i64 ks := by
  unfold encI
  rw [Nat.mul_one, List.drop_zero]; exact List.take_of_length_le (by simp)
theorem needI {p : Prop} (h : p) : need p := h
theorem press_sc {fr to : Int} {ks : List Int} {cap : Nat} (hpos : 0 < ks.length) : SC Try.prog 3 [.int .i64 fr, .int .i64 to, .slice 0 0 ks.length (some cap)] (hK ks) (fun x _ => x = .bool true) := by
  show SC (XLw fr to ks).P 3 _ (hK ks) (fun x _ => x = .bool true)
  refine sc_of_vcH (X := XLw fr to ks) (XLw_ok fr to ks) (f := 3) (by kernel_rfl) (fun p _ L hL => by cases hL) (K := fun x _ => x = .bool true) (lwS_vc fr to ks cap (fun x _ => x = .bool true)) ?_
  unfold lwS_VC
  refine ⟨fun _ => rfl, fun h => ?_⟩
  have hle : ks.length ≤ 60 := by have := of_decide_eq_false h; omega
  have hk : prOk ks := ⟨hpos, hle⟩
  have e0 : (encI .i64 ks).length = ks.length := by unfold encI; simp
  have hl2 : (l2 fr to ks).length ≤ 1000 := by rw [l2_len]; omega
  have hs : ks.length + ks.length = (l2 fr to ks).length := (l2_len fr to ks).symm
  refine ⟨decide_eq_true hpos, decide_eq_true (by rw [e0]; omega), decide_eq_true (by omega), decide_eq_true (by omega), rfl, rfl, enc_take ks, (show (2 : Nat) < 3 by decide), rfl, hk, fun hz => ?_, fun hz => ?_⟩
  · exact ⟨rfl, rfl, rfl, (show (0 : Nat) < 4 by decide), rfl, hk, fun _ => ⟨rfl, rfl, (show (3 : Nat) < 5 by decide), (show (4 : Nat) < 5 by decide), (show (3 : Nat) ≠ 4 by decide), hs, hs, hl2, rfl⟩, fun h => absurd hz h⟩
  · refine ⟨rfl, rfl, rfl, (show (0 : Nat) < 3 by decide), rfl, hk, fun h => absurd h hz, fun _ => ?_⟩
    show AV.bool (decide (chkN (l2 fr to ks) = chkN (l2 fr to ks))) = .bool true
    rw [decide_eq_true rfl]
theorem press_nil (fr to : Int) : SC Try.prog 3 [.int .i64 fr, .int .i64 to, .nilslice] h0 (fun x _ => x = .bool true) :=
  sc_of_vcH (X := cxP Try.prog purK2 okLn) XLn_ok (f := 3) (by kernel_rfl) (fun p _ L hL => by cases hL) (K := fun x _ => x = .bool true) (lwN_vc fr to (fun x _ => x = .bool true)) rfl
theorem press_empty (fr to : Int) : SC Try.prog 3 [.int .i64 fr, .int .i64 to, .slice 1000 0 0 none] h0 (fun x _ => x = .bool true) :=
  sc_of_vcH (X := cxP Try.prog purK2 okLn) XLn_ok (f := 3) (by kernel_rfl) (fun p _ L hL => by cases hL) (K := fun x _ => x = .bool true) (lwE_vc fr to (fun x _ => x = .bool true)) rfl
end Go.Proofs.Yteneafgmcmgahaa.V
