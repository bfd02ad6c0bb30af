/- The law BankSlots: for every input it answers true, and each argument reads behind the call as before. No condition. -/
import Derived.Test.YtndjipgpnhhggaaRRows
import Derived.Test.YtndjipgpnhhggaaRBkE
import Derived.Test.YtndjipgpnhhggaaRV25
import Derived.WalkKit
import Derived.ProofKit
import Derived.OpenShut
import Derived.ShutString
import Derived.ChangeOld
import Derived.Below
import Derived.SizedLaws
import Derived.Carry
namespace Go.Proofs.YtndjipgpnhhggaaR.bankSlots
open Go Go.Proofs Go.Proofs.YtndjipgpnhhggaaR Go.Proofs.YtndjipgpnhhggaaR.V Go.ChangeShapes Go.WideShapes Go.ChangeAt Go.RowKit
set_option linter.unusedVariables false
set_option maxRecDepth 100000
theorem own : ownKnob Try.prog.godebug = none := by kernel_rfl
theorem laidOut : laidOutB Try.prog = true := by kernel_rfl
theorem lifted (os : Os) (started : os.Started) (H : Type) (enc : TypeId × Value → H) :
    ReturnsInHanded {} Try.checked os 3 .any (Rows.bankSlotsSpec.pre6 enc Try.prog Try.f3 Rows.bankSlotsRow.domain false) (Rows.bankSlotsSpec.post enc Try.prog Try.f3 false true false false) := by
  refine returnsInHanded_of_change_sized (C := Try.checked) own started (by kernel_rfl) Try.func3
    (ChangeSpec.witness6 (enc := enc) (C := Try.checked) false ⟨#[], #[.agg #[.int .u8 0, .int .u8 0], .slice none 0 0], []⟩ 8 (by kernel_rfl) (by kernel_rfl) (by kernel_rfl) (by kernel_rfl)) ?_
  intro W base args ds gs before hval0 hW hcnd hsz0 _
  have hval : ∀ (j : Nat) t v, Try.f3.params[j]? = some t → args[j]? = some v → Value.okWide Try.prog W .any base t v := hval0
  have hW' := hW
  obtain ⟨p, q, hA0, hV, rfl, hfz, hnd⟩ := hW
  have hA : DataW.TrodAll enc Try.prog W 0 (fun _ => true) true Try.f3.params.toList args.toList ds p := hA0
  rw [Try.params3] at hA hval
  obtain ⟨v0, vs0, d0, ds0, p0, q0, hargs, rfl, rfl, h0, r0⟩ := trodAll_cons hA
  obtain ⟨v1, vs1, d1, ds1, p1, q1, rfl, rfl, rfl, h1, r1⟩ := trodAll_cons r0
  obtain ⟨rfl, rfl, rfl⟩ := trodAll_nil r1
  obtain rfl : args = #[v0, v1] := by cases args; simp_all
  obtain ⟨rfl, rfl⟩ := trodVars_none hV
  have k0 := h0
  have lt0 : ∀ x ∈ p0, x.block < W.heap.size := by obtain ⟨m, hm⟩ := k0; exact DataW.trod_lt m _ _ _ hm
  obtain ⟨n0, b0, rfl, w0⟩ := open_mixed (ks := [.i .u8, .i .u8]) Try.underlying23 (by kernel_rfl) (by kernel_rfl) (by kernel_rfl) (hval 0 23 v0 rfl rfl) h0
  have k1 := h1
  have lt1 : ∀ x ∈ p1, x.block < W.heap.size := by obtain ⟨m, hm⟩ := k1; exact DataW.trod_lt m _ _ _ hm
  clear hA0 hval0 hsz0
  rcases open_sl (k := .u8) Try.underlying24 Try.underlying5 (by kernel_rfl) (hval 1 24 v1 rfl rfl) h1 with rfl | ⟨sa1, cap1, rfl⟩ | ⟨blk1, off1, cap1, zs1, hz1, hc1, rfl, hh1, w1⟩
  · refine (law_ro (σ := roS []) (args := [.agg [.int .u8 (n0 0), .int .u8 (n0 1)], .nilslice]) (HR.ros (l := []) (rs := []) rfl (fun i r cs h _ => by simp at h)) roS_wr (.cons (.agg (.cons (.int _ _) (.cons (.int _ _) .nil))) (.cons .nilslice .nil)) (slotsLaw_nil _ _)).mono fun e W' ⟨he, bel⟩ => ?_
    subst he
    exact ⟨_, rfl, _, _, _, [], _, [], hW', trodAll_mk1 (shut_bool Try.underlying4 _), (trodAll_cons_mk (Below.trod laidOut (by kernel_rfl) (of_decide_eq_true (by kernel_rfl)) k0 bel lt0) (trodAll_cons_mk (Below.trod laidOut (by kernel_rfl) (of_decide_eq_true (by kernel_rfl)) k1 bel lt1) trodAll_mk0)), rfl, bel.frame _, fun h => by cases h⟩
  · refine (law_ro (σ := roS []) (args := [.agg [.int .u8 (n0 0), .int .u8 (n0 1)], .slice 0 0 0 none]) (HR.ros (l := []) (rs := []) rfl (fun i r cs h _ => by simp at h)) roS_wr (.cons (.agg (.cons (.int _ _) (.cons (.int _ _) .nil))) (.cons .slicee .nil)) (slotsLaw_empty _ _)).mono fun e W' ⟨he, bel⟩ => ?_
    subst he
    exact ⟨_, rfl, _, _, _, [], _, [], hW', trodAll_mk1 (shut_bool Try.underlying4 _), (trodAll_cons_mk (Below.trod laidOut (by kernel_rfl) (of_decide_eq_true (by kernel_rfl)) k0 bel lt0) (trodAll_cons_mk (Below.trod laidOut (by kernel_rfl) (of_decide_eq_true (by kernel_rfl)) k1 bel lt1) trodAll_mk0)), rfl, bel.frame _, fun h => by cases h⟩
  · refine (law_ro (σ := roS [encI .u8 zs1]) (args := [.agg [.int .u8 (n0 0), .int .u8 (n0 1)], .slice 0 0 zs1.length (some cap1)]) (HR.ros (l := [encI .u8 zs1]) (rs := [⟨blk1, off1, 1, cap1⟩]) rfl (fun i r cs h1 h2 => by cases i with | zero => cases h1; cases h2; exact hh1 | succ i => simp at h1)) roS_wr (.cons (.agg (.cons (.int _ _) (.cons (.int _ _) .nil))) (.cons (.slice rfl) .nil)) (slotsLaw_some (b8_iff.2 (wf8 (w0 0 .u8 rfl))) (b8_iff.2 (wf8 (w0 1 .u8 rfl))) rfl (fun z hz => b8_iff.2 (wf8 (w1 z hz))))).mono fun e W' ⟨he, bel⟩ => ?_
    subst he
    exact ⟨_, rfl, _, _, _, [], _, [], hW', trodAll_mk1 (shut_bool Try.underlying4 _), (trodAll_cons_mk (Below.trod laidOut (by kernel_rfl) (of_decide_eq_true (by kernel_rfl)) k0 bel lt0) (trodAll_cons_mk (Below.trod laidOut (by kernel_rfl) (of_decide_eq_true (by kernel_rfl)) k1 bel lt1) trodAll_mk0)), rfl, bel.frame _, fun h => by cases h⟩
theorem over : Rows.bankSlotsRow.holds Try.pinned (OpenSpec.ofChange Rows.bankSlotsSpec) :=
  OpenClaim.holds_of_wide 3 Try.f3 rfl rfl rfl rfl rfl rfl rfl ⟨rfl, rfl, rfl, rfl, rfl⟩ rfl rfl rfl rfl rfl (by kernel_rfl) Try.func3 (by kernel_rfl)
    (of_decide_eq_true (by kernel_rfl)) (by unfold Func.isWrapper; first | (rw [if_pos (by decide +kernel)]; kernel_rfl) | (rw [if_neg (by decide +kernel)]; exact ⟨rfl, rfl⟩))
    (fun os started H enc _ => lifted os started H enc)
theorem proved : Rows.BankSlotsSaid := over
#print axioms proved
end Go.Proofs.YtndjipgpnhhggaaR.bankSlots
namespace Go.Proofs.YtndjipgpnhhggaaR
/-- The row, under a short name, for the claim. -/
theorem bankSlots_holds : Rows.BankSlotsSaid := bankSlots.proved
end Go.Proofs.YtndjipgpnhhggaaR
