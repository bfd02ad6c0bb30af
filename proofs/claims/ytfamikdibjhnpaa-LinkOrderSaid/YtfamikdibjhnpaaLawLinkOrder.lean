/- The law LinkOrder: for every input it answers true, and each argument reads behind the call as before. No condition. -/
import Derived.Test.YtfamikdibjhnpaaRows
import Derived.Test.YtfamikdibjhnpaaLlC
import Derived.Test.YtfamikdibjhnpaaV21
import Derived.WalkKit
import Derived.ProofKit
import Derived.OpenShut
import Derived.ShutString
import Derived.ChangeOld
import Derived.Below
import Derived.SizedLaws
import Derived.Carry
namespace Go.Proofs.Ytfamikdibjhnpaa.linkOrder
open Go Go.Proofs Go.Proofs.Ytfamikdibjhnpaa Go.Proofs.Ytfamikdibjhnpaa.V Go.ChangeShapes Go.WideShapes Go.ChangeAt Go.RowKit
set_option linter.unusedVariables false
set_option maxRecDepth 100000
theorem own : ownKnob Try.prog.godebug = none := by kernel_rfl
theorem laidOut : laidOutB Try.prog = true := by kernel_rfl
theorem lifted (os : Os) (started : os.Started) (H : Type) (enc : TypeId × Value → H) :
    ReturnsInHanded {} Try.checked os 3 .any (Rows.linkOrderSpec.pre6 enc Try.prog Try.f3 Rows.linkOrderRow.domain false) (Rows.linkOrderSpec.post enc Try.prog Try.f3 false true false false) := by
  refine returnsInHanded_of_change_sized (C := Try.checked) own started (by kernel_rfl) Try.func3
    (ChangeSpec.witness6 (enc := enc) (C := Try.checked) false ⟨#[], #[.int .i64 0, .slice none 0 0, .slice none 0 0], []⟩ 8 (by kernel_rfl) (by kernel_rfl) (by kernel_rfl) (by kernel_rfl)) ?_
  intro W base args ds gs before hval0 hW hcnd hsz0 _
  have hval : ∀ (j : Nat) t v, Try.f3.params[j]? = some t → args[j]? = some v → Value.okWide Try.prog W .any base t v := hval0
  have hW' := hW
  obtain ⟨p, q, hA0, hV, rfl, hfz, hnd⟩ := hW
  have hA : DataW.TrodAll enc Try.prog W 0 (fun _ => true) true Try.f3.params.toList args.toList ds p := hA0
  rw [Try.params3] at hA hval
  obtain ⟨v0, vs0, d0, ds0, p0, q0, hargs, rfl, rfl, h0, r0⟩ := trodAll_cons hA
  obtain ⟨v1, vs1, d1, ds1, p1, q1, rfl, rfl, rfl, h1, r1⟩ := trodAll_cons r0
  obtain ⟨v2, vs2, d2, ds2, p2, q2, rfl, rfl, rfl, h2, r2⟩ := trodAll_cons r1
  obtain ⟨rfl, rfl, rfl⟩ := trodAll_nil r2
  obtain rfl : args = #[v0, v1, v2] := by cases args; simp_all
  obtain ⟨rfl, rfl⟩ := trodVars_none hV
  have k0 := h0
  have lt0 : ∀ x ∈ p0, x.block < W.heap.size := by obtain ⟨m, hm⟩ := k0; exact DataW.trod_lt m _ _ _ hm
  obtain ⟨a0, rfl, rfl, rfl, w0⟩ := open_int Try.underlying3 (hval 0 3 v0 rfl rfl) h0
  have k1 := h1
  have lt1 : ∀ x ∈ p1, x.block < W.heap.size := by obtain ⟨m, hm⟩ := k1; exact DataW.trod_lt m _ _ _ hm
  have k2 := h2
  have lt2 : ∀ x ∈ p2, x.block < W.heap.size := by obtain ⟨m, hm⟩ := k2; exact DataW.trod_lt m _ _ _ hm
  clear hA0 hval0 hsz0
  rcases open_msgs Try.underlying22 Try.underlying33 (by kernel_rfl) (by kernel_rfl) (by kernel_rfl) (by kernel_rfl) (hval 1 22 v1 rfl rfl) h1 with rfl | ⟨sa1, cap1, rfl⟩ | ⟨blk1, off1, cap1, xs1, pos1, rfl, hh1⟩
  · rcases open_bools Try.underlying23 Try.underlying4 (by kernel_rfl) (hval 2 23 v2 rfl rfl) h2 with rfl | ⟨sa2, cap2, rfl⟩ | ⟨blk2, off2, cap2, xs2, pos2, rfl, hh2⟩
    · refine (law_ro (σ := roS []) (args := [.int .i64 a0, .nilslice, .nilslice]) (HR.ros (l := []) (rs := []) rfl (fun i r cs h _ => by simp at h)) roS_wr (.cons (.int _ _) (.cons .nilslice (.cons .nilslice .nil))) ordZN_sc).mono fun e W' ⟨he, bel⟩ => ?_
      subst he
      exact ⟨_, rfl, _, _, _, [], _, [], hW', trodAll_mk1 (shut_bool Try.underlying4 _), (trodAll_cons_mk (Below.trod laidOut (by kernel_rfl) (of_decide_eq_true (by kernel_rfl)) k0 bel lt0) (trodAll_cons_mk (Below.trod laidOut (by kernel_rfl) (of_decide_eq_true (by kernel_rfl)) k1 bel lt1) (trodAll_cons_mk (Below.trod laidOut (by kernel_rfl) (of_decide_eq_true (by kernel_rfl)) k2 bel lt2) trodAll_mk0))), rfl, bel.frame _, fun h => by cases h⟩
    · refine (law_ro (σ := roS []) (args := [.int .i64 a0, .nilslice, .slice 1000 0 0 none]) (HR.ros (l := []) (rs := []) rfl (fun i r cs h _ => by simp at h)) roS_wr (.cons (.int _ _) (.cons .nilslice (.cons .slicee .nil))) ordZN_sc).mono fun e W' ⟨he, bel⟩ => ?_
      subst he
      exact ⟨_, rfl, _, _, _, [], _, [], hW', trodAll_mk1 (shut_bool Try.underlying4 _), (trodAll_cons_mk (Below.trod laidOut (by kernel_rfl) (of_decide_eq_true (by kernel_rfl)) k0 bel lt0) (trodAll_cons_mk (Below.trod laidOut (by kernel_rfl) (of_decide_eq_true (by kernel_rfl)) k1 bel lt1) (trodAll_cons_mk (Below.trod laidOut (by kernel_rfl) (of_decide_eq_true (by kernel_rfl)) k2 bel lt2) trodAll_mk0))), rfl, bel.frame _, fun h => by cases h⟩
    · refine (law_ro (σ := roS [bF xs2]) (args := [.int .i64 a0, .nilslice, .slice 0 0 xs2.length (some cap2)]) (HR.ros (l := [bF xs2]) (rs := [⟨blk2, off2, 1, cap2⟩]) rfl (fun i r cs h1 h2 => by cases i with | zero => cases h1; cases h2; exact hh2 | succ i => simp at h1)) roS_wr (.cons (.int _ _) (.cons .nilslice (.cons (.slice rfl) .nil))) ordZT_sc).mono fun e W' ⟨he, bel⟩ => ?_
      subst he
      exact ⟨_, rfl, _, _, _, [], _, [], hW', trodAll_mk1 (shut_bool Try.underlying4 _), (trodAll_cons_mk (Below.trod laidOut (by kernel_rfl) (of_decide_eq_true (by kernel_rfl)) k0 bel lt0) (trodAll_cons_mk (Below.trod laidOut (by kernel_rfl) (of_decide_eq_true (by kernel_rfl)) k1 bel lt1) (trodAll_cons_mk (Below.trod laidOut (by kernel_rfl) (of_decide_eq_true (by kernel_rfl)) k2 bel lt2) trodAll_mk0))), rfl, bel.frame _, fun h => by cases h⟩
  · rcases open_bools Try.underlying23 Try.underlying4 (by kernel_rfl) (hval 2 23 v2 rfl rfl) h2 with rfl | ⟨sa2, cap2, rfl⟩ | ⟨blk2, off2, cap2, xs2, pos2, rfl, hh2⟩
    · refine (law_ro (σ := roS []) (args := [.int .i64 a0, .slice 1000 0 0 none, .nilslice]) (HR.ros (l := []) (rs := []) rfl (fun i r cs h _ => by simp at h)) roS_wr (.cons (.int _ _) (.cons .slicee (.cons .nilslice .nil))) ordYN_sc).mono fun e W' ⟨he, bel⟩ => ?_
      subst he
      exact ⟨_, rfl, _, _, _, [], _, [], hW', trodAll_mk1 (shut_bool Try.underlying4 _), (trodAll_cons_mk (Below.trod laidOut (by kernel_rfl) (of_decide_eq_true (by kernel_rfl)) k0 bel lt0) (trodAll_cons_mk (Below.trod laidOut (by kernel_rfl) (of_decide_eq_true (by kernel_rfl)) k1 bel lt1) (trodAll_cons_mk (Below.trod laidOut (by kernel_rfl) (of_decide_eq_true (by kernel_rfl)) k2 bel lt2) trodAll_mk0))), rfl, bel.frame _, fun h => by cases h⟩
    · refine (law_ro (σ := roS []) (args := [.int .i64 a0, .slice 1000 0 0 none, .slice 1000 0 0 none]) (HR.ros (l := []) (rs := []) rfl (fun i r cs h _ => by simp at h)) roS_wr (.cons (.int _ _) (.cons .slicee (.cons .slicee .nil))) ordYN_sc).mono fun e W' ⟨he, bel⟩ => ?_
      subst he
      exact ⟨_, rfl, _, _, _, [], _, [], hW', trodAll_mk1 (shut_bool Try.underlying4 _), (trodAll_cons_mk (Below.trod laidOut (by kernel_rfl) (of_decide_eq_true (by kernel_rfl)) k0 bel lt0) (trodAll_cons_mk (Below.trod laidOut (by kernel_rfl) (of_decide_eq_true (by kernel_rfl)) k1 bel lt1) (trodAll_cons_mk (Below.trod laidOut (by kernel_rfl) (of_decide_eq_true (by kernel_rfl)) k2 bel lt2) trodAll_mk0))), rfl, bel.frame _, fun h => by cases h⟩
    · refine (law_ro (σ := roS [bF xs2]) (args := [.int .i64 a0, .slice 1000 0 0 none, .slice 0 0 xs2.length (some cap2)]) (HR.ros (l := [bF xs2]) (rs := [⟨blk2, off2, 1, cap2⟩]) rfl (fun i r cs h1 h2 => by cases i with | zero => cases h1; cases h2; exact hh2 | succ i => simp at h1)) roS_wr (.cons (.int _ _) (.cons .slicee (.cons (.slice rfl) .nil))) ordYT_sc).mono fun e W' ⟨he, bel⟩ => ?_
      subst he
      exact ⟨_, rfl, _, _, _, [], _, [], hW', trodAll_mk1 (shut_bool Try.underlying4 _), (trodAll_cons_mk (Below.trod laidOut (by kernel_rfl) (of_decide_eq_true (by kernel_rfl)) k0 bel lt0) (trodAll_cons_mk (Below.trod laidOut (by kernel_rfl) (of_decide_eq_true (by kernel_rfl)) k1 bel lt1) (trodAll_cons_mk (Below.trod laidOut (by kernel_rfl) (of_decide_eq_true (by kernel_rfl)) k2 bel lt2) trodAll_mk0))), rfl, bel.frame _, fun h => by cases h⟩
  · rcases open_bools Try.underlying23 Try.underlying4 (by kernel_rfl) (hval 2 23 v2 rfl rfl) h2 with rfl | ⟨sa2, cap2, rfl⟩ | ⟨blk2, off2, cap2, xs2, pos2, rfl, hh2⟩
    · refine (law_ro (σ := roS [mF xs1]) (args := [.int .i64 a0, .slice 0 0 xs1.length (some cap1), .nilslice]) (HR.ros (l := [mF xs1]) (rs := [⟨blk1, off1, 7, cap1⟩]) rfl (fun i r cs h1 h2 => by cases i with | zero => cases h1; cases h2; exact hh1 | succ i => simp at h1)) roS_wr (.cons (.int _ _) (.cons (.slice rfl) (.cons .nilslice .nil))) (ordN_sc (tk := .no) (.inl rfl))).mono fun e W' ⟨he, bel⟩ => ?_
      subst he
      exact ⟨_, rfl, _, _, _, [], _, [], hW', trodAll_mk1 (shut_bool Try.underlying4 _), (trodAll_cons_mk (Below.trod laidOut (by kernel_rfl) (of_decide_eq_true (by kernel_rfl)) k0 bel lt0) (trodAll_cons_mk (Below.trod laidOut (by kernel_rfl) (of_decide_eq_true (by kernel_rfl)) k1 bel lt1) (trodAll_cons_mk (Below.trod laidOut (by kernel_rfl) (of_decide_eq_true (by kernel_rfl)) k2 bel lt2) trodAll_mk0))), rfl, bel.frame _, fun h => by cases h⟩
    · refine (law_ro (σ := roS [mF xs1]) (args := [.int .i64 a0, .slice 0 0 xs1.length (some cap1), .slice 1000 0 0 none]) (HR.ros (l := [mF xs1]) (rs := [⟨blk1, off1, 7, cap1⟩]) rfl (fun i r cs h1 h2 => by cases i with | zero => cases h1; cases h2; exact hh1 | succ i => simp at h1)) roS_wr (.cons (.int _ _) (.cons (.slice rfl) (.cons .slicee .nil))) (ordN_sc (tk := .em) (.inr rfl))).mono fun e W' ⟨he, bel⟩ => ?_
      subst he
      exact ⟨_, rfl, _, _, _, [], _, [], hW', trodAll_mk1 (shut_bool Try.underlying4 _), (trodAll_cons_mk (Below.trod laidOut (by kernel_rfl) (of_decide_eq_true (by kernel_rfl)) k0 bel lt0) (trodAll_cons_mk (Below.trod laidOut (by kernel_rfl) (of_decide_eq_true (by kernel_rfl)) k1 bel lt1) (trodAll_cons_mk (Below.trod laidOut (by kernel_rfl) (of_decide_eq_true (by kernel_rfl)) k2 bel lt2) trodAll_mk0))), rfl, bel.frame _, fun h => by cases h⟩
    · refine (law_ro (σ := roS [mF xs1, bF xs2]) (args := [.int .i64 a0, .slice 0 0 xs1.length (some cap1), .slice 1 0 xs2.length (some cap2)]) (HR.ros (l := [mF xs1, bF xs2]) (rs := [⟨blk1, off1, 7, cap1⟩, ⟨blk2, off2, 1, cap2⟩]) rfl (fun i r cs h1 h2 => by rcases i with _ | _ | i; (cases h1; cases h2; exact hh1); (cases h1; cases h2; exact hh2); (simp at h1))) roS_wr (.cons (.int _ _) (.cons (.slice rfl) (.cons (.slice rfl) .nil))) ordT_ro).mono fun e W' ⟨he, bel⟩ => ?_
      subst he
      exact ⟨_, rfl, _, _, _, [], _, [], hW', trodAll_mk1 (shut_bool Try.underlying4 _), (trodAll_cons_mk (Below.trod laidOut (by kernel_rfl) (of_decide_eq_true (by kernel_rfl)) k0 bel lt0) (trodAll_cons_mk (Below.trod laidOut (by kernel_rfl) (of_decide_eq_true (by kernel_rfl)) k1 bel lt1) (trodAll_cons_mk (Below.trod laidOut (by kernel_rfl) (of_decide_eq_true (by kernel_rfl)) k2 bel lt2) trodAll_mk0))), rfl, bel.frame _, fun h => by cases h⟩
theorem over : Rows.linkOrderRow.holds Try.pinned (OpenSpec.ofChange Rows.linkOrderSpec) :=
  OpenClaim.holds_of_wide 3 Try.f3 rfl rfl rfl rfl rfl rfl rfl ⟨rfl, rfl, rfl, rfl, rfl⟩ rfl rfl rfl rfl rfl (by kernel_rfl) Try.func3 (by kernel_rfl)
    (of_decide_eq_true (by kernel_rfl)) (by unfold Func.isWrapper; first | (rw [if_pos (by decide +kernel)]; kernel_rfl) | (rw [if_neg (by decide +kernel)]; exact ⟨rfl, rfl⟩))
    (fun os started H enc _ => lifted os started H enc)
theorem proved : Rows.LinkOrderSaid := over
#print axioms proved
end Go.Proofs.Ytfamikdibjhnpaa.linkOrder
namespace Go.Proofs.Ytfamikdibjhnpaa
/-- The row, under a short name, for the claim. -/
theorem linkOrder_holds : Rows.LinkOrderSaid := linkOrder.proved
end Go.Proofs.Ytfamikdibjhnpaa
