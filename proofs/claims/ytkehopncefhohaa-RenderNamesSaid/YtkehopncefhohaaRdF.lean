/- render: a frame's picture out of nothing (part 6): gather and picture as what is known of them. -/
import Derived.Test.YtkehopncefhohaaRdX
namespace Go.Proofs.Ytkehopncefhohaa.V
open Go Go.Proofs
set_option maxRecDepth 100000
set_option linter.unusedSimpArgs false
set_option linter.unusedVariables false
theorem okLe_ok : okFunsX Try.prog [10] = true := by kernel_rfl
theorem gather_sc : SC Try.prog 12 [classicA, .nilslice] h0 (fun x τ => x = .map 2 ∧ τ.get 2 = .mp []) :=
  (funP_sound (cxP_ok mixedR purR_ok okLe_ok) (by kernel_rfl) (fun p _ L hL => by cases hL) _ _ ga_scr _ ((ga_vc () (fun x τ => x = .map 2 ∧ τ.get 2 = .mp [])).mpr ⟨rfl, rfl⟩)).mono (fun v σ ⟨s, q⟩ => q)
def gatherO : List AV → AH → Option (AV × AH)
  | [.agg [.int .i64 311, .int .i64 228, .int .i64 63, .int .i64 192, .int .i64 14, .int .i64 32, .int .i64 36], .nilslice], σ => some (.map σ.nx, σ.push (.mp []))
  | _, _ => none
def pictureO (cs : List AV) : List AV → AH → Option (AV × AH)
  | [.agg [.int .i64 311, .int .i64 228, .int .i64 63, .int .i64 192, .int .i64 14, .int .i64 32, .int .i64 36], .nilptr, .int .i64 0], σ => some (pcV σ.nx, σ.push (.opn 5 1 cs))
  | _, _ => none
theorem h0_wr : ∀ b, (h0.get b).wr = false := fun b => rfl
theorem gatherO_ok {xs : List AV} {σ τ : AH} {v : AV} (h : gatherO xs σ = some (v, τ)) : SC Try.prog 12 xs σ (fun u τ' => u = v ∧ τ' = τ) := by
  unfold gatherO at h
  split at h
  · cases h
    exact SC.frameM (k := 2) (v := .map 2) (σ0 := h0) rfl (fun _ _ _ _ h => or_mp h) (fun b hb => by cases hb) h0_wr (Nat.zero_le _) (fun b hb => by cases hb) rfl rfl gather_sc
  · cases h
theorem pictureO_ok {xs : List AV} {σ τ : AH} {v : AV} (h : pictureO (pcs 49152) xs σ = some (v, τ)) : SC Try.prog 11 xs σ (fun u τ' => u = v ∧ τ' = τ) := by
  unfold pictureO at h
  split at h
  · cases h
    exact SC.frame (k := 4) (v := pcV 4) (σ0 := h0) (fun b hb => by cases hb) h0_wr (Nat.zero_le _) (fun b hb => by cases hb) rfl pfs_pcs rfl picture_sc
  · cases h
noncomputable def orcFr (cs : List AV) : Orc := fun f => if Nat.beq f 12 = true then some gatherO else if Nat.beq f 11 = true then some (pictureO cs) else purO purR f
theorem orcFr_ok : OrcOk Try.prog (orcFr (pcs 49152)) := by
  intro f o hf xs σ v σ' ho
  unfold orcFr at hf
  split at hf
  · rename_i e
    cases hf
    rw [Nat.eq_of_beq_eq_true e]
    exact gatherO_ok ho
  · split at hf
    · rename_i e
      cases hf
      rw [Nat.eq_of_beq_eq_true e]
      exact pictureO_ok ho
    · exact purO_ok purR_ok f o hf xs σ v σ' ho
def okFr : List Nat := [9, 10]
theorem okFr_ok : okFunsX Try.prog okFr = true := by kernel_rfl
noncomputable def XFr (cs : List AV) : Cx := ⟨Try.prog, (cxP Try.prog purR okFr).trs, orcFr cs, [12, 11], 20, lookL []⟩
theorem XFr_ok : CxOk (XFr (pcs 49152)) := ⟨(cxP_ok mixedR purR_ok okFr_ok).trs, orcFr_ok, mixedR⟩
end Go.Proofs.Ytkehopncefhohaa.V
