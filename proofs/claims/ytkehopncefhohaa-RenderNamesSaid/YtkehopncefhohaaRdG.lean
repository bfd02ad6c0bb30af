/- render: a frame's picture out of nothing (part 7): what Frame answers. -/
import Derived.Test.YtkehopncefhohaaRdY
namespace Go.Proofs.Ytkehopncefhohaa.V
open Go Go.Proofs
set_option maxRecDepth 100000
set_option linter.unusedSimpArgs false
set_option linter.unusedVariables false
theorem frame_sc : SC Try.prog 4 [classicA, .nilslice, .int .i64 0] h0 (fun x τ => x = .tup [pcV 5, .int .i64 0] ∧ τ.get 5 = .opn 5 1 (pcs 49152)) :=
  (funP_sound XFr_ok (by kernel_rfl) (fun p _ L hL => by cases hL) _ _ frm_scr _ ((frm_vc (pcs 49152) (fun x τ => x = .tup [pcV 5, .int .i64 0] ∧ τ.get 5 = .opn 5 1 (pcs 49152))).mpr ⟨rfl, rfl⟩)).mono (fun v σ ⟨s, q⟩ => q)
/-- Frame, of nothing. -/
def frameTr (cs : List AV) : Tr1 := fun xs σ s K => match xs with
  | [.agg [.int .i64 311, .int .i64 228, .int .i64 63, .int .i64 192, .int .i64 14, .int .i64 32, .int .i64 36], .nilslice, .int .i64 0] => K (.tup [pcV σ.nx, .int .i64 0]) (σ.push (.opn 5 1 cs)) s
  | _ => False
theorem frameTr_ok : TrOk Try.prog 4 (frameTr (pcs 49152)) := by
  intro xs σ s K e
  unfold frameTr at e
  split at e
  · refine (SC.frame (k := 5) (v := .tup [pcV 5, .int .i64 0]) (u := .tup [pcV σ.nx, .int .i64 0]) (σ0 := h0) (fun b hb => by cases hb) h0_wr (Nat.zero_le _) (fun b hb => by cases hb) rfl pfs_pcs rfl frame_sc).mono ?_
    rintro u τ ⟨rfl, rfl⟩
    exact ⟨s, e⟩
  · exact e.elim
def withT (f : Nat) (T : Tr1) (base : Trs) : Trs := fun g => if Nat.beq g f = true then some T else base g
theorem withT_ok {P : Program} {f : Nat} {T : Tr1} {base : Trs} (h : TrOk P f T) (hb : TrsOk P base) : TrsOk P (withT f T base) := by
  intro g T' e
  unfold withT at e
  split at e
  · rename_i hk
    cases e
    rw [Nat.eq_of_beq_eq_true hk]
    exact h
  · exact hb g T' e
noncomputable def XLv (cs : List AV) : Cx := ⟨Try.prog, withT 4 (frameTr cs) (purT purR), purO purR, [], 20, lookL []⟩
theorem XLv_ok : CxOk (XLv (pcs 49152)) := ⟨withT_ok frameTr_ok (purT_ok purR_ok), purO_ok purR_ok, mixedR⟩
end Go.Proofs.Ytkehopncefhohaa.V
