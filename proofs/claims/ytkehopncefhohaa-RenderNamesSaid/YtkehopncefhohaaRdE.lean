/- render: a frame's picture out of nothing (part 5): what picture answers. -/
import Derived.Test.YtkehopncefhohaaRdD
import Derived.Test.YtkehopncefhohaaV32
namespace Go.Proofs.Ytkehopncefhohaa.V
open Go Go.Proofs
set_option maxRecDepth 100000
set_option maxHeartbeats 4000000
set_option linter.unusedSimpArgs false
set_option linter.unusedVariables false
def pcV (b : Nat) : AV := .agg [.int .i64 0, .slice b 0 49152 none, .nilslice]
def pFin (e : Exit) (fr : AF) (σ : AH) : Prop := e = .ret ∧ fr = ⟨75, [(6, .ptr 1 0)]⟩ ∧ σ = ⟨5, [(1, .cells 24 [.int .i64 0, .slice 4 0 49152 none, .nilslice]), (4, .opn 5 1 (pcs 49152))]⟩
theorem pSt_all : pSt 49152 = pHp (.slice 4 0 49152 none) (.opn 5 1 (pcs 49152)) := by
  unfold pSt
  rw [pvB_pos (by omega), po_pos (by omega)]
theorem pc_wp : WP Try.prog 0 pcC pFin (AF.enter 75 [classicA, .nilptr, .int .i64 0]) ⟨0, []⟩ := by
  rw [pcC_eq]
  refine seg (s := p1_scr) (A := fun N Q => p1_VC N Q ()) XRw_ok rfl (by kernel_rfl) [1, 2, 3, 6, 7] (fun _ : Unit => ((⟨75, [(1, .ptr 2 0), (2, .int .i64 0), (3, .ptr 0 0), (6, .ptr 1 0), (7, .ptr 3 0)]⟩ : AF), pSt 0)) (fun _ => True) (fun _ _ => ?_) (fun N Q' => p1_vc N Q' ()) ?_
  · refine WP.seq ?_
    rw [pcMid_eq]
    refine seg (l := [hdC pcMid]) (s := p4_scr) (A := fun N Q => p4_VC .nilslice .dead N Q ()) XRw_ok rfl (by kernel_rfl) slY (fun _ : Unit => (fY 0, pSt 0)) (fun _ => True) (fun _ _ => ?_) (fun N Q' => p4_vc .nilslice .dead N Q' ()) ?_
    · refine WP.block ((WL.loop y_wl).mono ?_)
      rintro e fr σ ⟨rfl, rfl, rfl⟩
      show WP Try.prog 0 pcTail pFin (fY 192) (pSt 49152)
      rw [pSt_all]
      refine segE (s := pT_scr) (A := fun N Q => pT_VC 49152 (.opn 5 1 (pcs 49152)) N Q ()) XRw_ok rfl (by kernel_rfl) [6] (fun _ : Unit => (fY 0, pSt 0)) (fun _ => False) (fun _ _ _ _ h => h.elim) (fun N Q' => pT_vc 49152 (.opn 5 1 (pcs 49152)) N Q' ()) ?_
      exact ⟨[(1, 1), (4, 4)], ⟨75, [(6, .ptr 1 0)]⟩, ⟨5, [(1, .cells 24 [.int .i64 0, .slice 4 0 49152 none, .nilslice]), (4, .opn 5 1 (pcs 49152))]⟩, ⟨rfl, ⟨⟨rfl, .inl rfl⟩, ⟨rfl, rfl, .inr ⟨pfs_pcs, rfl⟩⟩, trivial⟩, rfl, ⟨rfl, trivial⟩⟩, rfl, rfl, rfl⟩
    · exact ⟨(), pgs 4, trivial, fitY rfl rfl rfl rfl rfl (.inr rfl)⟩
  · refine ⟨(), [(0, 0), (1, 1), (2, 2), (3, 3)], trivial, rfl, ⟨⟨rfl, .inr ⟨rfl, rfl⟩⟩, ⟨rfl, .inl rfl⟩, ⟨rfl, .inl rfl⟩, ⟨rfl, .inl rfl⟩, trivial⟩, rfl, ⟨rfl, rfl, rfl, rfl, rfl, trivial⟩⟩
theorem picture_sc : SC Try.prog 11 [classicA, .nilptr, .int .i64 0] h0 (fun x τ => x = pcV 4 ∧ τ.get 4 = .opn 5 1 (pcs 49152)) := by
  have e1 : (Try.prog.funcs[11]?).isSome = true := by kernel_rfl
  have e2 : (Try.prog.funcs[11]?).bind (·.body) = some pcC := by kernel_rfl
  have e3 : (Try.prog.funcs[11]?).map (·.ntmps) = some 75 := by kernel_rfl
  have e4 : ∀ cs : List AV, (Try.prog.funcs[11]?).map (fun f => resultsA Try.prog ⟨75, [(6, .ptr 1 0)]⟩ ⟨5, [(1, .cells 24 [.int .i64 0, .slice 4 0 49152 none, .nilslice]), (4, .opn 5 1 cs)]⟩ f.results.toList) = some (some [pcV 4]) := by intro cs; kernel_rfl
  have e4 := e4 (pcs 49152)
  cases hf : Try.prog.funcs[11]? with
  | none => rw [hf] at e1; cases e1
  | some fn =>
    rw [hf] at e2 e3 e4
    simp only [Option.bind_some, Option.map_some, Option.some.injEq] at e2 e3 e4
    refine SC_body hf e2 (by rw [e3]; decide) ?_
    rw [e3]
    refine pc_wp.mono ?_
    rintro e fr σ ⟨rfl, rfl, rfl⟩
    simp only [retQ]
    rw [e4]
    exact ⟨rfl, rfl⟩
end Go.Proofs.Ytkehopncefhohaa.V
