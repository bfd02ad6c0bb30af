/- render: the chapter's names (part 4): settings. -/
import Derived.Test.YtkehopncefhohaaRkC
namespace Go.Proofs.Ytkehopncefhohaa.V
open Go Go.Proofs
set_option maxRecDepth 100000
set_option linter.unusedSimpArgs false
set_option linter.unusedVariables false
def zeroA : AV := .agg [.int .i64 0, .int .i64 0, .int .i64 0, .int .i64 0, .int .i64 0, .int .i64 0, .int .i64 0]
def gatherTr : Tr1 := fun xs σ s K => match xs with
  | [.agg [.int .i64 311, .int .i64 228, .int .i64 63, .int .i64 192, .int .i64 14, .int .i64 32, .int .i64 36], .nilslice] => K (.map σ.nx) (σ.push (.mp [])) s
  | _ => False
theorem gatherTr_ok : TrOk Try.prog 12 gatherTr := by
  intro xs σ s K e
  unfold gatherTr at e
  split at e
  · refine (gatherO_ok (v := .map σ.nx) (τ := σ.push (.mp [])) rfl).mono ?_
    rintro u τ ⟨rfl, rfl⟩
    exact ⟨s, e⟩
  · exact e.elim
def appendTr : Tr1 := fun xs σ s K => match xs with
  | [.nilslice, .func (.func 28) [] [.ptr b2 0]] => match σ.get b2 with
    | .cells _ [.map m] => match σ.get m with
      | .mp [] => K .nilslice σ s
      | _ => False
    | _ => False
  | _ => False
theorem appendTr_ok : TrOk Try.prog 47 appendTr := by
  intro xs σ s K e
  unfold appendTr at e
  split at e
  · split at e
    · rename_i h2
      split at e
      · rename_i hm
        refine (appendSeq_sc h2 hm).mono ?_
        rintro u τ ⟨rfl, rfl⟩
        exact ⟨s, e⟩
      · exact e.elim
    · exact e.elim
  · exact e.elim
def okFs : List Nat := [9, 10, 14, 13, 26, 27, 48, 59, 49, 69]
theorem okFs_ok : okFunsX Try.prog okFs = true := by kernel_rfl
noncomputable def XFs : Cx := ⟨Try.prog, inl Try.prog (purO purR) [] 20 (withT 12 gatherTr (withT 47 appendTr (purT purR))) okFs 8, purO purR, [], 20, lookL []⟩
theorem XFs_ok : CxOk XFs := ⟨inl_ok (purO_ok purR_ok) mixedR (withT_ok gatherTr_ok (withT_ok appendTr_ok (purT_ok purR_ok))) okFs_ok 8, purO_ok purR_ok, mixedR⟩
end Go.Proofs.Ytkehopncefhohaa.V
