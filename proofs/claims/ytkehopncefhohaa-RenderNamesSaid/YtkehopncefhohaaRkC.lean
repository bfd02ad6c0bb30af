/- render: the keys of an empty map (part 3): what slices.AppendSeq answers, over abstract memory. -/
import Derived.Test.YtkehopncefhohaaRkB
import Derived.Test.YtkehopncefhohaaRdH
namespace Go.Proofs.Ytkehopncefhohaa.V
open Go Go.Proofs Go.RowKit
set_option maxRecDepth 100000
set_option linter.unusedSimpArgs false
set_option linter.unusedVariables false
theorem SC_of_below {P : Program} {f : Nat} {args : List AV} {σ : AH} {v : AV} (h : ∀ (ρ : Ren) (args' : List Value) (w : World), VRs ρ args args' → HR ρ σ w → ∃ v', VR ρ v v' ∧ Calls P f ⟨args'⟩ w (fun e w' => e = .returned v' ∧ Below w.heap.size w w')) : SC P f args σ (fun u τ => u = v ∧ τ = σ) := by
  intro ρ args' w ha hr
  obtain ⟨v', hv, hc⟩ := h ρ args' w ha hr
  refine Calls.mono hc ?_
  rintro e w' ⟨rfl, hb⟩
  refine ⟨v, v', ρ, σ, rfl, ⟨rfl, rfl⟩, hv, ⟨hr.dom, fun b r hb' => Nat.lt_of_lt_of_le (hr.lt b r hb') hb.size, fun b r hb' => OR.of_heap (hb.block _ (hr.lt b r hb')) (hr.obj b r hb'), hr.inj⟩, ?_⟩
  exact ⟨fun _ _ => rfl, Nat.le_refl _, hb.os, hb.tape, hb.output, hb.size, fun c hc _ => hb.block c hc, fun c hc => .inl hc⟩
theorem appendSeq_sc {σ : AH} {b2 m t : Nat} (h2 : σ.get b2 = .cells t [.map m]) (hm : σ.get m = .mp []) : SC Try.prog 47 [.nilslice, .func (.func 28) [] [.ptr b2 0]] σ (fun u τ => u = .nilslice ∧ τ = σ) := by
  refine SC_of_below fun ρ args' w ha hr => ⟨.slice none 0 0, .nilslice, ?_⟩
  cases ha with
  | cons a0 r0 =>
    cases r0 with
    | cons a1 r1 =>
      cases r1
      cases a0
      cases a1 with
      | func hx hy =>
        cases hx
        cases hy with
        | cons y0 ys =>
          cases ys
          cases y0 with
          | ptr hb =>
            rename_i r
            have o2 := hr.obj b2 r hb
            rw [h2] at o2
            obtain ⟨hsh, l, hl, hvl⟩ := o2
            cases hvl with
            | cons z0 zs =>
              cases zs
              cases z0 with
              | map hmr =>
                rename_i rm
                have om := hr.obj m rm hmr
                rw [hm] at om
                obtain ⟨ents, c, he, hk, _⟩ := om
                have e0 : ents = #[] := by
                  have := hk.length
                  simp at this
                  exact Array.eq_empty_of_size_eq_zero this.symm
                subst e0
                have hcell : w.cell? ⟨r.blk, 0, none⟩ = some (.map (some rm.blk)) := by simp [World.cell?, hl]
                have := callsIn_wide.1 (appendSeq_none 1 r.blk rm.blk c w (Nat.le_refl _) (hr.lt b2 r hb) (hr.lt m rm hmr) hcell he)
                rw [hsh]
                exact this
end Go.Proofs.Ytkehopncefhohaa.V
