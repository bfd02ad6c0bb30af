/- Own library, part 33: between the model's level and this library: ranges over a function that never yields; calls over memory that is only read. -/
import Derived.RangeFuncIn
import Derived.RangeFuncRecord
import Derived.RangeFuncLeaves
import Derived.RangeFuncSeq
import Derived.RangeFuncGives
import Derived.RangeFuncOwn
import Derived.OwnWalkIn
import Derived.TacticsInMore
import Derived.RegionIn
import Derived.LoopNIn
import Derived.LoopIn
import Derived.WalkKit
import Derived.Below
import Derived.Shelf.Abstract
import Derived.Test.YtngemikgnlgjcaaV32
namespace Go.Proofs.Ytngemikgnlgjcaa.V
open Go Go.Proofs Go.RowKit Go.Shelf
set_option maxRecDepth 100000
set_option maxHeartbeats 2000000
set_option linter.unusedSimpArgs false
set_option linter.unusedVariables false
/-- A range over a function that never yields. -/
theorem rangeFunc0 {P : Program} {n gf : Nat} {lb : Array Value} {g : Operand} {ps : Array Tmp} {assign body : Code} {Q : Exit → Act → World → Prop} {a : Act} {w : World} (h1 : 1 ≤ n)
    (hg : a.eval g = .func (.func gf) #[] lb) (eg : ∀ args w, (callFunc gf args).run P w = .ok (.enter gf args) w)
    (hcall : ∀ l W1, Below w.heap.size w W1 → CallsIn Fence.wide (n - 1) P gf (#[.func (.yield l) #[] #[]] ++ lb) W1 fun e W' => (∃ v, e = .returned v) ∧ Below W1.heap.size W1 W')
    (hdone : ∀ W D, Below w.heap.size w W → w.heap.size ≤ D → W.heap[D]? = some (.deferred (some [])) → Q .normal { a with defers := { target := .collected D, args := #[] } :: a.defers } W) :
    (Code.rangeFunc g ps assign body).wpIn Fence.wide n P Q a w := by
  refine wpIn_rangeFunc ?_
  intro fn hfn
  obtain ⟨R, hR⟩ : ∃ R : Loop, R = { state := .ready, pending := none, fn, tmps := a.tmps, params := ps, assign, body, defers := w.heap.size } := ⟨_, rfl⟩
  obtain ⟨W1, hW1⟩ : ∃ W1, (w.alloc (.deferred (some []))).alloc (.loop R) = W1 := ⟨_, rfl⟩
  have hs1 : W1.heap.size = w.heap.size + 2 := by rw [← hW1]; simp
  have hb1 : Below w.heap.size w W1 := by rw [← hW1]; exact ((Below.refl _ w).alloc (Nat.le_refl _) _).alloc (by simp) _
  have hL : W1.heap[w.heap.size + 1]? = some (.loop R) := by rw [← hW1]; have := World.alloc_heap_new (w.alloc (.deferred (some []))) (.loop R); rwa [World.size_alloc] at this
  have hK : W1.heap[w.heap.size]? = some (.deferred (some [])) := by rw [← hW1]; exact (Below.heap_alloc _ _ _ (by simp)).trans (World.alloc_heap_new w _)
  refine ⟨w.heap.size + 1, [{ target := .collected w.heap.size, args := #[] }], W1, { target := .fn (.func gf) lb, args := #[.func (.yield (w.heap.size + 1)) #[] #[]] }, W1, gf, #[.func (.yield (w.heap.size + 1)) #[] #[]] ++ lb, W1, ?_, ?_, fun _ _ => trivial, ?_, fun _ => h1, ?_⟩
  · rw [← hW1, hR]; exact run_enterLoop_outer _ _ _ _ _
  · unfold resolve
    simp only [hg]
    simp [go_sem]
  · simp [invoke, go_sem, eg]
  · refine (hcall (w.heap.size + 1) W1 hb1).mono ?_
    rintro e W2 ⟨⟨v0, rfl⟩, h2⟩
    have hL2 : W2.heap[w.heap.size + 1]? = some (.loop R) := (h2.block _ (by omega)).trans hL
    have hK2 : W2.heap[w.heap.size]? = some (.deferred (some [])) := (h2.block _ (by omega)).trans hK
    have hend := run_endLoop (P := P) hL2 (by rw [hR]; simp)
    have hp : R.pending = none := by rw [hR]
    rw [hp] at hend
    refine ⟨none, _, hend, ?_⟩
    have hlt : w.heap.size + 1 < W2.heap.size := (Array.getElem?_eq_some_iff.1 hL2).1
    have hb2 : Below w.heap.size w W2 := hb1.trans (h2.mono (by omega))
    refine hdone _ w.heap.size ?_ (Nat.le_refl _) ((World.putObj_heap_other (by omega)).trans hK2)
    exact hb2.grown (grownBy_putObj' W2 _ _) hb2.size (fun k e => by cases e; omega)
theorem SC_of_below {P : Program} {f : Nat} {args : List AV} {σ : AH} {v : AV} (h : ∀ (ρ : Ren) (args' : List Value) (w : World), VRs ρ args args' → HR ρ σ w → ∃ v', VR ρ v v' ∧ Calls P f ⟨args'⟩ w (fun e w' => e = .returned v' ∧ Below w.heap.size w w')) : SC P f args σ (fun u τ => u = v ∧ τ = σ) := by
  intro ρ args' w ha hr
  obtain ⟨v', hv, hc⟩ := h ρ args' w ha hr
  refine Calls.mono hc ?_
  rintro e w' ⟨rfl, hb⟩
  refine ⟨v, v', ρ, σ, rfl, ⟨rfl, rfl⟩, hv, ⟨hr.dom, fun b r hb' => Nat.lt_of_lt_of_le (hr.lt b r hb') hb.size, fun b r hb' => OR.of_heap (hb.block _ (hr.lt b r hb')) (hr.obj b r hb'), hr.inj⟩, ?_⟩
  exact ⟨fun _ _ => rfl, Nat.le_refl _, hb.os, hb.tape, hb.output, hb.size, fun c hc _ => hb.block c hc, fun c hc => .inl hc⟩
theorem calls_ro {P : Program} {f : Nat} {args : List AV} {args' : List Value} {ρ : Ren} {σ : AH} {w : World} {Q : AV → Prop} (hr : HR ρ σ w) (hro : ∀ b, (σ.get b).wr = false) (ha : VRs ρ args args') (h : SC P f args σ (fun u _ => Q u)) :
    Calls P f ⟨args'⟩ w (fun e w' => ∃ u v' ρ', e = .returned v' ∧ Q u ∧ VR ρ' u v' ∧ RowKit.Below w.heap.size w w') := by
  refine Calls.mono (h _ args' w ha hr) ?_
  rintro e w' ⟨u, v', ρ', σ', rfl, hq, hvr, hr', hs⟩
  have old : ∀ c, c < w.heap.size → w'.heap[c]? = w.heap[c]? := fun c hc => hs.frame c hc (by rintro ⟨b, r, h1, h2, _⟩; rw [hro] at h2; cases h2)
  exact ⟨u, v', ρ', rfl, hq, hvr, hs.os, hs.tape, hs.output, hs.size, old⟩
end Go.Proofs.Ytngemikgnlgjcaa.V
