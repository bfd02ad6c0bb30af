/- contend: rows of requests (part 7): Row's loop as a way. Printed by gen_rwg.py. -/
import Derived.Test.YtnfelncgeihihaaRwF
import Derived.Test.YtnfelncgeihihaaV27
namespace Go.Proofs.Ytnfelncgeihihaa.V
open Go Go.Proofs
set_option maxRecDepth 100000
set_option linter.unusedSimpArgs false
set_option linter.unusedVariables false
def rowOksN (L C T R F W U t : Int) (rq : List Rq) (bs : List AV) : Prop := pfs bs = true ∧ rq.length ≤ 60 ∧ 0 < rq.length ∧ ∀ i, i < rq.length → rowOk L C T R F W U rq (fun _ => false) t i
def LRwN (L C T R F W U t : Int) (rq : List Rq) (bs : List AV) (c : Nat) : LTr := fun n0 fr σ s K => need (n0 = 2) ∧ need (Fits 2 [(0, 0), (1, 1), (2, 2)] fr σ (rwTN L C T R F W U t rq bs c 0).1 (rwTN L C T R F W U t rq bs c 0).2) ∧ need (rowOksN L C T R F W U t rq bs) ∧ K (.exit 0) (rwXN L C T R F W U t rq bs).1 (rwXN L C T R F W U t rq bs).2 s
theorem LRwN_ok (L C T R F W U t : Int) (rq : List Rq) (bs : List AV) (c : Nat) : LOk Try.prog (loopAt Try.prog 45 0) (LRwN L C T R F W U t rq bs c) := by
  rintro n0 fr σ s Q ⟨h0, hf, ⟨h1, h2, h3, h4⟩, hq⟩
  cases (h0 : n0 = 2)
  intro E a w hE hs
  refine (WL.less (rwN_wl h1 h2 h3 h4) ?_) E a w hE (Fits.refines hf E hE a w hs)
  rintro e fr σ ⟨rfl, rfl, rfl⟩
  exact ⟨_, _, fun E _ a w h => h, s, hq⟩
noncomputable def XRwN (L C T R F W U t : Int) (rq : List Rq) (bs : List AV) (c : Nat) : Cx := ⟨Try.prog, purT purCo3, purO purCo3, purCo3.map (·.1), 20, lookL [(0, LRwN L C T R F W U t rq bs c)]⟩
theorem XRwN_ok (L C T R F W U t : Int) (rq : List Rq) (bs : List AV) (c : Nat) : CxOk (XRwN L C T R F W U t rq bs c) := ⟨purT_ok purCo3_ok, purO_ok purCo3_ok, mixed⟩
def rowOksE (L C T R F W U t : Int) (rq : List Rq) (bs : List AV) : Prop := pfs bs = true ∧ rq.length ≤ 60 ∧ 0 < rq.length ∧ ∀ i, i < rq.length → rowOk L C T R F W U rq (fun _ => false) t i
def LRwE (L C T R F W U t : Int) (rq : List Rq) (bs : List AV) (c : Nat) : LTr := fun n0 fr σ s K => need (n0 = 2) ∧ need (Fits 2 [(0, 0), (1, 1), (2, 2)] fr σ (rwTE L C T R F W U t rq bs c 0).1 (rwTE L C T R F W U t rq bs c 0).2) ∧ need (rowOksE L C T R F W U t rq bs) ∧ K (.exit 0) (rwXE L C T R F W U t rq bs).1 (rwXE L C T R F W U t rq bs).2 s
theorem LRwE_ok (L C T R F W U t : Int) (rq : List Rq) (bs : List AV) (c : Nat) : LOk Try.prog (loopAt Try.prog 45 0) (LRwE L C T R F W U t rq bs c) := by
  rintro n0 fr σ s Q ⟨h0, hf, ⟨h1, h2, h3, h4⟩, hq⟩
  cases (h0 : n0 = 2)
  intro E a w hE hs
  refine (WL.less (rwE_wl h1 h2 h3 h4) ?_) E a w hE (Fits.refines hf E hE a w hs)
  rintro e fr σ ⟨rfl, rfl, rfl⟩
  exact ⟨_, _, fun E _ a w h => h, s, hq⟩
noncomputable def XRwE (L C T R F W U t : Int) (rq : List Rq) (bs : List AV) (c : Nat) : Cx := ⟨Try.prog, purT purCo3, purO purCo3, purCo3.map (·.1), 20, lookL [(0, LRwE L C T R F W U t rq bs c)]⟩
theorem XRwE_ok (L C T R F W U t : Int) (rq : List Rq) (bs : List AV) (c : Nat) : CxOk (XRwE L C T R F W U t rq bs c) := ⟨purT_ok purCo3_ok, purO_ok purCo3_ok, mixed⟩
def rowOksS (L C T R F W U t : Int) (rq : List Rq) (bl : List Bool) : Prop := pfs (bF bl) = true ∧ rq.length ≤ 60 ∧ 0 < rq.length ∧ ∀ i, i < rq.length → rowOk L C T R F W U rq (fun i => bl.getD i false) t i
def LRwS (L C T R F W U t : Int) (rq : List Rq) (bl : List Bool) (c cm : Nat) : LTr := fun n0 fr σ s K => need (n0 = 2) ∧ need (Fits 2 [(0, 0), (1, 1), (2, 2)] fr σ (rwTS L C T R F W U t rq bl c cm 0).1 (rwTS L C T R F W U t rq bl c cm 0).2) ∧ need (rowOksS L C T R F W U t rq bl) ∧ K (.exit 0) (rwXS L C T R F W U t rq bl).1 (rwXS L C T R F W U t rq bl).2 s
theorem LRwS_ok (L C T R F W U t : Int) (rq : List Rq) (bl : List Bool) (c cm : Nat) : LOk Try.prog (loopAt Try.prog 45 0) (LRwS L C T R F W U t rq bl c cm) := by
  rintro n0 fr σ s Q ⟨h0, hf, ⟨h1, h2, h3, h4⟩, hq⟩
  cases (h0 : n0 = 2)
  intro E a w hE hs
  refine (WL.less (rwS_wl h1 h2 h3 h4) ?_) E a w hE (Fits.refines hf E hE a w hs)
  rintro e fr σ ⟨rfl, rfl, rfl⟩
  exact ⟨_, _, fun E _ a w h => h, s, hq⟩
noncomputable def XRwS (L C T R F W U t : Int) (rq : List Rq) (bl : List Bool) (c cm : Nat) : Cx := ⟨Try.prog, purT purCo3, purO purCo3, purCo3.map (·.1), 20, lookL [(0, LRwS L C T R F W U t rq bl c cm)]⟩
theorem XRwS_ok (L C T R F W U t : Int) (rq : List Rq) (bl : List Bool) (c cm : Nat) : CxOk (XRwS L C T R F W U t rq bl c cm) := ⟨purT_ok purCo3_ok, purO_ok purCo3_ok, mixed⟩
theorem rw_loops : loopsOf (bodyOf Try.prog 45) 0 = [(0, loopAt Try.prog 45 0)] := by kernel_rfl
end Go.Proofs.Ytnfelncgeihihaa.V
