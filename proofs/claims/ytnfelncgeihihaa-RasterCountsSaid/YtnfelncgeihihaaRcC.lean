/- raster: counting (part 3): what the loops do, as ways. -/
import Derived.Test.YtnfelncgeihihaaRcB
namespace Go.Proofs.Ytnfelncgeihihaa.V
open Go Go.Proofs
set_option maxRecDepth 100000
set_option linter.unusedSimpArgs false
set_option linter.unusedVariables false
theorem rc_ids : (loopsOf (bodyOf Try.prog 32) 0).map (·.1) = [0, 2] := by kernel_rfl
theorem dc_ids : (loopsOf (bodyOf Try.prog 33) 0).map (·.1) = [0] := by kernel_rfl
def lin (L C T R F W U k : Int) : Nat → Int → Int
  | 0, _ => 0
  | m + 1, i => cnt (bmK L C T R F W U i k) C.toNat 0 + lin L C T R F W U k m (i + 1)
def row (L C T R F W U k i : Int) : Int := cnt (bmK L C T R F W U i k) C.toNat 0
def sumB (L C T R F W U k n : Int) : Int := lin L C T R F W U k n.toNat 0
def sumR (L C T R F W U k n : Int) : Int := cnt (raK L C T R F W U k) n.toNat 0
def inPre (L C T R F W U i p a b : Int) : Bool := okF L C T R F W U && decide (0 ≤ i) && decide (i < 400) && decide (0 ≤ p) && decide (p ≤ 400 * i) && decide (0 ≤ a) && decide (a ≤ 400 * i) && decide (0 ≤ b) && decide (b ≤ 400 * i)
def LIn (L C T R F W U : Int) : LTr := fun n0 fr σ s K => match lookF fr.l 2, lookF fr.l 3, lookF fr.l 4, lookF fr.l 12, lookF fr.l 13 with
  | some (.int .i64 p), some (.int .i64 a), some (.int .i64 b), some (.int .i64 n), some (.int .i64 i) => need (n0 = 0) ∧ need (Fits 0 [(0, 0)] fr σ (inT L C T R F W U n i p a b 0).1 (inT L C T R F W U n i p a b 0).2) ∧ need (inPre L C T R F W U i p a b = true) ∧
      K (.exit 2) (ouT L C T R F W U n i (p + row L C T R F W U 1 i) (a + row L C T R F W U 2 i) (b + row L C T R F W U 3 i)).1 ⟨1, [scH L C T R F W U]⟩ s
  | _, _, _, _, _ => False
def ouPre (L C T R F W U n : Int) : Bool := decide (n = 0) || (okF L C T R F W U && decide (n = L))
def LOu (L C T R F W U : Int) : LTr := fun n0 fr σ s K => match lookF fr.l 12 with
  | some (.int .i64 n) => need (n0 = 0) ∧ need (Fits 0 [(0, 0)] fr σ (ouT L C T R F W U n 0 0 0 0).1 (ouT L C T R F W U n 0 0 0 0).2) ∧ need (ouPre L C T R F W U n = true) ∧
      K (.exit 0) ⟨43, [(2, .int .i64 (sumB L C T R F W U 1 n)), (3, .int .i64 (sumB L C T R F W U 2 n)), (4, .int .i64 (sumB L C T R F W U 3 n))]⟩ ⟨1, [scH L C T R F W U]⟩ s
  | _ => False
def LDc (L C T R F W U : Int) : LTr := fun n0 fr σ s K => need (n0 = 0) ∧ need (Fits 0 [(0, 0)] fr σ (dcT L C T R F W U 0 0 0 0).1 (dcT L C T R F W U 0 0 0 0).2) ∧
      K (.exit 0) ⟨40, [(5, .int .i64 (sumR L C T R F W U 1 (lenF L C T R F W U))), (6, .int .i64 (sumR L C T R F W U 2 (lenF L C T R F W U))), (7, .int .i64 (sumR L C T R F W U 3 (lenF L C T R F W U)))]⟩ ⟨1, [scH L C T R F W U]⟩ s
noncomputable def XRcI (L C T R F W U : Int) : Cx := ⟨Try.prog, purT purRc2, purO purRc2, purRc2.map (·.1), 20, lookL [(2, LIn L C T R F W U)]⟩
noncomputable def XRcO (L C T R F W U : Int) : Cx := ⟨Try.prog, purT purRc2, purO purRc2, purRc2.map (·.1), 20, lookL [(0, LOu L C T R F W U)]⟩
noncomputable def XRcD (L C T R F W U : Int) : Cx := ⟨Try.prog, purT purRc2, purO purRc2, purRc2.map (·.1), 20, lookL [(0, LDc L C T R F W U)]⟩
/-- A loop by a family of states, where loops inside are known. -/
theorem loop_fam2 {X : Cx} (hX : CxOk X) {sy : List Nat} {n0 b : Nat} {c : Code} (hd : (drawsAll c).all (fun ops => okS ops.toList) = true) (hl : ∀ p ∈ loopsOf c b, ∀ L, X.lps p.1 = some L → LOk X.P p.2 L) (sl : List Nat) {ι : Type} (T : ι → AF × AH) (μ : ι → Nat) (Q' : Exit → AF → AH → Prop)
    (pl : ι → Plan) (A : ι → NS → QS → Prop) (e : ∀ i N Q, wpP X sy n0 c b (rndS sl N Q) (T i).1 (T i).2 (pl i) = A i N Q)
    (h : ∀ i, A i (fun n vs σ => ∃ j gs, μ j < μ i ∧ FitsS n0 gs sl n vs σ (T j).1 (T j).2) (fun e n vs σ => ∃ gs fr' σ', FitsS n0 gs sl n vs σ fr' σ' ∧ Q' e fr' σ')) (i : ι) : WL X.P n0 c Q' (T i).1 (T i).2 := by
  rw [List.all_eq_true] at hd
  have key : WL X.P n0 c (fun e fr σ => ∃ gs fr' σ', Fits n0 gs fr σ fr' σ' ∧ Q' e fr' σ') (T i).1 (T i).2 := by
    refine WL_fam T μ ?_ i
    intro i
    refine (wpP_sound hX c b hd hl _ _ _ _ ((e i _ _).mpr (h i))).mono ?_
    rintro e fr σ ⟨s, q⟩
    have other : (∃ gs fr' σ', FitsS n0 gs sl fr.n (lookAll fr.l sl) σ fr' σ' ∧ Q' e fr' σ') → ∃ gs fr' σ', Fits n0 gs fr σ fr' σ' ∧ Q' e fr' σ' := by
      rintro ⟨gs, fr', σ', h1, h2⟩
      exact ⟨gs, fr', σ', h1.fits, h2⟩
    cases e with
    | normal =>
      obtain ⟨j, gs, h1, h2⟩ := q
      exact ⟨j, gs, h1, h2.fits⟩
    | _ => exact other q
  refine key.less ?_
  rintro e fr σ ⟨gs, fr', σ', h1, h2⟩
  exact ⟨fr', σ', h1.refines, h2⟩
end Go.Proofs.Ytnfelncgeihihaa.V
