/- Own library, part 14: arguments that are structs of whole numbers. -/
import Derived.Test.YteneafgmcmgahaaV13
import Derived.Lib.SmallJoins
import Derived.Deep.Fields
import Derived.ChangeSame
namespace Go.Proofs.Yteneafgmcmgahaa.V
open Go Go.Joins Go.ChangeShapes Go.WideShapes Go.RowKit Go.Deep
set_option linter.unusedSimpArgs false
set_option linter.unusedVariables false
section
variable {H : Type} {enc : TypeId × Value → H} {P : Program} {w : World} {base : Nat} {spare : Nat → Bool} {held : Bool}
def allInts (P : Program) (k : IntKind) (fs : Array Field) : Bool := fs.toList.all fun f => match P.underlying f.type with
  | some (.int k') => decide (k' = k)
  | _ => false
theorem allInts_at {k : IntKind} {fs : Array Field} (h : allInts P k fs = true) {i : Nat} {f : Field} (hf : fs[i]? = some f) : P.underlying f.type = some (.int k) := by
  unfold allInts at h
  rw [List.all_eq_true] at h
  have hm : f ∈ fs.toList := by
    rw [List.mem_iff_getElem?]
    exact ⟨i, by simpa using hf⟩
  have := h f hm
  split at this
  · rename_i k' e
    simp only [decide_eq_true_eq] at this
    rw [e, this]
  · simp at this
theorem open_ints_struct {r : Reach} {b0 : Nat} {t : TypeId} {k : IntKind} {fs : Array Field} {v : Value} {d : DataW H} {p : List MemPlace} (hs : P.underlying t = some (.struct fs)) (hone : oneCellFields P fs = true) (hC : P.cellsOf t = fs.size)
    (hk : allInts P k fs = true) (hv : Value.okWide P w r b0 t v) (h : DataW.Trod enc P w base spare held t v d p) :
    ∃ ns : List Int, ns.length = fs.size ∧ v = .agg (ns.map (Value.int k)).toArray ∧ ∀ n ∈ ns, (Lit.int k n).wf = true := by
  obtain ⟨cs, rfl, hsz⟩ := okWide_struct hs hv
  obtain ⟨fuel, hf⟩ := h
  obtain ⟨xs, n, _, hx, hcl, hlen, hg⟩ := DataW.trod_struct hs hf
  have key : ∀ i, i < fs.size → ∃ m, cs[i]? = some (Value.int k m) ∧ (Lit.int k m).wf = true := by
    intro i hi
    have hfi : fs[i]? = some fs[i] := Array.getElem?_eq_getElem hi
    obtain ⟨o, kk⟩ := hone_of hone i _ hfi
    have h1 := hg i _ hfi
    rw [o, kk] at h1
    have hci : i < cs.size := by omega
    have hd : ((Value.cells (.agg cs)).toList.drop i).take 1 = [cs[i]] := by
      simp only [Value.cells]
      rw [List.drop_eq_getElem_cons (by simpa using hci)]
      simp
    rw [hd] at h1
    have hxi : i < xs.length := by omega
    rw [List.getElem?_eq_getElem hxi] at h1
    obtain ⟨m, e1, _, e3⟩ := DataW.trod_int (allInts_at hk hfi) h1
    refine ⟨m, ?_, e3⟩
    simp only [List.cons.injEq, and_true] at e1
    rw [Array.getElem?_eq_getElem hci, e1]
  refine ⟨cs.toList.map fun | .int _ m => m | _ => 0, by simp; omega, ?_, ?_⟩
  · congr 1
    apply Array.ext_getElem?
    intro i
    by_cases hi : i < fs.size
    · obtain ⟨m, e, _⟩ := key i hi
      simp [e]
    · rw [Array.getElem?_eq_none (by omega), Array.getElem?_eq_none (by simp; omega)]
  · intro x hx
    simp only [List.mem_map] at hx
    obtain ⟨v, hv1, rfl⟩ := hx
    rw [List.mem_iff_getElem?] at hv1
    obtain ⟨i, hi⟩ := hv1
    have hi' : i < fs.size := by
      have := (List.getElem?_eq_some_iff.1 hi).1
      simp at this
      omega
    obtain ⟨m, e, hw⟩ := key i hi'
    rw [Array.getElem?_toList, e] at hi
    cases hi
    exact hw
theorem open_ints7 {r : Reach} {b0 : Nat} {t : TypeId} {k : IntKind} {fs : Array Field} {v : Value} {d : DataW H} {p : List MemPlace} (hs : P.underlying t = some (.struct fs)) (h7 : fs.size = 7) (hone : oneCellFields P fs = true) (hC : P.cellsOf t = fs.size)
    (hk : allInts P k fs = true) (hv : Value.okWide P w r b0 t v) (h : DataW.Trod enc P w base spare held t v d p) :
    ∃ a b c d e f g : Int, v = .agg #[.int k a, .int k b, .int k c, .int k d, .int k e, .int k f, .int k g] ∧ ((Lit.int k a).wf = true ∧ (Lit.int k b).wf = true ∧ (Lit.int k c).wf = true ∧ (Lit.int k d).wf = true ∧ (Lit.int k e).wf = true ∧ (Lit.int k f).wf = true ∧ (Lit.int k g).wf = true) := by
  obtain ⟨ns, hl, rfl, hw⟩ := open_ints_struct hs hone hC hk hv h
  rw [h7] at hl
  match ns, hl with
  | [a, b, c, d, e, f, g], _ => exact ⟨a, b, c, d, e, f, g, by simp, by simpa using hw⟩
end
theorem wf_i64 {n : Int} (h : (Lit.int .i64 n).wf = true) : -9223372036854775808 ≤ n ∧ n ≤ 9223372036854775807 := by
  simp only [Lit.wf, Bool.and_eq_true, decide_eq_true_eq] at h
  have e1 : IntKind.i64.min = -9223372036854775808 := by decide +kernel
  have e2 : IntKind.i64.max = 9223372036854775807 := by decide +kernel
  omega
end Go.Proofs.Yteneafgmcmgahaa.V
