/- Own library, part 21: arguments that are structs of whole numbers and bools of any kinds. -/
import Derived.Test.YteneafgmcmgahaaV18
namespace Go.Proofs.Yteneafgmcmgahaa.V
open Go Go.Joins Go.ChangeShapes Go.WideShapes Go.RowKit Go.Deep
set_option linter.unusedSimpArgs false
set_option linter.unusedVariables false
/-- A field's kind. -/
inductive K1 where
  | i (k : IntKind)
  | b
def cellsK : List K1 → (Nat → Int) → (Nat → Bool) → Nat → List Value
  | [], _, _, _ => []
  | .i k :: r, n, t, j => .int k (n j) :: cellsK r n t (j + 1)
  | .b :: r, n, t, j => .bool (t j) :: cellsK r n t (j + 1)
theorem cellsK_get {n : Nat → Int} {t : Nat → Bool} : ∀ {ks : List K1} {j i : Nat}, (cellsK ks n t j)[i]? = (ks[i]?).map fun | .i k => Value.int k (n (j + i)) | .b => Value.bool (t (j + i))
  | [], j, i => by simp [cellsK]
  | .i k :: r, j, 0 => by simp [cellsK]
  | .b :: r, j, 0 => by simp [cellsK]
  | .i k :: r, j, i + 1 => by simp only [cellsK, List.getElem?_cons_succ]; rw [cellsK_get]; simp only [Nat.add_assoc, Nat.add_comm 1]
  | .b :: r, j, i + 1 => by simp only [cellsK, List.getElem?_cons_succ]; rw [cellsK_get]; simp only [Nat.add_assoc, Nat.add_comm 1]
section
variable {H : Type} {enc : TypeId × Value → H} {P : Program} {w : World} {base : Nat} {spare : Nat → Bool} {held : Bool}
def kind1 (P : Program) (f : Field) : Option K1 := match P.underlying f.type with
  | some (.int k) => some (.i k)
  | some .bool => some .b
  | _ => none
def kindsOf (P : Program) : List Field → Option (List K1)
  | [] => some []
  | f :: r => match kind1 P f, kindsOf P r with
    | some k, some l => some (k :: l)
    | _, _ => none
theorem kindsOf_get : ∀ {fs : List Field} {ks : List K1}, kindsOf P fs = some ks → ks.length = fs.length ∧ ∀ (i : Nat) (f : Field), fs[i]? = some f → ∃ k, ks[i]? = some k ∧ kind1 P f = some k
  | [], ks, h => by cases h; exact ⟨rfl, fun i f h => by simp at h⟩
  | f :: r, ks, h => by
    unfold kindsOf at h
    split at h
    · rename_i k l h1 h2
      cases h
      obtain ⟨a, b⟩ := kindsOf_get h2
      refine ⟨by simp [a], fun i g hg => ?_⟩
      cases i with
      | zero => simp only [List.getElem?_cons_zero, Option.some.injEq] at hg ⊢; subst hg; exact ⟨k, rfl, h1⟩
      | succ i => simp only [List.getElem?_cons_succ] at hg ⊢; exact b i g hg
    · cases h
theorem open_mixed {r : Go.Reach} {b0 : Nat} {t : TypeId} {ks : List K1} {fs : Array Field} {v : Value} {d : DataW H} {p : List MemPlace} (hs : P.underlying t = some (.struct fs)) (hone : oneCellFields P fs = true) (hC : P.cellsOf t = fs.size)
    (hk : kindsOf P fs.toList = some ks) (hv : Value.okWide P w r b0 t v) (h : DataW.Trod enc P w base spare held t v d p) :
    ∃ (n : Nat → Int) (b : Nat → Bool), v = .agg (cellsK ks n b 0).toArray ∧ ∀ i k, ks[i]? = some (.i k) → (Lit.int k (n i)).wf = true := by
  obtain ⟨cs, rfl, hsz⟩ := okWide_struct hs hv
  have hsz' : cs.size = fs.size := hsz.trans hC
  obtain ⟨hlen, hget⟩ := kindsOf_get hk
  obtain ⟨fuel, hf⟩ := h
  obtain ⟨xs, n, _, hx, hcl, hxl, hg⟩ := DataW.trod_struct hs hf
  have key : ∀ i, i < fs.size → ∃ k, ks[i]? = some k ∧ (match k with | .i k => ∃ m, cs[i]? = some (Value.int k m) ∧ (Lit.int k m).wf = true | .b => ∃ m, cs[i]? = some (Value.bool m)) := by
    intro i hi
    have hfi : fs[i]? = some fs[i] := Array.getElem?_eq_getElem hi
    obtain ⟨k, hk1, hk2⟩ := hget i fs[i] (by simp [hi])
    refine ⟨k, hk1, ?_⟩
    obtain ⟨o, kk⟩ := hone_of hone i _ hfi
    have h1 := hg i _ hfi
    rw [o, kk] at h1
    have hci : i < cs.size := by omega
    have hd : ((Value.cells (.agg cs)).toList.drop i).take 1 = [cs[i]] := by
      simp only [Value.cells]
      rw [List.drop_eq_getElem_cons (by simpa using hci)]
      simp
    rw [hd] at h1
    have hxi : i < xs.length := by omega
    rw [List.getElem?_eq_getElem hxi] at h1
    unfold kind1 at hk2
    split at hk2
    · rename_i k' hu
      cases hk2
      obtain ⟨m, e1, _, e3⟩ := DataW.trod_int hu h1
      refine ⟨m, ?_, e3⟩
      simp only [List.cons.injEq, and_true] at e1
      rw [Array.getElem?_eq_getElem hci, e1]
    · rename_i hu
      cases hk2
      obtain ⟨m, e1, _⟩ := DataW.trod_bool hu h1
      refine ⟨m, ?_⟩
      simp only [List.cons.injEq, and_true] at e1
      rw [Array.getElem?_eq_getElem hci, e1]
    · cases hk2
  refine ⟨fun i => match cs[i]? with | some (.int _ m) => m | _ => 0, fun i => match cs[i]? with | some (.bool m) => m | _ => false, ?_, ?_⟩
  · congr 1
    apply Array.ext'
    refine List.ext_getElem? fun i => ?_
    show _ = (cellsK ks _ _ 0)[i]?
    rw [cellsK_get, Array.getElem?_toList]
    by_cases hi : i < fs.size
    · obtain ⟨k, hk1, hk2⟩ := key i hi
      rw [hk1]
      cases k with
      | i k => obtain ⟨m, e, _⟩ := hk2; simp [e]
      | b => obtain ⟨m, e⟩ := hk2; simp [e]
    · rw [Array.getElem?_eq_none (by omega), List.getElem?_eq_none (by rw [hlen]; simpa using hi)]
      rfl
  · intro i k hki
    have hi : i < fs.size := by
      have := (List.getElem?_eq_some_iff.1 hki).1
      rw [hlen] at this
      simpa using this
    obtain ⟨k', hk1, hk2⟩ := key i hi
    rw [hki] at hk1
    cases hk1
    obtain ⟨m, e, hw⟩ := hk2
    simp only [e]
    exact hw
end
end Go.Proofs.Yteneafgmcmgahaa.V
