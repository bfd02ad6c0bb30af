/- Own library, part 18: arguments that are structs of whole numbers of mixed kinds. -/
import Derived.Test.YteneafgmcmgahaaV14
namespace Go.Proofs.Yteneafgmcmgahaa.V
open Go Go.Joins Go.ChangeShapes Go.WideShapes Go.RowKit Go.Deep
set_option linter.unusedSimpArgs false
set_option linter.unusedVariables false
section
variable {H : Type} {enc : TypeId × Value → H} {P : Program} {w : World} {base : Nat} {spare : Nat → Bool} {held : Bool}
def kindAt (P : Program) (fs : Array Field) (i : Nat) : Option IntKind := match fs[i]? with
  | some f => match P.underlying f.type with
    | some (.int k) => some k
    | _ => none
  | none => none
theorem open_int_at {r : Go.Reach} {b0 : Nat} {t : TypeId} {fs : Array Field} {cs : Array Value} {d : DataW H} {p : List MemPlace} (hs : P.underlying t = some (.struct fs)) (hone : oneCellFields P fs = true)
    (hsz : cs.size = fs.size) (h : DataW.Trod enc P w base spare held t (.agg cs) d p) {i : Nat} {k : IntKind} (hk : kindAt P fs i = some k) : ∃ m, cs[i]? = some (Value.int k m) ∧ (Lit.int k m).wf = true := by
  obtain ⟨fuel, hf⟩ := h
  obtain ⟨xs, n, _, hx, hcl, hlen, hg⟩ := DataW.trod_struct hs hf
  unfold kindAt at hk
  split at hk
  · rename_i f hfi
    split at hk
    · rename_i k' hu
      cases hk
      have hi : i < fs.size := (Array.getElem?_eq_some_iff.1 hfi).1
      obtain ⟨o, kk⟩ := hone_of hone i _ hfi
      have h1 := hg i _ hfi
      rw [o, kk] at h1
      have hci : i < cs.size := by omega
      have hd : ((Value.cells (.agg cs)).toList.drop i).take 1 = [cs[i]] := by
        simp only [Value.cells]
        rw [List.drop_eq_getElem_cons (by simpa using hci)]
        simp
      rw [hd] at h1
      have hxi : i < xs.length := by omega
      rw [List.getElem?_eq_getElem hxi] at h1
      obtain ⟨m, e1, _, e3⟩ := DataW.trod_int hu h1
      refine ⟨m, ?_, e3⟩
      simp only [List.cons.injEq, and_true] at e1
      rw [Array.getElem?_eq_getElem hci, e1]
    · cases hk
  · cases hk
theorem open_mixed4 {r : Go.Reach} {b0 : Nat} {t : TypeId} {k0 k1 k2 k3 : IntKind} {fs : Array Field} {v : Value} {d : DataW H} {p : List MemPlace} (hs : P.underlying t = some (.struct fs)) (h4 : fs.size = 4) (hone : oneCellFields P fs = true) (hC : P.cellsOf t = fs.size)
    (e0 : kindAt P fs 0 = some k0) (e1 : kindAt P fs 1 = some k1) (e2 : kindAt P fs 2 = some k2) (e3 : kindAt P fs 3 = some k3) (hv : Value.okWide P w r b0 t v) (h : DataW.Trod enc P w base spare held t v d p) :
    ∃ a b c e : Int, v = .agg #[.int k0 a, .int k1 b, .int k2 c, .int k3 e] ∧ ((Lit.int k0 a).wf = true ∧ (Lit.int k1 b).wf = true ∧ (Lit.int k2 c).wf = true ∧ (Lit.int k3 e).wf = true) := by
  obtain ⟨cs, rfl, hsz⟩ := okWide_struct hs hv
  have hsz' : cs.size = fs.size := hsz.trans hC
  obtain ⟨m0, q0, w0⟩ := open_int_at (r := r) (b0 := b0) hs hone hsz' h e0
  obtain ⟨m1, q1, w1⟩ := open_int_at (r := r) (b0 := b0) hs hone hsz' h e1
  obtain ⟨m2, q2, w2⟩ := open_int_at (r := r) (b0 := b0) hs hone hsz' h e2
  obtain ⟨m3, q3, w3⟩ := open_int_at (r := r) (b0 := b0) hs hone hsz' h e3
  refine ⟨m0, m1, m2, m3, ?_, w0, w1, w2, w3⟩
  congr 1
  apply Array.ext_getElem?
  intro i
  match i with
  | 0 => simpa using q0
  | 1 => simpa using q1
  | 2 => simpa using q2
  | 3 => simpa using q3
  | n + 4 => rw [Array.getElem?_eq_none (by omega), Array.getElem?_eq_none (by simp)]
end
end Go.Proofs.Yteneafgmcmgahaa.V
