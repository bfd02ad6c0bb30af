/- Own library, part 25: arguments that are slices of whole numbers. -/
import Derived.Test.YteneafgmcmgahaaV24
import Derived.Test.YteneafgmcmgahaaV21
import Derived.Deep.Slices
namespace Go.Proofs.Yteneafgmcmgahaa.V
open Go Go.Joins Go.ChangeShapes Go.WideShapes Go.RowKit Go.Deep
set_option linter.unusedSimpArgs false
set_option linter.unusedVariables false
section
variable {H : Type} {enc : TypeId × Value → H} {P : Program} {w : World} {base : Nat} {spare : Nat → Bool} {held : Bool}
theorem row_cells {a : Addr} {l : List Value} (hl : 0 < l.length) (h : ∀ i, i < l.length → w.cell? (a.add i) = l[i]?) :
    a.spot = none ∧ a.block < w.heap.size ∧ ∃ pre more e fr, w.heap[a.block]? = some (.cells ⟨pre ++ l ++ more⟩ e fr) ∧ pre.length = a.off := by
  have h0 := h 0 hl
  rw [List.getElem?_eq_getElem hl] at h0
  have ha : a.add 0 = a := by simp [Addr.add]
  rw [ha] at h0
  unfold World.cell? at h0
  split at h0
  · rename_i c e fr hc
    split at h0
    · cases h0
    · rename_i hs
      have hs' : a.spot = none := by simpa using hs
      have key : ∀ i, i < l.length → c.toList[a.off + i]? = l[i]? := by
        intro i hi
        rw [← h i hi]
        unfold World.cell?
        by_cases i0 : i = 0
        · subst i0; rw [ha, hc]; simp [hs']
        · simp [Addr.add, i0, hc]
      have hoff : a.off + l.length ≤ c.toList.length := by
        have := key (l.length - 1) (by omega)
        rw [List.getElem?_eq_getElem (show l.length - 1 < l.length by omega)] at this
        have := (List.getElem?_eq_some_iff.1 this).1
        omega
      refine ⟨hs', (Array.getElem?_eq_some_iff.1 hc).1, c.toList.take a.off, c.toList.drop (a.off + l.length), e, fr, ?_, ?_⟩
      · rw [hc]
        congr 2
        apply Array.ext'
        show c.toList = _
        have e1 : (c.toList.drop a.off).take l.length = l := by
          apply List.ext_getElem?
          intro i
          by_cases hi : i < l.length
          · rw [List.getElem?_take_of_lt hi, List.getElem?_drop, key i hi]
          · rw [List.getElem?_eq_none (by simp; omega), List.getElem?_eq_none (by omega)]
        conv => lhs; rw [← List.take_append_drop a.off c.toList, ← List.take_append_drop l.length (c.toList.drop a.off), e1, List.drop_drop]
        simp [List.append_assoc]
      · rw [List.length_take]; omega
  · cases h0
/-- What a slice of whole numbers is told as. -/
def encI (k : IntKind) (ns : List Int) : List AV := ns.map (AV.int k)
theorem vrs_encI {ρ : Ren} {k : IntKind} : ∀ {zs : List Int}, VRs ρ (encI k zs) (zs.map (Value.int k))
  | [] => .nil
  | z :: r => .cons (.int k z) vrs_encI
theorem open_sl {r : Go.Reach} {b0 : Nat} {t e : TypeId} {k : IntKind} {v : Value} {d : DataW H} {p : List MemPlace} (ht : P.underlying t = some (.slice e)) (he : P.underlying e = some (.int k)) (hc : P.cellsOf e = 1)
    (hv : Value.okWide P w r b0 t v) (h : DataW.Trod enc P w base spare held t v d p) :
    v = .slice none 0 0 ∨ (∃ a cap, v = .slice (some a) 0 cap) ∨
    ∃ (blk off cap : Nat) (zs : List Int), 0 < zs.length ∧ zs.length ≤ cap ∧ v = .slice (some ⟨blk, off, none⟩) zs.length cap ∧ Holds w ⟨blk, off, 1, cap⟩ (encI k zs) ∧ ∀ z ∈ zs, (Lit.int k z).wf = true := by
  obtain ⟨a0, len, cap, rfl⟩ := okWide_slice ht hv
  obtain ⟨fuel, hf⟩ := h
  rcases open_ints ht he hc hf with ⟨hcs, _⟩ | ⟨a, len', cap', zs, hcs, _, hle, hmax, hlen, _, hcell, hwf⟩
  · simp [Value.cells] at hcs
    obtain ⟨rfl, rfl, rfl⟩ := hcs
    exact .inl rfl
  · simp [Value.cells] at hcs
    obtain ⟨rfl, rfl, rfl⟩ := hcs
    right
    by_cases h0 : len = 0
    · subst h0; exact .inl ⟨a, cap, rfl⟩
    · right
      have hzl : len ≤ zs.length := by rw [hlen]; split <;> omega
      have hl : ((zs.take len).map (Value.int k)).length = len := by simp; omega
      obtain ⟨hs, hb, pre, more, e', fr, hh, hp⟩ := row_cells (w := w) (a := a) (l := (zs.take len).map (Value.int k)) (by omega) (by
        intro i hi
        rw [hl] at hi
        rw [hcell i (by omega), List.getElem?_map, List.getElem?_take_of_lt hi, List.getElem?_eq_getElem (show i < zs.length by omega)]
        simp [List.getD, List.getElem?_eq_getElem (show i < zs.length by omega)])
      obtain ⟨blk, off, spot⟩ := a
      cases (hs : spot = none)
      refine ⟨blk, off, cap, zs.take len, by simp; omega, by simp; omega, by simp [Nat.min_eq_left hzl], ⟨hb, pre, (zs.take len).map (Value.int k), more, e', fr, hh, hp, vrs_encI⟩, fun z hz => hwf z (List.mem_of_mem_take hz)⟩
end
end Go.Proofs.Yteneafgmcmgahaa.V
