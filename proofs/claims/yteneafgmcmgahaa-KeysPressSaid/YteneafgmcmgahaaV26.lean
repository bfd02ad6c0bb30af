/- Own library, part 26: arguments that are slices of structs of whole numbers and bools, or of bools. -/
import Derived.Test.YteneafgmcmgahaaV25
namespace Go.Proofs.Yteneafgmcmgahaa.V
open Go Go.Joins Go.ChangeShapes Go.WideShapes Go.RowKit Go.Deep
set_option linter.unusedSimpArgs false
set_option linter.unusedVariables false
/-- A cell is of its kind. -/
def cellOk : K1 → AV → Value → Prop
  | .i k, a, v => ∃ m, a = .int k m ∧ v = .int k m ∧ (Lit.int k m).wf = true
  | .b, a, v => ∃ m, a = .bool m ∧ v = .bool m
/-- Cells are of their kinds. -/
def cellsOk : List K1 → List AV → List Value → Prop
  | [], [], [] => True
  | k :: ks, a :: as, v :: vs => cellOk k a v ∧ cellsOk ks as vs
  | _, _, _ => False
/-- What is told of an element, alone. -/
def wfK : K1 → AV → Prop
  | .i k, a => ∃ m, a = .int k m ∧ (Lit.int k m).wf = true
  | .b, a => ∃ m, a = .bool m
def wfKs : List K1 → List AV → Prop
  | [], [] => True
  | k :: ks, a :: as => wfK k a ∧ wfKs ks as
  | _, _ => False
theorem cellsOk_wf : ∀ {ks : List K1} {as : List AV} {vs : List Value}, cellsOk ks as vs → wfKs ks as ∧ VRs (fun _ => none) as vs ∧ as.length = ks.length ∧ vs.length = ks.length
  | [], [], [], _ => ⟨trivial, .nil, rfl, rfl⟩
  | .i k :: ks, a :: as, v :: vs, h => by
    obtain ⟨⟨m, rfl, rfl, h⟩, hr⟩ := h
    obtain ⟨a, b, c, d⟩ := cellsOk_wf hr
    exact ⟨⟨⟨m, rfl, h⟩, a⟩, .cons (.int k m) b, by simp [c], by simp [d]⟩
  | .b :: ks, a :: as, v :: vs, h => by
    obtain ⟨⟨m, rfl, rfl⟩, hr⟩ := h
    obtain ⟨a, b, c, d⟩ := cellsOk_wf hr
    exact ⟨⟨⟨m, rfl⟩, a⟩, .cons (.bool m) b, by simp [c], by simp [d]⟩
theorem cellsOk_of : ∀ {ks : List K1} {vs : List Value}, vs.length = ks.length → (∀ (i : Nat) (k : K1), ks[i]? = some k → ∃ a v, vs[i]? = some v ∧ cellOk k a v) → ∃ as, cellsOk ks as vs
  | [], [], _, _ => ⟨[], trivial⟩
  | [], v :: vs, h, _ => by simp at h
  | k :: ks, [], h, _ => by simp at h
  | k :: ks, v :: vs, h, hc => by
    obtain ⟨a, v', h1, h2⟩ := hc 0 k rfl
    cases h1
    obtain ⟨as, hs⟩ := cellsOk_of (ks := ks) (vs := vs) (by simpa using h) (fun i k hk => by
      obtain ⟨a, v, h1, h2⟩ := hc (i + 1) k (by simpa using hk)
      exact ⟨a, v, by simpa using h1, h2⟩)
    exact ⟨a :: as, h2, hs⟩
section
variable {H : Type} {enc : TypeId × Value → H} {P : Program} {w : World} {base : Nat} {spare : Nat → Bool} {held : Bool}
/-- A struct's cells, from its reading alone. -/
theorem open_cells {t : TypeId} {ks : List K1} {fs : Array Field} {fuel : Nat} {cs : List Value} {x : DataW H × List MemPlace} (hs : P.underlying t = some (.struct fs)) (hone : oneCellFields P fs = true) (hC : P.cellsOf t = fs.size)
    (hk : kindsOf P fs.toList = some ks) (hf : DataW.trod enc P w base spare held fuel t cs = some x) : ∃ as, cellsOk ks as cs := by
  obtain ⟨hlen, hget⟩ := kindsOf_get hk
  obtain ⟨xs, n, _, hx, hcl, hxl, hg⟩ := DataW.trod_struct hs hf
  have hcl' : cs.length = fs.size := hcl.trans hC
  refine cellsOk_of (by rw [hlen, hcl']; simp) fun i k hki => ?_
  have hi : i < fs.size := by
    have := (List.getElem?_eq_some_iff.1 hki).1
    rw [hlen] at this
    simpa using this
  have hfi : fs[i]? = some fs[i] := Array.getElem?_eq_getElem hi
  obtain ⟨k', hk1, hk2⟩ := hget i fs[i] (by simp [hi])
  rw [hki] at hk1
  cases hk1
  obtain ⟨o, kk⟩ := hone_of hone i _ hfi
  have h1 := hg i _ hfi
  rw [o, kk] at h1
  have hci : i < cs.length := by omega
  have hd : (cs.drop i).take 1 = [cs[i]] := by
    have e := List.drop_eq_getElem_cons hci
    rw [e]; rfl
  rw [hd] at h1
  have hxi : i < xs.length := by omega
  rw [List.getElem?_eq_getElem hxi] at h1
  refine ⟨match cs[i] with | .int k m => .int k m | .bool m => .bool m | _ => .nilptr, cs[i], List.getElem?_eq_getElem hci, ?_⟩
  unfold kind1 at hk2
  split at hk2
  · rename_i k' hu
    cases hk2
    obtain ⟨m, e1, _, e3⟩ := DataW.trod_int hu h1
    simp only [List.cons.injEq, and_true] at e1
    rw [e1]
    exact ⟨m, rfl, rfl, e3⟩
  · rename_i hu
    cases hk2
    obtain ⟨m, e1, _⟩ := DataW.trod_bool hu h1
    simp only [List.cons.injEq, and_true] at e1
    rw [e1]
    exact ⟨m, rfl, rfl⟩
  · cases hk2
/-- A bool's cell, likewise. -/
theorem open_cell_b {t : TypeId} {fuel : Nat} {cs : List Value} {x : DataW H × List MemPlace} (hs : P.underlying t = some .bool) (hf : DataW.trod enc P w base spare held fuel t cs = some x) : ∃ as, cellsOk [.b] as cs := by
  obtain ⟨m, rfl, _⟩ := DataW.trod_bool hs hf
  exact ⟨[.bool m], ⟨m, rfl, rfl⟩, trivial⟩
theorem flat_get {α : Type} {c : Nat} : ∀ {ls : List (List α)}, (∀ l ∈ ls, l.length = c) → ∀ i j, j < c → i < ls.length → ls.flatten[i * c + j]? = (ls[i]?).bind fun l => l[j]?
  | [], _, i, j, _, h => by simp at h
  | l :: ls, hl, 0, j, hj, _ => by
    have := hl l (by simp)
    simp [List.getElem?_append_left (show j < l.length by omega)]
  | l :: ls, hl, i + 1, j, hj, h => by
    have e := hl l (by simp)
    rw [List.flatten_cons, List.getElem?_append_right (by rw [e, Nat.add_mul]; omega), e, show (i + 1) * c + j - c = i * c + j by rw [Nat.add_mul]; omega, flat_get (fun l h => hl l (by simp [h])) i j hj (by simpa using h)]
    simp
theorem flat_len {α : Type} {c : Nat} : ∀ {ls : List (List α)}, (∀ l ∈ ls, l.length = c) → ls.flatten.length = ls.length * c
  | [], _ => by simp
  | l :: ls, hl => by
    rw [List.flatten_cons, List.length_append, hl l (by simp), flat_len (fun l h => hl l (by simp [h])), List.length_cons, Nat.add_mul]; omega
theorem vrs_flat {ρ : Ren} : ∀ {as : List (List AV)} {vs : List (List Value)}, as.length = vs.length → (∀ (i : Nat) a v, as[i]? = some a → vs[i]? = some v → VRs ρ a v) → VRs ρ as.flatten vs.flatten
  | [], [], _, _ => .nil
  | [], v :: vs, h, _ => by simp at h
  | a :: as, [], h, _ => by simp at h
  | a :: as, v :: vs, h, hv => by
    have h0 := hv 0 a v rfl rfl
    have hr := vrs_flat (as := as) (vs := vs) (by simpa using h) (fun i a v h1 h2 => hv (i + 1) a v (by simpa using h1) (by simpa using h2))
    rw [List.flatten_cons, List.flatten_cons]
    exact VRs.append h0 hr
/-- A slice whose elements are structs of ints and bools: nil, empty, or a row of the heap that holds them one behind the other. -/
theorem open_slm {r : Go.Reach} {b0 : Nat} {t e : TypeId} {ks : List K1} {v : Value} {d : DataW H} {p : List MemPlace} (ht : P.underlying t = some (.slice e)) (hC : P.cellsOf e = ks.length)
    (hel : ∀ (fuel : Nat) (cs : List Value) (x : DataW H × List MemPlace), DataW.trod enc P w base spare held fuel e cs = some x → ∃ as, cellsOk ks as cs) (hks : 0 < ks.length)
    (hv : Value.okWide P w r b0 t v) (h : DataW.Trod enc P w base spare held t v d p) :
    v = .slice none 0 0 ∨ (∃ a cap, v = .slice (some a) 0 cap) ∨
    ∃ (blk off cap : Nat) (xs : List (List AV)), 0 < xs.length ∧ xs.length ≤ cap ∧ v = .slice (some ⟨blk, off, none⟩) xs.length cap ∧ Holds w ⟨blk, off, ks.length, cap⟩ xs.flatten ∧ ∀ x ∈ xs, wfKs ks x := by
  obtain ⟨a0, len, cap, rfl⟩ := okWide_slice ht hv
  obtain ⟨fuel, hf⟩ := h
  rcases open_slice ht hf with ⟨hcs, _⟩ | ⟨a, len', cap', m, n, D, Pl, hcs, _, hle, hmax, hm, _, hx⟩
  · simp [Value.cells] at hcs
    obtain ⟨rfl, rfl, rfl⟩ := hcs
    exact .inl rfl
  · simp [Value.cells] at hcs
    obtain ⟨rfl, rfl, rfl⟩ := hcs
    right
    by_cases h0 : len = 0
    · subst h0; exact .inl ⟨a, cap, rfl⟩
    · right
      have hml : len ≤ m := by rw [hm]; split <;> omega
      have each : ∀ i, i < len → ∃ q : List AV × List Value, cellsOk ks q.1 q.2 ∧ w.cells? base (a.add (i * ks.length)) ks.length = some q.2 := by
        intro i hi
        obtain ⟨cs', h1, h2⟩ := hx i (by omega)
        obtain ⟨as, ha⟩ := hel _ _ _ h2
        rw [hC] at h1
        exact ⟨(as, cs'), ha, h1⟩
      obtain ⟨f, hfl⟩ := choose_lt each
      have lv : ∀ l ∈ (List.range len).map (fun i => (f i).2), l.length = ks.length := by
        intro l hl
        obtain ⟨i, hi, rfl⟩ := List.mem_map.1 hl
        exact (cellsOk_wf (hfl i (List.mem_range.1 hi)).1).2.2.2
      have hlen : ((List.range len).map (fun i => (f i).2)).flatten.length = len * ks.length := by rw [flat_len lv]; simp
      have hpos : 0 < len * ks.length := Nat.mul_pos (by omega) hks
      obtain ⟨hs, hb, pre, more, e', fr, hh, hp⟩ := row_cells (w := w) (a := a) (l := ((List.range len).map (fun i => (f i).2)).flatten) (by omega) (by
        intro k hk
        rw [hlen] at hk
        have hi : k / ks.length < len := Nat.div_lt_of_lt_mul (by rw [Nat.mul_comm]; exact hk)
        have hj : k % ks.length < ks.length := Nat.mod_lt _ hks
        have hkk : k = k / ks.length * ks.length + k % ks.length := by rw [Nat.mul_comm]; exact (Nat.div_add_mod k ks.length).symm
        obtain ⟨q1, q2⟩ := hfl _ hi
        obtain ⟨_, _, h3⟩ := World.cells?_some q2
        have h4 := h3 _ hj
        rw [add_add] at h4
        rw [hkk, h4, flat_get lv _ _ hj (by simpa using hi)]
        simp [hi])
      obtain ⟨blk, off, spot⟩ := a
      cases (hs : spot = none)
      refine ⟨blk, off, cap, (List.range len).map (fun i => (f i).1), by simp; omega, by simp; omega, by simp, ⟨hb, pre, _, more, e', fr, hh, hp, ?_⟩, ?_⟩
      · refine vrs_flat (by simp) fun i a v h1 h2 => ?_
        rw [List.getElem?_map] at h1 h2
        by_cases hi : i < len
        · simp [hi] at h1 h2
          subst h1 h2
          exact (cellsOk_wf (hfl i hi).1).2.1
        · simp [hi] at h1
      · intro x hx'
        obtain ⟨i, hi, rfl⟩ := List.mem_map.1 hx'
        exact (cellsOk_wf (hfl i (List.mem_range.1 hi)).1).1
end
end Go.Proofs.Yteneafgmcmgahaa.V
