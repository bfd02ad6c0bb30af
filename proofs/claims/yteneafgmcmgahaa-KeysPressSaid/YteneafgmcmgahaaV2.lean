/- Own library, part 2: what types tell; reading and writing abstract memory is reading and writing the model's. -/
import Derived.Test.YteneafgmcmgahaaV1
import Derived.Laws.StructEq
import Derived.Laws.Slices
namespace Go.Proofs.Yteneafgmcmgahaa.V
open Go
set_option linter.unusedSimpArgs false

variable {P : Program} {ρ : Ren} {σ : AH} {w : World}

/-- A computation of the model answers what the abstract one does. -/
def Ok (P : Program) (x : Sem Value) (ρ : Ren) (σ : AH) (w : World) (v : AV) (σ' : AH) : Prop :=
  ∃ v' w' ρ', x.run P w = .ok v' w' ∧ VR ρ' v v' ∧ Step ρ σ w ρ' σ' w'
theorem Ok.same {x : Sem Value} {v' : Value} {v : AV} (h : HR ρ σ w) (hx : x.run P w = .ok v' w) (hv : VR ρ v v') : Ok P x ρ σ w v σ :=
  ⟨v', w, ρ, hx, hv, Step.refl h⟩

-- ------------------------------------------------------------------ types
def szT (P : Program) (t : Nat) : Option Nat := (P.info? t).map (·.size)
theorem run_szT {t n : Nat} (h : szT P t = some n) (w : World) : (sizeOf t).run P w = .ok n w := by
  unfold szT at h
  cases hi : P.info? t with
  | none => simp [hi] at h
  | some i => simp [hi] at h; subst h; simp [sizeOf, typeInfo, hi]

def aggD : TypeDesc → Bool
  | .struct _ | .array _ _ => true
  | _ => false
def aggT (P : Program) (t : Nat) : Option Bool := (P.underlying t).map aggD
theorem run_aggT {t : Nat} {b : Bool} (h : aggT P t = some b) (w : World) : (isAgg t).run P w = .ok b w := by
  unfold aggT at h
  cases hu : P.underlying t with
  | none => simp [hu] at h
  | some d =>
    simp [hu] at h
    subst h
    simp only [isAgg, Sem.run_bind, run_underlying hu, Result.andThen_ok]
    cases d <;> rfl

def byT (P : Program) (t : Nat) : Option Nat := (P.info? t).map (·.bytes)

/-- A constant of one cell. -/
def ofFlat : Value → Option AV
  | .bool b => some (.bool b)
  | .int k n => some (.int k n)
  | .string s => some (.str s)
  | .pointer none => some .nilptr
  | .slice none 0 0 => some .nilslice
  | .map none => some .nilmap
  | .nilFunc => some .nilFunc
  | .nilIface => some .nilIface
  | _ => none
theorem ofFlat_VR {v' : Value} {v : AV} (h : ofFlat v' = some v) (ρ : Ren) : VR ρ v v' := by
  unfold ofFlat at h
  split at h <;> cases h <;> constructor
def ofFlats : List Value → Option (List AV)
  | [] => some []
  | v :: r => match ofFlat v, ofFlats r with
    | some a, some l => some (a :: l)
    | _, _ => none
theorem ofFlats_VRs {l' : List Value} : ∀ {l : List AV}, ofFlats l' = some l → ∀ (ρ : Ren), VRs ρ l l' := by
  induction l' with
  | nil => intro l h ρ; simp [ofFlats] at h; subst h; exact .nil
  | cons v r ih =>
    intro l h ρ
    simp only [ofFlats] at h
    split at h
    · rename_i a l2 h1 h2
      cases h
      exact .cons (ofFlat_VR h1 ρ) (ih h2 ρ)
    · cases h
/-- A constant. -/
def ofVal : Value → Option AV
  | .agg cs => (ofFlats cs.toList).map .agg
  | .tuple vs => (ofFlats vs.toList).map .tup
  | v => ofFlat v
theorem ofVal_VR {v' : Value} {v : AV} (h : ofVal v' = some v) (ρ : Ren) : VR ρ v v' := by
  unfold ofVal at h
  split at h
  · rename_i cs
    cases hc : ofFlats cs.toList with
    | none => simp [hc] at h
    | some l => simp [hc] at h; subst h; exact .agg (ofFlats_VRs hc ρ)
  · rename_i cs
    cases hc : ofFlats cs.toList with
    | none => simp [hc] at h
    | some l => simp [hc] at h; subst h; exact .tup (ofFlats_VRs hc ρ)
  · exact ofFlat_VR h ρ

/-- A type's zero value, cell by cell. -/
def zeroT (P : Program) (t : Nat) : Option (List AV) :=
  match (P.info? t).bind (·.zero) with
  | some z => ofFlats z.cells.toList
  | none => none
theorem run_zeroT {t : Nat} {cs : List AV} (h : zeroT P t = some cs) (w : World) : ∃ z : Value, (zeroValue t).run P w = .ok z w ∧ ∀ ρ, VRs ρ cs z.cells.toList := by
  unfold zeroT at h
  cases hi : P.info? t with
  | none => simp [hi] at h
  | some i =>
    cases hz : i.zero with
    | none => simp [hi, hz] at h
    | some z =>
      simp [hi, hz] at h
      exact ⟨z, by simp [zeroValue, typeInfo, hi, hz], ofFlats_VRs h⟩

-- ------------------------------------------------------------------ reading
def AObj.cs? : AObj → Option (List AV)
  | .cells _ cs | .opn _ _ cs | .ro cs => some cs
  | _ => none
def AObj.upd : AObj → List AV → AObj
  | .cells e _, cs => .cells e cs
  | .opn e z _, cs => .opn e z cs
  | o, _ => o

theorem OR.view {r : R} {o : AObj} {cs : List AV} (h : OR ρ w r o) (hc : o.cs? = some cs) :
    ∃ pre l more e fr, w.heap[r.blk]? = some (.cells ⟨pre ++ l ++ more⟩ e fr) ∧ pre.length = r.sh ∧ VRs ρ cs l := by
  cases o <;> simp only [AObj.cs?, Option.some.injEq, reduceCtorEq] at hc <;> subst hc
  · obtain ⟨a, l, b, c⟩ := h
    exact ⟨[], l, [], _, _, by simpa using b, by simp [a], c⟩
  · obtain ⟨a, _, _, l, m, b, c, _⟩ := h
    exact ⟨[], l, m, _, _, by simpa using b, by simp [a], c⟩
  · obtain ⟨p, l, m, e, fr, b, c, d⟩ := h
    exact ⟨p, l, m, e, fr, b, c, d⟩

theorem HR.cell {b o : Nat} {r : R} {cs : List AV} {v : AV} (h : HR ρ σ w) (hb : ρ b = some r) (hc : (σ.get b).cs? = some cs) (hv : cs[o]? = some v) :
    ∃ v', w.cell? ⟨r.blk, r.sh + o, none⟩ = some v' ∧ VR ρ v v' := by
  obtain ⟨pre, l, more, e, fr, hh, hp, hl⟩ := (h.obj b r hb).view hc
  obtain ⟨v', hv', hr⟩ := hl.get hv
  refine ⟨v', ?_, hr⟩
  have hlt : o < l.length := (List.getElem?_eq_some_iff.1 hv').1
  rw [cell_of_row w r.blk (r.sh + o) _ e fr hh]
  simp only [List.getElem?_toArray]
  rw [List.append_assoc, List.getElem?_append_right (by omega), List.getElem?_append_left (by omega)]
  rw [show r.sh + o - pre.length = o by omega]
  exact hv'

theorem HR.cells {b o n : Nat} {r : R} {cs : List AV} (h : HR ρ σ w) (hb : ρ b = some r) (hc : (σ.get b).cs? = some cs) (hn : o + n ≤ cs.length) :
    ∃ l, VRs ρ ((cs.drop o).take n) l ∧ l.length = n ∧ ∀ j v, l[j]? = some v → w.cell? ((⟨r.blk, r.sh + o, none⟩ : Addr).add j) = some v := by
  obtain ⟨pre, l, more, e, fr, hh, hp, hl⟩ := (h.obj b r hb).view hc
  have hlen := hl.length
  refine ⟨(l.drop o).take n, (hl.drop o).take n, by simp; omega, fun j v hj => ?_⟩
  have hj' : j < n ∧ l[o + j]? = some v := by
    rw [List.getElem?_take] at hj
    split at hj
    · exact ⟨by assumption, by simpa using hj⟩
    · cases hj
  rw [Addr.add_lit, cell_of_row w r.blk (r.sh + o + j) _ e fr hh]
  simp only [List.getElem?_toArray]
  have hlt : o + j < l.length := (List.getElem?_eq_some_iff.1 hj'.2).1
  rw [List.append_assoc, List.getElem?_append_right (by omega), List.getElem?_append_left (by omega)]
  rw [show r.sh + o + j - pre.length = o + j by omega]
  exact hj'.2

theorem HR.loadCells {b o n : Nat} {r : R} {cs : List AV} (h : HR ρ σ w) (hb : ρ b = some r) (hc : (σ.get b).cs? = some cs) (hn : o + n ≤ cs.length) :
    ∃ l, (loadCells ⟨r.blk, r.sh + o, none⟩ n).run P w = .ok ⟨l⟩ w ∧ VRs ρ ((cs.drop o).take n) l ∧ l.length = n ∧ ∀ j v, l[j]? = some v → w.cell? ((⟨r.blk, r.sh + o, none⟩ : Addr).add j) = some v := by
  obtain ⟨l, hl, hn', hcell⟩ := h.cells hb hc hn
  refine ⟨l, ?_, hl, hn', hcell⟩
  have := run_loadCells_list (P := P) w ⟨r.blk, r.sh + o, none⟩ l hcell
  rwa [hn'] at this

-- ------------------------------------------------------------------ writing
def splice (cs : List AV) (o : Nat) (vs : List AV) : List AV := cs.take o ++ vs ++ cs.drop (o + vs.length)

theorem AObj.wr_cs {o : AObj} {cs : List AV} (h : o.wr = true) (hc : o.cs? = some cs) : (∃ e, o = .cells e cs) ∨ ∃ e z, o = .opn e z cs := by
  cases o <;> simp_all [AObj.wr, AObj.cs?]

theorem HR.storeCells {b o : Nat} {r : R} {cs vs : List AV} {vs' : List Value} (h : HR ρ σ w) (hb : ρ b = some r) (hw : (σ.get b).wr = true) (hc : (σ.get b).cs? = some cs)
    (hn : o + vs.length ≤ cs.length) (h1 : vs.all AV.one = true) (hv : VRs ρ vs vs') :
    ∃ w', (storeCells ⟨r.blk, r.sh + o, none⟩ vs').run P w = .ok () w' ∧ Step ρ σ w ρ (σ.set b ((σ.get b).upd (splice cs o vs))) w' := by
  have hone := hv.one h1
  have hlen := hv.length
  rcases AObj.wr_cs hw hc with ⟨e, he⟩ | ⟨e, z, he⟩
  · have ho := h.obj b r hb
    rw [he] at ho
    obtain ⟨hs, l, hh, hl⟩ := ho
    have hl2 := hl.length
    have hst := run_storeCells_at P r.blk o e vs' 0 ⟨l⟩ w hh (by simp; omega) hone
    simp only [Nat.add_zero] at hst
    refine ⟨_, by rw [hs, Nat.zero_add]; exact hst, ?_⟩
    refine step_set h b _ r hb hw (by rw [he]; rfl) (size_setRow _ _ _) rfl rfl rfl (fun c hc => setRow_other w r.blk c _ hc) ?_
    rw [he]
    refine ⟨hs, _, setRow_heap w r.blk _ _ e _ hh, ?_⟩
    unfold splice
    refine VRs.append (VRs.append (hl.take o) hv) ?_
    rw [hlen]
    exact hl.drop _
  · have ho := h.obj b r hb
    rw [he] at ho
    obtain ⟨hs, hz, hpos, l, more, hh, hl, hsz⟩ := ho
    have hl2 := hl.length
    have hst := run_storeCells_at P r.blk o e vs' 0 ⟨l ++ more⟩ w hh (by simp; omega) hone
    simp only [Nat.add_zero] at hst
    refine ⟨_, by rw [hs, Nat.zero_add]; exact hst, ?_⟩
    refine step_set h b _ r hb hw (by rw [he]; rfl) (size_setRow _ _ _) rfl rfl rfl (fun c hc => setRow_other w r.blk c _ hc) ?_
    rw [he]
    have e1 : (l ++ more).take o ++ vs' ++ (l ++ more).drop (o + vs'.length) = (l.take o ++ vs' ++ l.drop (o + vs'.length)) ++ more := by
      rw [List.take_append_of_le_length (by omega), List.drop_append_of_le_length (by omega)]
      simp
    refine ⟨hs, hz, hpos, l.take o ++ vs' ++ l.drop (o + vs'.length), more, ?_, ?_, ?_⟩
    · rw [← e1]; exact setRow_heap w r.blk _ _ e _ hh
    · unfold splice
      refine VRs.append (VRs.append (hl.take o) hv) ?_
      rw [hlen]
      exact hl.drop _
    · rw [← hsz]
      simp
      omega

/-- A new closed block. -/
theorem HR.newRow {e : Nat} {cs : List AV} {l : List Value} (h : HR ρ σ w) (hl : VRs ρ cs l) :
    ∃ w' ρ', (newRow e ⟨l⟩).run P w = .ok ⟨w.heap.size, 0, none⟩ w' ∧ ρ' σ.nx = some ⟨w.heap.size, 0, 0, 0⟩ ∧ Step ρ σ w ρ' (σ.push (.cells e cs)) w' := by
  refine ⟨w.alloc (.cells ⟨l⟩ e), ρ.push σ.nx ⟨w.heap.size, 0, 0, 0⟩, by simp [Go.newRow], Ren.push_same _ _ _, ?_⟩
  refine step_push h _ _ (.cells ⟨l⟩ e) rfl rfl rfl rfl rfl ?_
  exact ⟨rfl, l, heap_alloc_new w _, hl.mono (h.sub_push _)⟩

end Go.Proofs.Yteneafgmcmgahaa.V
