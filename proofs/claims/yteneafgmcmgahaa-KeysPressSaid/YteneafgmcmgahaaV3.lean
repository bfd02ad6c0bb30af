/- Own library, part 3: each operation over abstract values, and that the model's answers the same. -/
import Derived.Test.YteneafgmcmgahaaV2
namespace Go.Proofs.Yteneafgmcmgahaa.V
open Go
set_option linter.unusedSimpArgs false
set_option linter.unusedVariables false

variable {P : Program} {ρ : Ren} {σ : AH} {w : World}

-- ------------------------------------------------------------------ memory
def aAlloc (P : Program) (t : Nat) (σ : AH) : Option (AV × AH) :=
  match zeroT P t with
  | some cs => some (.ptr σ.nx 0, σ.push (.cells t cs))
  | none => none
theorem ok_alloc {t : Nat} {v : AV} {σ' : AH} (h : HR ρ σ w) (e : aAlloc P t σ = some (v, σ')) (old : Value) : Ok P (Instr.alloc t true old) ρ σ w v σ' := by
  unfold aAlloc at e
  split at e
  · rename_i cs hz
    cases e
    obtain ⟨z, hr, hv⟩ := run_zeroT hz w
    obtain ⟨w', ρ', h1, h2, h3⟩ := h.newRow (P := P) (e := t) (hv ρ)
    refine ⟨.pointer (some ⟨w.heap.size, 0, none⟩), w', ρ', ?_, ?_, h3⟩
    · simp only [Instr.alloc, Sem.run_bind, hr, Result.andThen_ok]
      cases old <;> simp [newVar, h1]
    · have := VR.ptr (o := 0) h2; simpa using this
  · cases e

def aBox (t : Nat) (v : AV) (σ : AH) : AV × AH := (.ptr σ.nx 0, σ.push (.cells t v.cells))
theorem ok_box {t : Nat} {v : AV} {v' : Value} (h : HR ρ σ w) (hv : VR ρ v v') : Ok P (Instr.box t v') ρ σ w (aBox t v σ).1 (aBox t v σ).2 := by
  obtain ⟨w', ρ', h1, h2, h3⟩ := h.newRow (P := P) (e := t) hv.cells
  refine ⟨.pointer (some ⟨w.heap.size, 0, none⟩), w', ρ', ?_, ?_, h3⟩
  · simp [Instr.box, newVar, h1]
  · have := VR.ptr (o := 0) h2; simpa [aBox] using this

def aLoad (P : Program) (t : Nat) (a : AV) (σ : AH) : Option AV :=
  match a with
  | .ptr b o => match (σ.get b).cs?, aggT P t with
    | some cs, some false => cs[o]?
    | some cs, some true => match szT P t with
      | some n => if o + n ≤ cs.length then some (.agg ((cs.drop o).take n)) else none
      | none => none
    | _, _ => none
  | _ => none
theorem ok_load {t : Nat} {a v : AV} {a' : Value} (h : HR ρ σ w) (ha : VR ρ a a') (e : aLoad P t a σ = some v) : Ok P (Instr.loadAt t a') ρ σ w v σ := by
  unfold aLoad at e
  split at e
  · rename_i b o
    cases ha with
    | ptr hb =>
      split at e
      · rename_i cs hc hg
        obtain ⟨v', hv', hr⟩ := h.cell hb hc e
        refine .same h ?_ hr
        simp [Instr.loadAt, Instr.sureAddr, loadVar, run_aggT hg, hv']
      · rename_i cs hc hg
        split at e
        · rename_i n hn
          split at e
          · rename_i hle
            cases e
            obtain ⟨l, hl, hv, _, _⟩ := h.loadCells (P := P) hb hc hle
            refine .same h ?_ (.agg hv)
            simp [Instr.loadAt, Instr.sureAddr, loadVar, run_aggT hg, run_szT hn, hl]
          · cases e
        · cases e
      · cases e
  · cases e

/-- A listed cell. -/
def lookG : List (Addr × Value) → Nat → Nat → Option AV
  | [], _, _ => none
  | (⟨b, f, none⟩, v) :: r, g, o => if (Nat.beq b g && Nat.beq f o) = true then ofVal v else lookG r g o
  | _ :: r, g, o => lookG r g o
theorem lookG_mem {g o : Nat} {v : AV} : ∀ {l : List (Addr × Value)}, lookG l g o = some v → ∃ v', (⟨g, o, none⟩, v') ∈ l ∧ ofVal v' = some v := by
  intro l
  induction l with
  | nil => intro h; cases h
  | cons p r ih =>
    intro h
    obtain ⟨⟨b, f, x⟩, y⟩ := p
    cases x with
    | none =>
      simp only [lookG] at h
      split at h
      · rename_i hq
        simp only [Bool.and_eq_true] at hq
        obtain rfl := Nat.eq_of_beq_eq_true hq.1
        obtain rfl := Nat.eq_of_beq_eq_true hq.2
        exact ⟨y, by simp, h⟩
      · obtain ⟨v', h1, h2⟩ := ih h
        exact ⟨v', by simp [h1], h2⟩
    | some x =>
      simp only [lookG] at h
      obtain ⟨v', h1, h2⟩ := ih h
      exact ⟨v', by simp [h1], h2⟩
/-- A load, of a listed variable's cell too. -/
def aLoadG (P : Program) (t : Nat) (a : AV) (σ : AH) : Option AV :=
  match a with
  | .gp g o => match aggT P t with
    | some false => lookG GB g o
    | _ => none
  | a => aLoad P t a σ
theorem aLoadG_of {t : Nat} {a v : AV} (e : aLoad P t a σ = some v) : aLoadG P t a σ = some v := by
  unfold aLoadG
  split
  · simp [aLoad] at e
  · exact e
theorem ok_loadG {t : Nat} {a v : AV} {a' : Value} (h : HR ρ σ w) (hg : GOK (Wr ρ σ) w) (ha : VR ρ a a') (e : aLoadG P t a σ = some v) : Ok P (Instr.loadAt t a') ρ σ w v σ := by
  unfold aLoadG at e
  split at e
  · rename_i g o
    split at e
    · rename_i hagg
      cases ha
      obtain ⟨v', h1, h2⟩ := lookG_mem e
      obtain ⟨_, _, h3⟩ := hg _ h1
      refine .same h ?_ (ofVal_VR h2 ρ)
      simp [Instr.loadAt, Instr.sureAddr, loadVar, run_aggT hagg, h3]
    · cases e
  · exact ok_load h ha e

def aStore (P : Program) (t : Nat) (a v : AV) (σ : AH) : Option AH :=
  match a with
  | .ptr b o => match (σ.get b).wr, (σ.get b).cs?, szT P t with
    | true, some cs, some n => if v.cells.length = n ∧ o + n ≤ cs.length ∧ v.cells.all AV.one = true then some (σ.set b ((σ.get b).upd (splice cs o v.cells))) else none
    | _, _, _ => none
  | _ => none
theorem ok_store {t : Nat} {a v : AV} {a' v' : Value} {σ' : AH} (h : HR ρ σ w) (ha : VR ρ a a') (hv : VR ρ v v') (e : aStore P t a v σ = some σ') :
    ∃ w', (Instr.storeAt t a' v').run P w = .ok () w' ∧ Step ρ σ w ρ σ' w' := by
  unfold aStore at e
  split at e
  · rename_i b o
    cases ha with
    | ptr hb =>
      split at e
      · rename_i cs n hw hc hn
        split at e
        · rename_i hq
          obtain ⟨q1, q2, q3⟩ := hq
          cases e
          obtain ⟨w', h1, h2⟩ := h.storeCells (P := P) (vs := v.cells) hb hw hc (by rw [q1]; exact q2) q3 hv.cells
          refine ⟨w', ?_, h2⟩
          have hl := hv.cells.length
          simp only [Array.length_toList] at hl
          have hne : ¬ v'.cells.size ≠ n := by omega
          simp only [Instr.storeAt, Instr.sureAddr, Sem.run_bind, Sem.run_pure, Result.andThen_ok, storeVar, run_szT hn, hne, if_false, Sem.run_ite]
          exact h1
        · cases e
      · cases e
  · cases e

-- ------------------------------------------------------------------ parts
def aPart (P : Program) (t : Nat) (cs : List AV) (off : Nat) : Option AV :=
  match aggT P t with
  | some false => cs[off]?
  | some true => match szT P t with
    | some n => some (.agg ((cs.drop off).take n))
    | none => none
  | none => none
theorem run_part {t off : Nat} {cs : List AV} {l : List Value} {v : AV} (hl : VRs ρ cs l) (e : aPart P t cs off = some v) (w : World) :
    ∃ v', (part t ⟨l⟩ off).run P w = .ok v' w ∧ VR ρ v v' := by
  unfold aPart at e
  split at e
  · rename_i hg
    obtain ⟨v', hv', hr⟩ := hl.get e
    exact ⟨v', by simp [part, run_aggT hg, hv'], hr⟩
  · rename_i hg
    split at e
    · rename_i n hn
      cases e
      refine ⟨.agg ⟨(l.drop off).take n⟩, ?_, .agg ((hl.drop off).take n)⟩
      simp only [part, Sem.run_bind, run_aggT hg, Result.andThen_ok, if_true, run_szT hn, Sem.run_pure]
      congr 2
      apply Array.ext'
      simp
    · cases e
  · cases e

def fieldsT (P : Program) (t f : Nat) : Option (Nat × Nat) :=
  match P.underlying t with
  | some (.struct fs) => match fs[f]? with
    | some x => some (x.offset, x.type)
    | none => none
  | _ => none
/-- Where a field of more than no cells begins. -/
def fieldO (P : Program) (t f : Nat) : Option Nat :=
  match fieldsT P t f with
  | some (o, u) => match szT P u with
    | some 0 => none
    | some _ => some o
    | none => none
  | none => none
def aFieldAddr (P : Program) (t f : Nat) (a : AV) : Option AV :=
  match a, fieldO P t f with
  | .ptr b o, some k => some (.ptr b (o + k))
  | _, _ => none
theorem ok_fieldAddr {t f : Nat} {a v : AV} {a' : Value} (h : HR ρ σ w) (ha : VR ρ a a') (e : aFieldAddr P t f a = some v) : Ok P (Instr.fieldAt t a' f) ρ σ w v σ := by
  unfold aFieldAddr at e
  split at e
  · rename_i b o k hk
    cases e
    cases ha with
    | ptr hb =>
      rename_i r
      unfold fieldO at hk
      split at hk
      · rename_i o' u hf
        unfold fieldsT at hf
        split at hf
        · rename_i fs hu
          split at hf
          · rename_i x hx
            cases hf
            split at hk
            · cases hk
            · rename_i n hz hn
              cases hk
              have := VR.ptr (o := o + x.offset) hb
              refine .same h ?_ this
              have hne : ¬ (n = 0) := hz
              simp [Instr.fieldAt, run_underlying hu, hx, Instr.sureAddr, fieldPlace, run_szT hn, hne, Addr.add_lit, Nat.add_assoc]
            · cases hk
          · cases hf
        · cases hf
      · cases hk
  · cases e

def aField (P : Program) (t f : Nat) (a : AV) : Option AV :=
  match a, fieldsT P t f with
  | .agg cs, some (o, u) => aPart P u cs o
  | _, _ => none
theorem ok_field {t f : Nat} {a v : AV} {a' : Value} (h : HR ρ σ w) (ha : VR ρ a a') (e : aField P t f a = some v) : Ok P (Instr.field t a' f) ρ σ w v σ := by
  unfold aField at e
  split at e
  · rename_i cs o u hf
    cases ha with
    | agg hl =>
      unfold fieldsT at hf
      split at hf
      · rename_i fs hu
        split at hf
        · rename_i x hx
          cases hf
          obtain ⟨v', hr, hv⟩ := run_part hl e w
          refine .same h ?_ hv
          simp [Instr.field, run_underlying hu, hx, asAgg, hr]
        · cases hf
      · cases hf
  · cases e

/-- Arrays: length and element; slices: element. -/
def arrT (P : Program) (t : Nat) : Option (Nat × Nat) := match P.underlying t with | some (.array n e) => some (n, e) | _ => none
def sliT (P : Program) (t : Nat) : Option Nat := match P.underlying t with | some (.slice e) => some e | _ => none
theorem arrT_u {t n e : Nat} (h : arrT P t = some (n, e)) : P.underlying t = some (.array n e) := by
  unfold arrT at h; split at h
  · rename_i hu; cases h; exact hu
  · cases h
theorem sliT_u {t e : Nat} (h : sliT P t = some e) : P.underlying t = some (.slice e) := by
  unfold sliT at h; split at h
  · rename_i hu; cases h; exact hu
  · cases h

def aIndexAddr (P : Program) (t : Nat) (x ix : AV) : Option AV :=
  match ix with
  | .int _ i => match x with
    | .ptr b o => match arrT P t with
      | some (n, e) => match szT P e with
        | some z => if 0 ≤ i ∧ i < (n : Int) then some (.ptr b (o + i.toNat * z)) else none
        | none => none
      | none => none
    | .gp b o => match arrT P t with
      | some (n, e) => match szT P e with
        | some z => if 0 ≤ i ∧ i < (n : Int) then some (.gp b (o + i.toNat * z)) else none
        | none => none
      | none => none
    | .slice b o n _ => match sliT P t with
      | some e => match szT P e with
        | some z => if 0 ≤ i ∧ i < (n : Int) then some (.ptr b (o + i.toNat * z)) else none
        | none => none
      | none => none
    | _ => none
  | _ => none
theorem ok_indexAddr {t : Nat} {x ix v : AV} {x' ix' : Value} (h : HR ρ σ w) (hx : VR ρ x x') (hi : VR ρ ix ix') (e : aIndexAddr P t x ix = some v) :
    Ok P (Instr.indexAt t x' ix') ρ σ w v σ := by
  unfold aIndexAddr at e
  split at e
  · rename_i k i
    cases hi
    split at e
    · rename_i b o
      split at e
      · rename_i n el ha
        split at e
        · rename_i z hz
          split at e
          · rename_i hb
            cases e
            cases hx with
            | ptr hr =>
              rename_i r
              refine .same h ?_ (VR.ptr (o := o + i.toNat * z) hr)
              have hu := arrT_u ha
              simp [Instr.indexAt, asIntOf, run_underlying hu, Instr.sureAddr, hb.1, hb.2, run_szT hz, Addr.add_lit, Nat.add_assoc]
          · cases e
        · cases e
      · cases e
    · rename_i b o
      split at e
      · rename_i n el ha
        split at e
        · rename_i z hz
          split at e
          · rename_i hb
            cases e
            cases hx
            refine .same h ?_ (VR.gp b (o + i.toNat * z))
            have hu := arrT_u ha
            simp [Instr.indexAt, asIntOf, run_underlying hu, Instr.sureAddr, hb.1, hb.2, run_szT hz, Addr.add_lit, Nat.add_assoc]
          · cases e
        · cases e
      · cases e
    · rename_i b o n c
      split at e
      · rename_i el ha
        split at e
        · rename_i z hz
          split at e
          · rename_i hb
            cases e
            have hu := sliT_u ha
            cases hx with
            | slice hr =>
              rename_i r
              refine .same h ?_ (VR.ptr (o := o + i.toNat * z) hr)
              simp [Instr.indexAt, asIntOf, run_underlying hu, Instr.sureAddr, hb.1, hb.2, run_szT hz, Addr.add_lit, Nat.add_assoc]
            | slicee => omega
            | sliceo hr hs ho hn hc =>
              rename_i r j
              refine .same h ?_ (VR.ptr (o := o + i.toNat * z) hr)
              simp [Instr.indexAt, asIntOf, run_underlying hu, Instr.sureAddr, hb.1, hb.2, run_szT hz, Addr.add_lit, Nat.add_assoc, hs]
          · cases e
        · cases e
      · cases e
    · cases e
  · cases e

def isStr (P : Program) (t : Nat) : Bool := match P.underlying t with | some .string => true | _ => false
theorem isStr_u {t : Nat} (h : isStr P t = true) : P.underlying t = some .string := by
  unfold isStr at h; split at h
  · assumption
  · cases h
def aIndex (P : Program) (t : Nat) (x ix : AV) : Option AV :=
  match ix with
  | .int _ i => match x with
    | .agg cs => match arrT P t with
      | some (n, e) => match szT P e with
        | some z => if 0 ≤ i ∧ i < (n : Int) then aPart P e cs (i.toNat * z) else none
        | none => none
      | none => none
    | .str s => match isStr P t with
      | true => if h : 0 ≤ i ∧ i < (s.size : Int) then some (.int .u8 (s[i.toNat]'(by omega)).toNat) else none
      | false => none
    | _ => none
  | _ => none
theorem ok_index {t : Nat} {x ix v : AV} {x' ix' : Value} (h : HR ρ σ w) (hx : VR ρ x x') (hi : VR ρ ix ix') (e : aIndex P t x ix = some v) :
    Ok P (Instr.index t x' ix') ρ σ w v σ := by
  unfold aIndex at e
  split at e
  · rename_i k i
    cases hi
    split at e
    · rename_i cs
      split at e
      · rename_i n el ha
        split at e
        · rename_i z hz
          split at e
          · rename_i hb
            cases hx with
            | agg hl =>
              obtain ⟨v', hr, hv⟩ := run_part hl e w
              refine .same h ?_ hv
              have hu := arrT_u ha
              simp [Instr.index, asIntOf, run_underlying hu, hb.1, hb.2, run_szT hz, hr]
          · cases e
        · cases e
      · cases e
    · rename_i s
      split at e
      · rename_i hs
        split at e
        · rename_i hb
          cases e
          cases hx
          refine .same h ?_ (.int _ _)
          have hu := isStr_u hs
          have hg : s[i.toNat]? = some (s[i.toNat]'(by omega)) := getElem?_pos s i.toNat (by omega)
          simp [Instr.index, asIntOf, run_underlying hu, hb.1, hg]
        · cases e
      · cases e
    · cases e
  · cases e

-- ------------------------------------------------------------------ slices
/-- The bounds of a slice expression: low, high, up to. -/
def aBounds (len cap : Nat) (lo hi mx : Option AV) : Option (Nat × Nat × Nat) :=
  let m : Option Nat := match mx with
    | none => some cap
    | some (.int _ i) => if 0 ≤ i ∧ i ≤ (cap : Int) then some i.toNat else none
    | some _ => none
  match m with
  | none => none
  | some m =>
    let h : Option Nat := match hi with
      | none => match mx with
        | none => some len
        | some _ => none
      | some (.int _ i) => if 0 ≤ i ∧ i ≤ (m : Int) then some i.toNat else none
      | some _ => none
    match h with
    | none => none
    | some h =>
      let l : Option Nat := match lo with
        | none => some 0
        | some (.int _ i) => if 0 ≤ i ∧ i ≤ (h : Int) then some i.toNat else none
        | some _ => none
      match l with
      | none => none
      | some l => some (l, h, m)

/-- Optional values. -/
def VO (ρ : Ren) : Option AV → Option Value → Prop
  | none, none => True
  | some v, some v' => VR ρ v v'
  | _, _ => False

theorem run_bounds {isS : Bool} {len cap cap' : Nat} {lo hi mx : Option AV} {lo' hi' mx' : Option Value} (hl : VO ρ lo lo') (hh : VO ρ hi hi') (hm : VO ρ mx mx')
    (hcap : cap ≤ cap') {l h m : Nat} (e : aBounds len cap lo hi mx = some (l, h, m)) (w : World) :
    (Instr.sliceBounds isS len cap' lo' hi' mx').run P w = .ok (l, h, if mx.isNone then cap' else m) w ∧ l ≤ h ∧ (hi ≠ none ∨ len ≤ m → h ≤ m) ∧ (mx = none → m = cap) ∧ m ≤ cap ∧ (hi = none → h = len) := by
  unfold aBounds at e
  have c3 : ∃ m0, (match mx' with
      | some v => Instr.sliceBound v cap' (if isS = true then .slice3Acap else .slice3Alen)
      | none => pure cap').run P w = .ok (if mx.isNone then cap' else m0) w ∧ (match mx with
    | none => some cap
    | some (.int _ i) => if 0 ≤ i ∧ i ≤ (cap : Int) then some i.toNat else none
    | some _ => none) = some m0 ∧ (mx = none → m0 = cap) ∧ m0 ≤ cap := by
    cases mx with
    | none =>
      cases mx' with
      | none => exact ⟨cap, rfl, rfl, fun _ => rfl, Nat.le_refl _⟩
      | some _ => exact hm.elim
    | some v =>
      cases mx' with
      | none => exact hm.elim
      | some v' =>
        simp only [VO] at hm
        cases hm <;> simp only [reduceCtorEq] at e
        rename_i k i
        by_cases hb : 0 ≤ i ∧ i ≤ (cap : Int)
        · refine ⟨i.toNat, ?_, by simp [hb], by simp, by omega⟩
          exact run_sliceBound w k i cap' _ hb.1 (by omega)
        · simp [hb] at e
  obtain ⟨m0, r3, e3, k3, k3'⟩ := c3
  rw [e3] at e
  simp only at e
  have c2 : ∃ h0, (match hi', mx' with
    | some v, some _ => Instr.sliceBound v (if mx.isNone then cap' else m0) .slice3B
    | some v, none => Instr.sliceBound v (if mx.isNone then cap' else m0) (if isS = true then .sliceAcap else .sliceAlen)
    | none, none => pure len
    | none, some _ => stuck "Slice: max without high").run P w = .ok h0 w ∧ (match hi with
      | none => match mx with
        | none => some len
        | some _ => none
      | some (.int _ i) => if 0 ≤ i ∧ i ≤ (m0 : Int) then some i.toNat else none
      | some _ => none) = some h0 ∧ (hi ≠ none ∨ len ≤ m0 → h0 ≤ m0) ∧ (hi = none → h0 = len) := by
    have hm0 : m0 ≤ (if mx.isNone then cap' else m0) := by split <;> omega
    cases hi with
    | none =>
      cases hi' with
      | some _ => exact hh.elim
      | none =>
        cases mx with
        | none =>
          cases mx' with
          | none => exact ⟨len, rfl, rfl, fun x => by simpa using x, fun _ => rfl⟩
          | some _ => exact hm.elim
        | some _ => simp at e
    | some v =>
      cases hi' with
      | none => exact hh.elim
      | some v' =>
        simp only [VO] at hh
        cases hh <;> simp only [reduceCtorEq] at e
        rename_i k i
        by_cases hb : 0 ≤ i ∧ i ≤ (m0 : Int)
        · refine ⟨i.toNat, ?_, by simp [hb], fun _ => by omega, by simp⟩
          cases mx' with
          | none => exact run_sliceBound w k i _ _ hb.1 (by omega)
          | some _ => exact run_sliceBound w k i _ _ hb.1 (by omega)
        · simp [hb] at e
  obtain ⟨h0, r2, e2, k2, k2'⟩ := c2
  rw [e2] at e
  simp only at e
  have c1 : ∃ l0, (match lo' with
    | some v => Instr.sliceBound v h0 (if mx'.isSome = true then .slice3C else .sliceB)
    | none => pure 0).run P w = .ok l0 w ∧ (match lo with
        | none => some 0
        | some (.int _ i) => if 0 ≤ i ∧ i ≤ (h0 : Int) then some i.toNat else none
        | some _ => none) = some l0 ∧ l0 ≤ h0 := by
    cases lo with
    | none =>
      cases lo' with
      | none => exact ⟨0, rfl, rfl, Nat.zero_le _⟩
      | some _ => exact hl.elim
    | some v =>
      cases lo' with
      | none => exact hl.elim
      | some v' =>
        simp only [VO] at hl
        cases hl <;> simp only [reduceCtorEq] at e
        rename_i k i
        by_cases hb : 0 ≤ i ∧ i ≤ (h0 : Int)
        · refine ⟨i.toNat, ?_, by simp [hb], by omega⟩
          exact run_sliceBound w k i h0 _ hb.1 hb.2
        · simp [hb] at e
  obtain ⟨l0, r1, e1, k1⟩ := c1
  rw [e1] at e
  simp only [Option.some.injEq, Prod.mk.injEq] at e
  obtain ⟨rfl, rfl, rfl⟩ := e
  refine ⟨?_, k1, k2, k3, k3', k2'⟩
  generalize (if mx.isNone = true then cap' else m0) = M at r2 r3 ⊢
  clear e1 e2 e3 k1 k2 k2' k3 k3'
  unfold Instr.sliceBounds
  cases lo' <;> cases hi' <;> cases mx' <;> simp only [Option.isSome_none, Option.isSome_some, Bool.false_eq_true, if_false, if_true, Sem.run_pure, run_stuck] at r1 r2 r3 <;>
    (try cases r1) <;> (try cases r2) <;> (try cases r3) <;>
    simp only [Sem.run_bind, Sem.run_pure, Result.andThen_ok, Option.isSome_none, Option.isSome_some, Bool.false_eq_true, if_false, if_true, *]

def aSlice (P : Program) (t : Nat) (x : AV) (lo hi mx : Option AV) (σ : AH) : Option AV :=
  match x with
  | .str s => match isStr P t, mx with
    | true, none => match aBounds s.size s.size lo hi none with
      | some (l, h, _) => some (.str (s.extract l h))
      | none => none
    | _, _ => none
  | .ptr b o => match arrT P t with
    | some (n, e) => match szT P e, aBounds n n lo hi mx with
      | some z, some (l, h, m) => some (.slice b (if m = l then o else o + l * z) (h - l) (some (m - l)))
      | _, _ => none
    | none => none
  | .nilslice => match sliT P t with
    | some e => match szT P e, aBounds 0 0 lo hi mx with
      | some _, some _ => some .nilslice
      | _, _ => none
    | none => none
  | .slice b o n (some c) => match sliT P t with
    | some e => match szT P e, aBounds n c lo hi mx with
      | some z, some (l, h, m) => some (.slice b (if m = l then o else o + l * z) (h - l) (some (m - l)))
      | _, _ => none
    | none => none
  | .slice b o n none => match sliT P t with
    | some e => match szT P e, aBounds n n lo hi mx with
      | some z, some (l, h, m) =>
        if n = 0 then some (.slice b o 0 none)
        else match mx with
          | some _ => some (.slice b (if m = l then o else o + l * z) (h - l) (some (m - l)))
          | none => match σ.get b with
            | .opn _ z' _ => if z' = z then some (.slice b (o + l * z) (h - l) none) else if h = l then some (.slice b o 0 none) else none
            | _ => if h = l then some (.slice b o 0 none) else none
      | _, _ => none
    | none => none
  | _ => none

end Go.Proofs.Yteneafgmcmgahaa.V
