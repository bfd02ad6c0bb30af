/- Own library, part 8: frames, the table of operations, and a walk through code over abstract values. -/
import Derived.Test.YteneafgmcmgahaaV7
import Derived.Scope
namespace Go.Proofs.Yteneafgmcmgahaa.V
open Go
set_option linter.unusedSimpArgs false
set_option linter.unusedVariables false

variable {P : Program} {ρ : Ren} {σ : AH} {w : World}

-- ------------------------------------------------------------------ frames
structure AF where
  n : Nat
  l : List (Nat × AV)
def lookF : List (Nat × AV) → Nat → Option AV
  | [], _ => none
  | (k, v) :: r, t => if k = t then some v else lookF r t
def AF.ev (fr : AF) : Operand → Option AV
  | .tmp t => lookF fr.l t
  | .const v => ofVal v
  | .func f => some (.func (.func f) [] [])
  | .global g => some (.gp g 0)
def AF.put (fr : AF) (dst : Option Nat) (v : AV) : AF :=
  match dst with
  | none => fr
  | some d => if d < fr.n then ⟨fr.n, (d, v) :: fr.l⟩ else fr

structure FR (ρ : Ren) (fr : AF) (a : Act) : Prop where
  size : a.tmps.size = fr.n
  tmps : ∀ t v, lookF fr.l t = some v → ∃ v', a.tmps[t]? = some v' ∧ VR ρ v v'
  defers : a.defers = []

theorem FR.mono {ρ' : Ren} {fr : AF} {a : Act} (h : FR ρ fr a) (s : Sub ρ ρ') : FR ρ' fr a :=
  ⟨h.size, fun t v e => let ⟨v', a, b⟩ := h.tmps t v e; ⟨v', a, b.mono s⟩, h.defers⟩
theorem FR.ev {fr : AF} {a : Act} (h : FR ρ fr a) {x : Operand} {v : AV} (e : fr.ev x = some v) : VR ρ v (a.eval x) := by
  cases x with
  | tmp t =>
    obtain ⟨v', h1, h2⟩ := h.tmps t v e
    simp only [Act.eval, Array.getD_eq_getD_getElem?, h1, Option.getD_some]
    exact h2
  | const c => exact ofVal_VR e ρ
  | func f => cases e; exact .func .nil .nil
  | global g => cases e; exact .gp g 0
theorem FR.put {fr : AF} {a : Act} (h : FR ρ fr a) (dst : Option Nat) {v : AV} {v' : Value} (hv : VR ρ v v') : FR ρ (fr.put dst v) (a.put dst v') := by
  cases dst with
  | none => exact h
  | some d =>
    simp only [AF.put, Act.put]
    split
    · rename_i hd
      refine ⟨by simp [h.size], fun t u e => ?_, h.defers⟩
      simp only [lookF] at e
      split at e
      · rename_i hdt
        subst hdt
        cases e
        exact ⟨v', by simp [Array.getElem?_setIfInBounds, h.size, hd], hv⟩
      · rename_i hdt
        obtain ⟨u', h1, h2⟩ := h.tmps t u e
        exact ⟨u', by rw [Array.getElem?_setIfInBounds_ne hdt]; exact h1, h2⟩
    · rename_i hd
      refine ⟨by simp [h.size], fun t u e => ?_, h.defers⟩
      obtain ⟨u', h1, h2⟩ := h.tmps t u e
      have : d ≠ t := by
        intro e
        subst e
        have := (Array.getElem?_eq_some_iff.1 h1).1
        have := h.size
        omega
      exact ⟨u', by rw [Array.getElem?_setIfInBounds_ne this]; exact h1, h2⟩

def evs (ev : Operand → Option AV) : List Operand → Option (List AV)
  | [] => some []
  | x :: r => match ev x, evs ev r with
    | some v, some l => some (v :: l)
    | _, _ => none
theorem evs_VRs {ev : Operand → Option AV} {ev' : Operand → Value} (hev : ∀ x v, ev x = some v → VR ρ v (ev' x)) : ∀ {xs : List Operand} {l : List AV}, evs ev xs = some l → VRs ρ l (xs.map ev') := by
  intro xs
  induction xs with
  | nil => intro l e; cases e; exact .nil
  | cons x r ih =>
    intro l e
    simp only [evs] at e
    split at e
    · rename_i v l2 h1 h2
      cases e
      exact .cons (hev x v h1) (ih h2)
    · cases e
def evp (ev : Operand → Option AV) : List (Nat × Operand) → Option (List (Nat × AV))
  | [] => some []
  | (i, x) :: r => match ev x, evp ev r with
    | some v, some l => some ((i, v) :: l)
    | _, _ => none
theorem evp_PS {ev : Operand → Option AV} {ev' : Operand → Value} (hev : ∀ x v, ev x = some v → VR ρ v (ev' x)) : ∀ {xs : List (Nat × Operand)} {l : List (Nat × AV)}, evp ev xs = some l → PS ρ l (xs.map fun (i, x) => (i, ev' x)) := by
  intro xs
  induction xs with
  | nil => intro l e; cases e; exact .nil
  | cons x r ih =>
    obtain ⟨i, x⟩ := x
    intro l e
    simp only [evp] at e
    split at e
    · rename_i v l2 h1 h2
      cases e
      exact .cons (hev x v h1) (ih h2)
    · cases e
def evo (ev : Operand → Option AV) : Option Operand → Option (Option AV)
  | none => some none
  | some x => match ev x with
    | some v => some (some v)
    | none => none
theorem evo_VO {ev : Operand → Option AV} {ev' : Operand → Value} (hev : ∀ x v, ev x = some v → VR ρ v (ev' x)) {x : Option Operand} {v : Option AV} (e : evo ev x = some v) : VO ρ v (x.map ev') := by
  cases x with
  | none => cases e; trivial
  | some x =>
    simp only [evo] at e
    split at e
    · rename_i u hu; cases e; exact hev x u hu
    · cases e

-- ------------------------------------------------------------------ interfaces, capacities
/-- A type's zero value. -/
def zeroV (P : Program) (t : Nat) : Option AV := match (P.info? t).bind (·.zero) with
  | some z => ofVal z
  | none => none
theorem run_zeroV {t : Nat} {v : AV} (h : zeroV P t = some v) (w : World) : ∃ z : Value, (zeroValue t).run P w = .ok z w ∧ ∀ ρ, VR ρ v z := by
  unfold zeroV at h
  cases hi : P.info? t with
  | none => simp [hi] at h
  | some i =>
    cases hz : i.zero with
    | none => simp [hi, hz] at h
    | some z =>
      simp [hi, hz] at h
      exact ⟨z, by simp [zeroValue, typeInfo, hi, hz], ofVal_VR h⟩
inductive TA where
  | iface (ms : Array (String × Nat)) | conc | no
def taD : TypeDesc → TA
  | .interface ms => .iface ms
  | _ => .conc
def taK (P : Program) (t : Nat) : TA := match P.underlying t with
  | some d => taD d
  | none => .no
def taYes (ok : Bool) (v : AV) : AV := if ok = true then .tup [v, .bool true] else v
def taNo (P : Program) (t : Nat) (ok : Bool) : Option AV := if ok = true then (match zeroV P t with
  | some z => some (.tup [z, .bool false])
  | none => none) else none
def aAssert (P : Program) (t : Nat) (ok : Bool) (x : AV) : Option AV :=
  match taK P t with
  | .iface want => match x with
    | .nilIface => taNo P t ok
    | .iface d v => match P.info? d with
      | some i => match Instr.missingMethod want i.methods with
        | none => some (taYes ok (.iface d v))
        | some _ => taNo P t ok
      | none => none
    | _ => none
  | .conc => match x with
    | .nilIface => taNo P t ok
    | .iface d v => if Nat.beq d t = true then some (taYes ok v) else taNo P t ok
    | _ => none
  | .no => none
theorem run_taNo {t : Nat} {ok : Bool} {v : AV} (e : taNo P t ok = some v) (w : World) : ok = true ∧ ∃ z : Value, (zeroValue t).run P w = .ok z w ∧ ∀ ρ, VR ρ v (.tuple #[z, .bool false]) := by
  unfold taNo at e
  split at e
  · rename_i h
    split at e
    · rename_i z hz
      cases e
      obtain ⟨z', h1, h2⟩ := run_zeroV hz w
      exact ⟨h, z', h1, fun ρ => .tup (.cons (h2 ρ) (.cons (.bool _) .nil))⟩
    · cases e
  · cases e
theorem taYes_VR {ok : Bool} {v : AV} {v' : Value} (h : VR ρ v v') : VR ρ (taYes ok v) (if ok = true then .tuple #[v', .bool true] else v') := by
  unfold taYes
  split
  · exact .tup (.cons h (.cons (.bool _) .nil))
  · exact h
theorem ok_assert {xT t : Nat} {ok : Bool} {x v : AV} {x' : Value} (h : HR ρ σ w) (hx : VR ρ x x') (e : aAssert P t ok x = some v) : Ok P (Instr.typeAssert x' xT t ok) ρ σ w v σ := by
  unfold aAssert taK at e
  cases hu : P.underlying t with
  | none => rw [hu] at e; cases e
  | some d =>
    rw [hu] at e
    simp only at e
    have hc : (∃ ms, d = .interface ms) ∨ (taD d = .conc ∧ ∀ ms, d ≠ .interface ms) := by
      cases d <;> first | exact .inl ⟨_, rfl⟩ | exact .inr ⟨rfl, fun _ => by simp⟩
    rcases hc with ⟨ms, rfl⟩ | ⟨hc, hn⟩
    · simp only [taD] at e
      split at e
      · cases hx
        obtain ⟨rfl, z, h1, h2⟩ := run_taNo e w
        refine .same h ?_ (h2 ρ)
        simp only [Instr.typeAssert, Sem.run_bind, run_underlying hu, Result.andThen_ok, if_true, h1, Sem.run_pure]
      · rename_i dt u
        split at e
        · rename_i i hi
          have ht : (typeInfo dt).run P w = .ok i w := by simp [typeInfo, hi]
          cases hx with
          | iface hv =>
          split at e
          · rename_i hm
            cases e
            refine .same h ?_ (taYes_VR (.iface hv))
            simp only [Instr.typeAssert, Sem.run_bind, run_underlying hu, Result.andThen_ok, ht, hm, Sem.run_pure]
          · rename_i m hm
            obtain ⟨rfl, z, h1, h2⟩ := run_taNo e w
            refine .same h ?_ (h2 ρ)
            simp only [Instr.typeAssert, Sem.run_bind, run_underlying hu, Result.andThen_ok, ht, hm, if_true, h1, Sem.run_pure]
        · cases e
      · cases e
    · rw [hc] at e
      simp only at e
      split at e
      · cases hx
        obtain ⟨rfl, z, h1, h2⟩ := run_taNo e w
        refine .same h ?_ (h2 ρ)
        cases d <;> first | exact absurd rfl (hn _) | simp only [Instr.typeAssert, Sem.run_bind, run_underlying hu, Result.andThen_ok, if_true, h1, Sem.run_pure]
      · rename_i dt u
        cases hx with
        | iface hv =>
        split at e
        · rename_i hd
          have hd := Nat.eq_of_beq_eq_true hd
          subst hd
          cases e
          refine .same h ?_ (taYes_VR hv)
          cases d <;> first | exact absurd rfl (hn _) | simp only [Instr.typeAssert, Sem.run_bind, run_underlying hu, Result.andThen_ok, if_true, Sem.run_pure]
        · rename_i hd
          have hd : ¬ dt = t := fun q => hd (by subst q; simp)
          obtain ⟨rfl, z, h1, h2⟩ := run_taNo e w
          refine .same h ?_ (h2 ρ)
          cases d <;> first | exact absurd rfl (hn _) | simp only [Instr.typeAssert, Sem.run_bind, run_underlying hu, Result.andThen_ok, if_true, if_neg hd, h1, Sem.run_pure]
      · cases e

def aCap (P : Program) (t : Nat) (x : AV) : Option AV :=
  match sliT P t with
  | some _ => match x with
    | .nilslice => some (.int .i64 0)
    | .slice _ _ _ (some c) => some (.int .i64 c)
    | _ => none
  | none => none
theorem ok_cap {t ty : Nat} {x v : AV} {x' : Value} (h : HR ρ σ w) (hx : VR ρ x x') (e : aCap P t x = some v) : Ok P (Builtin.cap_ #[t] ty #[x']) ρ σ w v σ := by
  unfold aCap at e
  split at e
  · rename_i el hs
    have hu := sliT_u hs
    split at e
    · cases e; cases hx
      exact .same h (by simp [Builtin.cap_, run_underlying hu]; rfl) (.int _ _)
    · cases e; cases hx
      exact .same h (by simp [Builtin.cap_, run_underlying hu]; rfl) (.int _ _)
    · cases e
  · cases e

-- ------------------------------------------------------------------ the table
def concT (P : Program) (t : Nat) : Bool := match P.underlying t with | some (.interface _) => false | some _ => true | none => false
def aNil : AV → Option AV
  | .ptr b o => some (.ptr b o)
  | .gp b o => some (.gp b o)
  | .iface t v => some (.iface t v)
  | .func (.func f) a b => some (.func (.func f) a b)
  | _ => none
def retV (σ : AH) : Option AV → Option (AV × AH)
  | some v => some (v, σ)
  | none => none
def un1 (x : Option AV) (f : AV → Option (AV × AH)) : Option (AV × AH) := match x with | some v => f v | none => none
def un2 (x y : Option AV) (f : AV → AV → Option (AV × AH)) : Option (AV × AH) := match x, y with | some v, some u => f v u | _, _ => none
def unk : AV := .tup []

/-- Where a whole-number key lies. -/
def mpFind (k : AV) : List (AV × AV) → Nat → Option (Option Nat)
  | [], _ => some none
  | (y, _) :: r, i => match k, y with
    | .int a x, .int b z => if a = b then (if x = z then some (some i) else mpFind k r (i + 1)) else none
    | _, _ => none
theorem mpFind_ok {q : IntKind} {k : AV} {k' : Value} (hk : VR ρ k k') : ∀ {es : List (AV × AV)} {l : List MapEntry} {i : Nat} {o : Option Nat}, VRs ρ (es.map (·.1)) (l.map (·.key)) → mpFind k es i = some o →
    match o with
    | none => Instr.findNow (.int q) k' l i = some none ∧ ∀ x ∈ l, x.key ≠ k'
    | some j => ∃ v, Instr.findNow (.int q) k' l i = some (some (j, v)) ∧ i ≤ j
  | [], [], i, o, _, e => by cases e; exact ⟨rfl, fun x hx => by cases hx⟩
  | (y, u) :: r, m :: l, i, o, h, e => by
    simp only [List.map_cons] at h
    obtain ⟨h1, h2⟩ : VR ρ y m.key ∧ VRs ρ (r.map (·.1)) (l.map (·.key)) := by cases h with | cons a b => exact ⟨a, b⟩
    unfold mpFind at e
    split at e
    · rename_i a x b z
      split at e
      · rename_i hab
        subst hab
        cases hk
        split at e
        · rename_i hxz
          subst hxz
          cases e
          refine ⟨m.val, ?_, Nat.le_refl _⟩
          unfold Instr.findNow
          cases hm : m.key <;> rw [hm] at h1 <;> cases h1
          simp [Instr.sameNow]
        · rename_i hxz
          have ih := mpFind_ok (q := q) (.int a x) h2 e
          have hs : Instr.findNow (.int q) (.int a x) (m :: l) i = Instr.findNow (.int q) (.int a x) l (i + 1) := by
            conv => lhs; unfold Instr.findNow
            cases hm : m.key <;> rw [hm] at h1 <;> cases h1
            have hq : (x == z) = false := by simp [hxz]
            simp [Instr.sameNow, hq]
          rw [hs]
          cases o with
          | none =>
            refine ⟨ih.1, fun w hw => ?_⟩
            rcases List.mem_cons.1 hw with rfl | hw
            · intro hc
              rw [hc] at h1
              cases h1
              exact hxz rfl
            · exact ih.2 w hw
          | some j =>
            obtain ⟨v, e1, e2⟩ := ih
            exact ⟨v, e1, by omega⟩
      · cases e
    · cases e
  | [], _ :: _, _, _, h, _ => by cases h
  | _ :: _, [], _, _, h, _ => by cases h
def ikT (P : Program) (t : Nat) : Bool := match P.underlying t with
  | some (.map key _) => match P.underlying key with
    | some (.int _) => true
    | _ => false
  | _ => false
/-- A key that was not there is put into a map. -/
def aMapSet (P : Program) (t : Nat) (m k v : AV) (σ : AH) : Option AH := match ikT P t, m with
  | true, .map b => match σ.get b with
    | .mp es => match mpFind k es 0 with
      | some none => some (σ.set b (.mp (es ++ [(k, v)])))
      | _ => none
    | _ => none
  | _, _ => none
def aMapDel (P : Program) (t : Nat) (m k : AV) (σ : AH) : Option AH := match ikT P t, m with
  | true, .map b => match σ.get b with
    | .mp es => match mpFind k es 0 with
      | some none => some (σ.set b (.mp es))
      | some (some j) => some (σ.set b (.mp (es.eraseIdx j)))
      | none => none
    | _ => none
  | _, _ => none
theorem run_checkInt {key : Nat} {q : IntKind} (hk : P.underlying key = some (.int q)) (b : Bool) (k' : Value) (w : World) : (Instr.checkKey b 10000 key k').run P w = .ok () w := by
  show (Instr.checkKey b (9999 + 1) key k').run P w = .ok () w
  unfold Instr.checkKey
  simp only [Sem.run_bind, run_underlying hk, Result.andThen_ok]
  rfl
theorem run_findInt {key : Nat} {q : IntKind} (hk : P.underlying key = some (.int q)) {k' : Value} {l : List MapEntry} {o : Option (Nat × Value)} (h : Instr.findNow (.int q) k' l 0 = some o) (w : World) : (Instr.findKey key k' l).run P w = .ok o w := by
  simp only [Instr.findKey, Sem.run_bind, run_underlying hk, Result.andThen_ok, h, Sem.run_pure]
theorem VRs.eraseIdx {a : List AV} {a' : List Value} (h : VRs ρ a a') : ∀ i : Nat, VRs ρ (a.eraseIdx i) (a'.eraseIdx i) := by
  induction a generalizing a' with
  | nil => intro i; cases h; simp; exact .nil
  | cons x r ih =>
    intro i
    cases h with
    | cons p q =>
      cases i with
      | zero => simpa using q
      | succ i => simp only [List.eraseIdx_cons_succ]; exact .cons p (ih q i)
theorem map_eraseIdx' {α β : Type} (f : α → β) : ∀ (l : List α) (i : Nat), (l.eraseIdx i).map f = (l.map f).eraseIdx i
  | [], _ => by simp
  | _ :: _, 0 => by simp
  | a :: l, i + 1 => by simp [map_eraseIdx' f l i]
theorem step_map {b : Nat} {r : R} {es es' : List (AV × AV)} {ents ents' : Array MapEntry} {clock clock' : Nat} (h : HR ρ σ w) (hr : ρ b = some r) (hb : σ.get b = .mp es) (hw : w.heap[r.blk]? = some (.map ents clock))
    (h1 : VRs ρ (es'.map (·.1)) (ents'.toList.map (·.key))) (h2 : VRs ρ (es'.map (·.2)) (ents'.toList.map (·.val))) (h3 : MapKept.Stamped ents' clock') :
    Step ρ σ w ρ (σ.set b (.mp es')) { w with heap := w.heap.setIfInBounds r.blk (.map ents' clock') } := by
  have hlt := (Array.getElem?_eq_some_iff.1 hw).1
  refine step_set h b (.mp es') r hr (by rw [hb]; rfl) rfl (by simp) rfl rfl rfl ?_ ⟨ents', clock', ?_, h1, h2, h3⟩
  · intro c hc
    simp [Array.getElem?_setIfInBounds, Ne.symm hc]
  · simp [Array.getElem?_setIfInBounds, hlt]
theorem ok_mapSet {t : Nat} {m k v : AV} {m' k' v' : Value} {σ' : AH} (h : HR ρ σ w) (hm : VR ρ m m') (hk : VR ρ k k') (hv : VR ρ v v') (e : aMapSet P t m k v σ = some σ') :
    ∃ w', (Instr.mapUpdate t m' k' v').run P w = .ok () w' ∧ Step ρ σ w ρ σ' w' := by
  unfold aMapSet at e
  split at e
  · rename_i b ht
    split at e
    · rename_i es hb
      split at e
      · rename_i hf
        cases e
        cases hm with
        | map hr =>
          rename_i r
          obtain ⟨ents, clock, hw, hks, hvs, hst⟩ := by have := h.obj _ _ hr; rw [hb] at this; exact this
          unfold ikT at ht
          split at ht
          · rename_i key el hu
            split at ht
            · rename_i q hq
              obtain ⟨f1, f2⟩ := mpFind_ok (q := q) hk hks hf
              refine ⟨_, ?_, step_map h hr hb hw (es' := es ++ [(k, v)]) (ents' := ents.push { key := k', val := v', born := clock }) (clock' := clock + 1) (by simpa using hks.append (.cons hk .nil)) (by simpa using hvs.append (.cons hv .nil)) (MapKept.stamped_push hst f2)⟩
              simp only [Instr.mapUpdate, Sem.run_bind, run_underlying hu, Result.andThen_ok, MapKept.run_getObj_map hw, run_checkInt hq, run_findInt hq f1, MapKept.run_setObj_map _ hw]
            · cases ht
          · cases ht
      · cases e
    · cases e
  · cases e
theorem ok_mapDel {t ty : Nat} {m k : AV} {m' k' : Value} {tk : Nat} {σ' : AH} (h : HR ρ σ w) (hm : VR ρ m m') (hk : VR ρ k k') (e : aMapDel P t m k σ = some σ') :
    Ok P (Builtin.delete_ #[t, tk] ty #[m', k']) ρ σ w (.tup []) σ' := by
  unfold aMapDel at e
  split at e
  · rename_i b ht
    split at e
    · rename_i es hb
      cases hm with
      | map hr =>
        rename_i r
        obtain ⟨ents, clock, hw, hks, hvs, hst⟩ := by have := h.obj _ _ hr; rw [hb] at this; exact this
        unfold ikT at ht
        split at ht
        · rename_i key el hu
          split at ht
          · rename_i q hq
            split at e
            · rename_i hf
              cases e
              obtain ⟨f1, f2⟩ := mpFind_ok (q := q) hk hks hf
              refine ⟨.tuple #[], _, ρ, ?_, .tup .nil, step_map h hr hb hw hks hvs hst⟩
              simp only [Builtin.delete_, List.getElem?_toArray, List.getElem?_cons_zero, List.getElem?_cons_succ, Sem.run_bind, run_underlying hu, Result.andThen_ok, MapKept.run_getObj_map hw, run_checkInt hq, run_findInt hq f1, MapKept.run_setObj_map _ hw, Sem.run_pure]
            · rename_i j hf
              cases e
              obtain ⟨u, f1, _⟩ := mpFind_ok (q := q) hk hks hf
              have hl : (ents.eraseIdxIfInBounds j).toList = ents.toList.eraseIdx j := by simp
              refine ⟨.tuple #[], _, ρ, ?_, .tup .nil, step_map h hr hb hw (es' := es.eraseIdx j) (ents' := ents.eraseIdxIfInBounds j) (clock' := clock) (by rw [hl, map_eraseIdx', map_eraseIdx']; exact hks.eraseIdx j) (by rw [hl, map_eraseIdx', map_eraseIdx']; exact hvs.eraseIdx j) (MapKept.stamped_erase hst j)⟩
              simp only [Builtin.delete_, List.getElem?_toArray, List.getElem?_cons_zero, List.getElem?_cons_succ, Sem.run_bind, run_underlying hu, Result.andThen_ok, MapKept.run_getObj_map hw, run_checkInt hq, run_findInt hq f1, MapKept.run_setObj_map _ hw, Sem.run_pure]
            · cases e
          · cases ht
        · cases ht
    · cases e
  · cases e

def aBuiltin (P : Program) (b : Builtin) (ts : List Nat) (args : List AV) (σ : AH) : Option (AV × AH) :=
  match b with
  | .append => match ts, args with
    | [t, tx], [s, x] => aAppend P t tx s x σ
    | _, _ => none
  | .copy => match ts, args with
    | [t, _], [d, x] => aCopy P t d x σ
    | _, _ => none
  | .len => match ts, args with
    | [t], [x] => retV σ (aLen P t x σ)
    | _, _ => none
  | .max => retV σ (aMinMax true args)
  | .min => retV σ (aMinMax false args)
  | .cap => match ts, args with
    | [t], [x] => retV σ (aCap P t x)
    | _, _ => none
  | .delete => match ts, args with
    | [t, _], [m, k] => match aMapDel P t m k σ with
      | some σ' => some (.tup [], σ')
      | none => none
    | _, _ => none
  | _ => none

/-- A map's element's zero value, and whether it was there. -/
def aMapNo (P : Program) (t : Nat) (ok : Bool) : Option AV := match P.underlying t with
  | some (.map key elem) => match P.underlying key with
    | some (.int _) => match zeroV P elem with
      | some z => some (if ok = true then .tup [z, .bool false] else z)
      | none => none
    | _ => none
  | _ => none
/-- A look into a map that is empty, or not there. -/
def aLookup (P : Program) (t : Nat) (ok : Bool) (m k : AV) (σ : AH) : Option AV := match m with
  | .nilmap => aMapNo P t ok
  | .map b => match σ.get b with
    | .mp [] => aMapNo P t ok
    | _ => none
  | _ => none
theorem ok_mapNo {t : Nat} {ok : Bool} {v : AV} {m' k' : Value} (h : HR ρ σ w) (e : aMapNo P t ok = some v) (hm : m' = .map none ∨ ∃ r c, m' = .map (some r) ∧ w.heap[r]? = some (.map #[] c)) : Ok P (Instr.lookup t m' k' ok) ρ σ w v σ := by
  unfold aMapNo at e
  split at e
  · rename_i key elem hu
    split at e
    · rename_i ik hk
      split at e
      · rename_i z hz
        cases e
        obtain ⟨z', h1, h2⟩ := run_zeroV hz w
        have ck : (Instr.checkKey true 10000 key k').run P w = .ok () w := by
          show (Instr.checkKey true (9999 + 1) key k').run P w = .ok () w
          unfold Instr.checkKey
          simp only [Sem.run_bind, run_underlying hk, Result.andThen_ok]
          rfl
        have fin : VR ρ (if ok = true then .tup [z, .bool false] else z) (if ok = true then .tuple #[z', .bool false] else z') := by
          split
          · exact .tup (.cons (h2 ρ) (.cons (.bool _) .nil))
          · exact h2 ρ
        refine .same h ?_ fin
        have fk : (Instr.findKey key k' []).run P w = .ok none w := by
          simp only [Instr.findKey, Sem.run_bind, run_underlying hk, Result.andThen_ok, Instr.findNow, Sem.run_pure]
        have e1 : (#[] : Array MapEntry).isEmpty = true := rfl
        have e2 : (#[] : Array MapEntry).toList = [] := rfl
        rcases hm with rfl | ⟨r, c, rfl, hr⟩
        · simp only [Instr.lookup, Sem.run_bind, run_underlying hu, Result.andThen_ok, Sem.run_pure, e1, e2, ck, fk, h1]
        · have hgo : (getObj r).run P w = .ok (.map #[] c) w := by simp [getObj, Sem.run, hr]
          simp only [Instr.lookup, Sem.run_bind, run_underlying hu, Result.andThen_ok, Sem.run_pure, hgo, e1, e2, ck, fk, h1]
      · cases e
    · cases e
  · cases e
theorem ok_lookup {t : Nat} {ok : Bool} {m k v : AV} {m' k' : Value} (h : HR ρ σ w) (hm : VR ρ m m') (e : aLookup P t ok m k σ = some v) : Ok P (Instr.lookup t m' k' ok) ρ σ w v σ := by
  unfold aLookup at e
  split at e
  · cases hm
    exact ok_mapNo h e (.inl rfl)
  · split at e
    · rename_i hb
      cases hm with
      | map hr =>
        rename_i r
        have ho := h.obj _ r hr
        rw [hb] at ho
        obtain ⟨ents, clock, a, q, _⟩ := ho
        have he : ents = #[] := by
          have := q.length
          simp at this
          exact Array.eq_empty_of_size_eq_zero this.symm
        subst he
        exact ok_mapNo h e (.inr ⟨r.blk, clock, rfl, a⟩)
    · cases e
  · cases e
theorem ok_makeMap {t : Nat} (h : HR ρ σ w) : Ok P (Instr.makeMap t none) ρ σ w (.map σ.nx) (σ.push (.mp [])) := by
  refine ⟨.map (some w.heap.size), w.alloc (.map #[] 0), ρ.push σ.nx ⟨w.heap.size, 0, 0, 0⟩, ?_, .map (r := ⟨w.heap.size, 0, 0, 0⟩) (Ren.push_same _ _ _), ?_⟩
  · simp [Instr.makeMap]
  · exact step_push h _ _ (.map #[] 0) rfl rfl rfl rfl rfl ⟨#[], 0, heap_alloc_new w _, .nil, .nil, MapKept.stamped_empty 0⟩
def aop (P : Program) (op : Op) (ev : Operand → Option AV) (σ : AH) : Option (AV × AH) :=
  match op with
  | .move x => retV σ (ev x)
  | .assign x => retV σ (ev x)
  | .pick c a b => match ev c with
    | some (.bool t) => if t = true then retV σ (ev a) else retV σ (ev b)
    | _ => none
  | .alloc t => aAlloc P t σ
  | .box t x => un1 (ev x) fun v => some (aBox t v σ)
  | .build t ps => match evp ev ps.toList with
    | some l => retV σ (aBuild P t l)
    | none => none
  | .buildSlice t n ps => match evp ev ps.toList with
    | some l => aBuildSlice P t n l σ
    | none => none
  | .load t x => un1 (ev x) fun v => retV σ (aLoadG P t v σ)
  | .store t x y => un2 (ev x) (ev y) fun v u => match aStore P t v u σ with
    | some σ' => some (unk, σ')
    | none => none
  | .nilCheck x => un1 (ev x) fun v => retV σ (aNil v)
  | .binOp op t x y _ => un2 (ev x) (ev y) fun v u => retV σ (aBin P (isC x || isC y) op t v u)
  | .unOp op _ x => un1 (ev x) fun v => retV σ (aUn op v)
  | .convert s d x => un1 (ev x) fun v => retV σ (aConv P s d v σ)
  | .makeInterface t x => un1 (ev x) fun v => match concT P t with
    | true => some (.iface t v, σ)
    | false => none
  | .makeFunc fn f c => match evs ev f.toList, evs ev c.toList with
    | some a, some b => some (.func fn a b, σ)
    | _, _ => none
  | .makeSlice t l c => un2 (ev l) (ev c) fun v u => aMakeSlice P t v u σ
  | .slice t x lo hi mx => match ev x, evo ev lo, evo ev hi, evo ev mx with
    | some v, some a, some b, some c => retV σ (aSlice P t v a b c σ)
    | _, _, _, _ => none
  | .fieldAddr t x f => un1 (ev x) fun v => retV σ (aFieldAddr P t f v)
  | .field t x f => un1 (ev x) fun v => retV σ (aField P t f v)
  | .indexAddr t x i => un2 (ev x) (ev i) fun v u => retV σ (aIndexAddr P t v u)
  | .index t x i => un2 (ev x) (ev i) fun v u => retV σ (aIndex P t v u)
  | .extract x i => match ev x with
    | some (.tup vs) => retV σ (vs[i]?)
    | _ => none
  | .typeAssert x xT t ok => un1 (ev x) fun v => retV σ (aAssert P t ok v)
  | .makeMap _ r => match r with
    | none => some (.map σ.nx, σ.push (.mp []))
    | some _ => none
  | .lookup t x k ok => un2 (ev x) (ev k) fun v u => retV σ (aLookup P t ok v u σ)
  | .mapUpdate t m k x => match ev m, ev k, ev x with
    | some a, some b, some c => match aMapSet P t a b c σ with
      | some σ' => some (unk, σ')
      | none => none
    | _, _, _ => none
  | .call c => match c.callee with
    | .builtin b => match evs ev c.args.toList with
      | some l => aBuiltin P b c.argTypes.toList l σ
      | none => none
    | _ => none
  | _ => none

/-- What the model's operation gives. -/
def Gives (P : Program) (x : Sem Next) (ρ : Ren) (σ : AH) (w : World) (v : AV) (σ' : AH) : Prop :=
  ∃ v' w' ρ', (x.run P w = .ok (.value v') w' ∨ x.run P w = .ok .skip w' ∧ v' = undef) ∧ VR ρ' v v' ∧ Step ρ σ w ρ' σ' w'
theorem Ok.gives {x : Sem Value} {v : AV} {σ' : AH} (h : Ok P x ρ σ w v σ') : Gives P (do pure (.value (← x))) ρ σ w v σ' := by
  obtain ⟨v', w', ρ', h1, h2, h3⟩ := h
  exact ⟨v', w', ρ', .inl (by simp only [Sem.run_bind, h1, Result.andThen_ok, Sem.run_pure]), h2, h3⟩
theorem Gives.val {v' : Value} {v : AV} (h : HR ρ σ w) (hv : VR ρ v v') : Gives P (pure (.value v')) ρ σ w v σ := ⟨v', w, ρ, .inl rfl, hv, Step.refl h⟩

theorem retV_some {o : Option AV} {v : AV} {σ' : AH} (e : retV σ o = some (v, σ')) : o = some v ∧ σ = σ' := by
  cases o with
  | none => cases e
  | some x => cases e; exact ⟨rfl, rfl⟩
theorem un1_some {x : Option AV} {f : AV → Option (AV × AH)} {r : AV × AH} (e : un1 x f = some r) : ∃ v, x = some v ∧ f v = some r := by
  cases x with
  | none => cases e
  | some v => exact ⟨v, rfl, e⟩
theorem un2_some {x y : Option AV} {f : AV → AV → Option (AV × AH)} {r : AV × AH} (e : un2 x y f = some r) : ∃ v u, x = some v ∧ y = some u ∧ f v u = some r := by
  cases x with
  | none => cases e
  | some v => cases y with
    | none => cases e
    | some u => exact ⟨v, u, rfl, rfl, e⟩

theorem VRs.toArr {l : List AV} {xs : Array Operand} {f : Operand → Value} (h : VRs ρ l (xs.toList.map f)) : ∃ l', xs.map f = ⟨l'⟩ ∧ VRs ρ l l' := ⟨_, by apply Array.ext'; simp, h⟩

theorem aop_ok {o : Oper} {ev : Operand → Option AV} {ev' : Operand → Value} {v : AV} {σ' : AH} (h : HR ρ σ w) (hg : GOK (Wr ρ σ) w) (hev : ∀ x v, ev x = some v → VR ρ v (ev' x))
    (e : aop P o.op ev σ = some (v, σ')) : Gives P (execOp ev' o) ρ σ w v σ' := by
  unfold aop at e
  split at e
  · rename_i x ho
    obtain ⟨h1, rfl⟩ := retV_some e
    simp only [execOp, ho]
    exact .val h (hev x v h1)
  · rename_i x ho
    obtain ⟨h1, rfl⟩ := retV_some e
    simp only [execOp, ho]
    exact .val h (hev x v h1)
  · rename_i c a b ho
    split at e
    · rename_i t hc
      have hc' := hev _ _ hc
      have hq : asBool (ev' c) = (pure t : Sem Bool) := by cases hc2 : ev' c <;> rw [hc2] at hc' <;> cases hc'; rfl
      split at e
      · rename_i ht
        obtain ⟨h1, rfl⟩ := retV_some e
        subst ht
        refine ⟨ev' a, w, ρ, .inl ?_, hev a v h1, Step.refl h⟩
        simp only [execOp, ho, hq, Sem.run_bind, Sem.run_pure, Result.andThen_ok, if_true]
      · rename_i ht
        obtain ⟨h1, rfl⟩ := retV_some e
        have ht : t = false := by cases t <;> simp_all
        subst ht
        refine ⟨ev' b, w, ρ, .inl ?_, hev b v h1, Step.refl h⟩
        simp only [execOp, ho, hq, Sem.run_bind, Sem.run_pure, Result.andThen_ok, Bool.false_eq_true, if_false]
    · cases e
  · rename_i t ho
    simp only [execOp, ho]
    exact (ok_alloc h e _).gives
  · rename_i t x ho
    obtain ⟨u, h1, h2⟩ := un1_some e
    cases h2
    simp only [execOp, ho]
    exact (ok_box h (hev x u h1)).gives
  · rename_i t ps ho
    split at e
    · rename_i l hl
      obtain ⟨h1, rfl⟩ := retV_some e
      have hp := evp_PS hev hl
      have := ok_build h hp h1
      simp only [execOp, ho]
      have ea : (ps.map fun (i, x) => (i, ev' x)) = ⟨ps.toList.map fun (i, x) => (i, ev' x)⟩ := by apply Array.ext'; simp
      rw [ea]
      exact this.gives
    · cases e
  · rename_i t n ps ho
    split at e
    · rename_i l hl
      have hp := evp_PS hev hl
      have := ok_buildSlice h hp e
      simp only [execOp, ho]
      have ea : (ps.map fun (i, x) => (i, ev' x)) = ⟨ps.toList.map fun (i, x) => (i, ev' x)⟩ := by apply Array.ext'; simp
      rw [ea]
      exact this.gives
    · cases e
  · rename_i t x ho
    obtain ⟨u, h1, h2⟩ := un1_some e
    obtain ⟨h3, rfl⟩ := retV_some h2
    simp only [execOp, ho]
    exact (ok_loadG h hg (hev x u h1) h3).gives
  · rename_i t x y ho
    obtain ⟨u, u2, h1, h2, h3⟩ := un2_some e
    split at h3
    · rename_i σ2 hs
      cases h3
      obtain ⟨w', h4, h5⟩ := ok_store h (hev x u h1) (hev y u2 h2) hs
      refine ⟨undef, w', ρ, .inr ⟨?_, rfl⟩, .tup .nil, h5⟩
      simp only [execOp, ho, Sem.run_bind, h4, Result.andThen_ok, Sem.run_pure]
    · cases h3
  · rename_i x ho
    obtain ⟨u, h1, h2⟩ := un1_some e
    obtain ⟨h3, rfl⟩ := retV_some h2
    have hv := hev x u h1
    unfold aNil at h3
    split at h3
    · cases h3
      refine ⟨ev' x, w, ρ, .inl ?_, hv, Step.refl h⟩
      simp only [execOp, ho]
      generalize ev' x = q at hv ⊢
      cases hv
      rfl
    · cases h3
      refine ⟨ev' x, w, ρ, .inl ?_, hv, Step.refl h⟩
      simp only [execOp, ho]
      generalize ev' x = q at hv ⊢
      cases hv
      rfl
    · cases h3
      refine ⟨ev' x, w, ρ, .inl ?_, hv, Step.refl h⟩
      simp only [execOp, ho]
      generalize ev' x = q at hv ⊢
      cases hv
      rfl
    · cases h3
      refine ⟨ev' x, w, ρ, .inl ?_, hv, Step.refl h⟩
      simp only [execOp, ho]
      generalize ev' x = q at hv ⊢
      cases hv
      rfl
    · cases h3
  · rename_i op t x y ty ho
    obtain ⟨u, u2, h1, h2, h3⟩ := un2_some e
    obtain ⟨h4, rfl⟩ := retV_some h3
    simp only [execOp, ho]
    exact (ok_bin h (hev x u h1) (hev y u2 h2) h4).gives
  · rename_i op t x ho
    obtain ⟨u, h1, h2⟩ := un1_some e
    obtain ⟨h3, rfl⟩ := retV_some h2
    simp only [execOp, ho]
    exact (ok_un h (hev x u h1) h3).gives
  · rename_i s d x ho
    obtain ⟨u, h1, h2⟩ := un1_some e
    obtain ⟨h3, rfl⟩ := retV_some h2
    simp only [execOp, ho]
    exact (ok_conv h (hev x u h1) h3).gives
  · rename_i t x ho
    obtain ⟨u, h1, h2⟩ := un1_some e
    split at h2
    · rename_i hc
      cases h2
      refine ⟨.iface t (ev' x), w, ρ, .inl ?_, .iface (hev x u h1), Step.refl h⟩
      unfold concT at hc
      split at hc
      · cases hc
      · rename_i d hd1 hd2
        simp only [execOp, ho, Sem.run_bind, Instr.makeInterface, run_underlying hd2, Result.andThen_ok]
        cases d <;> first | exact absurd rfl (hd1 _) | rfl
      · cases hc
    · cases h2
  · rename_i fn f c ho
    split at e
    · rename_i a b ha hb
      cases e
      obtain ⟨a', ea, va⟩ := (evs_VRs hev ha).toArr
      obtain ⟨b', eb, vb⟩ := (evs_VRs hev hb).toArr
      refine ⟨.func fn ⟨a'⟩ ⟨b'⟩, w, ρ, .inl ?_, .func va vb, Step.refl h⟩
      simp only [execOp, ho, Instr.makeFunc, ea, eb, Sem.run_bind, Sem.run_pure, Result.andThen_ok]
    · cases e
  · rename_i t l c ho
    obtain ⟨u, u2, h1, h2, h3⟩ := un2_some e
    simp only [execOp, ho]
    exact (ok_makeSlice h (hev l u h1) (hev c u2 h2) h3).gives
  · rename_i t x lo hi mx ho
    split at e
    · rename_i u a b c h1 h2 h3 h4
      obtain ⟨h5, rfl⟩ := retV_some e
      simp only [execOp, ho]
      exact (ok_slice h (hev x u h1) (evo_VO hev h2) (evo_VO hev h3) (evo_VO hev h4) h5).gives
    · cases e
  · rename_i t x f ho
    obtain ⟨u, h1, h2⟩ := un1_some e
    obtain ⟨h3, rfl⟩ := retV_some h2
    simp only [execOp, ho]
    exact (ok_fieldAddr h (hev x u h1) h3).gives
  · rename_i t x f ho
    obtain ⟨u, h1, h2⟩ := un1_some e
    obtain ⟨h3, rfl⟩ := retV_some h2
    simp only [execOp, ho]
    exact (ok_field h (hev x u h1) h3).gives
  · rename_i t x i ho
    obtain ⟨u, u2, h1, h2, h3⟩ := un2_some e
    obtain ⟨h4, rfl⟩ := retV_some h3
    simp only [execOp, ho]
    exact (ok_indexAddr h (hev x u h1) (hev i u2 h2) h4).gives
  · rename_i t x i ho
    obtain ⟨u, u2, h1, h2, h3⟩ := un2_some e
    obtain ⟨h4, rfl⟩ := retV_some h3
    simp only [execOp, ho]
    exact (ok_index h (hev x u h1) (hev i u2 h2) h4).gives
  · rename_i x i ho
    split at e
    · rename_i vs hx
      obtain ⟨h1, rfl⟩ := retV_some e
      have hv := hev _ _ hx
      simp only [execOp, ho]
      generalize ev' x = q at hv ⊢
      cases hv with
      | tup hl =>
        obtain ⟨u', h3, h4⟩ := hl.get h1
        refine ⟨u', w, ρ, .inl ?_, h4, Step.refl h⟩
        simp only [Instr.extract, List.getElem?_toArray, h3, Sem.run_bind, Sem.run_pure, Result.andThen_ok]
    · cases e
  · rename_i x xT t ok ho
    obtain ⟨u, h1, h2⟩ := un1_some e
    obtain ⟨h3, rfl⟩ := retV_some h2
    simp only [execOp, ho]
    exact (ok_assert h (hev x u h1) h3).gives
  · rename_i t r ho
    split at e
    · cases e
      simp only [execOp, ho]
      exact (ok_makeMap h).gives
    · cases e
  · rename_i t x k ok ho
    obtain ⟨u, u2, h1, h2, h3⟩ := un2_some e
    obtain ⟨h4, rfl⟩ := retV_some h3
    simp only [execOp, ho]
    exact (ok_lookup h (hev x u h1) h4).gives
  · rename_i t m k x ho
    split at e
    · rename_i a b c ha hb hc
      split at e
      · rename_i σ2 hs
        cases e
        obtain ⟨w', h4, h5⟩ := ok_mapSet h (hev m a ha) (hev k b hb) (hev x c hc) hs
        refine ⟨undef, w', ρ, .inr ⟨?_, rfl⟩, .tup .nil, h5⟩
        simp only [execOp, ho, Sem.run_bind, h4, Result.andThen_ok, Sem.run_pure]
      · cases e
    · cases e
  · rename_i c ho
    split at e
    · rename_i b hb
      split at e
      · rename_i l hl
        obtain ⟨l', el, vl⟩ := (evs_VRs hev hl).toArr
        have hx : ∃ cs, ∀ w : World, (execOp ev' o).run P w = (builtin b c.argTypes o.type cs ⟨l'⟩).run P w := by
          refine ⟨c.args.map fun | .const _ => true | _ => false, fun w => ?_⟩
          simp only [execOp, ho, resolve, hb, Sem.run_bind, Sem.run_pure, Result.andThen_ok, invoke, el]
          rfl
        obtain ⟨cs, hx⟩ := hx
        have tr : ∀ {y : Sem Value}, Ok P y ρ σ w v σ' → (builtin b c.argTypes o.type cs ⟨l'⟩ = do pure (.value (← y))) → Gives P (execOp ev' o) ρ σ w v σ' := by
          intro y hy hq
          obtain ⟨v', w', ρ', h1, h2, h3⟩ := hy.gives
          exact ⟨v', w', ρ', by rw [hx, hq]; exact h1, h2, h3⟩
        unfold aBuiltin at e
        split at e
        · split at e
          · rename_i t tx s x hts
            cases vl with
            | cons v1 t1 => cases t1 with
              | cons v2 t2 => cases t2
                              have ets : c.argTypes = #[t, tx] := by apply Array.ext'; simpa using hts
                              exact tr (ok_append (ty := o.type) h v1 v2 e) (by rw [ets]; rfl)
          · cases e
        · split at e
          · rename_i t tx s x hts
            cases vl with
            | cons v1 t1 => cases t1 with
              | cons v2 t2 => cases t2
                              have ets : c.argTypes = #[t, tx] := by apply Array.ext'; simpa using hts
                              exact tr (ok_copy (ty := o.type) h v1 v2 e) (by rw [ets]; rfl)
          · cases e
        · split at e
          · rename_i t x hts
            obtain ⟨h1, rfl⟩ := retV_some e
            cases vl with
            | cons v1 t1 => cases t1
                            have ets : c.argTypes = #[t] := by apply Array.ext'; simpa using hts
                            exact tr (ok_len (ty := o.type) h v1 h1) (by rw [ets]; rfl)
          · cases e
        · obtain ⟨h1, rfl⟩ := retV_some e
          exact tr (ok_max (ts := c.argTypes) (ty := o.type) h vl h1) rfl
        · obtain ⟨h1, rfl⟩ := retV_some e
          exact tr (ok_min (ts := c.argTypes) (ty := o.type) h vl h1) rfl
        · split at e
          · rename_i t x hts
            obtain ⟨h1, rfl⟩ := retV_some e
            cases vl with
            | cons v1 t1 => cases t1
                            have ets : c.argTypes = #[t] := by apply Array.ext'; simpa using hts
                            exact tr (ok_cap (ty := o.type) h v1 h1) (by rw [ets]; rfl)
          · cases e
        · split at e
          · rename_i t tk m k hts
            split at e
            · rename_i σ2 hs
              cases e
              cases vl with
              | cons v1 t1 => cases t1 with
                | cons v2 t2 => cases t2
                                have ets : c.argTypes = #[t, tk] := by apply Array.ext'; simpa using hts
                                exact tr (ok_mapDel (ty := o.type) h v1 v2 hs) (by rw [ets]; rfl)
            · cases e
          · cases e
        · cases e
      · cases e
    · cases e
  · cases e

end Go.Proofs.Yteneafgmcmgahaa.V
