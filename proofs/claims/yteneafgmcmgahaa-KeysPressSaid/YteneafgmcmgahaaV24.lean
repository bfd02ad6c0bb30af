/- Own library, part 24: states under other names; loops by a family of states; laws over memory that is only read. -/
import Derived.Test.YteneafgmcmgahaaV23
namespace Go.Proofs.Yteneafgmcmgahaa.V
open Go
set_option linter.unusedSimpArgs false
set_option linter.unusedVariables false

variable {P : Program}

-- ------------------------------------------------------------------ values under other names
mutual
def AV.ren (g : Nat → Option Nat) : AV → Option AV
  | .ptr b o => match g b with
    | some c => some (.ptr c o)
    | none => none
  | .slice b o n k => match g b with
    | some c => some (.slice c o n k)
    | none => none
  | .map b => match g b with
    | some c => some (.map c)
    | none => none
  | .func fn f c => match renL g f, renL g c with
    | some x, some y => some (.func fn x y)
    | _, _ => none
  | .iface t v => match AV.ren g v with
    | some u => some (.iface t u)
    | none => none
  | .agg cs => match renL g cs with
    | some x => some (.agg x)
    | none => none
  | .tup vs => match renL g vs with
    | some x => some (.tup x)
    | none => none
  | .bool b => some (.bool b)
  | .int k n => some (.int k n)
  | .str s => some (.str s)
  | .nilptr => some .nilptr
  | .gp a b => some (.gp a b)
  | .nilslice => some .nilslice
  | .nilmap => some .nilmap
  | .nilFunc => some .nilFunc
  | .nilIface => some .nilIface
def renL (g : Nat → Option Nat) : List AV → Option (List AV)
  | [] => some []
  | v :: r => match AV.ren g v, renL g r with
    | some x, some l => some (x :: l)
    | _, _ => none
end
section
variable {ρ ρ' : Ren} {g : Nat → Option Nat}
mutual
theorem VR.ren (hg : ∀ b c r, g b = some c → ρ b = some r → ρ' c = some r) : ∀ {v : AV} {v' : Value} {u : AV}, VR ρ v v' → v.ren g = some u → VR ρ' u v'
  | _, _, _, .bool b, e => by simp only [AV.ren, Option.some.injEq] at e; subst e; exact .bool b
  | _, _, _, .int k n, e => by simp only [AV.ren, Option.some.injEq] at e; subst e; exact .int k n
  | _, _, _, .str s, e => by simp only [AV.ren, Option.some.injEq] at e; subst e; exact .str s
  | _, _, _, .ptr h, e => by
    simp only [AV.ren] at e
    split at e
    · rename_i c hc; cases e; exact .ptr (hg _ _ _ hc h)
    · cases e
  | _, _, _, .nilptr, e => by simp only [AV.ren, Option.some.injEq] at e; subst e; exact .nilptr
  | _, _, _, .gp a b, e => by simp only [AV.ren, Option.some.injEq] at e; subst e; exact .gp a b
  | _, _, _, .slice h, e => by
    simp only [AV.ren] at e
    split at e
    · rename_i c hc; cases e; exact .slice (hg _ _ _ hc h)
    · cases e
  | _, _, _, .slicee, e => by
    simp only [AV.ren] at e
    split at e
    · cases e; exact .slicee
    · cases e
  | _, _, _, .sliceo h a b c d, e => by
    simp only [AV.ren] at e
    split at e
    · rename_i k hc; cases e; exact .sliceo (hg _ _ _ hc h) a b c d
    · cases e
  | _, _, _, .nilslice, e => by simp only [AV.ren, Option.some.injEq] at e; subst e; exact .nilslice
  | _, _, _, .map h, e => by
    simp only [AV.ren] at e
    split at e
    · rename_i c hc; cases e; exact .map (hg _ _ _ hc h)
    · cases e
  | _, _, _, .nilmap, e => by simp only [AV.ren, Option.some.injEq] at e; subst e; exact .nilmap
  | _, _, _, .func a b, e => by
    simp only [AV.ren] at e
    split at e
    · rename_i x y h1 h2; cases e; exact .func (VRs.ren hg a h1) (VRs.ren hg b h2)
    · cases e
  | _, _, _, .nilFunc, e => by simp only [AV.ren, Option.some.injEq] at e; subst e; exact .nilFunc
  | _, _, _, .iface a, e => by
    simp only [AV.ren] at e
    split at e
    · rename_i x h1; cases e; exact .iface (VR.ren hg a h1)
    · cases e
  | _, _, _, .nilIface, e => by simp only [AV.ren, Option.some.injEq] at e; subst e; exact .nilIface
  | _, _, _, .agg a, e => by
    simp only [AV.ren] at e
    split at e
    · rename_i x h1; cases e; exact .agg (VRs.ren hg a h1)
    · cases e
  | _, _, _, .tup a, e => by
    simp only [AV.ren] at e
    split at e
    · rename_i x h1; cases e; exact .tup (VRs.ren hg a h1)
    · cases e
theorem VRs.ren (hg : ∀ b c r, g b = some c → ρ b = some r → ρ' c = some r) : ∀ {l : List AV} {l' : List Value} {u : List AV}, VRs ρ l l' → renL g l = some u → VRs ρ' u l'
  | _, _, _, .nil, e => by simp only [renL, Option.some.injEq] at e; subst e; exact .nil
  | _, _, _, .cons a b, e => by
    simp only [renL] at e
    split at e
    · rename_i x y h1 h2; cases e; exact .cons (VR.ren hg a h1) (VRs.ren hg b h2)
    · cases e
end
end
def CsRen (g : Nat → Option Nat) (cs cs' : List AV) : Prop := renL g cs = some cs' ∨ (pfs cs = true ∧ cs' = cs)
def ObjRen (g : Nat → Option Nat) : AObj → AObj → Prop
  | .cells e cs, .cells e' cs' => e = e' ∧ CsRen g cs cs'
  | .opn e z cs, .opn e' z' cs' => e = e' ∧ z = z' ∧ CsRen g cs cs'
  | .ro cs, .ro cs' => CsRen g cs cs'
  | _, .dead => True
  | _, _ => False
theorem OR.ren {ρ ρ' : Ren} {g : Nat → Option Nat} (hg : ∀ b c r, g b = some c → ρ b = some r → ρ' c = some r) {w : World} {r : R} {o o' : AObj} (h : OR ρ w r o) (e : ObjRen g o o') : OR ρ' w r o' := by
  have cs : ∀ {l l' : List AV} {v : List Value}, VRs ρ l v → CsRen g l l' → VRs ρ' l' v := by
    intro l l' v hv hc
    rcases hc with hc | ⟨hp, rfl⟩
    · exact VRs.ren hg hv hc
    · exact hv.pf hp
  cases o' with
  | dead => trivial
  | cells e' cs' =>
    cases o <;> first | exact e.elim | skip
    obtain ⟨rfl, hc⟩ := e
    obtain ⟨a, l, b, c⟩ := h
    exact ⟨a, l, b, cs c hc⟩
  | opn e' z' cs' =>
    cases o <;> first | exact e.elim | skip
    obtain ⟨rfl, rfl, hc⟩ := e
    obtain ⟨a, a2, a3, l, m, b, c, d⟩ := h
    exact ⟨a, a2, a3, l, m, b, cs c hc, d⟩
  | ro cs' =>
    cases o <;> first | exact e.elim | skip
    obtain ⟨p, l, m, e2, fr, b, c, d⟩ := h
    exact ⟨p, l, m, e2, fr, b, c, cs d e⟩
  | mp es => cases o <;> exact e.elim
theorem ObjRen.live {g : Nat → Option Nat} {o o' : AObj} (e : ObjRen g o o') (h : o'.live = true) : o.live = true := by
  cases o <;> cases o' <;> first | rfl | (cases h; done) | exact e.elim
theorem ObjRen.wr {g : Nat → Option Nat} {o o' : AObj} (e : ObjRen g o o') (h : o'.wr = true) : o.wr = true := by
  cases o <;> cases o' <;> first | rfl | (cases h; done) | exact e.elim
def lookN : List (Nat × Nat) → Nat → Option Nat
  | [], _ => none
  | (b, c) :: r, x => if Nat.beq b x = true then some c else lookN r x
theorem lookN_mem {l : List (Nat × Nat)} {b c : Nat} (h : lookN l b = some c) : (b, c) ∈ l := by
  induction l with
  | nil => cases h
  | cons p r ih =>
    obtain ⟨x, y⟩ := p
    unfold lookN at h
    split at h
    · rename_i hx
      cases h
      rw [Nat.eq_of_beq_eq_true hx]; simp
    · exact List.mem_cons_of_mem _ (ih h)
def frRen (g : Nat → Option Nat) (l : List (Nat × AV)) : List (Nat × AV) → Prop
  | [] => True
  | (t, u) :: r => (match lookF l t with
    | some v => v.ren g = some u
    | none => False) ∧ frRen g l r
theorem frRen_look {g : Nat → Option Nat} {l : List (Nat × AV)} : ∀ {l' : List (Nat × AV)}, frRen g l l' → ∀ t u, lookF l' t = some u → ∃ v, lookF l t = some v ∧ v.ren g = some u
  | [], _, t, u, h => by cases h
  | (x, y) :: r, hf, t, u, h => by
    obtain ⟨h1, h2⟩ := hf
    unfold lookF at h
    split at h
    · rename_i hx
      cases h
      subst hx
      split at h1
      · rename_i v hv; exact ⟨v, hv, h1⟩
      · exact h1.elim
    · exact frRen_look h2 t u h
def noDup : List Nat → Bool
  | [] => true
  | x :: r => !memN x r && noDup r
def fitsB (n0 n1 : Nat) (gs : List (Nat × Nat)) : Bool :=
  noDup (gs.map (·.1)) && noDup (gs.map (·.2)) && gs.all (fun p => Nat.blt p.2 n1) && (List.range n0).all (fun b => match lookN gs b with | some c => Nat.beq b c | none => false) && Nat.ble n0 n1
def objsRen (gs : List (Nat × Nat)) (σ σ' : AH) : List (Nat × Nat) → Prop
  | [] => True
  | p :: r => ObjRen (lookN gs) (σ.get p.1) (σ'.get p.2) ∧ objsRen gs σ σ' r
/-- A state is another one's, under other names, with less told. -/
def Fits (n0 : Nat) (gs : List (Nat × Nat)) (fr : AF) (σ : AH) (fr' : AF) (σ' : AH) : Prop :=
  fitsB n0 σ'.nx gs = true ∧ objsRen gs σ σ' gs ∧ fr'.n = fr.n ∧ frRen (lookN gs) fr.l fr'.l
theorem noDup_inj : ∀ {gs : List (Nat × Nat)}, noDup (gs.map (·.2)) = true → ∀ {b b' c}, (b, c) ∈ gs → (b', c) ∈ gs → b = b'
  | [], _, b, b', c, h, _ => by cases h
  | p :: r, hn, b, b', c, h1, h2 => by
    simp only [List.map_cons, noDup, Bool.and_eq_true, Bool.not_eq_true'] at hn
    have hno := memN_not.1 hn.1
    rcases List.mem_cons.1 h1 with e1 | e1 <;> rcases List.mem_cons.1 h2 with e2 | e2
    · rw [← e1] at e2; cases e2; rfl
    · exact absurd (List.mem_map.2 ⟨_, e2, by rw [← e1]⟩) hno
    · exact absurd (List.mem_map.2 ⟨_, e1, by rw [← e2]⟩) hno
    · exact noDup_inj hn.2 e1 e2
theorem objsRen_mem {gs : List (Nat × Nat)} {σ σ' : AH} : ∀ {l : List (Nat × Nat)}, objsRen gs σ σ' l → ∀ p ∈ l, ObjRen (lookN gs) (σ.get p.1) (σ'.get p.2)
  | [], _, p, h => by cases h
  | q :: r, ⟨h1, h2⟩, p, h => by
    rcases List.mem_cons.1 h with rfl | h
    · exact h1
    · exact objsRen_mem h2 p h
theorem Fits.refines {n0 : Nat} {gs : List (Nat × Nat)} {fr fr' : AF} {σ σ' : AH} (h : Fits n0 gs fr σ fr' σ') : ∀ E : Ent, E.n0 = n0 → Refines E fr σ fr' σ' := by
  intro E hE a w hs
  obtain ⟨h1, h2, h3, h4⟩ := h
  obtain ⟨ρ, hr, hsince, hfr⟩ := hs
  subst hE
  simp only [fitsB, Bool.and_eq_true, List.all_eq_true, List.mem_range] at h1
  obtain ⟨⟨⟨⟨d1, d2⟩, d3⟩, d4⟩, d5⟩ := h1
  have inj : ∀ {b b' c}, lookN gs b = some c → lookN gs b' = some c → b = b' := fun x y => noDup_inj d2 (lookN_mem x) (lookN_mem y)
  let ρ' : Ren := fun c => (gs.find? fun p => Nat.beq p.2 c && (lookN gs p.1 == some c)).bind fun p => ρ p.1
  have key : ∀ b c, lookN gs b = some c → ρ' c = ρ b := by
    intro b c hbc
    simp only [ρ']
    cases hf : gs.find? fun p => Nat.beq p.2 c && (lookN gs p.1 == some c) with
    | none =>
      rw [List.find?_eq_none] at hf
      have := hf (b, c) (lookN_mem hbc)
      simp [hbc] at this
    | some p =>
      have := List.find?_some hf
      simp only [Bool.and_eq_true, beq_iff_eq] at this
      simp only [Option.bind_some]
      rw [inj this.2 hbc]
  have back : ∀ c r, ρ' c = some r → ∃ b, lookN gs b = some c ∧ ρ b = some r := by
    intro c r hc
    simp only [ρ'] at hc
    cases hf : gs.find? fun p => Nat.beq p.2 c && (lookN gs p.1 == some c) with
    | none => rw [hf] at hc; cases hc
    | some p =>
      rw [hf] at hc
      have := List.find?_some hf
      simp only [Bool.and_eq_true, beq_iff_eq] at this
      exact ⟨p.1, this.2, hc⟩
  have hg : ∀ b c r, lookN gs b = some c → ρ b = some r → ρ' c = some r := fun b c r h1 h2 => by rw [key b c h1]; exact h2
  refine ⟨ρ', ⟨?_, ?_, ?_, ?_⟩, ⟨?_, ?_, hsince.os, hsince.tape, hsince.output, hsince.size, hsince.frame, ?_⟩, ⟨hfr.size.trans h3.symm, ?_, hfr.defers⟩⟩
  · intro c r hc
    obtain ⟨b, hb, _⟩ := back c r hc
    exact blt_iff.1 (d3 _ (lookN_mem hb))
  · intro c r hc
    obtain ⟨b, hb, hr'⟩ := back c r hc
    exact hr.lt b r hr'
  · intro c r hc
    obtain ⟨b, hb, hr'⟩ := back c r hc
    exact (hr.obj b r hr').ren hg (objsRen_mem h2 _ (lookN_mem hb))
  · intro c c' r r' hne hc hc' hw hl
    obtain ⟨b, hb, hr1⟩ := back c r hc
    obtain ⟨b', hb', hr2⟩ := back c' r' hc'
    refine hr.inj b b' r r' (fun e => hne ?_) hr1 hr2 ((objsRen_mem h2 _ (lookN_mem hb)).wr hw) ((objsRen_mem h2 _ (lookN_mem hb')).live hl)
    subst e
    rw [hb] at hb'
    exact Option.some.inj hb'
  · intro b hb
    have := d4 b hb
    split at this
    · rename_i c hc
      have e := Nat.eq_of_beq_eq_true this
      subst e
      rw [key b b hc]
      exact hsince.keep b hb
    · cases this
  · rw [Nat.ble_eq] at d5; exact d5
  · rintro c ⟨x, r, hx, hw, rfl⟩
    obtain ⟨b, hb, hr'⟩ := back x r hx
    exact hsince.wr _ ⟨b, r, hr', (objsRen_mem h2 _ (lookN_mem hb)).wr hw, rfl⟩
  · intro t u hu
    obtain ⟨v, hv, hren⟩ := frRen_look h4 t u hu
    obtain ⟨v', h5, h6⟩ := hfr.tmps t v hv
    exact ⟨v', h5, VR.ren hg h6 hren⟩

/-- What is to be shown on the way (a mark for the tool that prints). -/
def need (p : Prop) : Prop := p
/-- A function of plain values, where a condition holds. -/
def pureG (F : List AV → Option (Bool × AV)) : Tr1 := fun xs σ s K => match F xs with
  | some (c, v) => allT [c] s (fun s => K v σ s)
  | none => False
theorem pureG_ok {f : Nat} {F : List AV → Option (Bool × AV)} (h : ∀ as v, F as = some (true, v) → pfs as = true ∧ v.pf = true ∧ SC P f as h0 (fun u _ => u = v)) : TrOk P f (pureG F) := by
  intro xs σ s K hk
  unfold pureG at hk
  split at hk
  · rename_i c v hv
    obtain ⟨h1, s', h2⟩ := allT_ok hk
    have hc := allB_one h1
    subst hc
    obtain ⟨a, b, c⟩ := h xs v hv
    refine (SC.any a b c σ).mono ?_
    rintro u τ ⟨rfl, rfl⟩
    exact ⟨s', h2⟩
  · exact hk.elim
-- ------------------------------------------------------------------ loops
/-- Told less at the exits. -/
theorem WL.less {n0 : Nat} {b : Code} {Q Q' : Exit → AF → AH → Prop} {fr : AF} {σ : AH} (h : WL P n0 b Q fr σ) (hq : ∀ e fr σ, Q e fr σ → ∃ fr' σ', (∀ E : Ent, E.n0 = n0 → Refines E fr σ fr' σ') ∧ Q' e fr' σ') : WL P n0 b Q' fr σ := by
  intro E a w hE hs k1 k2 cs
  obtain ⟨e, a', w', ⟨fr', σ', q, s⟩, harr⟩ := h E a w hE hs k1 k2 cs
  obtain ⟨fr2, σ2, hr, hq2⟩ := hq e fr' σ' q
  exact ⟨e, a', w', ⟨fr2, σ2, hq2, hr E hE a' w' s⟩, harr⟩
/-- A loop by a family of states: each round leads to one of lesser measure, or out. -/
theorem WL_fam {n0 : Nat} {b : Code} {Q : Exit → AF → AH → Prop} {ι : Type} (T : ι → AF × AH) (μ : ι → Nat)
    (round : ∀ i, WP P n0 b (roundQ Q (fun fr σ => ∃ j gs, μ j < μ i ∧ Fits n0 gs fr σ (T j).1 (T j).2)) (T i).1 (T i).2) (i : ι) : WL P n0 b Q (T i).1 (T i).2 := by
  refine WL_loop T μ ?_ i
  intro i ih
  refine WL_round ((round i).mono ?_)
  intro e fr σ q
  cases e with
  | normal =>
    obtain ⟨j, gs, hj, hf⟩ := q
    exact ih j hj fr σ hf.refines
  | _ => exact q
/-- A round is walked by what must hold. -/
def rndP (N : AF → AH → Prop) (Q : Exit → AF → AH → Prop) : QP
  | .normal, fr, σ, _ => N fr σ
  | e, fr, σ, _ => Q e fr σ
theorem round_of {X : Cx} (hX : CxOk X) {sy : List Nat} {n0 b : Nat} {c : Code} {N : AF → AH → Prop} {Q : Exit → AF → AH → Prop} {fr : AF} {σ : AH} {s : Plan} (hd : (drawsAll c).all (fun ops => okS ops.toList) = true) (hl : X.lps = lookL [])
    {A : Prop} (e : wpP X sy n0 c b (rndP N Q) fr σ s = A) (h : A) : WP X.P n0 c (roundQ Q N) fr σ := by
  rw [List.all_eq_true] at hd
  refine (wpP_sound hX c b hd (fun p _ L hL => by rw [hl] at hL; cases hL) _ _ _ _ (e.mpr h)).mono ?_
  rintro e fr σ ⟨s, q⟩
  cases e <;> exact q
/-- A round's end, by some slots alone. -/
abbrev NS := Nat → List (Option AV) → AH → Prop
abbrev QS := Exit → Nat → List (Option AV) → AH → Prop
def lookAll (l : List (Nat × AV)) : List Nat → List (Option AV)
  | [] => []
  | t :: r => lookF l t :: lookAll l r
def rndS (sl : List Nat) (N : NS) (Q : QS) : QP
  | .normal, fr, σ, _ => N fr.n (lookAll fr.l sl) σ
  | e, fr, σ, _ => Q e fr.n (lookAll fr.l sl) σ
def lookS : List Nat → List (Option AV) → Nat → Option AV
  | t :: r, v :: l, x => if Nat.beq t x = true then v else lookS r l x
  | _, _, _ => none
theorem lookS_all {l : List (Nat × AV)} {x : Nat} {v : AV} : ∀ {sl : List Nat}, lookS sl (lookAll l sl) x = some v → lookF l x = some v
  | [], h => by cases h
  | t :: r, h => by
    simp only [lookAll, lookS] at h
    split at h
    · rename_i ht
      rw [← Nat.eq_of_beq_eq_true ht]; exact h
    · exact lookS_all h
def frRenS (g : Nat → Option Nat) (sl : List Nat) (vs : List (Option AV)) : List (Nat × AV) → Prop
  | [] => True
  | (t, u) :: r => (match lookS sl vs t with
    | some v => v.ren g = some u
    | none => False) ∧ frRenS g sl vs r
/-- The same, by some slots alone. -/
def FitsS (n0 : Nat) (gs : List (Nat × Nat)) (sl : List Nat) (n : Nat) (vs : List (Option AV)) (σ : AH) (fr' : AF) (σ' : AH) : Prop :=
  fitsB n0 σ'.nx gs = true ∧ objsRen gs σ σ' gs ∧ fr'.n = n ∧ frRenS (lookN gs) sl vs fr'.l
theorem frRenS_ok {g : Nat → Option Nat} {l : List (Nat × AV)} {sl : List Nat} : ∀ {l' : List (Nat × AV)}, frRenS g sl (lookAll l sl) l' → frRen g l l'
  | [], _ => trivial
  | (t, u) :: r, ⟨h1, h2⟩ => by
    refine ⟨?_, frRenS_ok h2⟩
    split at h1
    · rename_i v hv
      rw [lookS_all hv]
      exact h1
    · exact h1.elim
theorem FitsS.fits {n0 : Nat} {gs : List (Nat × Nat)} {sl : List Nat} {fr fr' : AF} {σ σ' : AH} (h : FitsS n0 gs sl fr.n (lookAll fr.l sl) σ fr' σ') : Fits n0 gs fr σ fr' σ' :=
  ⟨h.1, h.2.1, h.2.2.1, frRenS_ok h.2.2.2⟩
/-- A loop by a family of states, each round walked by what must hold; at the exits what is told fits what is wanted. -/
theorem loop_fam {X : Cx} (hX : CxOk X) {sy : List Nat} {n0 b : Nat} {c : Code} (hd : (drawsAll c).all (fun ops => okS ops.toList) = true) (hl : X.lps = lookL []) (sl : List Nat) {ι : Type} (T : ι → AF × AH) (μ : ι → Nat) (Q' : Exit → AF → AH → Prop)
    (pl : ι → Plan) (A : ι → NS → QS → Prop) (e : ∀ i N Q, wpP X sy n0 c b (rndS sl N Q) (T i).1 (T i).2 (pl i) = A i N Q)
    (h : ∀ i, A i (fun n vs σ => ∃ j gs, μ j < μ i ∧ FitsS n0 gs sl n vs σ (T j).1 (T j).2) (fun e n vs σ => ∃ gs fr' σ', FitsS n0 gs sl n vs σ fr' σ' ∧ Q' e fr' σ')) (i : ι) : WL X.P n0 c Q' (T i).1 (T i).2 := by
  rw [List.all_eq_true] at hd
  have key : WL X.P n0 c (fun e fr σ => ∃ gs fr' σ', Fits n0 gs fr σ fr' σ' ∧ Q' e fr' σ') (T i).1 (T i).2 := by
    refine WL_fam T μ ?_ i
    intro i
    refine (wpP_sound hX c b hd (fun p _ L hL => by rw [hl] at hL; cases hL) _ _ _ _ ((e i _ _).mpr (h i))).mono ?_
    rintro e fr σ ⟨s, q⟩
    have other : (∃ gs fr' σ', FitsS n0 gs sl fr.n (lookAll fr.l sl) σ fr' σ' ∧ Q' e fr' σ') → ∃ gs fr' σ', Fits n0 gs fr σ fr' σ' ∧ Q' e fr' σ' := by
      rintro ⟨gs, fr', σ', h1, h2⟩
      exact ⟨gs, fr', σ', h1.fits, h2⟩
    cases e with
    | normal =>
      obtain ⟨j, gs, h1, h2⟩ := q
      exact ⟨j, gs, h1, h2.fits⟩
    | _ => exact other q
  refine key.less ?_
  rintro e fr σ ⟨gs, fr', σ', h1, h2⟩
  exact ⟨fr', σ', h1.refines, h2⟩
def loopAt (P : Program) (f k : Nat) : Code := ((loopsOf (bodyOf P f) 0).getD k (0, .skip)).2

-- ------------------------------------------------------------------ laws over memory that is only read
theorem law_ro {f : Nat} {args : List AV} {args' : List Value} {ρ : Ren} {σ : AH} {w : World} (hr : HR ρ σ w) (hro : ∀ b, (σ.get b).wr = false) (ha : VRs ρ args args') (h : SC P f args σ (fun u _ => u = .bool true)) (hg : GOK (fun _ => False) w := by simp [GOK, GB]) :
    Calls P f ⟨args'⟩ w (fun e w' => e = .returned (.bool true) ∧ RowKit.Below w.heap.size w w') := by
  refine Calls.mono (h _ args' w ha hr (fun p hp => ⟨fun ⟨b, r, h1, h2, _⟩ => (by rw [hro] at h2; cases h2), (hg p hp).2⟩)) ?_
  rintro e w' ⟨u, v', ρ', σ', rfl, rfl, hvr, hr', hs⟩
  have old : ∀ c, c < w.heap.size → w'.heap[c]? = w.heap[c]? := fun c hc => hs.frame c hc (by rintro ⟨b, r, h1, h2, _⟩; rw [hro] at h2; cases h2)
  cases hvr
  exact ⟨rfl, hs.os, hs.tape, hs.output, hs.size, old⟩
/-- Blocks that are only read, by what they hold. -/
def roH : Nat → List (List AV) → List (Nat × AObj)
  | _, [] => []
  | i, cs :: r => (i, .ro cs) :: roH (i + 1) r
def roS (l : List (List AV)) : AH := ⟨l.length, roH 0 l⟩
theorem roH_get {l : List (List AV)} : ∀ {i b : Nat}, lookH (roH i l) b = if i ≤ b then (match l[b - i]? with | some cs => .ro cs | none => .dead) else .dead := by
  induction l with
  | nil => intro i b; simp [roH, lookH]
  | cons cs r ih =>
    intro i b
    simp only [roH, lookH]
    by_cases e : i = b
    · subst e; simp
    · rw [if_neg e, ih]
      by_cases h : i ≤ b
      · rw [if_pos h, if_pos (by omega), show b - i = (b - (i + 1)) + 1 by omega, List.getElem?_cons_succ]
      · rw [if_neg h, if_neg (by omega)]
theorem roS_get {l : List (List AV)} {b : Nat} : (roS l).get b = match l[b]? with | some cs => .ro cs | none => .dead := by
  unfold AH.get roS
  rw [roH_get]
  simp
theorem roS_wr {l : List (List AV)} (b : Nat) : ((roS l).get b).wr = false := by
  rw [roS_get]
  cases l[b]? <;> rfl
/-- A row in the world that holds these cells from a place on. -/
def Holds (w : World) (r : R) (cs : List AV) : Prop := r.blk < w.heap.size ∧ ∃ pre l more e fr, w.heap[r.blk]? = some (.cells ⟨pre ++ l ++ more⟩ e fr) ∧ pre.length = r.sh ∧ VRs (fun _ => none) cs l
theorem VRs.none_mono {ρ : Ren} {cs : List AV} {l : List Value} (h : VRs (fun _ => none) cs l) : VRs ρ cs l := h.mono (fun b r hb => by cases hb)
theorem HR.ros {w : World} {l : List (List AV)} {rs : List R} (hlen : rs.length = l.length) (h : ∀ (i : Nat) (r : R) (cs : List AV), rs[i]? = some r → l[i]? = some cs → Holds w r cs) : HR (fun i => rs[i]?) (roS l) w := by
  have key : ∀ (b : Nat) (r : R), rs[b]? = some r → ∃ cs, l[b]? = some cs := fun b r hb => by
    have := (List.getElem?_eq_some_iff.1 hb).1
    exact ⟨l[b]'(by omega), by simp [List.getElem?_eq_getElem (show b < l.length by omega)]⟩
  refine ⟨?_, ?_, ?_, ?_⟩
  · intro b r hb
    have := (List.getElem?_eq_some_iff.1 hb).1
    show b < l.length
    omega
  · intro b r hb
    obtain ⟨cs, hc⟩ := key b r hb
    exact (h b r cs hb hc).1
  · intro b r hb
    obtain ⟨cs, hc⟩ := key b r hb
    obtain ⟨_, pre, l', more, e, fr, h1, h2, h3⟩ := h b r cs hb hc
    rw [roS_get, hc]
    exact ⟨pre, l', more, e, fr, h1, h2, h3.none_mono⟩
  · intro b b' r r' hne hb hb' hw hl
    rw [roS_wr] at hw; cases hw
end Go.Proofs.Yteneafgmcmgahaa.V
