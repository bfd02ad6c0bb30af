/- Own library, part 11: regions that draw their order go as the text says. -/
import Derived.Test.YteneafgmcmgahaaV9
namespace Go.Proofs.Yteneafgmcmgahaa.V
open Go
set_option linter.unusedSimpArgs false
set_option linter.unusedVariables false

variable {P : Program}

-- ------------------------------------------------------------------ an operation asks its operands alone
theorem evs_congr {ev ev2 : Operand → Option AV} : ∀ (l : List Operand), (∀ x ∈ l, ev x = ev2 x) → evs ev l = evs ev2 l
  | [], _ => rfl
  | x :: r, h => by simp only [evs]; rw [h x (by simp), evs_congr r (fun y hy => h y (by simp [hy]))]
theorem evp_congr {ev ev2 : Operand → Option AV} : ∀ (l : List (Nat × Operand)), (∀ x ∈ l, ev x.2 = ev2 x.2) → evp ev l = evp ev2 l
  | [], _ => rfl
  | (i, x) :: r, h => by simp only [evp]; rw [h (i, x) (by simp), evp_congr r (fun y hy => h y (by simp [hy]))]
theorem evo_congr {ev ev2 : Operand → Option AV} (l : Option Operand) (h : ∀ x, l = some x → ev x = ev2 x) : evo ev l = evo ev2 l := by
  cases l with
  | none => rfl
  | some x => simp only [evo]; rw [h x rfl]
theorem aop_congr {op : Op} {ev ev2 : Operand → Option AV} {σ : AH} (h : ∀ x ∈ op.operands, ev x = ev2 x) : aop P op ev σ = aop P op ev2 σ := by
  cases op <;> simp only [aop, Op.operands] at h ⊢
  all_goals first
    | rfl
    | (rw [h _ (by simp)]; done)
    | (rw [h _ (by simp), h _ (by simp)]; done)
    | (rw [h _ (by simp), h _ (by simp), h _ (by simp)]; done)
    | skip
  · rename_i t ps
    rw [evp_congr ps.toList (fun x hx => h x.2 (by simp; exact ⟨x.1, by simpa using hx⟩))]
  · rename_i t n ps
    rw [evp_congr ps.toList (fun x hx => h x.2 (by simp; exact ⟨x.1, by simpa using hx⟩))]
  · rename_i fn a b
    rw [evs_congr a.toList (fun x hx => h x (by simp at hx ⊢; exact .inl hx)), evs_congr b.toList (fun x hx => h x (by simp at hx ⊢; exact .inr hx))]
  · rename_i t x lo hi mx
    rw [h x (by simp), evo_congr lo (fun y hy => h y (by subst hy; simp)), evo_congr hi (fun y hy => h y (by subst hy; simp)), evo_congr mx (fun y hy => h y (by subst hy; simp))]
  · rename_i c
    cases hc : c.callee <;> simp only
    rename_i b
    rw [evs_congr c.args.toList (fun x hx => h x (by simp [Call.operands, hc]; simpa using hx))]
theorem calleeA_congr {c : Call} {ev ev2 : Operand → Option AV} {σ : AH} (h : ∀ x ∈ c.operands, ev x = ev2 x) : calleeA P c ev σ = calleeA P c ev2 σ := by
  unfold calleeA
  cases hc : c.callee <;> simp only
  · rename_i f
    rw [h f (by simp [Call.operands, hc]), evs_congr c.args.toList (fun x hx => h x (by simp [Call.operands, hc]; right; simpa using hx))]
  · rename_i r name
    rw [h r (by simp [Call.operands, hc]), evs_congr c.args.toList (fun x hx => h x (by simp [Call.operands, hc]; right; simpa using hx))]

-- ------------------------------------------------------------------ one step, as a function
def opF (P : Program) (orc : Orc) (o : Oper) (ev : Operand → Option AV) (σ : AH) : Option (AV × AH) :=
  match callOf o.op with
  | some c => match calleeA P c ev σ with
    | some (g, as) => match orc g with
      | some f => f as σ
      | none => none
    | none => none
  | none => aop P o.op ev σ
def stepF (P : Program) (orc : Orc) (all : List Oper) (o : Oper) (fr : AF) (σ : AH) : Option (AV × AH) :=
  match wantA all fr o.guard with
  | some true => opF P orc o fr.ev σ
  | some false => some (unk, σ)
  | none => none

/-- The run in the text's order: what each operation gives, and the heap behind it. -/
inductive Run (P : Program) (orc : Orc) (all : List Oper) : List Oper → AF → AH → List (AV × AH) → AF → AH → Prop
  | nil {fr σ} : Run P orc all [] fr σ [] fr σ
  | cons {o r fr σ v σ1 tr fr' σ'} (h : stepF P orc all o fr σ = some (v, σ1)) (t : Run P orc all r (fr.put o.dst v) σ1 tr fr' σ') : Run P orc all (o :: r) fr σ ((v, σ1) :: tr) fr' σ'

theorem opsD_run {orc : Orc} {all : List Oper} {K : AF → AH → Prop} : ∀ (l : List Oper) (fr : AF) (σ : AH), opsD P orc all l K fr σ → ∃ tr fr' σ', Run P orc all l fr σ tr fr' σ' ∧ K fr' σ' := by
  intro l
  induction l with
  | nil => intro fr σ h; exact ⟨[], fr, σ, .nil, h⟩
  | cons o r ih =>
    intro fr σ h
    simp only [opsD] at h
    cases hw : wantA all fr o.guard with
    | none => rw [hw] at h; exact h.elim
    | some t =>
      rw [hw] at h
      cases t with
      | false =>
        simp only [guardA, Bool.false_eq_true, if_false] at h
        obtain ⟨tr, fr', σ', h1, h2⟩ := ih _ _ h
        exact ⟨(unk, σ) :: tr, fr', σ', .cons (by simp [stepF, hw]) h1, h2⟩
      | true =>
        simp only [guardA, if_true] at h
        unfold opD at h
        have key : ∃ v σ1, opF P orc o fr.ev σ = some (v, σ1) ∧ opsD P orc all r K (fr.put o.dst v) σ1 := by
          unfold opF
          cases hc : callOf o.op with
          | some c =>
            rw [hc] at h
            simp only at h
            cases hcal : calleeA P c fr.ev σ with
            | none => rw [hcal] at h; exact h.elim
            | some q =>
              obtain ⟨g, as⟩ := q
              rw [hcal] at h
              simp only [callD] at h
              cases hf : orc g with
              | none => rw [hf] at h; exact h.elim
              | some f =>
                rw [hf] at h
                simp only at h
                cases hq : f as σ with
                | none => rw [hq] at h; exact h.elim
                | some q => obtain ⟨v, σ1⟩ := q; rw [hq] at h; exact ⟨v, σ1, by simp [hcal, hq, hf], h⟩
          | none =>
            rw [hc] at h
            simp only at h
            cases hq : aop P o.op fr.ev σ with
            | none => rw [hq] at h; exact h.elim
            | some q => obtain ⟨v, σ1⟩ := q; rw [hq] at h; exact ⟨v, σ1, rfl, h⟩
        obtain ⟨v, σ1, h1, h2⟩ := key
        obtain ⟨tr, fr', σ', h3, h4⟩ := ih _ _ h2
        exact ⟨(v, σ1) :: tr, fr', σ', .cons (by simp [stepF, hw, h1]) h3, h4⟩

/-- What concerns an operation: its slots. -/
def opT : Operand → Option Nat
  | .tmp t => some t
  | _ => none
def readsT (all : List Oper) (o : Oper) : List Nat :=
  (o.op.operands.toList.filterMap opT) ++ (match o.guard with
    | some (j, _) => match all[j]? with
      | some p => p.dst.toList
      | none => []
    | none => [])

/-- An operation run at any time, where its operands are there, gives what the text's order gives. -/
theorem step_sound {orc : Orc} (horc : OrcOk P orc) {all : List Oper} {o : Oper} {fr : AF} {σ σ1 : AH} {v : AV} (h : stepF P orc all o fr σ = some (v, σ1))
    {ρ : Ren} {a : Act} {w : World} (hr : HR ρ σ w) (hg : GOK (Wr ρ σ) w) (ht : ∀ t ∈ readsT all o, ∀ u, lookF fr.l t = some u → ∃ u', a.tmps[t]? = some u' ∧ VR ρ u u')
    {Q : Exit → Act → World → Prop} (next : Act → World → Prop)
    (hn : ∀ v' ρ' w', VR ρ' v v' → Step ρ σ w ρ' σ1 w' → next (a.put o.dst v') w') :
    if Region.wanted o (yielded ⟨all⟩ a.tmps) then o.wp P a w next Q else next (a.put o.dst undef) w := by
  unfold stepF at h
  cases hw : wantA all fr o.guard with
  | none => rw [hw] at h; cases h
  | some t =>
    rw [hw] at h
    have hwant : Region.wanted o (yielded ⟨all⟩ a.tmps) = t := by
      unfold Region.wanted
      cases hg : o.guard with
      | none => rw [hg] at hw; simp only [wantA, Option.some.injEq] at hw; subst hw; rfl
      | some jw =>
        obtain ⟨j, want⟩ := jw
        rw [hg] at hw
        simp only [wantA] at hw
        split at hw
        · rename_i oj hj
          split at hw
          · rename_i d hd
            have hmem : d ∈ readsT all o := by simp [readsT, hg, hj, hd]
            split at hw
            · rename_i b hb
              obtain ⟨v', h1, h2⟩ := ht d hmem _ hb
              cases h2; cases hw
              simp only [yielded, List.getElem?_toArray, hj, Option.bind_some, hd, h1]
              cases want <;> cases b <;> rfl
            · rename_i vs hb
              obtain ⟨v', h1, h2⟩ := ht d hmem _ hb
              cases h2; cases hw
              simp only [yielded, List.getElem?_toArray, hj, Option.bind_some, hd, h1]
              cases want <;> rfl
            · cases hw
          · cases hw
        · cases hw
    rw [hwant]
    cases t with
    | false =>
      simp only [Option.some.injEq, Prod.mk.injEq] at h
      obtain ⟨rfl, rfl⟩ := h
      simp only [Bool.false_eq_true, if_false]
      exact hn undef ρ w (.tup .nil) (Step.refl hr)
    | true =>
      simp only [if_true]
      simp only at h
      -- the operands alone
      let ev2 : Operand → Option AV := fun x => match x with
        | .tmp t => if t ∈ readsT all o then lookF fr.l t else none
        | y => fr.ev y
      have hmem : ∀ x ∈ o.op.operands, fr.ev x = ev2 x := by
        intro x hx
        cases x with
        | tmp t =>
          have : t ∈ readsT all o := by
            simp only [readsT, List.mem_append, List.mem_filterMap]
            exact .inl ⟨.tmp t, by simpa using hx, rfl⟩
          simp only [ev2, this, if_true]; rfl
        | _ => rfl
      have hev : ∀ x u, ev2 x = some u → VR ρ u (a.eval x) := by
        intro x u hu
        cases x with
        | tmp t =>
          simp only [ev2] at hu
          split at hu
          · rename_i htm
            obtain ⟨u', h1, h2⟩ := ht t htm u hu
            simp only [Act.eval, Array.getD_eq_getD_getElem?, h1, Option.getD_some]
            exact h2
          · cases hu
        | const c => exact ofVal_VR hu ρ
        | func f => cases hu; exact .func .nil .nil
        | global g => cases hu; exact .gp g 0
      unfold opF at h
      cases hc : callOf o.op with
      | none =>
        rw [hc] at h
        simp only at h
        rw [aop_congr hmem] at h
        obtain ⟨v', w', ρ', h1, h2, h3⟩ := aop_ok (o := o) hr hg hev h
        unfold Oper.wp
        rcases h1 with h1 | ⟨h1, rfl⟩
        · rw [h1, Oper.upon_value]; exact hn v' ρ' w' h2 h3
        · rw [h1, Oper.upon_skip]; exact hn undef ρ' w' h2 h3
      | some c =>
        rw [hc] at h
        simp only at h
        have hoc : o.op = .call c := by
          unfold callOf at hc
          split at hc
          · rename_i c' ho
            split at hc
            · cases hc
            · cases hc; exact ho
          · cases hc
        have hop : ∀ x ∈ c.operands, fr.ev x = ev2 x := fun x hx => hmem x (by rw [hoc]; exact hx)
        rw [calleeA_congr hop] at h
        cases hcal : calleeA P c ev2 σ with
        | none => rw [hcal] at h; cases h
        | some q =>
          obtain ⟨g, as⟩ := q
          rw [hcal] at h
          simp only at h
          cases hf : orc g with
          | none => rw [hf] at h; cases h
          | some f =>
            rw [hf] at h
            simp only at h
            obtain ⟨as', hrun, hv⟩ := calleeA_run hoc hev hr hcal
            unfold Oper.wp
            rw [hrun, Oper.upon_enter]
            refine Calls.mono (horc g f hf as σ v σ1 h ρ as' w hv hr hg) ?_
            rintro e w' ⟨u, v', ρ', σ', rfl, ⟨rfl, rfl⟩, hvr, hr', hs'⟩
            have hkeep : Sub ρ ρ' := fun b r hb => by rw [hs'.keep b (hr.dom b r hb)]; exact hb
            exact hn v' ρ' w' hvr ⟨hkeep, hr', hs'⟩

-- ------------------------------------------------------------------ what a value is under fewer names
mutual
theorem VR.restrict {ρ ρ' : Ren} (s : Sub ρ ρ') : ∀ {v : AV} {x y : Value}, VR ρ v x → VR ρ' v y → VR ρ v y
  | _, _, _, .bool b, h => by cases h; exact .bool _
  | _, _, _, .int k n, h => by cases h; exact .int _ _
  | _, _, _, .str z, h => by cases h; exact .str _
  | _, _, _, .ptr h1, h => by cases h with | ptr h2 => rw [s _ _ h1] at h2; cases h2; exact .ptr h1
  | _, _, _, .nilptr, h => by cases h; exact .nilptr
  | _, _, _, .gp a b, h => by cases h; exact .gp a b
  | _, _, _, .slice h1, h => by cases h with | slice h2 => rw [s _ _ h1] at h2; cases h2; exact .slice h1
  | _, _, _, .slicee, h => by
    cases h with
    | slicee => exact .slicee
    | sliceo _ _ _ hn _ => omega
  | _, _, _, .sliceo h1 a b c d, h => by
    cases h with
    | slicee => omega
    | sliceo h2 a2 b2 c2 d2 => rw [s _ _ h1] at h2; cases h2; exact .sliceo h1 a2 b2 c2 d2
  | _, _, _, .nilslice, h => by cases h; exact .nilslice
  | _, _, _, .map h1, h => by cases h with | map h2 => rw [s _ _ h1] at h2; cases h2; exact .map h1
  | _, _, _, .nilmap, h => by cases h; exact .nilmap
  | _, _, _, .func a b, h => by cases h with | func c d => exact .func (VRs.restrict s a c) (VRs.restrict s b d)
  | _, _, _, .nilFunc, h => by cases h; exact .nilFunc
  | _, _, _, .iface a, h => by cases h with | iface b => exact .iface (VR.restrict s a b)
  | _, _, _, .nilIface, h => by cases h; exact .nilIface
  | _, _, _, .agg a, h => by cases h with | agg b => exact .agg (VRs.restrict s a b)
  | _, _, _, .tup a, h => by cases h with | tup b => exact .tup (VRs.restrict s a b)
theorem VRs.restrict {ρ ρ' : Ren} (s : Sub ρ ρ') : ∀ {l : List AV} {x y : List Value}, VRs ρ l x → VRs ρ' l y → VRs ρ l y
  | _, _, _, .nil, h => by cases h; exact .nil
  | _, _, _, .cons a b, h => by cases h with | cons c d => exact .cons (VR.restrict s a c) (VRs.restrict s b d)
end
theorem OR.restrict {ρ ρ' : Ren} (s : Sub ρ ρ') {w w' : World} {r : R} {o : AObj} (h : OR ρ w r o) (k : OR ρ' w' r o) : OR ρ w' r o := by
  cases o with
  | cells e cs => obtain ⟨_, l, _, c⟩ := h; obtain ⟨a, l', b, c'⟩ := k; exact ⟨a, l', b, VRs.restrict s c c'⟩
  | opn e z cs => obtain ⟨_, _, _, l, m, _, c, _⟩ := h; obtain ⟨a, a2, a3, l', m', b, c', d⟩ := k; exact ⟨a, a2, a3, l', m', b, VRs.restrict s c c', d⟩
  | ro cs => obtain ⟨_, l, _, _, _, _, _, d⟩ := h; obtain ⟨p, l', m, e, fr, b, c, d'⟩ := k; exact ⟨p, l', m, e, fr, b, c, VRs.restrict s d d'⟩
  | mp es => obtain ⟨_, _, _, a, b, _⟩ := h; obtain ⟨x, c, d, a', b', st⟩ := k; exact ⟨x, c, d, VRs.restrict s a a', VRs.restrict s b b', st⟩
  | dead => trivial

end Go.Proofs.Yteneafgmcmgahaa.V
