/- Own library, part 16: a program run on known values, by reckoning. -/
import Derived.Test.YteneafgmcmgahaaV13
import Derived.Test.YteneafgmcmgahaaV15
namespace Go.Proofs.Yteneafgmcmgahaa.V
open Go
set_option linter.unusedSimpArgs false
set_option linter.unusedVariables false

variable {P : Program}
abbrev Fun := Nat → List AV → AH → Option (AV × AH)
def eOp (P : Program) (orc : Orc) (F : Fun) (o : Oper) (fr : AF) (σ : AH) : Option (AF × AH) :=
  match callOf o.op with
  | some c => match calleeA P c fr.ev σ with
    | some (g, xs) => match orc g with
      | some q => match q xs σ with
        | some (v, τ) => some (fr.put o.dst v, τ)
        | none => none
      | none => match F g xs σ with
        | some (v, τ) => some (fr.put o.dst v, τ)
        | none => none
    | none => none
  | none => match aop P o.op fr.ev σ with
    | some (v, τ) => some (fr.put o.dst v, τ)
    | none => none
def eOps (P : Program) (orc : Orc) (F : Fun) (all : List Oper) : List Oper → AF → AH → Option (AF × AH)
  | [], fr, σ => some (fr, σ)
  | o :: r, fr, σ => match wantA all fr o.guard with
    | some true => match eOp P orc F o fr σ with
      | some (fr', σ') => eOps P orc F all r fr' σ'
      | none => none
    | some false => eOps P orc F all r (fr.put o.dst unk) σ
    | none => none
def tidyL : List (Nat × AV) → List (Nat × AV)
  | [] => []
  | p :: r => p :: (tidyL r).filter (fun q => !Nat.beq q.1 p.1)
def AF.tidy (fr : AF) : AF := ⟨fr.n, tidyL fr.l⟩
def eLoop (body : AF → AH → Option (Exit × AF × AH)) : Nat → AF → AH → Option (Exit × AF × AH)
  | 0, _, _ => none
  | k + 1, fr, σ => match body fr σ with
    | some (.normal, fr', σ') => eLoop body k fr'.tidy σ'
    | some (e, fr', σ') => some (e, fr', σ')
    | none => none
def eC (P : Program) (orc : Orc) (F : Fun) (k : Nat) : Code → AF → AH → Option (Exit × AF × AH)
  | .skip, fr, σ => some (.normal, fr, σ)
  | .region _ ops d, fr, σ => match eOps P orc (if d = true then (fun _ _ _ => none) else F) ops.toList ops.toList fr σ with
    | some (fr', σ') => some (.normal, fr', σ')
    | none => none
  | .seq a b, fr, σ => match eC P orc F k a fr σ with
    | some (.normal, fr', σ') => eC P orc F k b fr' σ'
    | some (e, fr', σ') => some (e, fr', σ')
    | none => none
  | .cond c a b, fr, σ => match fr.ev c with
    | some (.bool true) => eC P orc F k a fr σ
    | some (.bool false) => eC P orc F k b fr σ
    | _ => none
  | .block id b, fr, σ => match eC P orc F k b fr σ with
    | some (.exit i, fr', σ') => if i = id then some (.normal, fr', σ') else some (.exit i, fr', σ')
    | some (e, fr', σ') => some (e, fr', σ')
    | none => none
  | .exit id, fr, σ => some (.exit id, fr, σ)
  | .ret, fr, σ => some (.ret, fr, σ)
  | .loop b, fr, σ => eLoop (eC P orc F k b) k fr σ
  | _, _, _ => none
def eF (P : Program) (orc : Orc) (ok : List Nat) : Nat → Fun
  | 0, _, _, _ => none
  | n + 1, f, args, σ => if ok.contains f = true then match P.funcs[f]? with
    | some fn => match fn.body with
      | some c => if args.length ≤ fn.ntmps then match eC P orc (eF P orc ok n) n c (AF.enter fn.ntmps args) σ with
          | some (.ret, fr, τ) => match resultsA P fr τ fn.results.toList with
            | some v => some (pack v, τ)
            | none => none
          | some (.normal, fr, τ) => match resultsA P fr τ fn.results.toList with
            | some v => some (pack v, τ)
            | none => none
          | _ => none
        else none
      | none => none
    | none => none
    else none

-- ------------------------------------------------------------------ sound
def FunOk (P : Program) (F : Fun) : Prop := ∀ g xs σ v τ, F g xs σ = some (v, τ) → SC P g xs σ (fun u τ' => u = v ∧ τ' = τ)
theorem eOp_sound {orc : Orc} {F : Fun} (hF : FunOk P F) {o : Oper} {fr : AF} {σ : AH} {r : AF × AH} (e : eOp P orc F o fr σ = some r) {K : AF → AH → Prop} (h : K r.1 r.2) : opA P orc o fr σ K := by
  unfold eOp at e
  unfold opA
  split at e
  · rename_i c hc
    rw [hc]
    split at e
    · rename_i g xs hg
      simp only [hg, callA]
      split at e
      · rename_i q hq
        rw [hq]
        split at e
        · rename_i v τ hv
          cases e
          simp only [hv, resA]
          exact h
        · cases e
      · rename_i hq
        rw [hq]
        split at e
        · rename_i v τ hv
          cases e
          exact (hF _ _ _ _ _ hv).mono (by rintro u τ' ⟨rfl, rfl⟩; exact h)
        · cases e
    · cases e
  · rename_i hc
    rw [hc]
    split at e
    · rename_i v τ hv
      cases e
      simp only [hv, resA]
      exact h
    · cases e
theorem eOpD_sound {orc : Orc} {o : Oper} {fr : AF} {σ : AH} {r : AF × AH} (e : eOp P orc (fun _ _ _ => none) o fr σ = some r) {K : AF → AH → Prop} (h : K r.1 r.2) : opD P orc o fr σ K := by
  unfold eOp at e
  unfold opD
  split at e
  · rename_i c hc
    rw [hc]
    split at e
    · rename_i g xs hg
      simp only [hg, callD]
      split at e
      · rename_i q hq
        rw [hq]
        split at e
        · rename_i v τ hv
          cases e
          simp only [hv, resA]
          exact h
        · cases e
      · cases e
    · cases e
  · rename_i hc
    rw [hc]
    split at e
    · rename_i v τ hv
      cases e
      simp only [hv, resA]
      exact h
    · cases e
theorem eOps_sound {orc : Orc} {F : Fun} (hF : FunOk P F) {all : List Oper} {K : AF → AH → Prop} : ∀ {ops : List Oper} {fr : AF} {σ : AH} {r : AF × AH}, eOps P orc F all ops fr σ = some r → K r.1 r.2 → opsA P orc all ops K fr σ
  | [], fr, σ, r, e, h => by cases e; exact h
  | o :: l, fr, σ, r, e, h => by
    unfold eOps at e
    unfold opsA
    split at e
    · rename_i hw
      simp only [hw, guardA, if_true]
      split at e
      · rename_i fr' σ' he
        exact eOp_sound hF he (eOps_sound hF e h)
      · cases e
    · rename_i hw
      simp only [hw, guardA]
      rw [if_neg (by simp)]
      exact eOps_sound hF e h
    · cases e
theorem eOpsD_sound {orc : Orc} {all : List Oper} {K : AF → AH → Prop} : ∀ {ops : List Oper} {fr : AF} {σ : AH} {r : AF × AH}, eOps P orc (fun _ _ _ => none) all ops fr σ = some r → K r.1 r.2 → opsD P orc all ops K fr σ
  | [], fr, σ, r, e, h => by cases e; exact h
  | o :: l, fr, σ, r, e, h => by
    unfold eOps at e
    unfold opsD
    split at e
    · rename_i hw
      simp only [hw, guardA, if_true]
      split at e
      · rename_i fr' σ' he
        exact eOpD_sound he (eOpsD_sound e h)
      · cases e
    · rename_i hw
      simp only [hw, guardA]
      rw [if_neg (by simp)]
      exact eOpsD_sound e h
    · cases e
def drawsAll : Code → List (Array Oper)
  | .region _ ops true => [ops]
  | .seq a b => drawsAll a ++ drawsAll b
  | .cond _ a b => drawsAll a ++ drawsAll b
  | .block _ b => drawsAll b
  | .loop b => drawsAll b
  | .scope b => drawsAll b
  | _ => []
theorem draws_sub : ∀ {c : Code} {ops : Array Oper}, ops ∈ drawsIn c → ops ∈ drawsAll c := by
  intro c
  induction c with
  | region i o d => intro ops h; cases d <;> simp_all [drawsIn, drawsAll]
  | seq a b iha ihb => intro ops h; simp only [drawsIn, drawsAll, List.mem_append] at h ⊢; exact h.imp iha ihb
  | cond c a b iha ihb => intro ops h; simp only [drawsIn, drawsAll, List.mem_append] at h ⊢; exact h.imp iha ihb
  | block i b ih => intro ops h; simp only [drawsIn, drawsAll] at h ⊢; exact ih h
  | scope b ih => intro ops h; simp only [drawsIn, drawsAll] at h ⊢; exact ih h
  | _ => intro ops h; simp [drawsIn] at h
theorem tidy_look : ∀ {l : List (Nat × AV)}, ∀ p ∈ tidyL l, lookF l p.1 = some p.2
  | [], p, h => by simp [tidyL] at h
  | q :: r, p, h => by
    unfold tidyL at h
    rw [List.mem_cons] at h
    rcases h with rfl | h
    · simp [lookF]
    · rw [List.mem_filter] at h
      have h1 := tidy_look p h.1
      have h2 : ¬ q.1 = p.1 := by
        intro e
        have := h.2
        simp [e] at this
      simp [lookF, h2, h1]
theorem eLoop_sound {orc : Orc} (g : OrcOk P orc) {n0 : Nat} {b : Code} {body : AF → AH → Option (Exit × AF × AH)} {Q : Exit → AF → AH → Prop} (hd : ∀ ops ∈ drawsIn b, DrawOk P orc ops)
    (hb : ∀ (Q : Exit → AF → AH → Prop) (K : AF → AH → Prop) fr σ e fr' σ', body fr σ = some (e, fr', σ') → comb Q K e fr' σ' → wpA P orc n0 b Q K fr σ) :
    ∀ (k : Nat) {fr : AF} {σ : AH} {e : Exit} {fr' : AF} {σ' : AH}, eLoop body k fr σ = some (e, fr', σ') → Q e fr' σ' → WL P n0 b Q fr σ
  | 0, _, _, _, _, _, h, _ => by cases h
  | k + 1, fr, σ, e, fr', σ', h, q => by
    unfold eLoop at h
    split at h
    · rename_i fr1 σ1 h1
      refine wl_walk g hd (hb _ _ _ _ _ _ _ h1 ?_)
      have := eLoop_sound g hd hb k h q
      exact this.refine fun E _ => Refines.sub rfl tidy_look
    · rename_i e1 fr1 σ1 hne h1
      cases h
      refine wl_walk g hd (hb _ _ _ _ _ _ _ h1 ?_)
      cases e <;> first | exact q | exact (hne rfl).elim
    · cases h
theorem eC_sound {orc : Orc} (g : OrcOk P orc) {F : Fun} (hF : FunOk P F) {n0 k : Nat} : ∀ (c : Code), (∀ ops ∈ drawsAll c, DrawOk P orc ops) → ∀ (Q : Exit → AF → AH → Prop) (K : AF → AH → Prop) (fr : AF) (σ : AH) (e : Exit) (fr' : AF) (σ' : AH),
    eC P orc F k c fr σ = some (e, fr', σ') → comb Q K e fr' σ' → wpA P orc n0 c Q K fr σ := by
  intro c
  induction c with
  | skip => intro hd Q K fr σ e fr' σ' h q; simp only [eC, Option.some.injEq, Prod.mk.injEq] at h; obtain ⟨rfl, rfl, rfl⟩ := h; exact q
  | region i ops d =>
    intro hd Q K fr σ e fr' σ' h q
    simp only [eC] at h
    split at h
    · rename_i f1 s1 h1
      simp only [Option.some.injEq, Prod.mk.injEq] at h
      obtain ⟨rfl, rfl, rfl⟩ := h
      cases d
      · simp only [wpA]
        rw [if_neg (by simp)]
        exact eOps_sound hF h1 q
      · simp only [wpA, if_true]
        exact eOpsD_sound h1 q
    · cases h
  | seq a b iha ihb =>
    intro hd Q K fr σ e fr' σ' h q
    simp only [drawsAll, List.mem_append] at hd
    simp only [eC] at h
    simp only [wpA]
    split at h
    · rename_i f1 s1 h1
      exact iha (fun o ho => hd o (.inl ho)) _ _ _ _ _ _ _ h1 (ihb (fun o ho => hd o (.inr ho)) _ _ _ _ _ _ _ h q)
    · rename_i e1 f1 s1 hne h1
      cases h
      refine iha (fun o ho => hd o (.inl ho)) _ _ _ _ _ _ _ h1 ?_
      cases e <;> first | exact q | exact (hne rfl).elim
    · cases h
  | cond c a b iha ihb =>
    intro hd Q K fr σ e fr' σ' h q
    simp only [drawsAll, List.mem_append] at hd
    simp only [eC] at h
    simp only [wpA]
    split at h
    · rename_i h1
      simp only [h1, condA, if_true]
      exact iha (fun o ho => hd o (.inl ho)) _ _ _ _ _ _ _ h q
    · rename_i h1
      simp only [h1, condA]
      rw [if_neg (by simp)]
      exact ihb (fun o ho => hd o (.inr ho)) _ _ _ _ _ _ _ h q
    · cases h
  | block i b ih =>
    intro hd Q K fr σ e fr' σ' h q
    simp only [drawsAll] at hd
    simp only [eC] at h
    simp only [wpA]
    split at h
    · rename_i j f1 s1 h1
      refine ih hd _ _ _ _ _ _ _ h1 ?_
      split at h
      · rename_i hj
        cases h
        simp only [comb, blkQ, hj, if_true]
        exact q
      · rename_i hj
        cases h
        simp only [comb, blkQ, hj, if_false]
        exact q
    · rename_i e1 f1 s1 hne h1
      cases h
      refine ih hd _ _ _ _ _ _ _ h1 ?_
      cases e <;> first | exact q | exact (hne _ rfl).elim
    · cases h
  | exit i => intro hd Q K fr σ e fr' σ' h q; simp only [eC, Option.some.injEq, Prod.mk.injEq] at h; obtain ⟨rfl, rfl, rfl⟩ := h; exact q
  | ret => intro hd Q K fr σ e fr' σ' h q; simp only [eC, Option.some.injEq, Prod.mk.injEq] at h; obtain ⟨rfl, rfl, rfl⟩ := h; exact q
  | loop b ih =>
    intro hd Q K fr σ e fr' σ' h q
    simp only [drawsAll] at hd
    simp only [eC] at h
    simp only [wpA]
    exact eLoop_sound g (fun o ho => hd o (draws_sub ho)) (ih hd) k h q
  | _ => intro hd Q K fr σ e fr' σ' h q; simp [eC] at h
def okFuns (P : Program) (ok : List Nat) : Bool := ok.all fun f => match P.funcs[f]? with
  | some fn => match fn.body with
    | some c => (drawsAll c).all fun ops => decide (kOf ops.toList ≤ ops.toList.length) && drawOk (kOf ops.toList) ops.toList
    | none => true
  | none => true
theorem eF_sound {orc : Orc} (g : Good P orc) {ok : List Nat} (hok : okFuns P ok = true) : ∀ n, FunOk P (eF P orc ok n)
  | 0, _, _, _, _, _, h => by cases h
  | n + 1, f, args, σ, v, τ, h => by
    unfold eF at h
    split at h
    · rename_i hf
      split at h
      · rename_i fn hfn
        split at h
        · rename_i c hc
          split at h
          · rename_i hl
            have hd : ∀ ops ∈ drawsAll c, DrawOk P orc ops := by
              intro ops ho
              unfold okFuns at hok
              rw [List.all_eq_true] at hok
              have h1 := hok f (by simpa using hf)
              simp only [hfn, hc] at h1
              rw [List.all_eq_true] at h1
              have h2 := h1 ops ho
              simp only [Bool.and_eq_true, decide_eq_true_eq] at h2
              exact draw_sound g.ok g.quiet g.mix (kOf ops.toList) h2.1 h2.2
            refine SC_body hfn hc hl (wp_walk g.ok (fun o ho => hd o (draws_sub ho)) ?_)
            split at h
            · rename_i fr τ' h1
              split at h
              · rename_i u hu
                cases h
                refine eC_sound g.ok (eF_sound g hok n) c hd _ _ _ _ _ _ _ h1 ?_
                simp [comb, retQ, hu, retR]
              · cases h
            · rename_i fr τ' h1
              split at h
              · rename_i u hu
                cases h
                refine eC_sound g.ok (eF_sound g hok n) c hd _ _ _ _ _ _ _ h1 ?_
                simp [comb, retQ, hu, retR]
              · cases h
            · cases h
          · cases h
        · cases h
      · cases h
    · cases h
/-- What a run on known values answers, looked at by reckoning. -/
def answers (v : AV) : Option (AV × AH) → Bool
  | some (.bool b, _) => match v with
    | .bool c => b == c
    | _ => false
  | _ => false
theorem run_true {orc : Orc} (g : Good P orc) {ok : List Nat} (hok : okFuns P ok = true) {n f : Nat} {args : List AV} {σ : AH} (h : answers (.bool true) (eF P orc ok n f args σ) = true) : SC P f args σ (fun u _ => u = .bool true) := by
  cases hr : eF P orc ok n f args σ with
  | none => rw [hr] at h; simp [answers] at h
  | some r =>
    obtain ⟨v, τ⟩ := r
    refine (eF_sound g hok n f args σ v τ hr).mono ?_
    rintro u τ' ⟨rfl, rfl⟩
    rw [hr] at h
    unfold answers at h
    split at h
    · rename_i b τ'' e
      cases e
      simpa using h
    · cases h
end Go.Proofs.Yteneafgmcmgahaa.V
