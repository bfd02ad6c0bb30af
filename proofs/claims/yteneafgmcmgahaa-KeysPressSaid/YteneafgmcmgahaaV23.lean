/- Own library, part 23: code over unknown values: the walk. -/
import Derived.Test.YteneafgmcmgahaaV22
namespace Go.Proofs.Yteneafgmcmgahaa.V
open Go
set_option linter.unusedSimpArgs false
set_option linter.unusedVariables false

variable {P : Program}

abbrev KP := AF → AH → Plan → Prop
abbrev QP := Exit → AF → AH → Plan → Prop
/-- What is known of a function, of a loop: what must hold ahead for what is wanted behind. -/
abbrev Tr1 := List AV → AH → Plan → (AV → AH → Plan → Prop) → Prop
abbrev Trs := Nat → Option Tr1
abbrev LTr := Nat → AF → AH → Plan → QP → Prop
def TrOk (P : Program) (g : Nat) (T : Tr1) : Prop := ∀ xs σ s K, T xs σ s K → SC P g xs σ (fun v σ' => ∃ s, K v σ' s)
def TrsOk (P : Program) (trs : Trs) : Prop := ∀ g T, trs g = some T → TrOk P g T
def LOk (P : Program) (b : Code) (L : LTr) : Prop := ∀ n0 fr σ s Q, L n0 fr σ s Q → WL P n0 b (fun e fr σ => ∃ s, Q e fr σ s) fr σ

-- ------------------------------------------------------------------ regions
def isPick : Op → Option (Operand × Operand × Operand)
  | .pick c x y => some (c, x, y)
  | _ => none
theorem isPick_ok {op : Op} {c x y : Operand} (h : isPick op = some (c, x, y)) : op = .pick c x y := by
  unfold isPick at h
  split at h
  · cases h; rfl
  · cases h
def opP (P : Program) (trs : Trs) (sy : List Nat) (o : Oper) (fr : AF) (σ : AH) (s : Plan) (K : KP) : Prop :=
  match callOf o.op with
  | some c => match calleeA P c fr.ev σ with
    | some (g, xs) => match trs g with
      | some T => T xs σ s (fun v σ s => K (fr.put o.dst v) σ s)
      | none => False
    | none => False
  | none => match isPick o.op with
    | some (c, x, y) => condP (fr.ev c) s
        (fun s => match fr.ev x with
          | some v => K (fr.put o.dst v) σ s
          | none => False)
        (fun s => match fr.ev y with
          | some v => K (fr.put o.dst v) σ s
          | none => False)
    | none => match gop P sy o.op fr.ev σ with
      | some (gs, v, τ) => allT gs s (fun s => K (fr.put o.dst v) τ s)
      | none => False
theorem pick_ok {o : Oper} {c x y : Operand} (ho : o.op = .pick c x y) {ev : Operand → Option AV} {σ : AH} {s : Plan} {K : AV → Plan → Prop}
    (h : condP (ev c) s (fun s => match ev x with | some v => K v s | none => False) (fun s => match ev y with | some v => K v s | none => False)) :
    ∃ v, aop P o.op ev σ = some (v, σ) ∧ ∃ s, K v s := by
  obtain ⟨t, ht, h1, h2⟩ := condP_ok h
  rw [ho]
  cases t with
  | true =>
    obtain ⟨s', h'⟩ := h1 rfl
    split at h'
    · rename_i v hv; exact ⟨v, by simp only [aop, ht, if_true, retV, hv], s', h'⟩
    · exact h'.elim
  | false =>
    obtain ⟨s', h'⟩ := h2 rfl
    split at h'
    · rename_i v hv; exact ⟨v, by simp only [aop, ht, Bool.false_eq_true, if_false, retV, hv], s', h'⟩
    · exact h'.elim
def guardB : Option Bool → Option AV
  | some b => some (.bool b)
  | none => none
def opsP (P : Program) (trs : Trs) (sy : List Nat) (all : List Oper) : List Oper → KP → AF → AH → Plan → Prop
  | [], K, fr, σ, s => K fr σ s
  | o :: r, K, fr, σ, s => match o.guard with
    | none => opP P trs sy o fr σ s (opsP P trs sy all r K)
    | some g => condP (guardB (wantA all fr (some g))) s (fun s => opP P trs sy o fr σ s (opsP P trs sy all r K)) (fun s => opsP P trs sy all r K (fr.put o.dst unk) σ s)
theorem opP_sound {trs : Trs} (ht : TrsOk P trs) {sy : List Nat} {o : Oper} {fr : AF} {σ : AH} {s : Plan} {K : KP} (h : opP P trs sy o fr σ s K) : opA P (fun _ => none) o fr σ (fun fr σ => ∃ s, K fr σ s) := by
  unfold opP at h
  unfold opA
  split at h
  · rename_i c hc
    rw [hc]
    split at h
    · rename_i g xs hg
      simp only [hg, callA]
      split at h
      · rename_i T hT
        exact ht g T hT xs σ s _ h
      · exact h.elim
    · exact h.elim
  · rename_i hc
    rw [hc]
    split at h
    · rename_i c x y ho
      obtain ⟨v, h1, h2⟩ := pick_ok (P := P) (σ := σ) (K := fun v s => K (fr.put o.dst v) σ s) (isPick_ok ho) h
      simp only [h1, resA]
      exact h2
    · split at h
      · rename_i gs v τ hq
        obtain ⟨h1, h2⟩ := allT_ok h
        simp only [gop_ok hq h1, resA]
        exact h2
      · exact h.elim
theorem opA_mono {orc : Orc} {o : Oper} {fr : AF} {σ : AH} {K K' : AF → AH → Prop} (h : opA P orc o fr σ K) (hk : ∀ fr σ, K fr σ → K' fr σ) : opA P orc o fr σ K' := by
  unfold opA at h ⊢
  split at h
  · rename_i c hc
    cases hq : calleeA P c fr.ev σ with
    | none => rw [hq] at h; exact h.elim
    | some q =>
      obtain ⟨g, xs⟩ := q
      rw [hq] at h
      simp only [callA] at h ⊢
      cases ho : orc g with
      | none => rw [ho] at h; exact SC.mono h fun v σ q => hk _ _ q
      | some f =>
        rw [ho] at h
        simp only at h ⊢
        cases hf : f xs σ with
        | none => rw [hf] at h; exact h.elim
        | some q => rw [hf] at h; exact hk _ _ h
  · rename_i hc
    cases hq : aop P o.op fr.ev σ with
    | none => rw [hq] at h; exact h.elim
    | some q => rw [hq] at h; exact hk _ _ h
theorem opsP_sound {trs : Trs} (ht : TrsOk P trs) {sy : List Nat} {all : List Oper} {K : KP} : ∀ {r : List Oper} {fr : AF} {σ : AH} {s : Plan}, opsP P trs sy all r K fr σ s → opsA P (fun _ => none) all r (fun fr σ => ∃ s, K fr σ s) fr σ
  | [], fr, σ, s, h => ⟨s, h⟩
  | o :: r, fr, σ, s, h => by
    unfold opsP at h
    unfold opsA
    split at h
    · rename_i hg
      have e : wantA all fr o.guard = some true := by rw [hg]; rfl
      simp only [e, guardA, if_true]
      refine opA_mono (opP_sound ht h) ?_
      rintro fr' σ' ⟨s', h'⟩
      exact opsP_sound ht h'
    · rename_i g hg
      obtain ⟨c, hc, h1, h2⟩ := condP_ok h
      rw [hg]
      cases hw : wantA all fr (some g) with
      | none => rw [hw] at hc; cases hc
      | some t =>
        rw [hw] at hc
        simp only [guardB, Option.some.injEq, AV.bool.injEq] at hc
        subst hc
        simp only [guardA]
        cases t with
        | true =>
          rw [if_pos rfl]
          obtain ⟨s', h'⟩ := h1 rfl
          refine opA_mono (opP_sound ht h') ?_
          rintro fr' σ' ⟨s', h'⟩
          exact opsP_sound ht h'
        | false =>
          rw [if_neg (by simp)]
          obtain ⟨s', h'⟩ := h2 rfl
          exact opsP_sound ht h'

-- ------------------------------------------------------------------ regions that draw
def gOpF (P : Program) (orc : Orc) (sy : List Nat) (o : Oper) (ev : Operand → Option AV) (σ : AH) : G :=
  match callOf o.op with
  | some c => match calleeA P c ev σ with
    | some (g, xs) => match orc g with
      | some f => gLift (f xs σ)
      | none => none
    | none => none
  | none => gop P sy o.op ev σ
theorem gOpF_ok {orc : Orc} {sy : List Nat} {o : Oper} {ev : Operand → Option AV} {σ τ : AH} {gs : List Bool} {v : AV} (h : gOpF P orc sy o ev σ = some (gs, v, τ)) (hg : allB gs = true) : opF P orc o ev σ = some (v, τ) := by
  unfold gOpF at h
  unfold opF
  split at h
  · rename_i c hc
    simp only [hc]
    split at h
    · rename_i g xs hq
      simp only [hq]
      split at h
      · rename_i f hf
        simp only [hf]
        exact gLift_ok h
      · cases h
    · cases h
  · rename_i hc
    simp only [hc]
    exact gop_ok h hg
def xOpP (P : Program) (orc : Orc) (sy : List Nat) (o : Oper) (fp kl : List Nat) (fr : AF) (σ : AH) (s : Plan) (K : AV → AH → Plan → Prop) : Prop :=
  match isPick o.op with
  | some (c, x, y) => match fp with
    | [] => condP (fr.ev c) s
      (fun s => match fr.ev x with
        | some v => K v σ s
        | none => False)
      (fun s => match fr.ev y with
        | some v => K v σ s
        | none => False)
    | _ => False
  | none => match gOpF P orc sy o fr.ev (view fp kl σ) with
  | some (gs, v, τ) => match fp, pureOp o.op with
    | [], true => allT gs s (fun s => K v σ s)
    | _, _ => match chkX fp kl σ τ with
      | true => allT gs s (fun s => K v (merge fp σ τ) s)
      | false => False
  | none => False
theorem xOpP_run {orc : Orc} {sy : List Nat} {o : Oper} {fp kl : List Nat} {fr : AF} {σ : AH} {s : Plan} {K : AV → AH → Plan → Prop} (h : xOpP P orc sy o fp kl fr σ s K) :
    ∃ v τ σ1, opF P orc o fr.ev (view fp kl σ) = some (v, τ) ∧ chkX fp kl σ τ = true ∧ Merged fp σ τ σ1 ∧ ∃ s, K v σ1 s := by
  unfold xOpP at h
  split at h
  · rename_i c x y ho
    have ho := isPick_ok ho
    split at h
    · obtain ⟨v, h1, h2⟩ := pick_ok (P := P) (σ := view [] kl σ) (K := fun v s => K v σ s) ho h
      refine ⟨v, view [] kl σ, σ, ?_, chk_self _ _ _ rfl, merged_self _ _, h2⟩
      unfold opF
      have : callOf o.op = none := by rw [ho]; rfl
      rw [this]
      exact h1
    · exact h.elim
  · split at h
    · rename_i gs v τ hq
      split at h
      · rename_i hp
        obtain ⟨h1, h2⟩ := allT_ok h
        have h3 := gOpF_ok hq h1
        have e : τ = view [] kl σ := by
          have h4 := h3
          unfold opF at h4
          rw [pureOp_call hp] at h4
          exact aop_pure hp h4
        subst e
        exact ⟨v, _, σ, h3, chk_self _ _ _ rfl, merged_self _ _, h2⟩
      · split at h
        · rename_i hc
          obtain ⟨h1, h2⟩ := allT_ok h
          exact ⟨v, τ, _, gOpF_ok hq h1, hc, merge_ok _ _ _, h2⟩
        · exact h.elim
    · exact h.elim
def xOpsP (P : Program) (orc : Orc) (sy : List Nat) (all : List Oper) (fps : List (List Nat)) : Nat → List Oper → KP → AF → AH → Plan → Prop
  | _, [], K, fr, σ, s => K fr σ s
  | i, o :: r, K, fr, σ, s => match o.guard with
    | none => xOpP P orc sy o (fps.getD i []) (killsAt (masks all []) i fps 0) fr σ s (fun v σ s => xOpsP P orc sy all fps (i + 1) r K (fr.put o.dst v) σ s)
    | some g => condP (guardB (wantA all fr (some g))) s
        (fun s => xOpP P orc sy o (fps.getD i []) (killsAt (masks all []) i fps 0) fr σ s (fun v σ s => xOpsP P orc sy all fps (i + 1) r K (fr.put o.dst v) σ s))
        (fun s => match fps.getD i [] with
          | [] => xOpsP P orc sy all fps (i + 1) r K (fr.put o.dst unk) σ s
          | _ => False)
theorem xOpsP_run {orc : Orc} {sy : List Nat} {all : List Oper} {fps : List (List Nat)} {K : KP} : ∀ {r : List Oper} {i : Nat} {fr : AF} {σ : AH} {s : Plan}, xOpsP P orc sy all fps i r K fr σ s →
    ∃ fr' σ' s', XRun P orc all (fun i => fps.getD i []) (fun j => killsAt (masks all []) j fps 0) i r fr σ fr' σ' ∧ K fr' σ' s'
  | [], i, fr, σ, s, h => ⟨fr, σ, s, .nil, h⟩
  | o :: r, i, fr, σ, s, h => by
    unfold xOpsP at h
    split at h
    · rename_i hg
      obtain ⟨v, τ, σ1, h1, h2, h3, s1, h4⟩ := xOpP_run h
      obtain ⟨fr', σ', s', h5, h6⟩ := xOpsP_run h4
      refine ⟨fr', σ', s', .cons ?_ h2 h3 h5, h6⟩
      simp only [stepF, hg, wantA]
      exact h1
    · rename_i g hg
      obtain ⟨c, hc, h1, h2⟩ := condP_ok h
      cases hw : wantA all fr (some g) with
      | none => rw [hw] at hc; cases hc
      | some t =>
        rw [hw] at hc
        simp only [guardB, Option.some.injEq, AV.bool.injEq] at hc
        subst hc
        cases t with
        | true =>
          obtain ⟨s', h'⟩ := h1 rfl
          obtain ⟨v, τ, σ1, g1, g2, g3, s1, g4⟩ := xOpP_run h'
          obtain ⟨fr', σ', s', g5, g6⟩ := xOpsP_run g4
          refine ⟨fr', σ', s', .cons ?_ g2 g3 g5, g6⟩
          simp only [stepF, hg, hw]
          exact g1
        | false =>
          obtain ⟨s', h'⟩ := h2 rfl
          split at h'
          · rename_i hf
            obtain ⟨fr', σ', s', g5, g6⟩ := xOpsP_run h'
            refine ⟨fr', σ', s', .cons (v := unk) (τ := view (fps.getD i []) (killsAt (masks all []) i fps 0) σ) (σ1 := σ) (by simp only [stepF, hg, hw]) ?_ ?_ g5, g6⟩
            · rw [hf]; exact chk_self _ _ _ rfl
            · rw [hf]; exact merged_self _ _
          · exact h'.elim
/-- What the operations may write (advice alone). -/
def fpsG (P : Program) (orc : Orc) (sy qt : List Nat) : List Oper → AF → AH → List (List Nat)
  | [], _, _ => []
  | o :: r, fr, σ => if (o :: r).any (mayW qt) = true then
      (match isPick o.op with
      | some _ => [] :: fpsG P orc sy qt r (fr.put o.dst unk) σ
      | none => match gOpF P orc sy o fr.ev σ with
      | some (_, v, τ) => fpO P qt o fr σ :: fpsG P orc sy qt r (fr.put o.dst v) τ
      | none => [] :: fpsG P orc sy qt r (fr.put o.dst unk) σ)
    else []

-- ------------------------------------------------------------------ code
structure Cx where
  P : Program
  trs : Trs
  orc : Orc
  qt : List Nat
  fuel : Nat
  lps : Nat → Option LTr
def seqP (Q : QP) (N : KP) : QP
  | .normal, fr, σ, s => N fr σ s
  | e, fr, σ, s => Q e fr σ s
def blkP (id : Nat) (Q : QP) : QP
  | .exit i, fr, σ, s => if i = id then Q .normal fr σ s else Q (.exit i) fr σ s
  | e, fr, σ, s => Q e fr σ s
def noGoP (Q : QP) : QP
  | .goto _, _, _, _ => False
  | e, fr, σ, s => Q e fr σ s
def loopP (body : QP → AF → AH → Plan → Prop) (Q : QP) : Nat → AF → AH → Plan → Prop
  | 0, _, _, _ => False
  | k + 1, fr, σ, s => body (seqP Q (fun fr σ s => loopP body Q k fr.tidy σ s)) fr σ s
def wpP (X : Cx) (sy : List Nat) (n0 : Nat) : Code → Nat → QP → AF → AH → Plan → Prop
  | .skip, _, Q, fr, σ, s => Q .normal fr σ s
  | .label _, _, Q, fr, σ, s => Q .normal fr σ s
  | .region _ ops d, _, Q, fr, σ, s => match d with
    | false => opsP X.P X.trs sy ops.toList ops.toList (fun fr σ s => Q .normal fr σ s) fr σ s
    | true => xOpsP X.P X.orc sy ops.toList (fpsG X.P X.orc sy X.qt ops.toList fr σ) 0 ops.toList (fun fr σ s => Q .normal fr σ s) fr σ s
  | .seq c d, b, Q, fr, σ, s => wpP X sy n0 c b (seqP Q (fun fr σ s => wpP X sy n0 d b Q fr σ s)) fr σ s
  | .cond t c d, b, Q, fr, σ, s => condP (fr.ev t) s (fun s => wpP X sy n0 c b Q fr σ s) (fun s => wpP X sy n0 d b Q fr σ s)
  | .block id c, _, Q, fr, σ, s => wpP X sy n0 c id (blkP id Q) fr σ s
  | .exit id, _, Q, fr, σ, s => Q (.exit id) fr σ s
  | .ret, _, Q, fr, σ, s => Q .ret fr σ s
  | .scope c, b, Q, fr, σ, s => wpP X sy n0 c b (noGoP Q) fr σ s
  | .loop c, b, Q, fr, σ, s => match X.lps b with
    | some L => L n0 fr σ s Q
    | none => loopP (wpP X sy n0 c b) Q X.fuel fr σ s
  | _, _, _, _, _, _ => False
/-- All loops, by the block about them. -/
def loopsOf : Code → Nat → List (Nat × Code)
  | .seq c d, b => loopsOf c b ++ loopsOf d b
  | .cond _ c d, b => loopsOf c b ++ loopsOf d b
  | .block id c, _ => loopsOf c id
  | .scope c, b => loopsOf c b
  | .loop c, b => (b, c) :: loopsOf c b
  | _, _ => []
structure CxOk (X : Cx) : Prop where
  trs : TrsOk X.P X.trs
  orc : OrcOk X.P X.orc
  mix : X.P.follows .mixedOrders = true
def exQ (Q : QP) : Exit → AF → AH → Prop := fun e fr σ => ∃ s, Q e fr σ s
theorem WP.mono' {n0 : Nat} {c : Code} {Q Q' : Exit → AF → AH → Prop} {fr : AF} {σ : AH} (h : WP P n0 c Q fr σ) (hq : ∀ e fr σ, Q e fr σ → Q' e fr σ) : WP P n0 c Q' fr σ := h.mono hq
theorem loopP_sound {n0 : Nat} {b : Code} {body : QP → AF → AH → Plan → Prop} (hb : ∀ Q fr σ s, body Q fr σ s → WP P n0 b (exQ Q) fr σ) {Q : QP} : ∀ (k : Nat) {fr : AF} {σ : AH} {s : Plan}, loopP body Q k fr σ s → WL P n0 b (exQ Q) fr σ
  | 0, _, _, _, h => h.elim
  | k + 1, fr, σ, s, h => by
    unfold loopP at h
    refine WL_round ((hb _ _ _ _ h).mono ?_)
    rintro e fr' σ' ⟨s', q⟩
    cases e with
    | normal =>
      have := loopP_sound hb k q
      exact this.refine fun E _ => Refines.sub rfl tidy_look
    | _ => exact ⟨s', q⟩
theorem wpP_sound {X : Cx} (hX : CxOk X) {sy : List Nat} {n0 : Nat} : ∀ (c : Code) (b : Nat), (∀ ops ∈ drawsAll c, okS ops.toList = true) → (∀ p ∈ loopsOf c b, ∀ L, X.lps p.1 = some L → LOk X.P p.2 L) →
    ∀ (Q : QP) (fr : AF) (σ : AH) (s : Plan), wpP X sy n0 c b Q fr σ s → WP X.P n0 c (exQ Q) fr σ := by
  intro c
  induction c with
  | skip => intro b hd hl Q fr σ s h; exact fun E a w _ hs => wp_skip ⟨_, _, ⟨s, h⟩, hs⟩
  | label l => intro b hd hl Q fr σ s h; exact fun E a w _ hs => wp_label ⟨_, _, ⟨s, h⟩, hs⟩
  | region i ops d =>
    intro b hd hl Q fr σ s h
    cases d with
    | false =>
      simp only [wpP] at h
      exact WP.plain (orc_none _) (opsP_sound hX.trs h)
    | true =>
      simp only [wpP] at h
      obtain ⟨fr', σ', s', h1, h2⟩ := xOpsP_run h
      exact WP.draw hX.orc hX.mix (hd ops (by simp [drawsAll])) h1 ⟨s', h2⟩
  | seq x y ihx ihy =>
    intro b hd hl Q fr σ s h
    simp only [drawsAll, List.mem_append] at hd
    simp only [loopsOf, List.mem_append] at hl
    simp only [wpP] at h
    refine WP.seq ((ihx b (fun o ho => hd o (.inl ho)) (fun p hp => hl p (.inl hp)) _ _ _ _ h).mono ?_)
    rintro e fr' σ' ⟨s', q⟩
    cases e with
    | normal => exact ihy b (fun o ho => hd o (.inr ho)) (fun p hp => hl p (.inr hp)) _ _ _ _ q
    | _ => exact ⟨s', q⟩
  | cond t x y ihx ihy =>
    intro b hd hl Q fr σ s h
    simp only [drawsAll, List.mem_append] at hd
    simp only [loopsOf, List.mem_append] at hl
    simp only [wpP] at h
    obtain ⟨c, hc, h1, h2⟩ := condP_ok h
    refine WP.cond hc ?_ ?_
    · intro e
      obtain ⟨s', h'⟩ := h1 e
      exact ihx b (fun o ho => hd o (.inl ho)) (fun p hp => hl p (.inl hp)) _ _ _ _ h'
    · intro e
      obtain ⟨s', h'⟩ := h2 e
      exact ihy b (fun o ho => hd o (.inr ho)) (fun p hp => hl p (.inr hp)) _ _ _ _ h'
  | block i x ih =>
    intro b hd hl Q fr σ s h
    simp only [drawsAll] at hd
    simp only [loopsOf] at hl
    simp only [wpP] at h
    refine WP.block ((ih i hd hl _ _ _ _ h).mono ?_)
    rintro e fr' σ' ⟨s', q⟩
    cases e with
    | exit j =>
      simp only [blkP] at q
      simp only [blkX]
      split at q
      · rename_i hj; rw [if_pos hj]; exact ⟨s', q⟩
      · rename_i hj; rw [if_neg hj]; exact ⟨s', q⟩
    | _ => exact ⟨s', q⟩
  | scope x ih =>
    intro b hd hl Q fr σ s h
    simp only [drawsAll] at hd
    simp only [loopsOf] at hl
    simp only [wpP] at h
    refine WP.scope ((ih b hd hl _ _ _ _ h).mono ?_)
    rintro e fr' σ' ⟨s', q⟩
    cases e with
    | goto l => exact q.elim
    | _ => exact ⟨s', q⟩
  | exit i => intro b hd hl Q fr σ s h; exact fun E a w _ hs => wp_exit ⟨_, _, ⟨s, h⟩, hs⟩
  | ret => intro b hd hl Q fr σ s h; exact fun E a w _ hs => wp_ret ⟨_, _, ⟨s, h⟩, hs⟩
  | loop x ih =>
    intro b hd hl Q fr σ s h
    simp only [drawsAll] at hd
    simp only [loopsOf, List.mem_cons] at hl
    simp only [wpP] at h
    refine WL.loop ?_
    have key : WL X.P n0 x (exQ Q) fr σ := by
      split at h
      · rename_i L hL
        exact hl (b, x) (.inl rfl) L hL n0 fr σ s Q h
      · exact loopP_sound (fun Q fr σ s h => ih b hd (fun p hp => hl p (.inr hp)) Q fr σ s h) X.fuel h
    exact key
  | _ => intro b hd hl Q fr σ s h; simp [wpP] at h

-- ------------------------------------------------------------------ functions
/-- The slots that point to where an unknown number leads. -/
def symO (P : Program) (acc : List Nat) (o : Oper) : List Nat :=
  match o.dst with
  | none => acc
  | some d => match o.op with
    | .indexAddr t x i => if (sliT P t).isSome || !isC i || symP acc x then d :: acc else acc
    | .fieldAddr _ x _ => if symP acc x then d :: acc else acc
    | .nilCheck x => if symP acc x then d :: acc else acc
    | .move x => if symP acc x then d :: acc else acc
    | .assign x => if symP acc x then d :: acc else acc
    | _ => acc
def symC (P : Program) : Code → List Nat → List Nat
  | .region _ ops _, acc => ops.toList.foldl (symO P) acc
  | .seq c d, acc => symC P d (symC P c acc)
  | .cond _ c d, acc => symC P d (symC P c acc)
  | .block _ c, acc => symC P c acc
  | .scope c, acc => symC P c acc
  | .loop c, acc => symC P c acc
  | _, acc => acc
def retP (P : Program) (rs : List ResultVar) (K : AV → AH → Plan → Prop) : QP
  | .ret, fr, σ, s => match resultsA P fr σ rs with
    | some vs => K (pack vs) σ s
    | none => False
  | .normal, fr, σ, s => match resultsA P fr σ rs with
    | some vs => K (pack vs) σ s
    | none => False
  | _, _, _, _ => False
def funP (X : Cx) (f : Nat) : Tr1 := fun xs σ s K =>
  match X.P.funcs[f]? with
  | some fn => match fn.body with
    | some c => if xs.length ≤ fn.ntmps then wpP X (symC X.P c []) σ.nx c 0 (retP X.P fn.results.toList K) (AF.enter fn.ntmps xs) σ s else False
    | none => False
  | none => False
def bodyOf (P : Program) (f : Nat) : Code := match P.funcs[f]? with
  | some fn => fn.body.getD .skip
  | none => .skip
theorem funP_sound {X : Cx} (hX : CxOk X) {f : Nat} (hd : okFunsX X.P [f] = true) (hl : ∀ p ∈ loopsOf (bodyOf X.P f) 0, ∀ L, X.lps p.1 = some L → LOk X.P p.2 L) : TrOk X.P f (funP X f) := by
  intro xs σ s K h
  unfold funP at h
  split at h
  · rename_i fn hfn
    split at h
    · rename_i c hc
      split at h
      · rename_i hn
        have hb : bodyOf X.P f = c := by simp [bodyOf, hfn, hc]
        rw [hb] at hl
        refine SC_body hfn hc hn ((wpP_sound hX c 0 (okFunsX_draws hd (by simp) hfn hc) hl _ _ _ _ h).mono ?_)
        rintro e fr' σ' ⟨s', q⟩
        have fin : (match resultsA X.P fr' σ' fn.results.toList with
            | some vs => K (pack vs) σ' s'
            | none => False) → retR (resultsA X.P fr' σ' fn.results.toList) σ' (fun v σ' => ∃ s, K v σ' s) := by
          intro hq
          split at hq
          · rename_i vs hvs; rw [hvs]; exact ⟨s', hq⟩
          · exact hq.elim
        cases e with
        | normal => exact fin q
        | ret => exact fin q
        | _ => exact q.elim
      · exact h.elim
    · exact h.elim
  · exact h.elim
/-- Functions walked where they are called. -/
def inl (P : Program) (orc : Orc) (qt : List Nat) (fuel : Nat) (base : Trs) (ok : List Nat) : Nat → Trs
  | 0 => base
  | n + 1 => fun g => match base g with
    | some T => some T
    | none => if memN g ok = true then some (funP ⟨P, inl P orc qt fuel base ok n, orc, qt, fuel, fun _ => none⟩ g) else none
theorem inl_ok {orc : Orc} (horc : OrcOk P orc) (hmix : P.follows .mixedOrders = true) {qt : List Nat} {fuel : Nat} {base : Trs} (hb : TrsOk P base) {ok : List Nat} (hok : okFunsX P ok = true) : ∀ n, TrsOk P (inl P orc qt fuel base ok n)
  | 0 => hb
  | n + 1 => by
    intro g T h
    unfold inl at h
    split at h
    · rename_i T' hT
      cases h
      exact hb g _ hT
    · split at h
      · rename_i hm
        cases h
        refine funP_sound (X := ⟨P, inl P orc qt fuel base ok n, orc, qt, fuel, fun _ => none⟩) ⟨inl_ok horc hmix hb hok n, horc, hmix⟩ ?_ (fun p _ L hL => by cases hL)
        unfold okFunsX at hok ⊢
        rw [List.all_eq_true] at hok ⊢
        intro x hx
        rw [List.mem_singleton] at hx
        subst hx
        exact hok x (memN_iff.1 hm)
      · cases h
/-- What is known of functions, in a list. -/
def lookT : List (Nat × Tr1) → Trs
  | [], _ => none
  | (k, T) :: r, f => if Nat.beq k f = true then some T else lookT r f
theorem TrsOk.nil : TrsOk P (lookT []) := fun g T h => by cases h
theorem TrsOk.cons {f : Nat} {T : Tr1} {l : List (Nat × Tr1)} (h : TrOk P f T) (hl : TrsOk P (lookT l)) : TrsOk P (lookT ((f, T) :: l)) := by
  intro g T' e
  unfold lookT at e
  split at e
  · rename_i hk
    cases e
    rw [← Nat.eq_of_beq_eq_true hk]
    exact h
  · exact hl g T' e
/-- A function of plain values. -/
def pureT (F : List AV → Option AV) : Tr1 := fun xs σ s K => match F xs with
  | some v => K v σ s
  | none => False
theorem pureT_ok {f : Nat} {F : List AV → Option AV} (h : ∀ as v, F as = some v → pfs as = true ∧ v.pf = true ∧ SC P f as h0 (fun u _ => u = v)) : TrOk P f (pureT F) := by
  intro xs σ s K hk
  unfold pureT at hk
  split at hk
  · rename_i v hv
    obtain ⟨a, b, c⟩ := h xs v hv
    refine (SC.any a b c σ).mono ?_
    rintro u τ ⟨rfl, rfl⟩
    exact ⟨s, hk⟩
  · exact hk.elim
/-- A loop by number. -/
def lookL : List (Nat × LTr) → Nat → Option LTr
  | [], _ => none
  | (k, T) :: r, f => if Nat.beq k f = true then some T else lookL r f
/-- Functions of plain values, in a list: as transformers, as oracles. -/
abbrev Pur := List (Nat × (List AV → Option AV))
def purT : Pur → Trs
  | [], _ => none
  | (k, F) :: r, f => if Nat.beq k f = true then some (pureT F) else purT r f
def purO : Pur → Orc
  | [], _ => none
  | (k, F) :: r, f => if Nat.beq k f = true then some (pureO F) else purO r f
def PurOk (P : Program) (l : Pur) : Prop := ∀ p ∈ l, TrOk P p.1 (pureT p.2)
theorem PurOk.nil : PurOk P [] := fun _ h => by cases h
theorem PurOk.cons {f : Nat} {F : List AV → Option AV} {l : Pur} (h : TrOk P f (pureT F)) (hl : PurOk P l) : PurOk P ((f, F) :: l) := by
  intro p hp
  rcases List.mem_cons.1 hp with rfl | hp
  · exact h
  · exact hl p hp
theorem purT_ok {l : Pur} (h : PurOk P l) : TrsOk P (purT l) := by
  induction l with
  | nil => intro g T e; cases e
  | cons p r ih =>
    obtain ⟨k, F⟩ := p
    intro g T e
    unfold purT at e
    split at e
    · rename_i hk
      cases e
      rw [← Nat.eq_of_beq_eq_true hk]
      exact h (k, F) (by simp)
    · exact ih (fun p hp => h p (List.mem_cons_of_mem _ hp)) g T e
theorem purO_ok {l : Pur} (h : PurOk P l) : OrcOk P (purO l) := by
  induction l with
  | nil => intro g o e; cases e
  | cons p r ih =>
    obtain ⟨k, F⟩ := p
    intro g o e
    unfold purO at e
    split at e
    · rename_i hk
      cases e
      have hg := Nat.eq_of_beq_eq_true hk
      subst hg
      intro xs σ v σ' ho
      obtain ⟨h1, rfl⟩ := retV_some ho
      have := h (k, F) (by simp) xs σ .z (fun u τ _ => u = v ∧ τ = σ) (by simp only [pureT, h1]; exact ⟨trivial, trivial⟩)
      exact this.mono fun u τ ⟨_, q⟩ => q
    · exact ih (fun p hp => h p (List.mem_cons_of_mem _ hp)) g o e
/-- The one setting: functions of plain values; some walked where they are called. -/
noncomputable def cxP (P : Program) (l : Pur) (ok : List Nat) : Cx := ⟨P, inl P (purO l) (l.map (·.1)) 20 (purT l) ok 6, purO l, l.map (·.1), 20, lookL []⟩
theorem cxP_ok {l : Pur} {ok : List Nat} (hmix : P.follows .mixedOrders = true) (h : PurOk P l) (hok : okFunsX P ok = true) : CxOk (cxP P l ok) := ⟨inl_ok (purO_ok h) hmix (purT_ok h) hok 6, purO_ok h, hmix⟩
theorem sc_of_vc {l : Pur} {ok : List Nat} {f : Nat} (hX : CxOk (cxP P l ok)) (hd : okFunsX P [f] = true) {xs : List AV} {σ : AH} {s : Plan} {K : AV → Prop} {A : Prop} (e : funP (cxP P l ok) f xs σ s (fun v _ _ => K v) = A) (h : A) : SC P f xs σ (fun u _ => K u) :=
  (funP_sound hX hd (fun p _ L hL => by cases hL) xs σ s _ (e.mpr h)).mono (fun v σ ⟨s, q⟩ => q)
end Go.Proofs.Yteneafgmcmgahaa.V
