/- Own library, part 30: calls in regions that draw, with what must hold for them. -/
import Derived.Test.YteneafgmcmgahaaV29
namespace Go.Proofs.Yteneafgmcmgahaa.V
open Go
set_option linter.unusedSimpArgs false
set_option linter.unusedVariables false
variable {P : Program}
/-- What is known of functions, with what must hold. -/
abbrev GOrc := Nat → Option (List AV → AH → G)
def orcOf (gor : GOrc) : Orc := fun f => (gor f).map fun F xs σ => match F xs σ with
  | some (gs, v, τ) => if allB gs = true then some (v, τ) else none
  | none => none
def GOrcOk (P : Program) (gor : GOrc) : Prop := ∀ f F, gor f = some F → ∀ xs σ gs v τ, F xs σ = some (gs, v, τ) → allB gs = true → SC P f xs σ (fun u τ' => u = v ∧ τ' = τ)
theorem orcOf_ok {gor : GOrc} (h : GOrcOk P gor) : OrcOk P (orcOf gor) := by
  intro f o hf xs σ v τ ho
  unfold orcOf at hf
  cases hg : gor f with
  | none => rw [hg] at hf; cases hf
  | some F =>
    rw [hg] at hf
    cases hf
    cases e : F xs σ with
    | none => simp [e] at ho
    | some r =>
      obtain ⟨gs, v', τ'⟩ := r
      simp only [e] at ho
      split at ho
      · rename_i hb
        cases ho
        exact h f F hg xs σ gs _ _ e hb
      · cases ho
def gOpFQ (P : Program) (gor : GOrc) (sy : List Nat) (o : Oper) (ev : Operand → Option AV) (σ : AH) : G :=
  match callOf o.op with
  | some c => match calleeA P c ev σ with
    | some (g, xs) => match gor g with
      | some f => f xs σ
      | none => none
    | none => none
  | none => gop P sy o.op ev σ
theorem gOpFQ_ok {gor : GOrc} {sy : List Nat} {o : Oper} {ev : Operand → Option AV} {σ τ : AH} {gs : List Bool} {v : AV} (h : gOpFQ P gor sy o ev σ = some (gs, v, τ)) (hg : allB gs = true) : opF P (orcOf gor) o ev σ = some (v, τ) := by
  unfold gOpFQ at h
  unfold opF
  split at h
  · rename_i c hc
    simp only [hc]
    split at h
    · rename_i g xs hq
      simp only [hq]
      split at h
      · rename_i f hf
        simp only [orcOf, hf, Option.map_some, h, hg, if_true]
      · cases h
    · cases h
  · rename_i hc
    simp only [hc]
    exact gop_ok h hg
def xOpPQ (P : Program) (gor : GOrc) (sy : List Nat) (o : Oper) (fp kl : List Nat) (fr : AF) (σ : AH) (s : Plan) (K : AV → AH → Plan → Prop) : Prop :=
  match isPick o.op with
  | some (c, x, y) => match fp with
    | [] => condP (fr.ev c) s
      (fun s => match fr.ev x with
        | some v => K v σ s
        | none => False)
      (fun s => match fr.ev y with
        | some v => K v σ s
        | none => False)
    | _ => False
  | none => match gOpFQ P gor sy o fr.ev (view fp kl σ) with
  | some (gs, v, τ) => match fp, pureOp o.op with
    | [], true => allT gs s (fun s => K v σ s)
    | _, _ => match chkX fp kl σ τ with
      | true => allT gs s (fun s => K v (merge fp σ τ) s)
      | false => False
  | none => False
theorem xOpPQ_run {gor : GOrc} {sy : List Nat} {o : Oper} {fp kl : List Nat} {fr : AF} {σ : AH} {s : Plan} {K : AV → AH → Plan → Prop} (h : xOpPQ P gor sy o fp kl fr σ s K) :
    ∃ v τ σ1, opF P (orcOf gor) o fr.ev (view fp kl σ) = some (v, τ) ∧ chkX fp kl σ τ = true ∧ Merged fp σ τ σ1 ∧ ∃ s, K v σ1 s := by
  unfold xOpPQ at h
  split at h
  · rename_i c x y ho
    have ho := isPick_ok ho
    split at h
    · obtain ⟨v, h1, h2⟩ := pick_ok (P := P) (σ := view [] kl σ) (K := fun v s => K v σ s) ho h
      refine ⟨v, view [] kl σ, σ, ?_, chk_self _ _ _ rfl, merged_self _ _, h2⟩
      unfold opF
      have : callOf o.op = none := by rw [ho]; rfl
      rw [this]
      exact h1
    · exact h.elim
  · split at h
    · rename_i gs v τ hq
      split at h
      · rename_i hp
        obtain ⟨h1, h2⟩ := allT_ok h
        have h3 := gOpFQ_ok hq h1
        have e : τ = view [] kl σ := by
          have h4 := h3
          unfold opF at h4
          rw [pureOp_call hp] at h4
          exact aop_pure hp h4
        subst e
        exact ⟨v, _, σ, h3, chk_self _ _ _ rfl, merged_self _ _, h2⟩
      · split at h
        · rename_i hc
          obtain ⟨h1, h2⟩ := allT_ok h
          exact ⟨v, τ, _, gOpFQ_ok hq h1, hc, merge_ok _ _ _, h2⟩
        · exact h.elim
    · exact h.elim
def xOpsPQ (P : Program) (gor : GOrc) (sy : List Nat) (all : List Oper) (fps : List (List Nat)) : Nat → List Oper → KP → AF → AH → Plan → Prop
  | _, [], K, fr, σ, s => K fr σ s
  | i, o :: r, K, fr, σ, s => match o.guard with
    | none => xOpPQ P gor sy o (fps.getD i []) (killsAt (masks all []) i fps 0) fr σ s (fun v σ s => xOpsPQ P gor sy all fps (i + 1) r K (fr.put o.dst v) σ s)
    | some g => condP (guardB (wantA all fr (some g))) s
        (fun s => xOpPQ P gor sy o (fps.getD i []) (killsAt (masks all []) i fps 0) fr σ s (fun v σ s => xOpsPQ P gor sy all fps (i + 1) r K (fr.put o.dst v) σ s))
        (fun s => match fps.getD i [] with
          | [] => xOpsPQ P gor sy all fps (i + 1) r K (fr.put o.dst unk) σ s
          | _ => False)
theorem xOpsPQ_run {gor : GOrc} {sy : List Nat} {all : List Oper} {fps : List (List Nat)} {K : KP} : ∀ {r : List Oper} {i : Nat} {fr : AF} {σ : AH} {s : Plan}, xOpsPQ P gor sy all fps i r K fr σ s →
    ∃ fr' σ' s', XRun P (orcOf gor) all (fun i => fps.getD i []) (fun j => killsAt (masks all []) j fps 0) i r fr σ fr' σ' ∧ K fr' σ' s'
  | [], i, fr, σ, s, h => ⟨fr, σ, s, .nil, h⟩
  | o :: r, i, fr, σ, s, h => by
    unfold xOpsPQ at h
    split at h
    · rename_i hg
      obtain ⟨v, τ, σ1, h1, h2, h3, s1, h4⟩ := xOpPQ_run h
      obtain ⟨fr', σ', s', h5, h6⟩ := xOpsPQ_run h4
      refine ⟨fr', σ', s', .cons ?_ h2 h3 h5, h6⟩
      simp only [stepF, hg, wantA]
      exact h1
    · rename_i g hg
      obtain ⟨c, hc, h1, h2⟩ := condP_ok h
      cases hw : wantA all fr (some g) with
      | none => rw [hw] at hc; cases hc
      | some t =>
        rw [hw] at hc
        simp only [guardB, Option.some.injEq, AV.bool.injEq] at hc
        subst hc
        cases t with
        | true =>
          obtain ⟨s', h'⟩ := h1 rfl
          obtain ⟨v, τ, σ1, g1, g2, g3, s1, g4⟩ := xOpPQ_run h'
          obtain ⟨fr', σ', s', g5, g6⟩ := xOpsPQ_run g4
          refine ⟨fr', σ', s', .cons ?_ g2 g3 g5, g6⟩
          simp only [stepF, hg, hw]
          exact g1
        | false =>
          obtain ⟨s', h'⟩ := h2 rfl
          split at h'
          · rename_i hf
            obtain ⟨fr', σ', s', g5, g6⟩ := xOpsPQ_run h'
            refine ⟨fr', σ', s', .cons (v := unk) (τ := view (fps.getD i []) (killsAt (masks all []) i fps 0) σ) (σ1 := σ) (by simp only [stepF, hg, hw]) ?_ ?_ g5, g6⟩
            · rw [hf]; exact chk_self _ _ _ rfl
            · rw [hf]; exact merged_self _ _
          · exact h'.elim
/-- What the operations may write (advice alone). -/
def fpsGQ (P : Program) (gor : GOrc) (sy qt : List Nat) : List Oper → AF → AH → List (List Nat)
  | [], _, _ => []
  | o :: r, fr, σ => if (o :: r).any (mayW qt) = true then
      (match isPick o.op with
      | some _ => [] :: fpsGQ P gor sy qt r (fr.put o.dst unk) σ
      | none => match gOpFQ P gor sy o fr.ev σ with
      | some (_, v, τ) => fpO P qt o fr σ :: fpsGQ P gor sy qt r (fr.put o.dst v) τ
      | none => [] :: fpsGQ P gor sy qt r (fr.put o.dst unk) σ)
    else []

def wpPQ (gor : GOrc) (X : Cx) (sy : List Nat) (n0 : Nat) : Code → Nat → QP → AF → AH → Plan → Prop
  | .skip, _, Q, fr, σ, s => Q .normal fr σ s
  | .label _, _, Q, fr, σ, s => Q .normal fr σ s
  | .region _ ops d, _, Q, fr, σ, s => match d with
    | false => opsP X.P X.trs sy ops.toList ops.toList (fun fr σ s => Q .normal fr σ s) fr σ s
    | true => xOpsPQ X.P gor sy ops.toList (fpsGQ X.P gor sy X.qt ops.toList fr σ) 0 ops.toList (fun fr σ s => Q .normal fr σ s) fr σ s
  | .seq c d, b, Q, fr, σ, s => wpPQ gor X sy n0 c b (seqP Q (fun fr σ s => wpPQ gor X sy n0 d b Q fr σ s)) fr σ s
  | .cond t c d, b, Q, fr, σ, s => condP (fr.ev t) s (fun s => wpPQ gor X sy n0 c b Q fr σ s) (fun s => wpPQ gor X sy n0 d b Q fr σ s)
  | .block id c, _, Q, fr, σ, s => wpPQ gor X sy n0 c id (blkP id Q) fr σ s
  | .exit id, _, Q, fr, σ, s => Q (.exit id) fr σ s
  | .ret, _, Q, fr, σ, s => Q .ret fr σ s
  | .scope c, b, Q, fr, σ, s => wpPQ gor X sy n0 c b (noGoP Q) fr σ s
  | .loop c, b, Q, fr, σ, s => match X.lps b with
    | some L => L n0 fr σ s Q
    | none => loopP (wpPQ gor X sy n0 c b) Q X.fuel fr σ s
  | _, _, _, _, _, _ => False
theorem wpPQ_sound {gor : GOrc} {X : Cx} (hX : CxOk X) (hg : GOrcOk X.P gor) {sy : List Nat} {n0 : Nat} : ∀ (c : Code) (b : Nat), (∀ ops ∈ drawsAll c, okS ops.toList = true) → (∀ p ∈ loopsOf c b, ∀ L, X.lps p.1 = some L → LOk X.P p.2 L) →
    ∀ (Q : QP) (fr : AF) (σ : AH) (s : Plan), wpPQ gor X sy n0 c b Q fr σ s → WP X.P n0 c (exQ Q) fr σ := by
  intro c
  induction c with
  | skip => intro b hd hl Q fr σ s h; exact fun E a w _ hs => wp_skip ⟨_, _, ⟨s, h⟩, hs⟩
  | label l => intro b hd hl Q fr σ s h; exact fun E a w _ hs => wp_label ⟨_, _, ⟨s, h⟩, hs⟩
  | region i ops d =>
    intro b hd hl Q fr σ s h
    cases d with
    | false =>
      simp only [wpPQ] at h
      exact WP.plain (orc_none _) (opsP_sound hX.trs h)
    | true =>
      simp only [wpPQ] at h
      obtain ⟨fr', σ', s', h1, h2⟩ := xOpsPQ_run h
      exact WP.draw (orcOf_ok hg) hX.mix (hd ops (by simp [drawsAll])) h1 ⟨s', h2⟩
  | seq x y ihx ihy =>
    intro b hd hl Q fr σ s h
    simp only [drawsAll, List.mem_append] at hd
    simp only [loopsOf, List.mem_append] at hl
    simp only [wpPQ] at h
    refine WP.seq ((ihx b (fun o ho => hd o (.inl ho)) (fun p hp => hl p (.inl hp)) _ _ _ _ h).mono ?_)
    rintro e fr' σ' ⟨s', q⟩
    cases e with
    | normal => exact ihy b (fun o ho => hd o (.inr ho)) (fun p hp => hl p (.inr hp)) _ _ _ _ q
    | _ => exact ⟨s', q⟩
  | cond t x y ihx ihy =>
    intro b hd hl Q fr σ s h
    simp only [drawsAll, List.mem_append] at hd
    simp only [loopsOf, List.mem_append] at hl
    simp only [wpPQ] at h
    obtain ⟨c, hc, h1, h2⟩ := condP_ok h
    refine WP.cond hc ?_ ?_
    · intro e
      obtain ⟨s', h'⟩ := h1 e
      exact ihx b (fun o ho => hd o (.inl ho)) (fun p hp => hl p (.inl hp)) _ _ _ _ h'
    · intro e
      obtain ⟨s', h'⟩ := h2 e
      exact ihy b (fun o ho => hd o (.inr ho)) (fun p hp => hl p (.inr hp)) _ _ _ _ h'
  | block i x ih =>
    intro b hd hl Q fr σ s h
    simp only [drawsAll] at hd
    simp only [loopsOf] at hl
    simp only [wpPQ] at h
    refine WP.block ((ih i hd hl _ _ _ _ h).mono ?_)
    rintro e fr' σ' ⟨s', q⟩
    cases e with
    | exit j =>
      simp only [blkP] at q
      simp only [blkX]
      split at q
      · rename_i hj; rw [if_pos hj]; exact ⟨s', q⟩
      · rename_i hj; rw [if_neg hj]; exact ⟨s', q⟩
    | _ => exact ⟨s', q⟩
  | scope x ih =>
    intro b hd hl Q fr σ s h
    simp only [drawsAll] at hd
    simp only [loopsOf] at hl
    simp only [wpPQ] at h
    refine WP.scope ((ih b hd hl _ _ _ _ h).mono ?_)
    rintro e fr' σ' ⟨s', q⟩
    cases e with
    | goto l => exact q.elim
    | _ => exact ⟨s', q⟩
  | exit i => intro b hd hl Q fr σ s h; exact fun E a w _ hs => wp_exit ⟨_, _, ⟨s, h⟩, hs⟩
  | ret => intro b hd hl Q fr σ s h; exact fun E a w _ hs => wp_ret ⟨_, _, ⟨s, h⟩, hs⟩
  | loop x ih =>
    intro b hd hl Q fr σ s h
    simp only [drawsAll] at hd
    simp only [loopsOf, List.mem_cons] at hl
    simp only [wpPQ] at h
    refine WL.loop ?_
    have key : WL X.P n0 x (exQ Q) fr σ := by
      split at h
      · rename_i L hL
        exact hl (b, x) (.inl rfl) L hL n0 fr σ s Q h
      · exact loopP_sound (fun Q fr σ s h => ih b hd (fun p hp => hl p (.inr hp)) Q fr σ s h) X.fuel h
    exact key
  | _ => intro b hd hl Q fr σ s h; simp [wpPQ] at h

def funPQ (gor : GOrc) (X : Cx) (f : Nat) : Tr1 := fun xs σ s K =>
  match X.P.funcs[f]? with
  | some fn => match fn.body with
    | some c => if xs.length ≤ fn.ntmps then wpPQ gor X (symC X.P c []) σ.nx c 0 (retP X.P fn.results.toList K) (AF.enter fn.ntmps xs) σ s else False
    | none => False
  | none => False
theorem funPQ_sound {gor : GOrc} {X : Cx} (hX : CxOk X) (hg : GOrcOk X.P gor) {f : Nat} (hd : okFunsX X.P [f] = true) (hl : ∀ p ∈ loopsOf (bodyOf X.P f) 0, ∀ L, X.lps p.1 = some L → LOk X.P p.2 L) : TrOk X.P f (funPQ gor X f) := by
  intro xs σ s K h
  unfold funPQ at h
  split at h
  · rename_i fn hfn
    split at h
    · rename_i c hc
      split at h
      · rename_i hn
        have hb : bodyOf X.P f = c := by simp [bodyOf, hfn, hc]
        rw [hb] at hl
        refine SC_body hfn hc hn ((wpPQ_sound hX hg c 0 (okFunsX_draws hd (by simp) hfn hc) hl _ _ _ _ h).mono ?_)
        rintro e fr' σ' ⟨s', q⟩
        have fin : (match resultsA X.P fr' σ' fn.results.toList with
            | some vs => K (pack vs) σ' s'
            | none => False) → retR (resultsA X.P fr' σ' fn.results.toList) σ' (fun v σ' => ∃ s, K v σ' s) := by
          intro hq
          split at hq
          · rename_i vs hvs; rw [hvs]; exact ⟨s', hq⟩
          · exact hq.elim
        cases e with
        | normal => exact fin q
        | ret => exact fin q
        | _ => exact q.elim
      · exact h.elim
    · exact h.elim
  · exact h.elim
end Go.Proofs.Yteneafgmcmgahaa.V
