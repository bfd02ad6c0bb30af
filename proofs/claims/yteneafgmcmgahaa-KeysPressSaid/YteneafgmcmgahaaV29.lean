/- Own library, part 29: frame rules over blocks that may hold pointers. -/
import Derived.Test.YteneafgmcmgahaaV28
namespace Go.Proofs.Yteneafgmcmgahaa.V
open Go
set_option linter.unusedSimpArgs false
set_option linter.unusedVariables false
variable {P : Program}
/-- As frameG, for blocks that may hold pointers: a contract over blocks that are only read, which hands back one new block, in any memory that holds these cells under other names. -/
theorem SC.frameH {f k : Nat} {args0 args : List AV} {v u : AV} {e z : Nat} {cs : List AV} {σ0 σ : AH} (g g' : Nat → Option Nat)
    (hg : ∀ i, i < σ0.nx → ∃ b c c0, g i = some b ∧ b < σ.nx ∧ (σ.get b).cs? = some c ∧ σ0.get i = .ro c0 ∧ CsRen g' c c0) (hwr : ∀ i, (σ0.get i).wr = false)
    (hinv : ∀ x c, g' x = some c → c < σ0.nx ∧ g c = some x) (ha : renL g' args = some args0) (hp : pfs cs = true) (hv : v.ren (oneN k σ.nx) = some u)
    (h : SC P f args0 σ0 (fun x τ => x = v ∧ τ.get k = .opn e z cs)) : SC P f args σ (fun x τ => x = u ∧ τ = σ.push (.opn e z cs)) := by
  intro ρ args' w hargs hr hgk
  let ρ0 : Ren := fun i => if i < σ0.nx then (g i).bind ρ else none
  have h0 : ∀ {i r}, ρ0 i = some r → i < σ0.nx ∧ ∃ b, g i = some b ∧ ρ b = some r := by
    intro i r hi
    by_cases hlt : i < σ0.nx
    · simp only [ρ0, hlt, if_true] at hi
      cases hgi : g i with
      | none => rw [hgi] at hi; cases hi
      | some b => rw [hgi] at hi; exact ⟨hlt, b, rfl, hi⟩
    · simp only [ρ0, hlt, if_false] at hi; cases hi
  have nowr : ∀ c, ¬ Wr ρ0 σ0 c := by
    rintro c ⟨b, r, _, h2, _⟩
    rw [hwr] at h2; cases h2
  have hr0 : HR ρ0 σ0 w := by
    refine ⟨fun b r hb => (h0 hb).1, fun i r hi => ?_, fun i r hi => ?_, fun b b' r r' _ _ _ hw _ => by rw [hwr] at hw; cases hw⟩
    · obtain ⟨_, b, _, hb⟩ := h0 hi
      exact hr.lt b r hb
    · obtain ⟨hlt, b, hgb, hb⟩ := h0 hi
      obtain ⟨b', c, c0, h1, _, h3, h4, h5⟩ := hg i hlt
      rw [hgb] at h1; cases h1
      have := (hr.obj b r hb).toRo
      rw [cs_toRo h3] at this
      rw [h4]
      exact OR.ren (g := g') (fun x c r hx hb => by
        obtain ⟨h1, h2⟩ := hinv x c hx
        simp only [ρ0, h1, if_true, h2, Option.bind_some]; exact hb) this h5
  have ha0 : VRs ρ0 args0 args' := VRs.ren (g := g') (fun x c r hx hb => by
    obtain ⟨h1, h2⟩ := hinv x c hx
    simp only [ρ0, h1, if_true, h2, Option.bind_some]; exact hb) hargs ha
  refine Calls.mono (h ρ0 args' w ha0 hr0 (fun p hp => ⟨nowr _, (hgk p hp).2⟩)) ?_
  rintro ex w' ⟨x, v', ρ', σ', rfl, ⟨rfl, hk⟩, hvr, hr', hs⟩
  have old : ∀ c, c < w.heap.size → w'.heap[c]? = w.heap[c]? := fun c hc => hs.frame c hc (nowr c)
  let ρn : Ren := fun b => if b < σ.nx then ρ b else if b = σ.nx then ρ' k else none
  have hn : ∀ {b r}, ρn b = some r → (b < σ.nx ∧ ρ b = some r) ∨ (b = σ.nx ∧ ρ' k = some r) := by
    intro b r hb
    by_cases hlt : b < σ.nx
    · simp only [ρn, hlt, if_true] at hb; exact .inl ⟨hlt, hb⟩
    · by_cases he : b = σ.nx
      · subst he; simp only [ρn, Nat.lt_irrefl, if_false, if_true] at hb; exact .inr ⟨rfl, hb⟩
      · simp only [ρn, hlt, he, if_false] at hb; cases hb
  have gold : ∀ b, b < σ.nx → (σ.push (.opn e z cs)).get b = σ.get b := fun b hb => AH.get_push_ne _ _ (by omega)
  have gnew : (σ.push (.opn e z cs)).get σ.nx = .opn e z cs := AH.get_push_same _ _
  have far : ∀ r, ρ' k = some r → w.heap.size ≤ r.blk := by
    intro r hb
    rcases hs.wr r.blk ⟨k, r, hb, by rw [hk]; rfl, rfl⟩ with q | q
    · exact absurd q (nowr _)
    · exact q
  refine ⟨u, v', ρn, σ.push (.opn e z cs), rfl, ⟨rfl, rfl⟩, ?_, ⟨?_, ?_, ?_, ?_⟩, ?_⟩
  · refine VR.ren (g := oneN k σ.nx) (fun b c r hg hb => ?_) hvr hv
    unfold oneN at hg
    split at hg
    · rename_i he
      cases hg; subst he
      simp only [ρn, Nat.lt_irrefl, if_false, if_true]; exact hb
    · cases hg
  · intro b r hb
    show b < σ.nx + 1
    rcases hn hb with ⟨q, _⟩ | ⟨q, _⟩ <;> omega
  · intro b r hb
    rcases hn hb with ⟨_, q⟩ | ⟨_, q⟩
    · exact Nat.lt_of_lt_of_le (hr.lt b r q) hs.size
    · exact hr'.lt k r q
  · intro b r hb
    rcases hn hb with ⟨q1, q⟩ | ⟨rfl, q⟩
    · rw [gold b q1]
      refine OR.mono (fun b r hb => ?_) (OR.of_heap (old _ (hr.lt b r q)) (hr.obj b r q))
      have := hr.dom b r hb
      simp only [ρn, this, if_true]; exact hb
    · rw [gnew]
      have := hr'.obj k r q
      rw [hk] at this
      exact OR.ren (g := fun _ => none) (fun _ _ _ h => by cases h) this ⟨rfl, rfl, .inr ⟨hp, rfl⟩⟩
  · intro b b' r r' hne hb hb' hw hl
    rcases hn hb with ⟨q1, q⟩ | ⟨q1, q⟩ <;> rcases hn hb' with ⟨p1, p⟩ | ⟨p1, p⟩
    · rw [gold b q1] at hw; rw [gold b' p1] at hl
      exact hr.inj b b' r r' hne q p hw hl
    · have := hr.lt b r q; have := far r' p; omega
    · have := hr.lt b' r' p; have := far r q; omega
    · exact absurd (q1.trans p1.symm) hne
  · refine ⟨fun b hb => by simp only [ρn, hb, if_true], Nat.le_succ _, hs.os, hs.tape, hs.output, hs.size, fun c hc _ => old c hc, ?_⟩
    rintro c ⟨b, r, hb, hw, rfl⟩
    rcases hn hb with ⟨q1, q⟩ | ⟨q1, q⟩
    · rw [gold b q1] at hw; exact .inl ⟨b, r, q, hw, rfl⟩
    · exact .inr (far r q)
/-- As frameG, for blocks that may hold pointers: a contract over blocks that are only read, which hands back a value without pointers, in any memory that holds these cells under other names. -/
theorem SC.frameZ {f : Nat} {args0 args : List AV} {v : AV} {σ0 σ : AH} (g g' : Nat → Option Nat)
    (hg : ∀ i, i < σ0.nx → ∃ b c c0, g i = some b ∧ b < σ.nx ∧ (σ.get b).cs? = some c ∧ σ0.get i = .ro c0 ∧ CsRen g' c c0) (hwr : ∀ i, (σ0.get i).wr = false)
    (hinv : ∀ x c, g' x = some c → c < σ0.nx ∧ g c = some x) (ha : renL g' args = some args0) (hv : v.pf = true)
    (h : SC P f args0 σ0 (fun x τ => x = v)) : SC P f args σ (fun x τ => x = v ∧ τ = σ) := by
  intro ρ args' w hargs hr hgk
  let ρ0 : Ren := fun i => if i < σ0.nx then (g i).bind ρ else none
  have h0 : ∀ {i r}, ρ0 i = some r → i < σ0.nx ∧ ∃ b, g i = some b ∧ ρ b = some r := by
    intro i r hi
    by_cases hlt : i < σ0.nx
    · simp only [ρ0, hlt, if_true] at hi
      cases hgi : g i with
      | none => rw [hgi] at hi; cases hi
      | some b => rw [hgi] at hi; exact ⟨hlt, b, rfl, hi⟩
    · simp only [ρ0, hlt, if_false] at hi; cases hi
  have nowr : ∀ c, ¬ Wr ρ0 σ0 c := by
    rintro c ⟨b, r, _, h2, _⟩
    rw [hwr] at h2; cases h2
  have hr0 : HR ρ0 σ0 w := by
    refine ⟨fun b r hb => (h0 hb).1, fun i r hi => ?_, fun i r hi => ?_, fun b b' r r' _ _ _ hw _ => by rw [hwr] at hw; cases hw⟩
    · obtain ⟨_, b, _, hb⟩ := h0 hi
      exact hr.lt b r hb
    · obtain ⟨hlt, b, hgb, hb⟩ := h0 hi
      obtain ⟨b', c, c0, h1, _, h3, h4, h5⟩ := hg i hlt
      rw [hgb] at h1; cases h1
      have := (hr.obj b r hb).toRo
      rw [cs_toRo h3] at this
      rw [h4]
      exact OR.ren (g := g') (fun x c r hx hb => by
        obtain ⟨h1, h2⟩ := hinv x c hx
        simp only [ρ0, h1, if_true, h2, Option.bind_some]; exact hb) this h5
  have ha0 : VRs ρ0 args0 args' := VRs.ren (g := g') (fun x c r hx hb => by
    obtain ⟨h1, h2⟩ := hinv x c hx
    simp only [ρ0, h1, if_true, h2, Option.bind_some]; exact hb) hargs ha
  refine Calls.mono (h ρ0 args' w ha0 hr0 (fun p hp => ⟨nowr _, (hgk p hp).2⟩)) ?_
  rintro ex w' ⟨x, v', ρ', σ', rfl, rfl, hvr, hr', hs⟩
  have old : ∀ c, c < w.heap.size → w'.heap[c]? = w.heap[c]? := fun c hc => hs.frame c hc (nowr c)
  refine ⟨x, v', ρ, σ, rfl, ⟨rfl, rfl⟩, VR.pf hvr hv, ⟨hr.dom, ?_, ?_, hr.inj⟩, ?_⟩
  · intro b r hb
    exact Nat.lt_of_lt_of_le (hr.lt b r hb) hs.size
  · intro b r hb
    exact OR.of_heap (old _ (hr.lt b r hb)) (hr.obj b r hb)
  · exact ⟨fun _ _ => rfl, Nat.le_refl _, hs.os, hs.tape, hs.output, hs.size, fun c hc _ => old c hc, fun c h => .inl h⟩
/-- A contract over two blocks (0 without pointers, 1), both written, in any memory that holds both under other names. -/
theorem SC.frameL {f : Nat} {args0 args : List AV} {e1 e2 : Nat} {cs c0 c1 : List AV} {σ : AH} {b R : Nat} {Pq : AV → List AV → List AV → Prop} (hb : σ.get b = .cells e2 cs) (hR : σ.get R = .cells e1 c1) (hne : b ≠ R) (hpc : pfs cs = true)
    (ha : renL (inv2 b R) args = some args0) (hc : renL (inv2 b R) c1 = some c0) (hP : ∀ v rs ls, Pq v rs ls → pfs rs = true ∧ v.pf = true ∧ ∃ ls', renL (fwd2 b R) ls = some ls')
    (h : SC P f args0 ⟨2, [(1, .cells e1 c0), (0, .cells e2 cs)]⟩ (fun x τ => ∃ rs ls, Pq x rs ls ∧ τ.get 0 = .cells e2 rs ∧ τ.get 1 = .cells e1 ls)) :
    SC P f args σ (fun x τ => ∃ rs ls ls', Pq x rs ls ∧ renL (fwd2 b R) ls = some ls' ∧ τ = (σ.set b (.cells e2 rs)).set R (.cells e1 ls')) := by
  intro ρ args' w hargs hr hgk
  let σ0 : AH := ⟨2, [(1, .cells e1 c0), (0, .cells e2 cs)]⟩
  let ρ0 : Ren := fun i => if i = 0 then ρ b else if i = 1 then ρ R else none
  have r0 : ρ0 0 = ρ b := rfl
  have r1 : ρ0 1 = ρ R := rfl
  have two : ∀ {i r}, ρ0 i = some r → (i = 0 ∧ ρ b = some r) ∨ (i = 1 ∧ ρ R = some r) := by
    intro i r hi
    by_cases i0 : i = 0
    · subst i0; exact .inl ⟨rfl, hi⟩
    · by_cases i1 : i = 1
      · subst i1; exact .inr ⟨rfl, hi⟩
      · simp only [ρ0, i0, i1, if_false] at hi; cases hi
  have hg : ∀ x c r, inv2 b R x = some c → ρ x = some r → ρ0 c = some r := by
    intro x c r hx hr
    unfold inv2 at hx
    split at hx
    · rename_i e; subst e; cases hx; exact hr
    · split at hx
      · rename_i e; subst e; cases hx; exact hr
      · cases hx
  have hwb : (σ.get b).wr = true := by rw [hb]; rfl
  have hwR : (σ.get R).wr = true := by rw [hR]; rfl
  have hr0 : HR ρ0 σ0 w := by
    refine ⟨fun i r hi => ?_, fun i r hi => ?_, fun i r hi => ?_, fun i i' r r' hne' hi hi' _ _ => ?_⟩
    · show i < 2
      rcases two hi with ⟨rfl, _⟩ | ⟨rfl, _⟩ <;> omega
    · rcases two hi with ⟨_, q⟩ | ⟨_, q⟩
      · exact hr.lt b r q
      · exact hr.lt R r q
    · rcases two hi with ⟨rfl, q⟩ | ⟨rfl, q⟩
      · have := hr.obj b r q
        rw [hb] at this
        exact OR.ren (g := fun _ => none) (o := .cells e2 cs) (fun _ _ _ h => by cases h) this ⟨rfl, .inr ⟨hpc, rfl⟩⟩
      · have := hr.obj R r q
        rw [hR] at this
        obtain ⟨a, l, p1, hl⟩ := this
        exact ⟨a, l, p1, VRs.ren hg hl hc⟩
    · rcases two hi with ⟨rfl, q⟩ | ⟨rfl, q⟩ <;> rcases two hi' with ⟨rfl, q'⟩ | ⟨rfl, q'⟩
      · exact absurd rfl hne'
      · exact hr.inj b R r r' hne q q' hwb (AObj.wr_live hwR)
      · exact hr.inj R b r r' (Ne.symm hne) q q' hwR (AObj.wr_live hwb)
      · exact absurd rfl hne'
  have ha0 : VRs ρ0 args0 args' := VRs.ren hg hargs ha
  refine Calls.mono (h ρ0 args' w ha0 hr0 (fun p hp => ⟨fun ⟨i, r, h1, h2, h3⟩ => (hgk p hp).1 (by rcases two h1 with ⟨rfl, q⟩ | ⟨rfl, q⟩; exact ⟨b, r, q, hwb, h3⟩; exact ⟨R, r, q, hwR, h3⟩), (hgk p hp).2⟩)) ?_
  rintro ex w' ⟨x, v', ρ', σ', rfl, ⟨rs, ls, hp, hk0, hk1⟩, hvr, hr', hs⟩
  obtain ⟨hprs, hpv, c3, hc3⟩ := hP x rs ls hp
  have k0 : ρ' 0 = ρ b := hs.keep 0 (show 0 < 2 by omega)
  have k1 : ρ' 1 = ρ R := hs.keep 1 (show 1 < 2 by omega)
  have wsub : ∀ c, Wr ρ0 σ0 c → Wr ρ σ c := by
    rintro c ⟨i, r, hi, _, rfl⟩
    rcases two hi with ⟨_, q⟩ | ⟨_, q⟩
    · exact ⟨b, r, q, hwb, rfl⟩
    · exact ⟨R, r, q, hwR, rfl⟩
  have hRb : (σ.set b (.cells e2 rs)).get R = σ.get R := AH.get_set_ne _ _ (Ne.symm hne)
  have gR : ((σ.set b (.cells e2 rs)).set R (.cells e1 c3)).get R = .cells e1 c3 := AH.get_set_same _ _ (by rw [hRb, hR]; simp)
  have gb : ((σ.set b (.cells e2 rs)).set R (.cells e1 c3)).get b = .cells e2 rs := by rw [AH.get_set_ne _ _ hne]; exact AH.get_set_same _ _ (by rw [hb]; simp)
  have gx : ∀ x, x ≠ R → x ≠ b → ((σ.set b (.cells e2 rs)).set R (.cells e1 c3)).get x = σ.get x := fun x hx hx' => by rw [AH.get_set_ne _ _ hx, AH.get_set_ne _ _ hx']
  have gwr : ∀ x, (((σ.set b (.cells e2 rs)).set R (.cells e1 c3)).get x).wr = (σ.get x).wr := fun x => by
    by_cases e : x = R
    · subst e; rw [gR, hwR]; rfl
    · by_cases e' : x = b
      · subst e'; rw [gb, hwb]; rfl
      · rw [gx x e e']
  have glv : ∀ x, (((σ.set b (.cells e2 rs)).set R (.cells e1 c3)).get x).live = (σ.get x).live := fun x => by
    by_cases e : x = R
    · subst e; rw [gR, AObj.wr_live hwR]; rfl
    · by_cases e' : x = b
      · subst e'; rw [gb, AObj.wr_live hwb]; rfl
      · rw [gx x e e']
  have hg2 : ∀ i c r, fwd2 b R i = some c → ρ' i = some r → ρ c = some r := by
    intro i c r hi hr
    unfold fwd2 at hi
    split at hi
    · rename_i e; subst e; cases hi; rw [← k0]; exact hr
    · split at hi
      · rename_i e; subst e; cases hi; rw [← k1]; exact hr
      · cases hi
  refine ⟨x, v', ρ, (σ.set b (.cells e2 rs)).set R (.cells e1 c3), rfl, ⟨rs, ls, c3, hp, hc3, rfl⟩, VR.pf hvr hpv, ⟨fun y r hy => hr.dom y r hy, fun y r hy => Nat.lt_of_lt_of_le (hr.lt y r hy) hs.size, ?_, ?_⟩, ?_⟩
  · intro y r hy
    by_cases e : y = R
    · subst e
      rw [gR]
      have := hr'.obj 1 r (by rw [k1]; exact hy)
      rw [hk1] at this
      obtain ⟨a, l, p1, hl⟩ := this
      exact ⟨a, l, p1, VRs.ren hg2 hl hc3⟩
    · by_cases e' : y = b
      · subst e'
        rw [gb]
        have := hr'.obj 0 r (by rw [k0]; exact hy)
        rw [hk0] at this
        exact OR.ren (g := fun _ => none) (o := .cells e2 rs) (fun _ _ _ h => by cases h) this ⟨rfl, .inr ⟨hprs, rfl⟩⟩
      · rw [gx y e e']
        cases hd : (σ.get y).live with
        | false =>
          have : σ.get y = .dead := by cases hq : σ.get y <;> rw [hq] at hd <;> first | rfl | cases hd
          rw [this]; trivial
        | true =>
          refine OR.of_heap (hs.frame r.blk (hr.lt y r hy) ?_) (hr.obj y r hy)
          rintro ⟨i, r', hi, _, hbk⟩
          rcases two hi with ⟨_, q⟩ | ⟨_, q⟩
          · exact hr.inj b y r' r (Ne.symm e') q hy hwb hd hbk
          · exact hr.inj R y r' r (Ne.symm e) q hy hwR hd hbk
  · intro y y' r r' h1 h2 h3 h4 h5
    rw [gwr] at h4
    rw [glv] at h5
    exact hr.inj y y' r r' h1 h2 h3 h4 h5
  · refine ⟨fun _ _ => rfl, Nat.le_refl _, hs.os, hs.tape, hs.output, hs.size, fun c hc hw => hs.frame c hc (fun q => hw (wsub c q)), ?_⟩
    rintro c ⟨y, r, hy, hw, rfl⟩
    rw [gwr] at hw
    exact .inl ⟨y, r, hy, hw, rfl⟩
end Go.Proofs.Yteneafgmcmgahaa.V
