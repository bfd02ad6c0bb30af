/- Rounds walked in pieces: a code that is a row of codes, each piece by what must hold, the states between under other names. -/
import Derived.Test.YteneafgmcmgahaaV30
namespace Go.Proofs.Yteneafgmcmgahaa.V
open Go Go.Proofs
variable {P : Program}
theorem WP.refine {n0 : Nat} {c : Code} {Q : Exit → AF → AH → Prop} {fr fr' : AF} {σ σ' : AH} (h : WP P n0 c Q fr' σ') (hr : ∀ E : Ent, E.n0 = n0 → Refines E fr σ fr' σ') : WP P n0 c Q fr σ :=
  fun E a w hE hs => h E a w hE (hr E hE a w hs)
theorem WP.less {n0 : Nat} {b : Code} {Q Q' : Exit → AF → AH → Prop} {fr : AF} {σ : AH} (h : WP P n0 b Q fr σ) (hq : ∀ e fr σ, Q e fr σ → ∃ fr' σ', (∀ E : Ent, E.n0 = n0 → Refines E fr σ fr' σ') ∧ Q' e fr' σ') : WP P n0 b Q' fr σ := by
  intro E a w hE hs
  refine wp_mono (h E a w hE hs) ?_
  rintro e a' w' ⟨fr', σ', q, s⟩
  obtain ⟨fr2, σ2, hr, hq2⟩ := hq e fr' σ' q
  exact ⟨fr2, σ2, hq2, hr E hE a' w' s⟩
/-- A row of codes. -/
def seqs : List Code → Code → Code
  | [], d => d
  | c :: r, d => .seq c (seqs r d)
def hdC : Code → Code
  | .seq c _ => c
  | c => c
def tlC : Code → Code
  | .seq _ d => d
  | c => c
def inC : Code → Code
  | .block _ c => c
  | c => c
theorem seqs_sound {X : Cx} (hX : CxOk X) {sy : List Nat} {n0 b : Nat} (hl : X.lps = lookL []) {d : Code} {Q : Exit → AF → AH → Prop} {Qm : QP} (hn : ∀ fr σ s, Qm .normal fr σ s → WP X.P n0 d Q fr σ) (he : ∀ e fr σ s, e ≠ .normal → Qm e fr σ s → Q e fr σ) :
    ∀ (l : List Code), (∀ ops ∈ drawsAll (seqs l .skip), okS ops.toList = true) → ∀ fr σ s, wpP X sy n0 (seqs l .skip) b Qm fr σ s → WP X.P n0 (seqs l d) Q fr σ
  | [], _, fr, σ, s, h => hn fr σ s h
  | c :: r, hd, fr, σ, s, h => by
    simp only [seqs, drawsAll, List.mem_append] at hd
    simp only [seqs, wpP] at h
    refine WP.seq ((wpP_sound hX c b (fun o ho => hd o (.inl ho)) (fun p _ L hL => by rw [hl] at hL; cases hL) _ _ _ _ h).mono ?_)
    rintro e fr' σ' ⟨s', q⟩
    cases e with
    | normal => exact seqs_sound hX hl hn he r (fun o ho => hd o (.inr ho)) fr' σ' s' q
    | _ => exact he _ _ _ s' (by simp) q
/-- One piece, and what comes behind it. -/
theorem seg {X : Cx} (hX : CxOk X) {sy : List Nat} {n0 b : Nat} (hl : X.lps = lookL []) {l : List Code} (hd : (drawsAll (seqs l .skip)).all (fun ops => okS ops.toList) = true) (sl : List Nat) {d : Code} {Q : Exit → AF → AH → Prop} {ι : Type} (T : ι → AF × AH) (good : ι → Prop)
    (next : ∀ i, good i → WP X.P n0 d Q (T i).1 (T i).2) {fr : AF} {σ : AH} {s : Plan} {A : NS → QS → Prop} (e : ∀ N Q', wpP X sy n0 (seqs l .skip) b (rndS sl N Q') fr σ s = A N Q')
    (h : A (fun n vs σ => ∃ j gs, good j ∧ FitsS n0 gs sl n vs σ (T j).1 (T j).2) (fun e n vs σ => ∃ gs fr' σ', FitsS n0 gs sl n vs σ fr' σ' ∧ Q e fr' σ')) : WP X.P n0 (seqs l d) Q fr σ := by
  rw [List.all_eq_true] at hd
  refine WP.less (Q := fun e fr σ => ∃ fr' σ', (∀ E : Ent, E.n0 = n0 → Refines E fr σ fr' σ') ∧ Q e fr' σ') (seqs_sound hX hl (Qm := rndS sl _ _) ?_ ?_ l hd fr σ s ((e _ _).mpr h)) (fun _ _ _ q => q)
  · rintro fr σ s ⟨j, gs, hg, hf⟩
    exact ((next j hg).refine hf.fits.refines).mono fun e fr σ q => ⟨fr, σ, fun _ _ _ _ hs => hs, q⟩
  · rintro e fr σ s hne q
    have q' : ∃ gs fr' σ', FitsS n0 gs sl fr.n (lookAll fr.l sl) σ fr' σ' ∧ Q e fr' σ' := by
      cases e with
      | normal => exact absurd rfl hne
      | _ => exact q
    obtain ⟨gs, fr', σ', h1, h2⟩ := q'
    exact ⟨fr', σ', h1.fits.refines, h2⟩
/-- The last piece. -/
theorem segE {X : Cx} (hX : CxOk X) {sy : List Nat} {n0 b : Nat} (hl : X.lps = lookL []) {c : Code} (hd : (drawsAll c).all (fun ops => okS ops.toList) = true) (sl : List Nat) {Q : Exit → AF → AH → Prop} {ι : Type} (T : ι → AF × AH) (good : ι → Prop)
    (next : ∀ i gs fr σ, good i → Fits n0 gs fr σ (T i).1 (T i).2 → Q .normal fr σ) {fr : AF} {σ : AH} {s : Plan} {A : NS → QS → Prop} (e : ∀ N Q', wpP X sy n0 c b (rndS sl N Q') fr σ s = A N Q')
    (h : A (fun n vs σ => ∃ j gs, good j ∧ FitsS n0 gs sl n vs σ (T j).1 (T j).2) (fun e n vs σ => ∃ gs fr' σ', FitsS n0 gs sl n vs σ fr' σ' ∧ Q e fr' σ')) : WP X.P n0 c Q fr σ := by
  rw [List.all_eq_true] at hd
  refine WP.less (wpP_sound hX c b hd (fun p _ L hL => by rw [hl] at hL; cases hL) _ _ _ _ ((e _ _).mpr h)) ?_
  rintro e fr σ ⟨s, q⟩
  have other : (∃ gs fr' σ', FitsS n0 gs sl fr.n (lookAll fr.l sl) σ fr' σ' ∧ Q e fr' σ') → ∃ fr' σ', (∀ E : Ent, E.n0 = n0 → Refines E fr σ fr' σ') ∧ Q e fr' σ' := by
    rintro ⟨gs, fr', σ', h1, h2⟩
    exact ⟨fr', σ', h1.fits.refines, h2⟩
  cases e with
  | normal =>
    obtain ⟨j, gs, hg, hf⟩ := q
    exact ⟨fr, σ, fun _ _ _ _ hs => hs, next j gs fr σ hg hf.fits⟩
  | _ => exact other q
/-- The last piece, with calls in regions that draw. -/
theorem segQ {gor : GOrc} {X : Cx} (hX : CxOk X) (hg : GOrcOk X.P gor) {sy : List Nat} {n0 b : Nat} (hl : X.lps = lookL []) {c : Code} (hd : (drawsAll c).all (fun ops => okS ops.toList) = true) (sl : List Nat) {Q : Exit → AF → AH → Prop} {fr : AF} {σ : AH} {s : Plan} {A : NS → QS → Prop} (e : ∀ N Q', wpPQ gor X sy n0 c b (rndS sl N Q') fr σ s = A N Q')
    (h : A (fun _ _ _ => False) (fun e n vs σ => ∃ gs fr' σ', FitsS n0 gs sl n vs σ fr' σ' ∧ Q e fr' σ')) : WP X.P n0 c Q fr σ := by
  rw [List.all_eq_true] at hd
  refine WP.less (wpPQ_sound hX hg c b hd (fun p _ L hL => by rw [hl] at hL; cases hL) _ _ _ _ ((e _ _).mpr h)) ?_
  rintro e fr σ ⟨s, q⟩
  have other : (∃ gs fr' σ', FitsS n0 gs sl fr.n (lookAll fr.l sl) σ fr' σ' ∧ Q e fr' σ') → ∃ fr' σ', (∀ E : Ent, E.n0 = n0 → Refines E fr σ fr' σ') ∧ Q e fr' σ' := by
    rintro ⟨gs, fr', σ', h1, h2⟩
    exact ⟨fr', σ', h1.fits.refines, h2⟩
  cases e with
  | normal => exact q.elim
  | _ => exact other q
/-- A block, and what comes behind it. -/
def blkN (id : Nat) (Q : Exit → AF → AH → Prop) (N : AF → AH → Prop) : Exit → AF → AH → Prop
  | .normal, fr, σ => N fr σ
  | .exit i, fr, σ => i ≠ id ∧ Q (.exit i) fr σ
  | e, fr, σ => Q e fr σ
theorem WP.seqBlock {n0 id : Nat} {c d : Code} {Q : Exit → AF → AH → Prop} {fr : AF} {σ : AH} (h : WP P n0 c (blkN id Q (fun fr σ => WP P n0 d Q fr σ)) fr σ) : WP P n0 (.seq (.block id c) d) Q fr σ := by
  refine WP.seq (WP.block (h.mono ?_))
  intro e fr' σ' q
  cases e with
  | exit j =>
    have q1 : j ≠ id ∧ Q (.exit j) fr' σ' := q
    simp only [blkX]
    rw [if_neg q1.1]
    exact q1.2
  | normal => exact q
  | _ => exact q
end Go.Proofs.Yteneafgmcmgahaa.V
