/- Own library, part 27: a contract over memory that is only read holds in any memory that has it (a frame rule); one new block is handed back. -/
import Derived.Test.YteneafgmcmgahaaV26
namespace Go.Proofs.Yteneafgmcmgahaa.V
open Go
set_option linter.unusedSimpArgs false
set_option linter.unusedVariables false
variable {P : Program}
def lowN (n b : Nat) : Option Nat := if b < n then some b else none
def oneN (k n b : Nat) : Option Nat := if b = k then some n else none
theorem SC.frame {f k : Nat} {args : List AV} {v u : AV} {e : TypeId} {z : Nat} {cs : List AV} {σ0 σ : AH} (hro : ∀ b, b < σ0.nx → ∃ cs, σ0.get b = .ro cs ∧ pfs cs = true) (hwr : ∀ b, (σ0.get b).wr = false) (hle : σ0.nx ≤ σ.nx) (hget : ∀ b, b < σ0.nx → σ.get b = σ0.get b)
    (ha : renL (lowN σ0.nx) args = some args) (hp : pfs cs = true) (hv : v.ren (oneN k σ.nx) = some u)
    (h : SC P f args σ0 (fun x τ => x = v ∧ τ.get k = .opn e z cs)) : SC P f args σ (fun x τ => x = u ∧ τ = σ.push (.opn e z cs)) := by
  intro ρ args' w hargs hr hgk
  let ρ0 : Ren := fun b => if b < σ0.nx then ρ b else none
  have h0 : ∀ {b r}, ρ0 b = some r → b < σ0.nx ∧ ρ b = some r := by
    intro b r hb
    by_cases hlt : b < σ0.nx
    · simp only [ρ0, hlt, if_true] at hb; exact ⟨hlt, hb⟩
    · simp only [ρ0, hlt, if_false] at hb; cases hb
  have nowr : ∀ c, ¬ Wr ρ0 σ0 c := by
    rintro c ⟨b, r, _, h2, _⟩
    rw [hwr] at h2; cases h2
  have hr0 : HR ρ0 σ0 w := by
    refine ⟨fun b r hb => (h0 hb).1, fun b r hb => hr.lt b r (h0 hb).2, fun b r hb => ?_, fun b b' r r' _ _ _ hw _ => by rw [hwr] at hw; cases hw⟩
    have := hr.obj b r (h0 hb).2
    rw [hget b (h0 hb).1] at this
    obtain ⟨cs, hc, hpc⟩ := hro b (h0 hb).1
    rw [hc] at this ⊢
    exact OR.ren (g := fun _ => none) (fun _ _ _ h => by cases h) this (.inr ⟨hpc, rfl⟩)
  have ha0 : VRs ρ0 args args' := VRs.ren (g := lowN σ0.nx) (fun b c r hg hb => by
    unfold lowN at hg
    split at hg
    · rename_i hlt; cases hg; simp only [ρ0, hlt, if_true]; exact hb
    · cases hg) hargs ha
  refine Calls.mono (h ρ0 args' w ha0 hr0 (fun p hp => ⟨nowr _, (hgk p hp).2⟩)) ?_
  rintro ex w' ⟨x, v', ρ', σ', rfl, ⟨rfl, hk⟩, hvr, hr', hs⟩
  have old : ∀ c, c < w.heap.size → w'.heap[c]? = w.heap[c]? := fun c hc => hs.frame c hc (nowr c)
  let ρn : Ren := fun b => if b < σ.nx then ρ b else if b = σ.nx then ρ' k else none
  have hn : ∀ {b r}, ρn b = some r → (b < σ.nx ∧ ρ b = some r) ∨ (b = σ.nx ∧ ρ' k = some r) := by
    intro b r hb
    by_cases hlt : b < σ.nx
    · simp only [ρn, hlt, if_true] at hb; exact .inl ⟨hlt, hb⟩
    · by_cases he : b = σ.nx
      · subst he; simp only [ρn, Nat.lt_irrefl, if_false, if_true] at hb; exact .inr ⟨rfl, hb⟩
      · simp only [ρn, hlt, he, if_false] at hb; cases hb
  have gold : ∀ b, b < σ.nx → (σ.push (.opn e z cs)).get b = σ.get b := fun b hb => AH.get_push_ne _ _ (by omega)
  have gnew : (σ.push (.opn e z cs)).get σ.nx = .opn e z cs := AH.get_push_same _ _
  have far : ∀ r, ρ' k = some r → w.heap.size ≤ r.blk := by
    intro r hb
    rcases hs.wr r.blk ⟨k, r, hb, by rw [hk]; rfl, rfl⟩ with q | q
    · exact absurd q (nowr _)
    · exact q
  refine ⟨u, v', ρn, σ.push (.opn e z cs), rfl, ⟨rfl, rfl⟩, ?_, ⟨?_, ?_, ?_, ?_⟩, ?_⟩
  · refine VR.ren (g := oneN k σ.nx) (fun b c r hg hb => ?_) hvr hv
    unfold oneN at hg
    split at hg
    · rename_i he
      cases hg; subst he
      simp only [ρn, Nat.lt_irrefl, if_false, if_true]; exact hb
    · cases hg
  · intro b r hb
    show b < σ.nx + 1
    rcases hn hb with ⟨q, _⟩ | ⟨q, _⟩ <;> omega
  · intro b r hb
    rcases hn hb with ⟨_, q⟩ | ⟨_, q⟩
    · exact Nat.lt_of_lt_of_le (hr.lt b r q) hs.size
    · exact hr'.lt k r q
  · intro b r hb
    rcases hn hb with ⟨q1, q⟩ | ⟨rfl, q⟩
    · rw [gold b q1]
      refine OR.mono (fun b r hb => ?_) (OR.of_heap (old _ (hr.lt b r q)) (hr.obj b r q))
      have := hr.dom b r hb
      simp only [ρn, this, if_true]; exact hb
    · rw [gnew]
      have := hr'.obj k r q
      rw [hk] at this
      exact OR.ren (g := fun _ => none) (fun _ _ _ h => by cases h) this ⟨rfl, rfl, .inr ⟨hp, rfl⟩⟩
  · intro b b' r r' hne hb hb' hw hl
    rcases hn hb with ⟨q1, q⟩ | ⟨q1, q⟩ <;> rcases hn hb' with ⟨p1, p⟩ | ⟨p1, p⟩
    · rw [gold b q1] at hw; rw [gold b' p1] at hl
      exact hr.inj b b' r r' hne q p hw hl
    · have := hr.lt b r q; have := far r' p; omega
    · have := hr.lt b' r' p; have := far r q; omega
    · exact absurd (q1.trans p1.symm) hne
  · refine ⟨fun b hb => by simp only [ρn, hb, if_true], Nat.le_succ _, hs.os, hs.tape, hs.output, hs.size, fun c hc _ => old c hc, ?_⟩
    rintro c ⟨b, r, hb, hw, rfl⟩
    rcases hn hb with ⟨q1, q⟩ | ⟨q1, q⟩
    · rw [gold b q1] at hw; exact .inl ⟨b, r, q, hw, rfl⟩
    · exact .inr (far r q)
end Go.Proofs.Yteneafgmcmgahaa.V
