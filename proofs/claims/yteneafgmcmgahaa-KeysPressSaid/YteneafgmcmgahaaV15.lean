/- Own library, part 15: counting loops. -/
import Derived.Test.YteneafgmcmgahaaV13
namespace Go.Proofs.Yteneafgmcmgahaa.V
open Go
set_option linter.unusedSimpArgs false
set_option linter.unusedVariables false

variable {P : Program}
theorem look_mem : ∀ {l : List (Nat × AV)} {t : Nat} {v : AV}, lookF l t = some v → (t, v) ∈ l
  | [], _, _, h => by simp [lookF] at h
  | (k, u) :: r, t, v, h => by
    unfold lookF at h
    split at h
    · rename_i e
      subst e
      cases h
      simp
    · exact List.mem_cons_of_mem _ (look_mem h)
theorem Refines.sub {E : Ent} {fr fr' : AF} {σ : AH} (hn : fr'.n = fr.n) (h : ∀ p ∈ fr'.l, lookF fr.l p.1 = some p.2) : Refines E fr σ fr' σ := by
  rintro a w ⟨ρ, h1, h2, h3⟩
  refine ⟨ρ, h1, h2, h3.size.trans hn.symm, fun t v e => h3.tmps t v (h _ (look_mem e)), h3.defers⟩
theorem WL.refine {n0 : Nat} {b : Code} {Q : Exit → AF → AH → Prop} {fr fr' : AF} {σ σ' : AH} (h : WL P n0 b Q fr' σ') (r : ∀ E, E.n0 = n0 → Refines E fr σ fr' σ') : WL P n0 b Q fr σ :=
  fun E a w hE hs => h E a w hE (r E hE a w hs)
theorem WL.sub {n0 : Nat} {b : Code} {Q : Exit → AF → AH → Prop} {fr fr' : AF} {σ : AH} (h : WL P n0 b Q fr' σ) (hn : fr'.n = fr.n) (hp : ∀ p ∈ fr'.l, lookF fr.l p.1 = some p.2) : WL P n0 b Q fr σ :=
  h.refine fun _ _ => Refines.sub hn hp
/-- A loop that counts up. -/
theorem WL_count {n0 : Nat} {b : Code} {Q : Exit → AF → AH → Prop} (F : Nat → AF) (S : Nat → AH) (m : Nat) (round : ∀ i, i < m → WL P n0 b Q (F (i + 1)) (S (i + 1)) → WL P n0 b Q (F i) (S i))
    (last : WL P n0 b Q (F m) (S m)) : WL P n0 b Q (F 0) (S 0) := by
  have key : ∀ k i, i + k = m → WL P n0 b Q (F i) (S i) := by
    intro k
    induction k with
    | zero => intro i h; have : i = m := by omega
              subst this; exact last
    | succ k ih => intro i h; exact round i (by omega) (ih (i + 1) (by omega))
  exact key m 0 (by omega)
end Go.Proofs.Yteneafgmcmgahaa.V
