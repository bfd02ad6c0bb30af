/- event: the laws over any events and kinds (part 2): Chip, Name, Compare, Or as facts. -/
import Derived.Test.YtdhpdaogakignaaDoorEvV
namespace Go.Proofs.YtdhpdaogakignaaDoor.V
open Go Go.Proofs
set_option maxRecDepth 100000
set_option linter.unusedSimpArgs false
set_option linter.unusedVariables false
theorem chip_tr : TrOk Tryd.prog 8 (pureT chipF) := by
  refine pureT_ok ?_
  intro xs v h
  unfold chipF at h
  split at h
  · cases h
    rename_i k
    refine ⟨rfl, rfl, sc_of_vc XE0_ok (by kernel_rfl) (chp_vc k _) ?_⟩
    unfold chp_VC chipN
    by_cases h1 : k < 1
    · simp [h1]
    · by_cases h2 : 12 < k
      · simp [h1, h2]
      · by_cases h3 : k ≤ 6
        · simp [h1, h2, h3]
        · by_cases h4 : k ≤ 10
          · simp [h1, h2, h3, h4]
          · by_cases h5 : k = 11 <;> simp [h1, h2, h3, h4, h5]
  · cases h
theorem cmp1_tr : TrOk Tryd.prog 18 (pureT cmpF) := by
  refine pureT_ok ?_
  intro xs v h
  unfold cmpF at h
  split at h
  · cases h
    rename_i x y
    refine ⟨rfl, rfl, sc_of_vc XE0_ok (by kernel_rfl) (cm1_vc x y _) ?_⟩
    unfold cm1_VC cmpN
    by_cases h1 : x < y
    · simp [h1]
    · by_cases h2 : y < x <;> simp [h1, h2]
  · cases h
theorem cmp2_tr : TrOk Tryd.prog 19 (pureT cmpF) := by
  refine pureT_ok ?_
  intro xs v h
  unfold cmpF at h
  split at h
  · cases h
    rename_i x y
    refine ⟨rfl, rfl, sc_of_vc XE0_ok (by kernel_rfl) (cm2_vc x y _) ?_⟩
    unfold cm2_VC cmpN
    by_cases h1 : x < y
    · simp [h1]
    · by_cases h2 : y < x <;> simp [h1, h2]
  · cases h
theorem or6_sc (a b c d e f : Int) : SC Tryd.prog 17 [.slice 0 0 6 (some 6)] (h6 a b c d e f) (fun x _ => x = .int .i64 (orN a b c d e f)) := by
  show SC (cxP Tryd.prog [] [27, 28]).P _ _ _ _
  refine (funP_sound XE0_ok (f := 17) (by kernel_rfl) (fun p _ L hL => by cases hL) _ _ or6_scr _ ((or6_vc a b c d e f (fun x _ => x = .int .i64 (orN a b c d e f))).mpr ?_)).mono (fun v σ ⟨s, q⟩ => q)
  unfold or6_VC orN
  by_cases h1 : a = 0
  · by_cases h2 : b = 0
    · by_cases h3 : c = 0
      · by_cases h4 : d = 0
        · by_cases h5 : e = 0
          · by_cases h6 : f = 0 <;> simp [h1, h2, h3, h4, h5, h6]
          · simp [h1, h2, h3, h4, h5]
        · simp [h1, h2, h3, h4]
      · simp [h1, h2, h3]
    · simp [h1, h2]
  · simp [h1]
/-- cmp.Or of a row of six, wherever it lies. -/
def orG : List AV → AH → G
  | [.slice b 0 6 (some 6)], σ => match (σ.get b).cs? with
    | some [.int .i64 a0, .int .i64 a1, .int .i64 a2, .int .i64 a3, .int .i64 a4, .int .i64 a5] => some ([Nat.blt b σ.nx], .int .i64 (orN a0 a1 a2 a3 a4 a5), σ)
    | _ => none
  | _, _ => none
def cmpG : List AV → AH → G
  | [.int .i64 x, .int .i64 y], σ => some ([], .int .i64 (cmpN x y), σ)
  | _, _ => none
def evG : GOrc := fun f => if Nat.beq f 17 = true then some orG else if Nat.beq f 18 = true then some cmpG else if Nat.beq f 19 = true then some cmpG else none
theorem sc_of_pureT {P : Program} {f : Nat} {F : List AV → Option AV} (h : TrOk P f (pureT F)) {xs : List AV} {v : AV} (e : F xs = some v) (σ : AH) : SC P f xs σ (fun u τ => u = v ∧ τ = σ) :=
  (h xs σ .z (fun u τ _ => u = v ∧ τ = σ) (by unfold pureT; rw [e]; exact ⟨rfl, rfl⟩)).mono fun u τ ⟨_, q⟩ => q
theorem evG_ok : GOrcOk Tryd.prog evG := by
  intro f F hf xs σ gs v τ h hg
  unfold evG at hf
  split at hf
  · rename_i e
    cases hf
    obtain rfl := Nat.eq_of_beq_eq_true e
    unfold orG at h
    split at h
    · rename_i b
      split at h
      · rename_i a0 a1 a2 a3 a4 a5 hc
        cases h
        obtain ⟨g1, _⟩ := allB_cons hg
        have hb : b < σ.nx := Nat.blt_eq ▸ g1
        refine SC.frameZ (σ0 := h6 a0 a1 a2 a3 a4 a5) (args0 := [.slice 0 0 6 (some 6)]) (fun i => if i = 0 then some b else none) (fun x => if x = b then some 0 else none) ?_ ?_ ?_ (by simp [renL, AV.ren]) rfl (or6_sc a0 a1 a2 a3 a4 a5)
        · intro i hi
          have hi : i < 1 := hi
          obtain rfl : i = 0 := by omega
          exact ⟨b, _, _, rfl, hb, hc, rfl, .inr ⟨rfl, rfl⟩⟩
        · intro i
          by_cases i0 : i = 0
          · subst i0; rfl
          · simp [h6, AH.get, lookH, Ne.symm i0, AObj.wr]
        · intro x c hx
          split at hx
          · rename_i hxb
            cases hx
            exact ⟨show 0 < 1 by omega, by simp [hxb]⟩
          · cases hx
      · cases h
    · cases h
  · split at hf
    · rename_i e
      cases hf
      obtain rfl := Nat.eq_of_beq_eq_true e
      unfold cmpG at h
      split at h
      · cases h
        exact sc_of_pureT cmp1_tr rfl σ
      · cases h
    · split at hf
      · rename_i e
        cases hf
        obtain rfl := Nat.eq_of_beq_eq_true e
        unfold cmpG at h
        split at h
        · cases h
          exact sc_of_pureT cmp2_tr rfl σ
        · cases h
      · cases hf
end Go.Proofs.YtdhpdaogakignaaDoor.V
