/- merge: the chapter's names (part 3): calls over memory that is only read, told at the model's level; the iterator where nothing is of the chip. -/
import Derived.Test.YtngemikgnlgjcaaMgB
import Derived.Test.YtngemikgnlgjcaaV33
namespace Go.Proofs.Ytngemikgnlgjcaa.V
open Go Go.Proofs Go.RowKit
set_option maxRecDepth 100000
set_option linter.unusedSimpArgs false
set_option linter.unusedVariables false
def evS : AH := ⟨3, [(2, .ro [.int .i64 3]), (1, .ro [.slice 0 0 2 (some 2)]), (0, .ro evL)]⟩
theorem XL0_ok : CxOk (cxP Try.prog [] []) := cxP_ok mixedlives PurOk.nil rfl

theorem sc_of_vcH {X : Cx} {f : Nat} (hX : CxOk X) (hd : okFunsX X.P [f] = true) (hl : ∀ p ∈ loopsOf (bodyOf X.P f) 0, ∀ L, X.lps p.1 = some L → LOk X.P p.2 L) {xs : List AV} {σ : AH} {s : Plan} {K : AV → AH → Prop} {A : Prop} (e : funP X f xs σ s (fun v σ _ => K v σ) = A) (h : A) : SC X.P f xs σ K :=
  (funP_sound hX hd hl xs σ s _ (e.mpr h)).mono (fun v σ ⟨s, q⟩ => q)
theorem parts0_sc (l : Nat) : SC Try.prog 19 [.func (.yield l) [] [], .ptr 1 0, .ptr 2 0] evS (fun u _ => u = .tup []) :=
  sc_of_vcH XL0_ok (by kernel_rfl) (fun p _ L hL => by cases hL) (pz_vc l (fun u _ => u = .tup [])) rfl
def evV : Array Value := #[.int .i64 3, .int .i64 1, .int .i64 0, .int .i64 1, .int .i64 0, .int .i64 0, .int .i64 9, .int .i64 1, .int .i64 1, .int .i64 1, .int .i64 0, .int .i64 0]
theorem evV_VRs (ρ : Ren) : VRs ρ evL evV.toList := by
  unfold evL evV
  exact .cons (.int _ _) (.cons (.int _ _) (.cons (.int _ _) (.cons (.int _ _) (.cons (.int _ _) (.cons (.int _ _) (.cons (.int _ _) (.cons (.int _ _) (.cons (.int _ _) (.cons (.int _ _) (.cons (.int _ _) (.cons (.int _ _) .nil)))))))))))
def rh3 (B s1 s2 : Nat) : Ren := fun b => if b = 0 then some ⟨B, 0, 1, 2⟩ else if b = 1 then some ⟨s1, 0, 1, 1⟩ else if b = 2 then some ⟨s2, 0, 1, 1⟩ else none
theorem evS_wr : ∀ b, (evS.get b).wr = false := by
  intro i
  by_cases i0 : i = 0
  · subst i0; rfl
  · by_cases i1 : i = 1
    · subst i1; rfl
    · by_cases i2 : i = 2
      · subst i2; rfl
      · simp [evS, AH.get, lookH, Ne.symm i0, Ne.symm i1, Ne.symm i2, AObj.wr]
theorem evS_HR {B s1 s2 : Nat} {W : World} (hB : W.heap[B]? = some (.cells evV 23 (0, 0))) (h1 : W.heap[s1]? = some (.cells #[.slice (some ⟨B, 0, none⟩) 2 2] 25 (0, 0))) (h2 : W.heap[s2]? = some (.cells #[.int .i64 3] 3 (0, 0))) : HR (rh3 B s1 s2) evS W := by
  have cases3 : ∀ {b r}, rh3 B s1 s2 b = some r → (b = 0 ∧ r = ⟨B, 0, 1, 2⟩) ∨ (b = 1 ∧ r = ⟨s1, 0, 1, 1⟩) ∨ (b = 2 ∧ r = ⟨s2, 0, 1, 1⟩) := by
    intro b r h
    unfold rh3 at h
    split at h
    · cases h; exact .inl ⟨by assumption, rfl⟩
    · split at h
      · cases h; exact .inr (.inl ⟨by assumption, rfl⟩)
      · split at h
        · cases h; exact .inr (.inr ⟨by assumption, rfl⟩)
        · cases h
  refine ⟨?_, ?_, ?_, fun b b' r r' _ _ _ hw _ => by rw [evS_wr] at hw; cases hw⟩
  · intro b r h
    show b < 3
    rcases cases3 h with ⟨e, _⟩ | ⟨e, _⟩ | ⟨e, _⟩ <;> omega
  · intro b r h
    rcases cases3 h with ⟨_, rfl⟩ | ⟨_, rfl⟩ | ⟨_, rfl⟩
    · exact (Array.getElem?_eq_some_iff.1 hB).1
    · exact (Array.getElem?_eq_some_iff.1 h1).1
    · exact (Array.getElem?_eq_some_iff.1 h2).1
  · intro b r h
    rcases cases3 h with ⟨rfl, rfl⟩ | ⟨rfl, rfl⟩ | ⟨rfl, rfl⟩
    · exact ⟨[], evV.toList, [], 23, (0, 0), by simpa using hB, rfl, evV_VRs _⟩
    · exact ⟨[], [.slice (some ⟨B, 0, none⟩) 2 2], [], 25, (0, 0), h1, rfl, .cons (.slice (o := 0) (b := 0) (r := ⟨B, 0, 1, 2⟩) rfl) .nil⟩
    · exact ⟨[], [.int .i64 3], [], 3, (0, 0), h2, rfl, .cons (.int _ _) .nil⟩
/-- The iterator, where nothing is of the chip: it never yields. -/
theorem parts0 (n l B s1 s2 : Nat) (W : World) (hB : W.heap[B]? = some (.cells evV 23 (0, 0))) (h1 : W.heap[s1]? = some (.cells #[.slice (some ⟨B, 0, none⟩) 2 2] 25 (0, 0))) (h2 : W.heap[s2]? = some (.cells #[.int .i64 3] 3 (0, 0))) :
    CallsIn Fence.wide n Try.prog 19 #[.func (.yield l) #[] #[], .pointer (some ⟨s1, 0, none⟩), .pointer (some ⟨s2, 0, none⟩)] W fun e W' => (∃ v, e = .returned v) ∧ Below W.heap.size W W' := by
  refine callsIn_wide.2 (Calls.mono (calls_ro (evS_HR hB h1 h2) evS_wr (.cons (.func .nil .nil) (.cons (.ptr (o := 0) (b := 1) (r := ⟨s1, 0, 1, 1⟩) rfl) (.cons (.ptr (o := 0) (b := 2) (r := ⟨s2, 0, 1, 1⟩) rfl) .nil))) (parts0_sc l)) ?_)
  rintro e w' ⟨u, v', ρ', rfl, _, _, hb⟩
  exact ⟨⟨v', rfl⟩, hb⟩
end Go.Proofs.Ytngemikgnlgjcaa.V
