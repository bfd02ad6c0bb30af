/- event: the laws over any events and kinds (part 4): Name and Order as facts; one order for all, plainly. -/
import Derived.Test.YtdhpdaogakignaaDoorEvW
import Derived.Test.YtdhpdaogakignaaDoorEvX
namespace Go.Proofs.YtdhpdaogakignaaDoor.V
open Go Go.Proofs
set_option maxRecDepth 100000
set_option maxHeartbeats 4000000
set_option linter.unusedSimpArgs false
set_option linter.unusedVariables false
theorem name_tr : TrOk Tryd.prog 9 (pureT nameF) := by
  refine pureT_ok ?_
  intro xs v h
  unfold nameF at h
  split at h
  · cases h
    rename_i k
    refine ⟨rfl, rfl, ?_⟩
    by_cases hk : k < 1 ∨ 12 < k
    · refine sc_of_vc XE1_ok (by kernel_rfl) (nm_vc k _) ?_
      have hc : chipN k = 0 := by unfold chipN; rw [if_pos hk]
      have hn : nmB k = ⟨#[]⟩ := by
        unfold nmB
        repeat rw [if_neg (by omega)]
      unfold nm_VC
      simp [hc, hn]
    · have : k = 1 ∨ k = 2 ∨ k = 3 ∨ k = 4 ∨ k = 5 ∨ k = 6 ∨ k = 7 ∨ k = 8 ∨ k = 9 ∨ k = 10 ∨ k = 11 ∨ k = 12 := by omega
      rcases this with rfl | rfl | rfl | rfl | rfl | rfl | rfl | rfl | rfl | rfl | rfl | rfl
      · exact run_val nm_run1
      · exact run_val nm_run2
      · exact run_val nm_run3
      · exact run_val nm_run4
      · exact run_val nm_run5
      · exact run_val nm_run6
      · exact run_val nm_run7
      · exact run_val nm_run8
      · exact run_val nm_run9
      · exact run_val nm_run10
      · exact run_val nm_run11
      · exact run_val nm_run12
  · cases h
def lexN : List Int → List Int → Int
  | x :: r, y :: s => if cmpN x y ≠ 0 then cmpN x y else lexN r s
  | _, _ => 0
theorem cmp_cases (x y : Int) : (x < y ∧ cmpN x y = -1) ∨ (y < x ∧ cmpN x y = 1) ∨ (x = y ∧ cmpN x y = 0) := by
  unfold cmpN
  by_cases h : x < y
  · exact .inl ⟨h, by rw [if_pos h]⟩
  · by_cases h2 : x > y
    · exact .inr (.inl ⟨h2, by rw [if_neg h, if_pos h2]⟩)
    · exact .inr (.inr ⟨by omega, by rw [if_neg h, if_neg h2]⟩)
theorem lex_cons (x y : Int) (r s : List Int) : (x < y ∧ lexN (x :: r) (y :: s) = -1) ∨ (y < x ∧ lexN (x :: r) (y :: s) = 1) ∨ (x = y ∧ lexN (x :: r) (y :: s) = lexN r s) := by
  rcases cmp_cases x y with ⟨h, e⟩ | ⟨h, e⟩ | ⟨h, e⟩
  · exact .inl ⟨h, by simp [lexN, e]⟩
  · exact .inr (.inl ⟨h, by simp [lexN, e]⟩)
  · exact .inr (.inr ⟨h, by simp [lexN, e]⟩)
theorem lex_in : ∀ r s : List Int, -1 ≤ lexN r s ∧ lexN r s ≤ 1
  | [], _ => by simp [lexN]
  | _ :: _, [] => by simp [lexN]
  | x :: r, y :: s => by
    have ih := lex_in r s
    rcases lex_cons x y r s with ⟨_, e⟩ | ⟨_, e⟩ | ⟨_, e⟩ <;> rw [e] <;> omega
theorem lex_neg : ∀ r s : List Int, lexN s r = - lexN r s
  | [], [] => by simp [lexN]
  | [], _ :: _ => by simp [lexN]
  | _ :: _, [] => by simp [lexN]
  | x :: r, y :: s => by
    have ih := lex_neg r s
    rcases lex_cons x y r s with ⟨h, e⟩ | ⟨h, e⟩ | ⟨h, e⟩ <;> rcases lex_cons y x s r with ⟨h2, e2⟩ | ⟨h2, e2⟩ | ⟨h2, e2⟩ <;> rw [e, e2] <;> omega
theorem lex_zero : ∀ r s : List Int, r.length = s.length → (lexN r s = 0 ↔ r = s)
  | [], [], _ => by simp [lexN]
  | x :: r, y :: s, hl => by
    have ih := lex_zero r s (by simpa using hl)
    rcases lex_cons x y r s with ⟨h, e⟩ | ⟨h, e⟩ | ⟨h, e⟩
    · rw [e]; simp; omega
    · rw [e]; simp; omega
    · rw [e, ih]; simp [h]
theorem lex_trans : ∀ r s t : List Int, r.length = s.length → s.length = t.length → lexN r s ≤ 0 → lexN s t ≤ 0 → lexN r t ≤ 0 ∧ (lexN r t = 0 → lexN r s = 0 ∧ lexN s t = 0)
  | [], [], [], _, _, _, _ => by simp [lexN]
  | x :: r, y :: s, z :: t, h1, h2, a, b => by
    have ih := lex_trans r s t (by simpa using h1) (by simpa using h2)
    rcases lex_cons x y r s with ⟨p, e⟩ | ⟨p, e⟩ | ⟨p, e⟩ <;> rcases lex_cons y z s t with ⟨p2, e2⟩ | ⟨p2, e2⟩ | ⟨p2, e2⟩ <;> rcases lex_cons x z r t with ⟨p3, e3⟩ | ⟨p3, e3⟩ | ⟨p3, e3⟩ <;> rw [e] at a ⊢ <;> rw [e2] at b ⊢ <;> rw [e3] <;> (try omega)
theorem or_lex (a0 a1 a2 a3 a4 a5 b0 b1 b2 b3 b4 b5 : Int) : orN (cmpN a0 b0) (cmpN a1 b1) (cmpN a2 b2) (cmpN a3 b3) (cmpN a4 b4) (cmpN a5 b5) = lexN [a0, a1, a2, a3, a4, a5] [b0, b1, b2, b3, b4, b5] := by
  unfold orN
  simp only [lexN]
  generalize cmpN a5 b5 = f
  by_cases h : f = 0 <;> simp [h]
theorem sc_of_vcQ {gor : GOrc} {X : Cx} (hX : CxOk X) (hg : GOrcOk X.P gor) {f : Nat} (hd : okFunsX X.P [f] = true) (hl : ∀ p ∈ loopsOf (bodyOf X.P f) 0, ∀ L, X.lps p.1 = some L → LOk X.P p.2 L) {xs : List AV} {σ : AH} {s : Plan} {K : AV → Prop} {A : Prop} (e : funPQ gor X f xs σ s (fun v _ _ => K v) = A) (h : A) : SC X.P f xs σ (fun u _ => K u) :=
  (funPQ_sound hX hg hd hl xs σ s _ (e.mpr h)).mono (fun v σ ⟨s, q⟩ => q)
def ordF : List AV → Option AV
  | [.agg [.int .i64 a0, .int .i64 a1, .int .i64 a2, .int .i64 a3, .int .i64 a4, .int .i64 a5], .agg [.int .i64 b0, .int .i64 b1, .int .i64 b2, .int .i64 b3, .int .i64 b4, .int .i64 b5]] => some (.int .i64 (lexN [a0, a1, a2, a3, a4, a5] [b0, b1, b2, b3, b4, b5]))
  | _ => none
theorem ord_tr : TrOk Tryd.prog 11 (pureT ordF) := by
  refine pureT_ok ?_
  intro xs v h
  unfold ordF at h
  split at h
  · cases h
    rename_i a0 a1 a2 a3 a4 a5 b0 b1 b2 b3 b4 b5
    refine ⟨rfl, rfl, ?_⟩
    exact sc_of_vcQ XE0_ok evG_ok (f := 11) (by kernel_rfl) (fun p _ L hL => by cases hL) (K := fun u => u = .int .i64 (lexN [a0, a1, a2, a3, a4, a5] [b0, b1, b2, b3, b4, b5])) (ord_vc a0 a1 a2 a3 a4 a5 b0 b1 b2 b3 b4 b5 (fun u => u = .int .i64 (lexN [a0, a1, a2, a3, a4, a5] [b0, b1, b2, b3, b4, b5])) ()) (by unfold ord_VC; rw [or_lex])
  · cases h
def purE2 : Pur := [(7, lvF), (8, chipF), (9, nameF), (11, ordF)]
theorem purE2_ok : PurOk Tryd.prog purE2 := PurOk.cons lv_tr <| PurOk.cons chip_tr <| PurOk.cons name_tr <| PurOk.cons ord_tr PurOk.nil
noncomputable def XE2 : Cx := cxP Tryd.prog purE2 []
theorem XE2_ok : CxOk (cxP Tryd.prog purE2 []) := cxP_ok mixedev purE2_ok rfl
end Go.Proofs.YtdhpdaogakignaaDoor.V
