/- keys: lists of touches (part 2): one touch; states of the loops that check. -/
import Derived.Test.YteneafgmcmgahaaKpV
namespace Go.Proofs.Yteneafgmcmgahaa.V
open Go Go.Proofs
set_option maxRecDepth 100000
set_option linter.unusedSimpArgs false
set_option linter.unusedVariables false
theorem tch_tr : TrOk Try.prog 25 (pureT tchF) := by
  refine pureT_ok ?_
  intro xs v h
  unfold tchF at h
  split at h
  · cases h
    rename_i t w k o
    refine ⟨rfl, rfl, sc_of_vc XK0_ok (by kernel_rfl) (one_vc t w k o _) ?_⟩
    unfold one_VC tchB
    by_cases h1 : t < 0
    · simp [h1]
    · by_cases h2 : t > 1099511627776
      · simp [h1, h2]
      · by_cases h3 : w = 1
        · by_cases h4 : 0 ≤ k <;> simp [h1, h2, h3, h4]
        · by_cases h5 : w = 2 <;> simp [h1, h2, h3, h5]
  · cases h
theorem mayT_tr : TrOk Try.prog 26 (pureT mayTF) := by
  refine pureT_ok ?_
  intro xs v h
  unfold mayTF at h
  split at h
  · cases h
    rename_i t
    refine ⟨rfl, rfl, sc_of_vc XK0_ok (by kernel_rfl) (may_vc t _) ?_⟩
    unfold may_VC mayTB
    by_cases h1 : 0 ≤ t <;> simp [h1]
  · cases h
def purK1 : Pur := [(25, tchF), (26, mayTF)]
theorem purK1_ok : PurOk Try.prog purK1 := PurOk.cons tch_tr <| PurOk.cons mayT_tr PurOk.nil
noncomputable def XK1 : Cx := cxP Try.prog purK1 []
theorem XK1_ok : CxOk (cxP Try.prog purK1 []) := cxP_ok mixedky purK1_ok rfl
/-- The touch at a place. -/
def tAt (l : List Tc) (i : Nat) : Tc := l.getD i (0, 0, 0, false)
theorem tcs_len : ∀ l : List Tc, (tcs l).length = l.length * 4
  | [] => rfl
  | x :: l => by
    have := tcs_len l
    unfold tcs at this ⊢
    simp only [List.flatMap_cons, List.length_append, this, List.length_cons, tcC, List.length_nil]
    omega
theorem tcs_get : ∀ {l : List Tc} {i : Nat}, i < l.length → ∀ j, j < 4 → (tcs l).getD (i * 4 + j) (.tup []) = (tcC (tAt l i)).getD j (.tup [])
  | x :: l, 0, _, j, hj => by
    unfold tcs tAt
    simp only [List.flatMap_cons, Nat.zero_mul, Nat.zero_add, List.getD_cons_zero]
    rw [List.getD_eq_getElem?_getD, List.getD_eq_getElem?_getD, List.getElem?_append_left (by simp [tcC]; omega)]
  | x :: l, i + 1, h, j, hj => by
    have ih := tcs_get (l := l) (i := i) (by simpa using h) j hj
    unfold tcs tAt at ih ⊢
    simp only [List.flatMap_cons, List.getD_cons_succ]
    rw [List.getD_eq_getElem?_getD, List.getElem?_append_right (by simp [tcC]; omega), ← List.getD_eq_getElem?_getD]
    rw [show (i + 1) * 4 + j - (tcC x).length = i * 4 + j by simp [tcC]; omega]
    exact ih
/-- May the touch at a place be? -/
def okAt (l : List Tc) (i : Nat) : Bool := tchB (tAt l i).1 (tAt l i).2.1 (tAt l i).2.2.1 && (decide (i = 0) || !decide ((tAt l i).1 < (tAt l (i - 1)).1))
def okTo (l : List Tc) : Nat → Bool
  | 0 => true
  | i + 1 => okTo l i && okAt l i
/-- What Check answers. -/
def chkN (l : List Tc) : Int := if okTo l l.length = true then 0 else 2
theorem okTo_le {l : List Tc} : ∀ {i j : Nat}, i ≤ j → okTo l j = true → okTo l i = true
  | 0, 0, h, q => q
  | i + 1, 0, h, q => absurd h (by omega)
  | i, j + 1, h, q => by
    by_cases e : i = j + 1
    · subst e; exact q
    · simp only [okTo, Bool.and_eq_true] at q
      exact okTo_le (by omega) q.1
theorem wrap_in {n : Int} (h1 : -9223372036854775808 ≤ n) (h2 : n ≤ 9223372036854775807) : IntKind.i64.wrap n = n := by
  rw [IntKind.wrap_i64]; omega
def cSt (n : Nat) (i : Int) (cs : List AV) : AF × AH := (⟨34, [(0, .slice 0 0 n none), (8, .slice 0 0 n none), (9, .int .i64 n), (10, .int .i64 i)]⟩, ⟨1, [(0, .ro cs)]⟩)
def cE (cs : List AV) : AF × AH := (⟨34, []⟩, ⟨1, [(0, .ro cs)]⟩)
def cB (cs : List AV) : AF × AH := (⟨34, [(2, .int .i64 2)]⟩, ⟨1, [(0, .ro cs)]⟩)
def rE (cs : List AV) : AF × AH := (⟨65, []⟩, ⟨1, [(0, .ro cs)]⟩)
def rB (cs : List AV) : AF × AH := (⟨65, [(2, .int .i64 2)]⟩, ⟨1, [(0, .ro cs)]⟩)
def rSt (n : Nat) (i : Int) (cs : List AV) : AF × AH := (⟨65, [(0, .slice 0 0 n none), (3, .int .i64 i)]⟩, ⟨1, [(0, .ro cs)]⟩)
def brT (c : Bool) (A B : Prop) : Prop := if c = true then A else B
def LC (l : List Tc) : LTr := fun n0 fr σ s K => need (n0 = 1) ∧ need (Fits 1 [(0, 0)] fr σ (cSt l.length 0 (tcs l)).1 (cSt l.length 0 (tcs l)).2) ∧ need (l.length ≤ 1000) ∧ (okTo l l.length = true → K (.exit 0) (cE (tcs l)).1 (cE (tcs l)).2 s) ∧ (okTo l l.length = false → K .ret (cB (tcs l)).1 (cB (tcs l)).2 s)
def LR (l : List Tc) : LTr := fun n0 fr σ s K => need (n0 = 1) ∧ need (Fits 1 [(0, 0)] fr σ (rSt l.length 0 (tcs l)).1 (rSt l.length 0 (tcs l)).2) ∧ need (l.length ≤ 1000) ∧ (okTo l l.length = true → K (.exit 0) (rE (tcs l)).1 (rE (tcs l)).2 s) ∧ (okTo l l.length = false → K .ret (rB (tcs l)).1 (rB (tcs l)).2 s)
noncomputable def XC (l : List Tc) : Cx := ⟨Try.prog, purT purK1, purO purK1, purK1.map (·.1), 20, lookL [(0, LC l)]⟩
noncomputable def XR (l : List Tc) : Cx := ⟨Try.prog, purT purK1, purO purK1, purK1.map (·.1), 20, lookL [(0, LR l)]⟩
theorem XC_ok (l : List Tc) : CxOk (XC l) := ⟨purT_ok purK1_ok, purO_ok purK1_ok, mixedky⟩
theorem XR_ok (l : List Tc) : CxOk (XR l) := ⟨purT_ok purK1_ok, purO_ok purK1_ok, mixedky⟩
def hT (l : List Tc) : AH := ⟨1, [(0, .ro (tcs l))]⟩
end Go.Proofs.Yteneafgmcmgahaa.V
