/- Printed by vc.py: what must hold for functions' ways (LlP). link: what is sent and taken (part 11): the law's way to its loop, as jobs. -/
import Derived.Test.YtfamikdibjhnpaaLkJ
namespace Go.Proofs.Ytfamikdibjhnpaa.V
open Go Go.Proofs
set_option maxRecDepth 100000
set_option linter.unusedVariables false
def pk9_VC (a : Int) (K : AV → Prop) : Prop :=
  ((decide (Int.tmod a (9 : Int) < (0 : Int))) = true →
    K (AV.int IntKind.i64 (IntKind.wrap IntKind.i64 (Int.tmod a (9 : Int) + (9 : Int))))) ∧
  ((decide (Int.tmod a (9 : Int) < (0 : Int))) = false →
    K (AV.int IntKind.i64 (Int.tmod a (9 : Int))))
def pk9_scr : Plan := .k (.k (.b (.z) (.z)))
theorem pk9_vc (a : Int) (K : AV → Prop) : (funP (cxP Try.prog [] []) 5 [.int .i64 a, .int .i64 9] h0 pk9_scr (fun v _ _ => K v)) = pk9_VC a K := by kernel_rfl
end Go.Proofs.Ytfamikdibjhnpaa.V
namespace Go.Proofs.Ytfamikdibjhnpaa.V
open Go Go.Proofs
set_option maxRecDepth 100000
set_option linter.unusedSimpArgs false
set_option linter.unusedVariables false
def oneOf (K : Int → Plan → Prop) : Nat → Plan → Prop
  | 0, s => K (Int.ofNat 0) s
  | j + 1, s => bothK s (fun s => K (Int.ofNat (j + 1)) s) (fun s => oneOf K j s)
theorem oneOf_ok {K : Int → Plan → Prop} : ∀ {m : Nat} {s : Plan}, oneOf K m s → ∀ j, j ≤ m → ∃ s, K (Int.ofNat j) s
  | 0, s, h, j, hj => by
    obtain rfl : j = 0 := by omega
    exact ⟨s, h⟩
  | m + 1, s, h, j, hj => by
    obtain ⟨h1, s', h2⟩ := bothK_ok h
    by_cases e : j = m + 1
    · subst e; exact h1
    · exact oneOf_ok h2 j (by omega)
/-- Pick among nine. -/
def pickTr : Tr1 := fun xs σ s K => match xs with
  | [.int .i64 a, .int .i64 9] => oneOf (fun j s => K (.int .i64 j) σ s) 8 s
  | _ => False
theorem pickTr_ok : TrOk Try.prog 5 pickTr := by
  intro xs σ s K e
  unfold pickTr at e
  split at e
  · rename_i a
    have h1 : -9 < Int.tmod a 9 := Int.lt_tmod_of_pos a (by omega)
    have h2 : Int.tmod a 9 < 9 := Int.tmod_lt_of_pos a (by omega)
    have key : SC Try.prog 5 [.int .i64 a, .int .i64 9] h0 (fun u _ => u = .int .i64 (if Int.tmod a 9 < 0 then Int.tmod a 9 + 9 else Int.tmod a 9)) := by
      refine (funP_sound XL0_ok (f := 5) (by kernel_rfl) (fun p _ L hL => by cases hL) _ _ pk9_scr _ ((pk9_vc a (fun u => u = .int .i64 (if Int.tmod a 9 < 0 then Int.tmod a 9 + 9 else Int.tmod a 9))).mpr ?_)).mono (fun v σ ⟨s, q⟩ => q)
      unfold pk9_VC
      refine ⟨fun h => ?_, fun h => ?_⟩
      · have h := of_decide_eq_true h
        rw [if_pos h, wrap_in (by omega) (by omega)]
      · have h := of_decide_eq_false h
        rw [if_neg h]
    refine (SC.any rfl rfl key σ).mono ?_
    rintro u τ ⟨rfl, rfl⟩
    generalize hv : (if Int.tmod a 9 < 0 then Int.tmod a 9 + 9 else Int.tmod a 9) = v at *
    have hv2 : 0 ≤ v ∧ v ≤ 8 := by rw [← hv]; split <;> omega
    obtain ⟨m, rfl⟩ := Int.eq_ofNat_of_zero_le hv2.1
    exact oneOf_ok e m (by omega)
  · exact e.elim
def okNw : List Nat := [6]
theorem okNw_ok : okFunsX Try.prog okNw = true := by kernel_rfl
noncomputable def XPr : Cx := ⟨Try.prog, inl Try.prog (purO []) [] 20 (withT 4 (pureT livesF) (withT 5 pickTr (purT []))) okNw 3, purO [], [], 20, lookL []⟩
theorem XPr_ok : CxOk XPr := ⟨inl_ok (purO_ok PurOk.nil) mixedlives (withT_ok lives_tr (withT_ok pickTr_ok (purT_ok PurOk.nil))) okNw_ok 3, purO_ok PurOk.nil, mixedlives⟩
def slP : List Nat := [6, 1, 2, 7, 8, 10, 11]
def slT : List Nat := [6, 8, 10, 11]
def frP (n : Nat) (lv tv : AV) : AF := ⟨162, [(1, lv), (2, tv), (7, .int .i64 (n : Int)), (8, .ptr 3 0), (10, .nilslice), (11, .nilslice)]⟩
end Go.Proofs.Ytfamikdibjhnpaa.V
