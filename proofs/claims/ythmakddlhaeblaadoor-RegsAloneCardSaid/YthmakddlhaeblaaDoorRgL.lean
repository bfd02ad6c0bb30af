/- regs: the law of what is put (part 1): what is known ahead. -/
import Derived.Test.YthmakddlhaeblaaDoorRgK
namespace Go.Proofs.YthmakddlhaeblaaDoor.V
open Go Go.Proofs
set_option maxRecDepth 100000
set_option linter.unusedSimpArgs false
set_option linter.unusedVariables false
noncomputable def XP0 : Cx := cxP Tryd.prog [] []
def pkG (b : Int) : List AV → Option (Bool × AV)
  | [.int .i64 n, .int .i64 8] => some (decide (mdN n 8 = b), .int .i64 b)
  | [.int .i64 n, .int .i64 4] => some (decide (mdN n 8 = b), .int .i64 (b % 4))
  | _ => none
def pkN (n m : Int) : Int := if m < 1 then 0 else if n.tmod m < 0 then IntKind.i64.wrap (n.tmod m + m) else n.tmod m
theorem pk_md {n m : Int} (h1 : 1 ≤ m) (h2 : m ≤ 100) : (if n.tmod m < 0 then IntKind.i64.wrap (n.tmod m + m) else n.tmod m) = mdN n m := by
  have a := Int.tmod_lt_of_pos n (show 0 < m by omega)
  have b : -m < n.tmod m := by
    have := Int.tmod_lt_of_pos (-n) (show 0 < m by omega)
    rw [Int.neg_tmod] at this
    omega
  unfold mdN
  rw [wrap_in (by omega) (by omega)]
  generalize n.tmod m = x at *
  by_cases h : x < 0
  · rw [if_pos h]
    exact (Int.tmod_eq_of_lt (by omega) (by omega)).symm
  · rw [if_neg h, Int.tmod_eq_emod_of_nonneg (by omega), Int.add_emod_right, Int.emod_eq_of_lt (by omega) a]
theorem md_48 {n : Int} : mdN n 4 = mdN n 8 % 4 := by
  rw [← pk_md (by decide) (by decide), ← pk_md (by decide) (by decide)]
  have e : n.tmod 4 = (n.tmod 8).tmod 4 := by
    rw [Int.tmod_tmod_of_dvd]
    exact ⟨2, rfl⟩
  have a := Int.tmod_lt_of_pos n (show (0 : Int) < 8 by omega)
  have b : -8 < n.tmod 8 := by
    have := Int.tmod_lt_of_pos (-n) (show (0 : Int) < 8 by omega)
    rw [Int.neg_tmod] at this
    omega
  rw [e]
  generalize n.tmod 8 = x at *
  have : x = -7 ∨ x = -6 ∨ x = -5 ∨ x = -4 ∨ x = -3 ∨ x = -2 ∨ x = -1 ∨ x = 0 ∨ x = 1 ∨ x = 2 ∨ x = 3 ∨ x = 4 ∨ x = 5 ∨ x = 6 ∨ x = 7 := by omega
  rcases this with rfl | rfl | rfl | rfl | rfl | rfl | rfl | rfl | rfl | rfl | rfl | rfl | rfl | rfl | rfl <;> decide +kernel
end Go.Proofs.YthmakddlhaeblaaDoor.V
