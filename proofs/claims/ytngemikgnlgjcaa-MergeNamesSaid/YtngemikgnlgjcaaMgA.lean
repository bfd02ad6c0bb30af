/- merge: the chapter's names (part 1): the law by reckoning, with what Alone answers as known ahead. -/
import Derived.Test.YtngemikgnlgjcaaMgN
import Derived.Test.YtngemikgnlgjcaaV32
namespace Go.Proofs.Ytngemikgnlgjcaa.V
open Go Go.Proofs
set_option maxRecDepth 100000
set_option linter.unusedSimpArgs false
set_option linter.unusedVariables false
/-- The chapter's two events. -/
def evL : List AV := [.int .i64 3, .int .i64 1, .int .i64 0, .int .i64 1, .int .i64 0, .int .i64 0, .int .i64 9, .int .i64 1, .int .i64 1, .int .i64 1, .int .i64 0, .int .i64 0]
/-- Alone, of the two. -/
def aloneO : List AV → AH → Option (AV × AH)
  | [.slice b 0 2 (some 2), .int .i64 n], σ => match σ.get b with
    | .cells 23 [.int .i64 3, .int .i64 1, .int .i64 0, .int .i64 1, .int .i64 0, .int .i64 0, .int .i64 9, .int .i64 1, .int .i64 1, .int .i64 1, .int .i64 0, .int .i64 0] =>
      if n = 1 then some (.bool true, σ) else if n = 3 then some (.bool false, σ) else none
    | _ => none
  | _, _ => none
def orcAl : Orc := fun f => if Nat.beq f 8 = true then some aloneO else none
def okMg : List Nat := [3, 42, 43, 44, 45, 47, 4, 5, 6, 7, 9, 10, 11, 12, 13, 16, 15, 17, 18, 20, 21, 22, 23, 24, 25]
def qtMg : List Nat := [42, 43, 47, 4, 13, 7, 16, 9, 22, 23, 21, 15, 24, 25, 20, 8]
theorem okMg_ok : okFunsX Try.prog okMg = true := by kernel_rfl
theorem mg_run : answers (.bool true) (xF Try.prog orcAl qtMg okMg 80 3 [] h0) = true := by kernel_rfl
theorem mnames_of (ho : OrcOk Try.prog orcAl) : SC Try.prog 3 [] h0 (fun u _ => u = .bool true) := by
  have h := mg_run
  cases hr : xF Try.prog orcAl qtMg okMg 80 3 [] h0 with
  | none => rw [hr] at h; simp [answers] at h
  | some r =>
    obtain ⟨v, τ⟩ := r
    refine (xF_sound ho mixedlives okMg_ok 80 3 [] h0 v τ hr).mono ?_
    rintro u τ' ⟨rfl, rfl⟩
    rw [hr] at h
    unfold answers at h
    split at h
    · rename_i b τ'' e
      cases e
      simpa using h
    · cases h
end Go.Proofs.Ytngemikgnlgjcaa.V
