/- link: what is sent and taken (part 3): the law's round in pieces. -/
import Derived.Test.YtfamikdibjhnpaaLkE
import Derived.Test.YtfamikdibjhnpaaV31
namespace Go.Proofs.Ytfamikdibjhnpaa.V
open Go Go.Proofs
set_option maxRecDepth 100000
set_option linter.unusedSimpArgs false
set_option linter.unusedVariables false
noncomputable def lkBody : Code := loopAt Try.prog 3 0
noncomputable def lkB : Code := inC (hdC (tlC lkBody))
noncomputable def lkH : Code := hdC lkBody
noncomputable def lkI : Code := tlC (tlC lkBody)
noncomputable def lkS1 : List Code := [hdC lkB, hdC (tlC lkB), hdC (tlC (tlC lkB))]
noncomputable def lkS2 : List Code := [hdC (tlC (tlC (tlC lkB)))]
noncomputable def lkS3 : List Code := [hdC (tlC (tlC (tlC (tlC lkB))))]
noncomputable def lkS4 : Code := tlC (tlC (tlC (tlC (tlC lkB))))
theorem lkBody_eq : lkBody = seqs [lkH] (.seq (.block 1 lkB) lkI) := by kernel_rfl
theorem lkB_eq : lkB = seqs lkS1 (seqs lkS2 (seqs lkS3 lkS4)) := by kernel_rfl
noncomputable def lkSy : List Nat := symC Try.prog (bodyOf Try.prog 3) []
def slR : List Nat := [1, 2, 7, 8, 10, 11, 12]
def slE : List Nat := [1, 2, 7, 8, 10, 11, 12, 13, 14]
def frR (n : Nat) (lv tv iv ov : AV) (i : Int) : AF := ⟨162, [(1, lv), (2, tv), (7, .int .i64 (n : Int)), (8, .ptr 3 0), (10, iv), (11, ov), (12, .int .i64 i)]⟩
def frE (n : Nat) (lv tv iv ov : AV) (i : Int) (fb : Bool) (er : Int) : AF := ⟨162, [(1, lv), (2, tv), (7, .int .i64 (n : Int)), (8, .ptr 3 0), (10, iv), (11, ov), (12, .int .i64 i), (13, .bool fb), (14, .int .i64 er)]⟩
def hpR (n : Nat) (fr ct mk : Int) (en : Bool) (rc lc : List AV) (a1 a4 a5 : AObj) : AH := ⟨6, [(3, lkObj n fr ct mk en), (2, .cells 33 rc), (0, .ro lc), (1, a1), (4, a4), (5, a5)]⟩
end Go.Proofs.Ytfamikdibjhnpaa.V
