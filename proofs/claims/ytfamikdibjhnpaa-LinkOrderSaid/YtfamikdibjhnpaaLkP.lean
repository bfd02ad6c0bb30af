/- link: what is sent and taken (part 7): All and Msgs, their rounds' states. -/
import Derived.Test.YtfamikdibjhnpaaLkM
namespace Go.Proofs.Ytfamikdibjhnpaa.V
open Go Go.Proofs
set_option maxRecDepth 100000
set_option linter.unusedVariables false
noncomputable def syA : List Nat := symC Try.prog (bodyOf Try.prog 13) []
noncomputable def syM : List Nat := symC Try.prog (bodyOf Try.prog 12) []
def slA : List Nat := [0, 3, 6, 7]
def slM : List Nat := [0, 1, 5]
def lkRo (n : Nat) (fr ct mk : Int) (en : Bool) : List AV := [.slice 0 0 n (some n), .int .i64 fr, .int .i64 ct, .int .i64 mk, .bool en]
def aF (ov : AV) (ct i : Int) : AF := ⟨33, [(0, .ptr 1 0), (3, ov), (6, .int .i64 ct), (7, .int .i64 i)]⟩
def aH0 (n : Nat) (fr ct mk : Int) (en : Bool) (rc : List AV) : AH := ⟨2, [(1, .ro (lkRo n fr ct mk en)), (0, .ro rc)]⟩
def aH1 (n : Nat) (fr ct mk : Int) (en : Bool) (rc ac : List AV) : AH := ⟨3, [(2, .opn 33 7 ac), (1, .ro (lkRo n fr ct mk en)), (0, .ro rc)]⟩
def mFr (m m' off : Nat) (i : Int) : AF := ⟨26, [(0, .slice 0 0 m none), (1, .slice 1 off m' none), (5, .int .i64 i)]⟩
def mHp (la lb : List AV) : AH := ⟨2, [(1, .ro lb), (0, .ro la)]⟩
noncomputable def AllL : Code := loopAt Try.prog 13 0
noncomputable def MsgsL : Code := loopAt Try.prog 12 0
end Go.Proofs.Ytfamikdibjhnpaa.V
