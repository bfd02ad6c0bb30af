/- regs: the chapter's examples, by reckoning: what strings.Join and bits.TrailingZeros answer is known ahead. -/
import Derived.Test.YthmakddlhaeblaaDoorV20
import Derived.Test.YthmakddlhaeblaaDoorT
import Derived.Lib.Join
namespace Go.Proofs.YthmakddlhaeblaaDoor.V
open Go Go.Proofs
set_option maxRecDepth 100000
set_option linter.unusedSimpArgs false
set_option linter.unusedVariables false
theorem mixedrg : Tryd.prog.follows .mixedOrders = true := by kernel_rfl
/-- The strings of a row. -/
def strsOf : List AV → Option (List ByteArray)
  | [] => some []
  | .str s :: r => match strsOf r with
    | some l => some (s :: l)
    | none => none
  | _ :: _ => none
def joinB (xs : List ByteArray) (sep : ByteArray) : ByteArray := ⟨(Lib.join (xs.map (·.data.toList)) sep.data.toList).toArray⟩
/-- strings.Join, of a row that the call made itself. -/
def joinO : List AV → AH → Option (AV × AH)
  | [.slice b 0 n none, .str sep], σ => match σ.get b with
    | .opn _ 1 cs => match strsOf cs with
      | some xs => if 0 < n ∧ xs.length = n ∧ n ≤ 140737488355328 ∧ (Lib.join (xs.map (·.data.toList)) sep.data.toList).length ≤ 140737488355328 then some (.str (joinB xs sep), σ) else none
      | none => none
    | _ => none
  | _, _ => none
/-- bits.TrailingZeros, of 16. -/
def tzO : List AV → AH → Option (AV × AH)
  | [.int .u64 16], σ => some (.int .i64 4, σ)
  | _, _ => none
def orcRg : Orc := fun f => if Nat.beq f 24 = true then some joinO else if Nat.beq f 44 = true then some tzO else none
def okRg : List Nat := [5, 14, 10, 8, 15, 17, 19, 16, 20, 22, 23, 30, 37, 41, 40, 42, 43]
def qtRg : List Nat := [5, 14, 8, 10, 15, 17, 19, 16, 20, 22, 23, 30, 37, 41, 40, 42, 43, 24, 44]
theorem okRg_ok : okFunsX Tryd.prog okRg = true := by kernel_rfl
theorem lives_run : answers (.bool true) (xF Tryd.prog orcRg qtRg okRg 60 5 [] h0) = true := by kernel_rfl
end Go.Proofs.YthmakddlhaeblaaDoor.V
