/-
  No cell of these rows narrows 'for every input' (looked for: loops, veiled, ifaces, maps, wideKeys, modest, calm, conditions, laid).
  DERIVED. THE GIVEN ROWS OF THIS SEAT. 8 by the template 'for every input the law returns true; each argument reads behind the call as it read before'; 0 by the template 'total and deterministic' (their statements: YtndjipgpnhhggaaRTotals.lean).
  GIVEN WITH THE SEED: the statements are not yours to turn. If you find one false, say at which input.
  Laid BY PROGRAM, IN A SANDBOX (cutbox-rows.mjs): the forced cells as the released guide's own fill.sh prints them over the translation f6bb71a3c35040e1… (all of the seat's roots in one cut). By AI agents, Wed Nov 11 2026. No macro, syntax, notation, axiom, sorry.
-/
import Derived.Test.YtndjipgpnhhggaaRChecked
import GoSem.Claim
import GoSem.ClaimJoined
import GoSem.ClaimMapViews
import Derived.JoinedTies
import Derived.KernelRfl
namespace Go.Proofs.YtndjipgpnhhggaaR
/- THE CELL 'sum', in the pinned program and in every row, IS THE sha256 OF THE DUMP (.gsa) THAT YtndjipgpnhhggaaRProg.lean LOADS. Nothing in Lean hashes anything: it is a label: what it is worth is what the hold of that sum in a sandbox is worth. -/
noncomputable def Try.pinned : Pinned := { name := "ytndjipgpnhhggaar", sum := "f6bb71a3c35040e12d9bbc25950af85837534d9d832f2930f69233bfd408d7a1", checked := Try.checked }
namespace Rows
def none {H : Type} : Left H := { results := [], args := [] }

/-- 'pendulumlaw13.BankSlots': WHATEVER THE INPUT: true; the input reads as it did. -/
def bankSlotsSpec : ChangeSpec := { name := "bankSlots", fn := fun _ => fun
  | [d1, d2] => { results := [.lit (.bool true)], args := [d1, d2] }
  | _ => none }
def bankSlotsRow : OpenClaim := { program := "ytndjipgpnhhggaar", sum := "f6bb71a3c35040e12d9bbc25950af85837534d9d832f2930f69233bfd408d7a1", func := "pendulum/pendulumlaw13.BankSlots", spec := "bankSlots", apart := false }
def BankSlotsSaid : Prop := bankSlotsRow.holds Try.pinned (OpenSpec.ofChange bankSlotsSpec)

/-- ITS FALSE NEIGHBOUR: 'it returns false'. Refute it at one input. -/
def bankSlotsWrong : ChangeSpec := { name := "bankSlots", fn := fun _ => fun
  | [d1, d2] => { results := [.lit (.bool false)], args := [d1, d2] }
  | _ => none }
def BankSlotsWrongFalsely : Prop := bankSlotsRow.holds Try.pinned (OpenSpec.ofChange bankSlotsWrong)

/-- 'pendulumlaw25.LinkOrder': WHATEVER THE INPUT: true; the input reads as it did. -/
def linkOrderSpec : ChangeSpec := { name := "linkOrder", fn := fun _ => fun
  | [d1, d2, d3] => { results := [.lit (.bool true)], args := [d1, d2, d3] }
  | _ => none }
def linkOrderRow : OpenClaim := { program := "ytndjipgpnhhggaar", sum := "f6bb71a3c35040e12d9bbc25950af85837534d9d832f2930f69233bfd408d7a1", func := "pendulum/pendulumlaw25.LinkOrder", spec := "linkOrder", unfollowed := true, recurses := true, apart := false }
def LinkOrderSaid : Prop := linkOrderRow.holds Try.pinned (OpenSpec.ofChange linkOrderSpec)

/-- ITS FALSE NEIGHBOUR: 'it returns false'. Refute it at one input. -/
def linkOrderWrong : ChangeSpec := { name := "linkOrder", fn := fun _ => fun
  | [d1, d2, d3] => { results := [.lit (.bool false)], args := [d1, d2, d3] }
  | _ => none }
def LinkOrderWrongFalsely : Prop := linkOrderRow.holds Try.pinned (OpenSpec.ofChange linkOrderWrong)

/-- 'pendulumlaw25.LinkNil': WHATEVER THE INPUT: true; the input reads as it did. -/
def linkNilSpec : ChangeSpec := { name := "linkNil", fn := fun _ => fun
  | [d] => { results := [.lit (.bool true)], args := [d] }
  | _ => none }
def linkNilRow : OpenClaim := { program := "ytndjipgpnhhggaar", sum := "f6bb71a3c35040e12d9bbc25950af85837534d9d832f2930f69233bfd408d7a1", func := "pendulum/pendulumlaw25.LinkNil", spec := "linkNil", unfollowed := true, recurses := true, apart := false }
def LinkNilSaid : Prop := linkNilRow.holds Try.pinned (OpenSpec.ofChange linkNilSpec)

/-- ITS FALSE NEIGHBOUR: 'it returns false'. Refute it at one input. -/
def linkNilWrong : ChangeSpec := { name := "linkNil", fn := fun _ => fun
  | [d] => { results := [.lit (.bool false)], args := [d] }
  | _ => none }
def LinkNilWrongFalsely : Prop := linkNilRow.holds Try.pinned (OpenSpec.ofChange linkNilWrong)

/-- 'pendulumlaw13.BankNil': WHATEVER THE INPUT: true; the input reads as it did. -/
def bankNilSpec : ChangeSpec := { name := "bankNil", fn := fun _ => fun
  | [d1, d2, d3, d4] => { results := [.lit (.bool true)], args := [d1, d2, d3, d4] }
  | _ => none }
def bankNilRow : OpenClaim := { program := "ytndjipgpnhhggaar", sum := "f6bb71a3c35040e12d9bbc25950af85837534d9d832f2930f69233bfd408d7a1", func := "pendulum/pendulumlaw13.BankNil", spec := "bankNil", apart := false }
def BankNilSaid : Prop := bankNilRow.holds Try.pinned (OpenSpec.ofChange bankNilSpec)

/-- ITS FALSE NEIGHBOUR: 'it returns false'. Refute it at one input. -/
def bankNilWrong : ChangeSpec := { name := "bankNil", fn := fun _ => fun
  | [d1, d2, d3, d4] => { results := [.lit (.bool false)], args := [d1, d2, d3, d4] }
  | _ => none }
def BankNilWrongFalsely : Prop := bankNilRow.holds Try.pinned (OpenSpec.ofChange bankNilWrong)

/-- 'pendulumlaw13.BankKeeps': WHATEVER THE INPUT: true; the input reads as it did. -/
def bankKeepsSpec : ChangeSpec := { name := "bankKeeps", fn := fun _ => fun
  | [d1, d2] => { results := [.lit (.bool true)], args := [d1, d2] }
  | _ => none }
def bankKeepsRow : OpenClaim := { program := "ytndjipgpnhhggaar", sum := "f6bb71a3c35040e12d9bbc25950af85837534d9d832f2930f69233bfd408d7a1", func := "pendulum/pendulumlaw13.BankKeeps", spec := "bankKeeps", apart := false }
def BankKeepsSaid : Prop := bankKeepsRow.holds Try.pinned (OpenSpec.ofChange bankKeepsSpec)

/-- ITS FALSE NEIGHBOUR: 'it returns false'. Refute it at one input. -/
def bankKeepsWrong : ChangeSpec := { name := "bankKeeps", fn := fun _ => fun
  | [d1, d2] => { results := [.lit (.bool false)], args := [d1, d2] }
  | _ => none }
def BankKeepsWrongFalsely : Prop := bankKeepsRow.holds Try.pinned (OpenSpec.ofChange bankKeepsWrong)

/-- 'pendulumlaw13.BankNames': WHATEVER THE INPUT: true; the input reads as it did. -/
def bankNamesSpec : ChangeSpec := { name := "bankNames", fn := fun _ => fun
  | [] => { results := [.lit (.bool true)], args := [] }
  | _ => none }
def bankNamesRow : OpenClaim := { program := "ytndjipgpnhhggaar", sum := "f6bb71a3c35040e12d9bbc25950af85837534d9d832f2930f69233bfd408d7a1", func := "pendulum/pendulumlaw13.BankNames", spec := "bankNames", apart := false }
def BankNamesSaid : Prop := bankNamesRow.holds Try.pinned (OpenSpec.ofChange bankNamesSpec)

/-- ITS FALSE NEIGHBOUR: 'it returns false'. Refute it at one input. -/
def bankNamesWrong : ChangeSpec := { name := "bankNames", fn := fun _ => fun
  | [] => { results := [.lit (.bool false)], args := [] }
  | _ => none }
def BankNamesWrongFalsely : Prop := bankNamesRow.holds Try.pinned (OpenSpec.ofChange bankNamesWrong)

/-- 'pendulumlaw25.LinkNames': WHATEVER THE INPUT: true; the input reads as it did. -/
def linkNamesSpec : ChangeSpec := { name := "linkNames", fn := fun _ => fun
  | [] => { results := [.lit (.bool true)], args := [] }
  | _ => none }
def linkNamesRow : OpenClaim := { program := "ytndjipgpnhhggaar", sum := "f6bb71a3c35040e12d9bbc25950af85837534d9d832f2930f69233bfd408d7a1", func := "pendulum/pendulumlaw25.LinkNames", spec := "linkNames", unfollowed := true, recurses := true, apart := false }
def LinkNamesSaid : Prop := linkNamesRow.holds Try.pinned (OpenSpec.ofChange linkNamesSpec)

/-- ITS FALSE NEIGHBOUR: 'it returns false'. Refute it at one input. -/
def linkNamesWrong : ChangeSpec := { name := "linkNames", fn := fun _ => fun
  | [] => { results := [.lit (.bool false)], args := [] }
  | _ => none }
def LinkNamesWrongFalsely : Prop := linkNamesRow.holds Try.pinned (OpenSpec.ofChange linkNamesWrong)

/-- 'pendulumlaw25.LinkScript': WHATEVER THE INPUT: true; the input reads as it did. -/
def linkScriptSpec : ChangeSpec := { name := "linkScript", fn := fun _ => fun
  | [d1, d2, d3] => { results := [.lit (.bool true)], args := [d1, d2, d3] }
  | _ => none }
def linkScriptRow : OpenClaim := { program := "ytndjipgpnhhggaar", sum := "f6bb71a3c35040e12d9bbc25950af85837534d9d832f2930f69233bfd408d7a1", func := "pendulum/pendulumlaw25.LinkScript", spec := "linkScript", unfollowed := true, recurses := true, apart := false }
def LinkScriptSaid : Prop := linkScriptRow.holds Try.pinned (OpenSpec.ofChange linkScriptSpec)

/-- ITS FALSE NEIGHBOUR: 'it returns false'. Refute it at one input. -/
def linkScriptWrong : ChangeSpec := { name := "linkScript", fn := fun _ => fun
  | [d1, d2, d3] => { results := [.lit (.bool false)], args := [d1, d2, d3] }
  | _ => none }
def LinkScriptWrongFalsely : Prop := linkScriptRow.holds Try.pinned (OpenSpec.ofChange linkScriptWrong)

/- THE SECOND FORM. 'bulk': how many values and letters a reading holds, each counted each time it is reached (what is shared counts as often as it is met; a slice's spare places count too). A statement '..UptoSaid' is the law's where the arguments, and the package variables that the reading takes, are together of bulk at most 1048576: NARROWER than '..Said'. Prove '..Said' where nothing that the law and all that it calls make is longer than what came in: it says more and counts as full. Else prove '..UptoSaid'. A law counts once. -/
mutual
def uptoBulk {H : Type} : DataW H → Nat
  | .lit (.string bytes) => bytes.length + 1
  | .lit _ => 1
  | .nil => 1
  | .ptr d => uptoBulk d + 1
  | .slice elems spare => uptoBulkAll elems + uptoBulkAll spare + 1
  | .agg parts => uptoBulkAll parts + 1
  | .iface _ d => uptoBulk d + 1
  | .map entries => uptoBulkEntries entries + 1
  | .held _ => 1
def uptoBulkAll {H : Type} : List (DataW H) → Nat
  | [] => 0
  | d :: r => uptoBulk d + uptoBulkAll r
def uptoBulkEntries {H : Type} : List (Lit × DataW H) → Nat
  | [] => 0
  | x :: r => uptoBulkEntry x + uptoBulkEntries r
def uptoBulkEntry {H : Type} : Lit × DataW H → Nat
  | (.string bytes, d) => bytes.length + uptoBulk d + 1
  | (_, d) => uptoBulk d + 1
 end
def uptoSmall : (H : Type) → List (DataW H) → Bool := fun _ ds => decide (uptoBulkAll ds ≤ 1048576)
def OpenSpec.upto (s : _root_.Go.ChangeSpec) : _root_.Go.OpenSpec := { _root_.Go.OpenSpec.ofChange s with cond := some uptoSmall }

/-- 'pendulumlaw13.BankSlots', WHERE WHAT IT READS IS OF BULK AT MOST 1048576: true; the input reads as it did. -/
def bankSlotsUptoRow : OpenClaim := { program := "ytndjipgpnhhggaar", sum := "f6bb71a3c35040e12d9bbc25950af85837534d9d832f2930f69233bfd408d7a1", func := "pendulum/pendulumlaw13.BankSlots", spec := "bankSlots", apart := false, narrowed := true }
def BankSlotsUptoSaid : Prop := bankSlotsUptoRow.holds Try.pinned (OpenSpec.upto bankSlotsSpec)

/-- 'pendulumlaw25.LinkOrder', WHERE WHAT IT READS IS OF BULK AT MOST 1048576: true; the input reads as it did. -/
def linkOrderUptoRow : OpenClaim := { program := "ytndjipgpnhhggaar", sum := "f6bb71a3c35040e12d9bbc25950af85837534d9d832f2930f69233bfd408d7a1", func := "pendulum/pendulumlaw25.LinkOrder", spec := "linkOrder", unfollowed := true, recurses := true, apart := false, narrowed := true }
def LinkOrderUptoSaid : Prop := linkOrderUptoRow.holds Try.pinned (OpenSpec.upto linkOrderSpec)

/-- 'pendulumlaw25.LinkNil', WHERE WHAT IT READS IS OF BULK AT MOST 1048576: true; the input reads as it did. -/
def linkNilUptoRow : OpenClaim := { program := "ytndjipgpnhhggaar", sum := "f6bb71a3c35040e12d9bbc25950af85837534d9d832f2930f69233bfd408d7a1", func := "pendulum/pendulumlaw25.LinkNil", spec := "linkNil", unfollowed := true, recurses := true, apart := false, narrowed := true }
def LinkNilUptoSaid : Prop := linkNilUptoRow.holds Try.pinned (OpenSpec.upto linkNilSpec)

/-- 'pendulumlaw13.BankNil', WHERE WHAT IT READS IS OF BULK AT MOST 1048576: true; the input reads as it did. -/
def bankNilUptoRow : OpenClaim := { program := "ytndjipgpnhhggaar", sum := "f6bb71a3c35040e12d9bbc25950af85837534d9d832f2930f69233bfd408d7a1", func := "pendulum/pendulumlaw13.BankNil", spec := "bankNil", apart := false, narrowed := true }
def BankNilUptoSaid : Prop := bankNilUptoRow.holds Try.pinned (OpenSpec.upto bankNilSpec)

/-- 'pendulumlaw13.BankKeeps', WHERE WHAT IT READS IS OF BULK AT MOST 1048576: true; the input reads as it did. -/
def bankKeepsUptoRow : OpenClaim := { program := "ytndjipgpnhhggaar", sum := "f6bb71a3c35040e12d9bbc25950af85837534d9d832f2930f69233bfd408d7a1", func := "pendulum/pendulumlaw13.BankKeeps", spec := "bankKeeps", apart := false, narrowed := true }
def BankKeepsUptoSaid : Prop := bankKeepsUptoRow.holds Try.pinned (OpenSpec.upto bankKeepsSpec)

/-- 'pendulumlaw13.BankNames', WHERE WHAT IT READS IS OF BULK AT MOST 1048576: true; the input reads as it did. -/
def bankNamesUptoRow : OpenClaim := { program := "ytndjipgpnhhggaar", sum := "f6bb71a3c35040e12d9bbc25950af85837534d9d832f2930f69233bfd408d7a1", func := "pendulum/pendulumlaw13.BankNames", spec := "bankNames", apart := false, narrowed := true }
def BankNamesUptoSaid : Prop := bankNamesUptoRow.holds Try.pinned (OpenSpec.upto bankNamesSpec)

/-- 'pendulumlaw25.LinkNames', WHERE WHAT IT READS IS OF BULK AT MOST 1048576: true; the input reads as it did. -/
def linkNamesUptoRow : OpenClaim := { program := "ytndjipgpnhhggaar", sum := "f6bb71a3c35040e12d9bbc25950af85837534d9d832f2930f69233bfd408d7a1", func := "pendulum/pendulumlaw25.LinkNames", spec := "linkNames", unfollowed := true, recurses := true, apart := false, narrowed := true }
def LinkNamesUptoSaid : Prop := linkNamesUptoRow.holds Try.pinned (OpenSpec.upto linkNamesSpec)

/-- 'pendulumlaw25.LinkScript', WHERE WHAT IT READS IS OF BULK AT MOST 1048576: true; the input reads as it did. -/
def linkScriptUptoRow : OpenClaim := { program := "ytndjipgpnhhggaar", sum := "f6bb71a3c35040e12d9bbc25950af85837534d9d832f2930f69233bfd408d7a1", func := "pendulum/pendulumlaw25.LinkScript", spec := "linkScript", unfollowed := true, recurses := true, apart := false, narrowed := true }
def LinkScriptUptoSaid : Prop := linkScriptUptoRow.holds Try.pinned (OpenSpec.upto linkScriptSpec)

end Rows
end Go.Proofs.YtndjipgpnhhggaaR
