/-
  No cell of these rows narrows 'for every input' (looked for: loops, veiled, ifaces, maps, wideKeys, modest, calm, conditions, laid).
  DERIVED. THE GIVEN ROWS OF THIS SEAT. 6 by the template 'for every input the law returns true; each argument reads behind the call as it read before'; 0 by the template 'total and deterministic' (their statements: YtggegljiepbefaaTotals.lean).
  GIVEN WITH THE SEED: the statements are not yours to turn. If you find one false, say at which input.
  Laid BY PROGRAM, IN A SANDBOX (cutbox-rows.mjs): the forced cells as the released guide's own fill.sh prints them over the translation 0a176614b3667d3d… (all of the seat's roots in one cut). By AI agents, Wed Nov 11 2026. No macro, syntax, notation, axiom, sorry.
-/
import Derived.Test.YtggegljiepbefaaChecked
import GoSem.Claim
import GoSem.ClaimJoined
import GoSem.ClaimMapViews
import Derived.JoinedTies
import Derived.KernelRfl
namespace Go.Proofs.Ytggegljiepbefaa
/- THE CELL 'sum', in the pinned program and in every row, IS THE sha256 OF THE DUMP (.gsa) THAT YtggegljiepbefaaProg.lean LOADS. Nothing in Lean hashes anything: it is a label: what it is worth is what the hold of that sum in a sandbox is worth. -/
noncomputable def Try.pinned : Pinned := { name := "ytggegljiepbefaa", sum := "0a176614b3667d3dced73c510f815d666ed844daed8640cd8a105eb25f79d6da", checked := Try.checked }
namespace Rows
def none {H : Type} : Left H := { results := [], args := [] }

/-- 'pendulumlaw20.AyNoise': WHATEVER THE INPUT: true; the input reads as it did. -/
def ayNoiseSpec : ChangeSpec := { name := "ayNoise", fn := fun _ => fun
  | [d1, d2] => { results := [.lit (.bool true)], args := [d1, d2] }
  | _ => none }
def ayNoiseRow : OpenClaim := { program := "ytggegljiepbefaa", sum := "0a176614b3667d3dced73c510f815d666ed844daed8640cd8a105eb25f79d6da", func := "pendulum/pendulumlaw20.AyNoise", spec := "ayNoise", apart := false }
def AyNoiseSaid : Prop := ayNoiseRow.holds Try.pinned (OpenSpec.ofChange ayNoiseSpec)

/-- ITS FALSE NEIGHBOUR: 'it returns false'. Refute it at one input. -/
def ayNoiseWrong : ChangeSpec := { name := "ayNoise", fn := fun _ => fun
  | [d1, d2] => { results := [.lit (.bool false)], args := [d1, d2] }
  | _ => none }
def AyNoiseWrongFalsely : Prop := ayNoiseRow.holds Try.pinned (OpenSpec.ofChange ayNoiseWrong)

/-- 'pendulumlaw20.AyShapes': WHATEVER THE INPUT: true; the input reads as it did. -/
def ayShapesSpec : ChangeSpec := { name := "ayShapes", fn := fun _ => fun
  | [d1, d2, d3] => { results := [.lit (.bool true)], args := [d1, d2, d3] }
  | _ => none }
def ayShapesRow : OpenClaim := { program := "ytggegljiepbefaa", sum := "0a176614b3667d3dced73c510f815d666ed844daed8640cd8a105eb25f79d6da", func := "pendulum/pendulumlaw20.AyShapes", spec := "ayShapes", apart := false }
def AyShapesSaid : Prop := ayShapesRow.holds Try.pinned (OpenSpec.ofChange ayShapesSpec)

/-- ITS FALSE NEIGHBOUR: 'it returns false'. Refute it at one input. -/
def ayShapesWrong : ChangeSpec := { name := "ayShapes", fn := fun _ => fun
  | [d1, d2, d3] => { results := [.lit (.bool false)], args := [d1, d2, d3] }
  | _ => none }
def AyShapesWrongFalsely : Prop := ayShapesRow.holds Try.pinned (OpenSpec.ofChange ayShapesWrong)

/-- 'pendulumlaw20.AyNil': WHATEVER THE INPUT: true; the input reads as it did. -/
def ayNilSpec : ChangeSpec := { name := "ayNil", fn := fun _ => fun
  | [d1, d2] => { results := [.lit (.bool true)], args := [d1, d2] }
  | _ => none }
def ayNilRow : OpenClaim := { program := "ytggegljiepbefaa", sum := "0a176614b3667d3dced73c510f815d666ed844daed8640cd8a105eb25f79d6da", func := "pendulum/pendulumlaw20.AyNil", spec := "ayNil", apart := false }
def AyNilSaid : Prop := ayNilRow.holds Try.pinned (OpenSpec.ofChange ayNilSpec)

/-- ITS FALSE NEIGHBOUR: 'it returns false'. Refute it at one input. -/
def ayNilWrong : ChangeSpec := { name := "ayNil", fn := fun _ => fun
  | [d1, d2] => { results := [.lit (.bool false)], args := [d1, d2] }
  | _ => none }
def AyNilWrongFalsely : Prop := ayNilRow.holds Try.pinned (OpenSpec.ofChange ayNilWrong)

/-- 'pendulumlaw20.AyTones': WHATEVER THE INPUT: true; the input reads as it did. -/
def ayTonesSpec : ChangeSpec := { name := "ayTones", fn := fun _ => fun
  | [d1, d2, d3, d4, d5] => { results := [.lit (.bool true)], args := [d1, d2, d3, d4, d5] }
  | _ => none }
def ayTonesRow : OpenClaim := { program := "ytggegljiepbefaa", sum := "0a176614b3667d3dced73c510f815d666ed844daed8640cd8a105eb25f79d6da", func := "pendulum/pendulumlaw20.AyTones", spec := "ayTones", apart := false }
def AyTonesSaid : Prop := ayTonesRow.holds Try.pinned (OpenSpec.ofChange ayTonesSpec)

/-- ITS FALSE NEIGHBOUR: 'it returns false'. Refute it at one input. -/
def ayTonesWrong : ChangeSpec := { name := "ayTones", fn := fun _ => fun
  | [d1, d2, d3, d4, d5] => { results := [.lit (.bool false)], args := [d1, d2, d3, d4, d5] }
  | _ => none }
def AyTonesWrongFalsely : Prop := ayTonesRow.holds Try.pinned (OpenSpec.ofChange ayTonesWrong)

/-- 'pendulumlaw20.AyNames': WHATEVER THE INPUT: true; the input reads as it did. -/
def ayNamesSpec : ChangeSpec := { name := "ayNames", fn := fun _ => fun
  | [] => { results := [.lit (.bool true)], args := [] }
  | _ => none }
def ayNamesRow : OpenClaim := { program := "ytggegljiepbefaa", sum := "0a176614b3667d3dced73c510f815d666ed844daed8640cd8a105eb25f79d6da", func := "pendulum/pendulumlaw20.AyNames", spec := "ayNames", apart := false }
def AyNamesSaid : Prop := ayNamesRow.holds Try.pinned (OpenSpec.ofChange ayNamesSpec)

/-- ITS FALSE NEIGHBOUR: 'it returns false'. Refute it at one input. -/
def ayNamesWrong : ChangeSpec := { name := "ayNames", fn := fun _ => fun
  | [] => { results := [.lit (.bool false)], args := [] }
  | _ => none }
def AyNamesWrongFalsely : Prop := ayNamesRow.holds Try.pinned (OpenSpec.ofChange ayNamesWrong)

/-- 'pendulumlaw20.AyScript': WHATEVER THE INPUT: true; the input reads as it did. -/
def ayScriptSpec : ChangeSpec := { name := "ayScript", fn := fun _ => fun
  | [d1, d2, d3, d4, d5, d6] => { results := [.lit (.bool true)], args := [d1, d2, d3, d4, d5, d6] }
  | _ => none }
def ayScriptRow : OpenClaim := { program := "ytggegljiepbefaa", sum := "0a176614b3667d3dced73c510f815d666ed844daed8640cd8a105eb25f79d6da", func := "pendulum/pendulumlaw20.AyScript", spec := "ayScript", apart := false }
def AyScriptSaid : Prop := ayScriptRow.holds Try.pinned (OpenSpec.ofChange ayScriptSpec)

/-- ITS FALSE NEIGHBOUR: 'it returns false'. Refute it at one input. -/
def ayScriptWrong : ChangeSpec := { name := "ayScript", fn := fun _ => fun
  | [d1, d2, d3, d4, d5, d6] => { results := [.lit (.bool false)], args := [d1, d2, d3, d4, d5, d6] }
  | _ => none }
def AyScriptWrongFalsely : Prop := ayScriptRow.holds Try.pinned (OpenSpec.ofChange ayScriptWrong)

/- THE SECOND FORM. 'bulk': how many values and letters a reading holds, each counted each time it is reached (what is shared counts as often as it is met; a slice's spare places count too). A statement '..UptoSaid' is the law's where the arguments, and the package variables that the reading takes, are together of bulk at most 1048576: NARROWER than '..Said'. Prove '..Said' where nothing that the law and all that it calls make is longer than what came in: it says more and counts as full. Else prove '..UptoSaid'. A law counts once. -/
mutual
def uptoBulk {H : Type} : DataW H → Nat
  | .lit (.string bytes) => bytes.length + 1
  | .lit _ => 1
  | .nil => 1
  | .ptr d => uptoBulk d + 1
  | .slice elems spare => uptoBulkAll elems + uptoBulkAll spare + 1
  | .agg parts => uptoBulkAll parts + 1
  | .iface _ d => uptoBulk d + 1
  | .map entries => uptoBulkEntries entries + 1
  | .held _ => 1
def uptoBulkAll {H : Type} : List (DataW H) → Nat
  | [] => 0
  | d :: r => uptoBulk d + uptoBulkAll r
def uptoBulkEntries {H : Type} : List (Lit × DataW H) → Nat
  | [] => 0
  | x :: r => uptoBulkEntry x + uptoBulkEntries r
def uptoBulkEntry {H : Type} : Lit × DataW H → Nat
  | (.string bytes, d) => bytes.length + uptoBulk d + 1
  | (_, d) => uptoBulk d + 1
 end
def uptoSmall : (H : Type) → List (DataW H) → Bool := fun _ ds => decide (uptoBulkAll ds ≤ 1048576)
def OpenSpec.upto (s : _root_.Go.ChangeSpec) : _root_.Go.OpenSpec := { _root_.Go.OpenSpec.ofChange s with cond := some uptoSmall }

/-- 'pendulumlaw20.AyNoise', WHERE WHAT IT READS IS OF BULK AT MOST 1048576: true; the input reads as it did. -/
def ayNoiseUptoRow : OpenClaim := { program := "ytggegljiepbefaa", sum := "0a176614b3667d3dced73c510f815d666ed844daed8640cd8a105eb25f79d6da", func := "pendulum/pendulumlaw20.AyNoise", spec := "ayNoise", apart := false, narrowed := true }
def AyNoiseUptoSaid : Prop := ayNoiseUptoRow.holds Try.pinned (OpenSpec.upto ayNoiseSpec)

/-- 'pendulumlaw20.AyShapes', WHERE WHAT IT READS IS OF BULK AT MOST 1048576: true; the input reads as it did. -/
def ayShapesUptoRow : OpenClaim := { program := "ytggegljiepbefaa", sum := "0a176614b3667d3dced73c510f815d666ed844daed8640cd8a105eb25f79d6da", func := "pendulum/pendulumlaw20.AyShapes", spec := "ayShapes", apart := false, narrowed := true }
def AyShapesUptoSaid : Prop := ayShapesUptoRow.holds Try.pinned (OpenSpec.upto ayShapesSpec)

/-- 'pendulumlaw20.AyNil', WHERE WHAT IT READS IS OF BULK AT MOST 1048576: true; the input reads as it did. -/
def ayNilUptoRow : OpenClaim := { program := "ytggegljiepbefaa", sum := "0a176614b3667d3dced73c510f815d666ed844daed8640cd8a105eb25f79d6da", func := "pendulum/pendulumlaw20.AyNil", spec := "ayNil", apart := false, narrowed := true }
def AyNilUptoSaid : Prop := ayNilUptoRow.holds Try.pinned (OpenSpec.upto ayNilSpec)

/-- 'pendulumlaw20.AyTones', WHERE WHAT IT READS IS OF BULK AT MOST 1048576: true; the input reads as it did. -/
def ayTonesUptoRow : OpenClaim := { program := "ytggegljiepbefaa", sum := "0a176614b3667d3dced73c510f815d666ed844daed8640cd8a105eb25f79d6da", func := "pendulum/pendulumlaw20.AyTones", spec := "ayTones", apart := false, narrowed := true }
def AyTonesUptoSaid : Prop := ayTonesUptoRow.holds Try.pinned (OpenSpec.upto ayTonesSpec)

/-- 'pendulumlaw20.AyNames', WHERE WHAT IT READS IS OF BULK AT MOST 1048576: true; the input reads as it did. -/
def ayNamesUptoRow : OpenClaim := { program := "ytggegljiepbefaa", sum := "0a176614b3667d3dced73c510f815d666ed844daed8640cd8a105eb25f79d6da", func := "pendulum/pendulumlaw20.AyNames", spec := "ayNames", apart := false, narrowed := true }
def AyNamesUptoSaid : Prop := ayNamesUptoRow.holds Try.pinned (OpenSpec.upto ayNamesSpec)

/-- 'pendulumlaw20.AyScript', WHERE WHAT IT READS IS OF BULK AT MOST 1048576: true; the input reads as it did. -/
def ayScriptUptoRow : OpenClaim := { program := "ytggegljiepbefaa", sum := "0a176614b3667d3dced73c510f815d666ed844daed8640cd8a105eb25f79d6da", func := "pendulum/pendulumlaw20.AyScript", spec := "ayScript", apart := false, narrowed := true }
def AyScriptUptoSaid : Prop := ayScriptUptoRow.holds Try.pinned (OpenSpec.upto ayScriptSpec)

end Rows
end Go.Proofs.Ytggegljiepbefaa
