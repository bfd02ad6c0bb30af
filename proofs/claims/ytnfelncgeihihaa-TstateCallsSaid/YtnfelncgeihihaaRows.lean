/-
  No cell of these rows narrows 'for every input' (looked for: loops, veiled, ifaces, maps, wideKeys, modest, calm, conditions, laid).
  DERIVED. THE GIVEN ROWS OF THIS SEAT. 14 by the template 'for every input the law returns true; each argument reads behind the call as it read before'; 0 by the template 'total and deterministic' (their statements: YtnfelncgeihihaaTotals.lean).
  GIVEN WITH THE SEED: the statements are not yours to turn. If you find one false, say at which input.
  Laid BY PROGRAM, IN A SANDBOX (cutbox-rows.mjs): the forced cells as the released guide's own fill.sh prints them over the translation ca254bc067f46830… (all of the seat's roots in one cut). By AI agents, Wed Nov 11 2026. No macro, syntax, notation, axiom, sorry.
-/
import Derived.Test.YtnfelncgeihihaaChecked
import GoSem.Claim
import GoSem.ClaimJoined
import GoSem.ClaimMapViews
import Derived.JoinedTies
import Derived.KernelRfl
namespace Go.Proofs.Ytnfelncgeihihaa
/- THE CELL 'sum', in the pinned program and in every row, IS THE sha256 OF THE DUMP (.gsa) THAT YtnfelncgeihihaaProg.lean LOADS. Nothing in Lean hashes anything: it is a label: what it is worth is what the hold of that sum in a sandbox is worth. -/
noncomputable def Try.pinned : Pinned := { name := "ytnfelncgeihihaa", sum := "ca254bc067f468309031cf470f7436c3e1d9b158cce9ff15a9fbe16fcf012cea", checked := Try.checked }
namespace Rows
def none {H : Type} : Left H := { results := [], args := [] }

/-- 'pendulumlaw02.TstateFits': WHATEVER THE INPUT: true; the input reads as it did. -/
def tstateFitsSpec : ChangeSpec := { name := "tstateFits", fn := fun _ => fun
  | [d1, d2] => { results := [.lit (.bool true)], args := [d1, d2] }
  | _ => none }
def tstateFitsRow : OpenClaim := { program := "ytnfelncgeihihaa", sum := "ca254bc067f468309031cf470f7436c3e1d9b158cce9ff15a9fbe16fcf012cea", func := "pendulum/pendulumlaw02.TstateFits", spec := "tstateFits", unfollowed := true, recurses := true, apart := false }
def TstateFitsSaid : Prop := tstateFitsRow.holds Try.pinned (OpenSpec.ofChange tstateFitsSpec)

/-- ITS FALSE NEIGHBOUR: 'it returns false'. Refute it at one input. -/
def tstateFitsWrong : ChangeSpec := { name := "tstateFits", fn := fun _ => fun
  | [d1, d2] => { results := [.lit (.bool false)], args := [d1, d2] }
  | _ => none }
def TstateFitsWrongFalsely : Prop := tstateFitsRow.holds Try.pinned (OpenSpec.ofChange tstateFitsWrong)

/-- 'pendulumlaw02.TstateNames': WHATEVER THE INPUT: true; the input reads as it did. -/
def tstateNamesSpec : ChangeSpec := { name := "tstateNames", fn := fun _ => fun
  | [] => { results := [.lit (.bool true)], args := [] }
  | _ => none }
def tstateNamesRow : OpenClaim := { program := "ytnfelncgeihihaa", sum := "ca254bc067f468309031cf470f7436c3e1d9b158cce9ff15a9fbe16fcf012cea", func := "pendulum/pendulumlaw02.TstateNames", spec := "tstateNames", unfollowed := true, recurses := true, apart := false }
def TstateNamesSaid : Prop := tstateNamesRow.holds Try.pinned (OpenSpec.ofChange tstateNamesSpec)

/-- ITS FALSE NEIGHBOUR: 'it returns false'. Refute it at one input. -/
def tstateNamesWrong : ChangeSpec := { name := "tstateNames", fn := fun _ => fun
  | [] => { results := [.lit (.bool false)], args := [] }
  | _ => none }
def TstateNamesWrongFalsely : Prop := tstateNamesRow.holds Try.pinned (OpenSpec.ofChange tstateNamesWrong)

/-- 'pendulumlaw02.TstatePulses': WHATEVER THE INPUT: true; the input reads as it did. -/
def tstatePulsesSpec : ChangeSpec := { name := "tstatePulses", fn := fun _ => fun
  | [d1, d2, d3, d4, d5] => { results := [.lit (.bool true)], args := [d1, d2, d3, d4, d5] }
  | _ => none }
def tstatePulsesRow : OpenClaim := { program := "ytnfelncgeihihaa", sum := "ca254bc067f468309031cf470f7436c3e1d9b158cce9ff15a9fbe16fcf012cea", func := "pendulum/pendulumlaw02.TstatePulses", spec := "tstatePulses", unfollowed := true, recurses := true, apart := false }
def TstatePulsesSaid : Prop := tstatePulsesRow.holds Try.pinned (OpenSpec.ofChange tstatePulsesSpec)

/-- ITS FALSE NEIGHBOUR: 'it returns false'. Refute it at one input. -/
def tstatePulsesWrong : ChangeSpec := { name := "tstatePulses", fn := fun _ => fun
  | [d1, d2, d3, d4, d5] => { results := [.lit (.bool false)], args := [d1, d2, d3, d4, d5] }
  | _ => none }
def TstatePulsesWrongFalsely : Prop := tstatePulsesRow.holds Try.pinned (OpenSpec.ofChange tstatePulsesWrong)

/-- 'pendulumlaw15.RasterOnce': WHATEVER THE INPUT: true; the input reads as it did. -/
def rasterOnceSpec : ChangeSpec := { name := "rasterOnce", fn := fun _ => fun
  | [d1, d2, d3, d4, d5] => { results := [.lit (.bool true)], args := [d1, d2, d3, d4, d5] }
  | _ => none }
def rasterOnceRow : OpenClaim := { program := "ytnfelncgeihihaa", sum := "ca254bc067f468309031cf470f7436c3e1d9b158cce9ff15a9fbe16fcf012cea", func := "pendulum/pendulumlaw15.RasterOnce", spec := "rasterOnce", unfollowed := true, recurses := true, apart := false }
def RasterOnceSaid : Prop := rasterOnceRow.holds Try.pinned (OpenSpec.ofChange rasterOnceSpec)

/-- ITS FALSE NEIGHBOUR: 'it returns false'. Refute it at one input. -/
def rasterOnceWrong : ChangeSpec := { name := "rasterOnce", fn := fun _ => fun
  | [d1, d2, d3, d4, d5] => { results := [.lit (.bool false)], args := [d1, d2, d3, d4, d5] }
  | _ => none }
def RasterOnceWrongFalsely : Prop := rasterOnceRow.holds Try.pinned (OpenSpec.ofChange rasterOnceWrong)

/-- 'pendulumlaw15.RasterNexts': WHATEVER THE INPUT: true; the input reads as it did. -/
def rasterNextsSpec : ChangeSpec := { name := "rasterNexts", fn := fun _ => fun
  | [d1, d2, d3] => { results := [.lit (.bool true)], args := [d1, d2, d3] }
  | _ => none }
def rasterNextsRow : OpenClaim := { program := "ytnfelncgeihihaa", sum := "ca254bc067f468309031cf470f7436c3e1d9b158cce9ff15a9fbe16fcf012cea", func := "pendulum/pendulumlaw15.RasterNexts", spec := "rasterNexts", unfollowed := true, recurses := true, apart := false }
def RasterNextsSaid : Prop := rasterNextsRow.holds Try.pinned (OpenSpec.ofChange rasterNextsSpec)

/-- ITS FALSE NEIGHBOUR: 'it returns false'. Refute it at one input. -/
def rasterNextsWrong : ChangeSpec := { name := "rasterNexts", fn := fun _ => fun
  | [d1, d2, d3] => { results := [.lit (.bool false)], args := [d1, d2, d3] }
  | _ => none }
def RasterNextsWrongFalsely : Prop := rasterNextsRow.holds Try.pinned (OpenSpec.ofChange rasterNextsWrong)

/-- 'pendulumlaw15.RasterCounts': WHATEVER THE INPUT: true; the input reads as it did. -/
def rasterCountsSpec : ChangeSpec := { name := "rasterCounts", fn := fun _ => fun
  | [d] => { results := [.lit (.bool true)], args := [d] }
  | _ => none }
def rasterCountsRow : OpenClaim := { program := "ytnfelncgeihihaa", sum := "ca254bc067f468309031cf470f7436c3e1d9b158cce9ff15a9fbe16fcf012cea", func := "pendulum/pendulumlaw15.RasterCounts", spec := "rasterCounts", unfollowed := true, recurses := true, apart := false }
def RasterCountsSaid : Prop := rasterCountsRow.holds Try.pinned (OpenSpec.ofChange rasterCountsSpec)

/-- ITS FALSE NEIGHBOUR: 'it returns false'. Refute it at one input. -/
def rasterCountsWrong : ChangeSpec := { name := "rasterCounts", fn := fun _ => fun
  | [d] => { results := [.lit (.bool false)], args := [d] }
  | _ => none }
def RasterCountsWrongFalsely : Prop := rasterCountsRow.holds Try.pinned (OpenSpec.ofChange rasterCountsWrong)

/-- 'pendulumlaw15.RasterNames': WHATEVER THE INPUT: true; the input reads as it did. -/
def rasterNamesSpec : ChangeSpec := { name := "rasterNames", fn := fun _ => fun
  | [] => { results := [.lit (.bool true)], args := [] }
  | _ => none }
def rasterNamesRow : OpenClaim := { program := "ytnfelncgeihihaa", sum := "ca254bc067f468309031cf470f7436c3e1d9b158cce9ff15a9fbe16fcf012cea", func := "pendulum/pendulumlaw15.RasterNames", spec := "rasterNames", unfollowed := true, recurses := true, apart := false }
def RasterNamesSaid : Prop := rasterNamesRow.holds Try.pinned (OpenSpec.ofChange rasterNamesSpec)

/-- ITS FALSE NEIGHBOUR: 'it returns false'. Refute it at one input. -/
def rasterNamesWrong : ChangeSpec := { name := "rasterNames", fn := fun _ => fun
  | [] => { results := [.lit (.bool false)], args := [] }
  | _ => none }
def RasterNamesWrongFalsely : Prop := rasterNamesRow.holds Try.pinned (OpenSpec.ofChange rasterNamesWrong)

/-- 'pendulumlaw15.RasterPlaces': WHATEVER THE INPUT: true; the input reads as it did. -/
def rasterPlacesSpec : ChangeSpec := { name := "rasterPlaces", fn := fun _ => fun
  | [d1, d2, d3] => { results := [.lit (.bool true)], args := [d1, d2, d3] }
  | _ => none }
def rasterPlacesRow : OpenClaim := { program := "ytnfelncgeihihaa", sum := "ca254bc067f468309031cf470f7436c3e1d9b158cce9ff15a9fbe16fcf012cea", func := "pendulum/pendulumlaw15.RasterPlaces", spec := "rasterPlaces", unfollowed := true, recurses := true, apart := false }
def RasterPlacesSaid : Prop := rasterPlacesRow.holds Try.pinned (OpenSpec.ofChange rasterPlacesSpec)

/-- ITS FALSE NEIGHBOUR: 'it returns false'. Refute it at one input. -/
def rasterPlacesWrong : ChangeSpec := { name := "rasterPlaces", fn := fun _ => fun
  | [d1, d2, d3] => { results := [.lit (.bool false)], args := [d1, d2, d3] }
  | _ => none }
def RasterPlacesWrongFalsely : Prop := rasterPlacesRow.holds Try.pinned (OpenSpec.ofChange rasterPlacesWrong)

/-- 'pendulumlaw16.ContendPorts': WHATEVER THE INPUT: true; the input reads as it did. -/
def contendPortsSpec : ChangeSpec := { name := "contendPorts", fn := fun _ => fun
  | [d1, d2, d3, d4] => { results := [.lit (.bool true)], args := [d1, d2, d3, d4] }
  | _ => none }
def contendPortsRow : OpenClaim := { program := "ytnfelncgeihihaa", sum := "ca254bc067f468309031cf470f7436c3e1d9b158cce9ff15a9fbe16fcf012cea", func := "pendulum/pendulumlaw16.ContendPorts", spec := "contendPorts", unfollowed := true, recurses := true, apart := false }
def ContendPortsSaid : Prop := contendPortsRow.holds Try.pinned (OpenSpec.ofChange contendPortsSpec)

/-- ITS FALSE NEIGHBOUR: 'it returns false'. Refute it at one input. -/
def contendPortsWrong : ChangeSpec := { name := "contendPorts", fn := fun _ => fun
  | [d1, d2, d3, d4] => { results := [.lit (.bool false)], args := [d1, d2, d3, d4] }
  | _ => none }
def ContendPortsWrongFalsely : Prop := contendPortsRow.holds Try.pinned (OpenSpec.ofChange contendPortsWrong)

/-- 'pendulumlaw16.ContendWaits': WHATEVER THE INPUT: true; the input reads as it did. -/
def contendWaitsSpec : ChangeSpec := { name := "contendWaits", fn := fun _ => fun
  | [d1, d2, d3, d4] => { results := [.lit (.bool true)], args := [d1, d2, d3, d4] }
  | _ => none }
def contendWaitsRow : OpenClaim := { program := "ytnfelncgeihihaa", sum := "ca254bc067f468309031cf470f7436c3e1d9b158cce9ff15a9fbe16fcf012cea", func := "pendulum/pendulumlaw16.ContendWaits", spec := "contendWaits", unfollowed := true, recurses := true, apart := false }
def ContendWaitsSaid : Prop := contendWaitsRow.holds Try.pinned (OpenSpec.ofChange contendWaitsSpec)

/-- ITS FALSE NEIGHBOUR: 'it returns false'. Refute it at one input. -/
def contendWaitsWrong : ChangeSpec := { name := "contendWaits", fn := fun _ => fun
  | [d1, d2, d3, d4] => { results := [.lit (.bool false)], args := [d1, d2, d3, d4] }
  | _ => none }
def ContendWaitsWrongFalsely : Prop := contendWaitsRow.holds Try.pinned (OpenSpec.ofChange contendWaitsWrong)

/-- 'pendulumlaw16.ContendNames': WHATEVER THE INPUT: true; the input reads as it did. -/
def contendNamesSpec : ChangeSpec := { name := "contendNames", fn := fun _ => fun
  | [] => { results := [.lit (.bool true)], args := [] }
  | _ => none }
def contendNamesRow : OpenClaim := { program := "ytnfelncgeihihaa", sum := "ca254bc067f468309031cf470f7436c3e1d9b158cce9ff15a9fbe16fcf012cea", func := "pendulum/pendulumlaw16.ContendNames", spec := "contendNames", unfollowed := true, recurses := true, apart := false }
def ContendNamesSaid : Prop := contendNamesRow.holds Try.pinned (OpenSpec.ofChange contendNamesSpec)

/-- ITS FALSE NEIGHBOUR: 'it returns false'. Refute it at one input. -/
def contendNamesWrong : ChangeSpec := { name := "contendNames", fn := fun _ => fun
  | [] => { results := [.lit (.bool false)], args := [] }
  | _ => none }
def ContendNamesWrongFalsely : Prop := contendNamesRow.holds Try.pinned (OpenSpec.ofChange contendNamesWrong)

/-- 'pendulumlaw16.ContendRows': WHATEVER THE INPUT: true; the input reads as it did. -/
def contendRowsSpec : ChangeSpec := { name := "contendRows", fn := fun _ => fun
  | [d1, d2, d3, d4, d5] => { results := [.lit (.bool true)], args := [d1, d2, d3, d4, d5] }
  | _ => none }
def contendRowsRow : OpenClaim := { program := "ytnfelncgeihihaa", sum := "ca254bc067f468309031cf470f7436c3e1d9b158cce9ff15a9fbe16fcf012cea", func := "pendulum/pendulumlaw16.ContendRows", spec := "contendRows", unfollowed := true, recurses := true, apart := false }
def ContendRowsSaid : Prop := contendRowsRow.holds Try.pinned (OpenSpec.ofChange contendRowsSpec)

/-- ITS FALSE NEIGHBOUR: 'it returns false'. Refute it at one input. -/
def contendRowsWrong : ChangeSpec := { name := "contendRows", fn := fun _ => fun
  | [d1, d2, d3, d4, d5] => { results := [.lit (.bool false)], args := [d1, d2, d3, d4, d5] }
  | _ => none }
def ContendRowsWrongFalsely : Prop := contendRowsRow.holds Try.pinned (OpenSpec.ofChange contendRowsWrong)

/-- 'pendulumlaw02.TstateBack': WHATEVER THE INPUT: true; the input reads as it did. -/
def tstateBackSpec : ChangeSpec := { name := "tstateBack", fn := fun _ => fun
  | [d1, d2, d3] => { results := [.lit (.bool true)], args := [d1, d2, d3] }
  | _ => none }
def tstateBackRow : OpenClaim := { program := "ytnfelncgeihihaa", sum := "ca254bc067f468309031cf470f7436c3e1d9b158cce9ff15a9fbe16fcf012cea", func := "pendulum/pendulumlaw02.TstateBack", spec := "tstateBack", unfollowed := true, recurses := true, apart := false }
def TstateBackSaid : Prop := tstateBackRow.holds Try.pinned (OpenSpec.ofChange tstateBackSpec)

/-- ITS FALSE NEIGHBOUR: 'it returns false'. Refute it at one input. -/
def tstateBackWrong : ChangeSpec := { name := "tstateBack", fn := fun _ => fun
  | [d1, d2, d3] => { results := [.lit (.bool false)], args := [d1, d2, d3] }
  | _ => none }
def TstateBackWrongFalsely : Prop := tstateBackRow.holds Try.pinned (OpenSpec.ofChange tstateBackWrong)

/-- 'pendulumlaw02.TstateCalls': WHATEVER THE INPUT: true; the input reads as it did. -/
def tstateCallsSpec : ChangeSpec := { name := "tstateCalls", fn := fun _ => fun
  | [d1, d2, d3, d4, d5] => { results := [.lit (.bool true)], args := [d1, d2, d3, d4, d5] }
  | _ => none }
def tstateCallsRow : OpenClaim := { program := "ytnfelncgeihihaa", sum := "ca254bc067f468309031cf470f7436c3e1d9b158cce9ff15a9fbe16fcf012cea", func := "pendulum/pendulumlaw02.TstateCalls", spec := "tstateCalls", unfollowed := true, recurses := true, apart := false }
def TstateCallsSaid : Prop := tstateCallsRow.holds Try.pinned (OpenSpec.ofChange tstateCallsSpec)

/-- ITS FALSE NEIGHBOUR: 'it returns false'. Refute it at one input. -/
def tstateCallsWrong : ChangeSpec := { name := "tstateCalls", fn := fun _ => fun
  | [d1, d2, d3, d4, d5] => { results := [.lit (.bool false)], args := [d1, d2, d3, d4, d5] }
  | _ => none }
def TstateCallsWrongFalsely : Prop := tstateCallsRow.holds Try.pinned (OpenSpec.ofChange tstateCallsWrong)

/- THE SECOND FORM. 'bulk': how many values and letters a reading holds, each counted each time it is reached (what is shared counts as often as it is met; a slice's spare places count too). A statement '..UptoSaid' is the law's where the arguments, and the package variables that the reading takes, are together of bulk at most 1048576: NARROWER than '..Said'. Prove '..Said' where nothing that the law and all that it calls make is longer than what came in: it says more and counts as full. Else prove '..UptoSaid'. A law counts once. -/
mutual
def uptoBulk {H : Type} : DataW H → Nat
  | .lit (.string bytes) => bytes.length + 1
  | .lit _ => 1
  | .nil => 1
  | .ptr d => uptoBulk d + 1
  | .slice elems spare => uptoBulkAll elems + uptoBulkAll spare + 1
  | .agg parts => uptoBulkAll parts + 1
  | .iface _ d => uptoBulk d + 1
  | .map entries => uptoBulkEntries entries + 1
  | .held _ => 1
def uptoBulkAll {H : Type} : List (DataW H) → Nat
  | [] => 0
  | d :: r => uptoBulk d + uptoBulkAll r
def uptoBulkEntries {H : Type} : List (Lit × DataW H) → Nat
  | [] => 0
  | x :: r => uptoBulkEntry x + uptoBulkEntries r
def uptoBulkEntry {H : Type} : Lit × DataW H → Nat
  | (.string bytes, d) => bytes.length + uptoBulk d + 1
  | (_, d) => uptoBulk d + 1
 end
def uptoSmall : (H : Type) → List (DataW H) → Bool := fun _ ds => decide (uptoBulkAll ds ≤ 1048576)
def OpenSpec.upto (s : _root_.Go.ChangeSpec) : _root_.Go.OpenSpec := { _root_.Go.OpenSpec.ofChange s with cond := some uptoSmall }

/-- 'pendulumlaw02.TstateFits', WHERE WHAT IT READS IS OF BULK AT MOST 1048576: true; the input reads as it did. -/
def tstateFitsUptoRow : OpenClaim := { program := "ytnfelncgeihihaa", sum := "ca254bc067f468309031cf470f7436c3e1d9b158cce9ff15a9fbe16fcf012cea", func := "pendulum/pendulumlaw02.TstateFits", spec := "tstateFits", unfollowed := true, recurses := true, apart := false, narrowed := true }
def TstateFitsUptoSaid : Prop := tstateFitsUptoRow.holds Try.pinned (OpenSpec.upto tstateFitsSpec)

/-- 'pendulumlaw02.TstateNames', WHERE WHAT IT READS IS OF BULK AT MOST 1048576: true; the input reads as it did. -/
def tstateNamesUptoRow : OpenClaim := { program := "ytnfelncgeihihaa", sum := "ca254bc067f468309031cf470f7436c3e1d9b158cce9ff15a9fbe16fcf012cea", func := "pendulum/pendulumlaw02.TstateNames", spec := "tstateNames", unfollowed := true, recurses := true, apart := false, narrowed := true }
def TstateNamesUptoSaid : Prop := tstateNamesUptoRow.holds Try.pinned (OpenSpec.upto tstateNamesSpec)

/-- 'pendulumlaw02.TstatePulses', WHERE WHAT IT READS IS OF BULK AT MOST 1048576: true; the input reads as it did. -/
def tstatePulsesUptoRow : OpenClaim := { program := "ytnfelncgeihihaa", sum := "ca254bc067f468309031cf470f7436c3e1d9b158cce9ff15a9fbe16fcf012cea", func := "pendulum/pendulumlaw02.TstatePulses", spec := "tstatePulses", unfollowed := true, recurses := true, apart := false, narrowed := true }
def TstatePulsesUptoSaid : Prop := tstatePulsesUptoRow.holds Try.pinned (OpenSpec.upto tstatePulsesSpec)

/-- 'pendulumlaw15.RasterOnce', WHERE WHAT IT READS IS OF BULK AT MOST 1048576: true; the input reads as it did. -/
def rasterOnceUptoRow : OpenClaim := { program := "ytnfelncgeihihaa", sum := "ca254bc067f468309031cf470f7436c3e1d9b158cce9ff15a9fbe16fcf012cea", func := "pendulum/pendulumlaw15.RasterOnce", spec := "rasterOnce", unfollowed := true, recurses := true, apart := false, narrowed := true }
def RasterOnceUptoSaid : Prop := rasterOnceUptoRow.holds Try.pinned (OpenSpec.upto rasterOnceSpec)

/-- 'pendulumlaw15.RasterNexts', WHERE WHAT IT READS IS OF BULK AT MOST 1048576: true; the input reads as it did. -/
def rasterNextsUptoRow : OpenClaim := { program := "ytnfelncgeihihaa", sum := "ca254bc067f468309031cf470f7436c3e1d9b158cce9ff15a9fbe16fcf012cea", func := "pendulum/pendulumlaw15.RasterNexts", spec := "rasterNexts", unfollowed := true, recurses := true, apart := false, narrowed := true }
def RasterNextsUptoSaid : Prop := rasterNextsUptoRow.holds Try.pinned (OpenSpec.upto rasterNextsSpec)

/-- 'pendulumlaw15.RasterCounts', WHERE WHAT IT READS IS OF BULK AT MOST 1048576: true; the input reads as it did. -/
def rasterCountsUptoRow : OpenClaim := { program := "ytnfelncgeihihaa", sum := "ca254bc067f468309031cf470f7436c3e1d9b158cce9ff15a9fbe16fcf012cea", func := "pendulum/pendulumlaw15.RasterCounts", spec := "rasterCounts", unfollowed := true, recurses := true, apart := false, narrowed := true }
def RasterCountsUptoSaid : Prop := rasterCountsUptoRow.holds Try.pinned (OpenSpec.upto rasterCountsSpec)

/-- 'pendulumlaw15.RasterNames', WHERE WHAT IT READS IS OF BULK AT MOST 1048576: true; the input reads as it did. -/
def rasterNamesUptoRow : OpenClaim := { program := "ytnfelncgeihihaa", sum := "ca254bc067f468309031cf470f7436c3e1d9b158cce9ff15a9fbe16fcf012cea", func := "pendulum/pendulumlaw15.RasterNames", spec := "rasterNames", unfollowed := true, recurses := true, apart := false, narrowed := true }
def RasterNamesUptoSaid : Prop := rasterNamesUptoRow.holds Try.pinned (OpenSpec.upto rasterNamesSpec)

/-- 'pendulumlaw15.RasterPlaces', WHERE WHAT IT READS IS OF BULK AT MOST 1048576: true; the input reads as it did. -/
def rasterPlacesUptoRow : OpenClaim := { program := "ytnfelncgeihihaa", sum := "ca254bc067f468309031cf470f7436c3e1d9b158cce9ff15a9fbe16fcf012cea", func := "pendulum/pendulumlaw15.RasterPlaces", spec := "rasterPlaces", unfollowed := true, recurses := true, apart := false, narrowed := true }
def RasterPlacesUptoSaid : Prop := rasterPlacesUptoRow.holds Try.pinned (OpenSpec.upto rasterPlacesSpec)

/-- 'pendulumlaw16.ContendPorts', WHERE WHAT IT READS IS OF BULK AT MOST 1048576: true; the input reads as it did. -/
def contendPortsUptoRow : OpenClaim := { program := "ytnfelncgeihihaa", sum := "ca254bc067f468309031cf470f7436c3e1d9b158cce9ff15a9fbe16fcf012cea", func := "pendulum/pendulumlaw16.ContendPorts", spec := "contendPorts", unfollowed := true, recurses := true, apart := false, narrowed := true }
def ContendPortsUptoSaid : Prop := contendPortsUptoRow.holds Try.pinned (OpenSpec.upto contendPortsSpec)

/-- 'pendulumlaw16.ContendWaits', WHERE WHAT IT READS IS OF BULK AT MOST 1048576: true; the input reads as it did. -/
def contendWaitsUptoRow : OpenClaim := { program := "ytnfelncgeihihaa", sum := "ca254bc067f468309031cf470f7436c3e1d9b158cce9ff15a9fbe16fcf012cea", func := "pendulum/pendulumlaw16.ContendWaits", spec := "contendWaits", unfollowed := true, recurses := true, apart := false, narrowed := true }
def ContendWaitsUptoSaid : Prop := contendWaitsUptoRow.holds Try.pinned (OpenSpec.upto contendWaitsSpec)

/-- 'pendulumlaw16.ContendNames', WHERE WHAT IT READS IS OF BULK AT MOST 1048576: true; the input reads as it did. -/
def contendNamesUptoRow : OpenClaim := { program := "ytnfelncgeihihaa", sum := "ca254bc067f468309031cf470f7436c3e1d9b158cce9ff15a9fbe16fcf012cea", func := "pendulum/pendulumlaw16.ContendNames", spec := "contendNames", unfollowed := true, recurses := true, apart := false, narrowed := true }
def ContendNamesUptoSaid : Prop := contendNamesUptoRow.holds Try.pinned (OpenSpec.upto contendNamesSpec)

/-- 'pendulumlaw16.ContendRows', WHERE WHAT IT READS IS OF BULK AT MOST 1048576: true; the input reads as it did. -/
def contendRowsUptoRow : OpenClaim := { program := "ytnfelncgeihihaa", sum := "ca254bc067f468309031cf470f7436c3e1d9b158cce9ff15a9fbe16fcf012cea", func := "pendulum/pendulumlaw16.ContendRows", spec := "contendRows", unfollowed := true, recurses := true, apart := false, narrowed := true }
def ContendRowsUptoSaid : Prop := contendRowsUptoRow.holds Try.pinned (OpenSpec.upto contendRowsSpec)

/-- 'pendulumlaw02.TstateBack', WHERE WHAT IT READS IS OF BULK AT MOST 1048576: true; the input reads as it did. -/
def tstateBackUptoRow : OpenClaim := { program := "ytnfelncgeihihaa", sum := "ca254bc067f468309031cf470f7436c3e1d9b158cce9ff15a9fbe16fcf012cea", func := "pendulum/pendulumlaw02.TstateBack", spec := "tstateBack", unfollowed := true, recurses := true, apart := false, narrowed := true }
def TstateBackUptoSaid : Prop := tstateBackUptoRow.holds Try.pinned (OpenSpec.upto tstateBackSpec)

/-- 'pendulumlaw02.TstateCalls', WHERE WHAT IT READS IS OF BULK AT MOST 1048576: true; the input reads as it did. -/
def tstateCallsUptoRow : OpenClaim := { program := "ytnfelncgeihihaa", sum := "ca254bc067f468309031cf470f7436c3e1d9b158cce9ff15a9fbe16fcf012cea", func := "pendulum/pendulumlaw02.TstateCalls", spec := "tstateCalls", unfollowed := true, recurses := true, apart := false, narrowed := true }
def TstateCallsUptoSaid : Prop := tstateCallsUptoRow.holds Try.pinned (OpenSpec.upto tstateCallsSpec)

end Rows
end Go.Proofs.Ytnfelncgeihihaa
