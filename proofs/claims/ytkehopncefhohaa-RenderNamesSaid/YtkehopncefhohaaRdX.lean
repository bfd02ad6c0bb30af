/- Printed by vc.py: what must hold for functions' ways (RdX). -/
import Derived.Test.YtkehopncefhohaaRdE
namespace Go.Proofs.Ytkehopncefhohaa.V
open Go Go.Proofs
set_option maxRecDepth 100000
set_option linter.unusedVariables false
def ga_VC (u : Unit) (K : AV → AH → Prop) : Prop :=
  K (AV.map (2 : Nat))
  { nx := (3 : Nat),
    m :=
      [((2 : Nat), AObj.mp []),
        ((1 : Nat),
          AObj.cells (29 : Nat)
            [AV.int IntKind.i64 (311 : Int), AV.int IntKind.i64 (228 : Int), AV.int IntKind.i64 (63 : Int),
              AV.int IntKind.i64 (192 : Int), AV.int IntKind.i64 (14 : Int), AV.int IntKind.i64 (32 : Int),
              AV.int IntKind.i64 (36 : Int)]),
        ((0 : Nat),
          AObj.cells (29 : Nat)
            [AV.int IntKind.i64 (311 : Int), AV.int IntKind.i64 (228 : Int), AV.int IntKind.i64 (63 : Int),
              AV.int IntKind.i64 (192 : Int), AV.int IntKind.i64 (14 : Int), AV.int IntKind.i64 (32 : Int),
              AV.int IntKind.i64 (36 : Int)])] }
def ga_scr : Plan := .z
theorem ga_vc (u : Unit) (K : AV → AH → Prop) : (funP (cxP Try.prog purR [10]) 12 [classicA, .nilslice] h0 ga_scr (fun v σ _ => K v σ)) = ga_VC u K := by kernel_rfl
end Go.Proofs.Ytkehopncefhohaa.V
