/- Printed by vc.py: what must hold for functions' ways (RkE). -/
import Derived.Test.YtkehopncefhohaaRkD
namespace Go.Proofs.Ytkehopncefhohaa.V
open Go Go.Proofs
set_option maxRecDepth 100000
set_option linter.unusedVariables false
def frs_VC (u : Unit) (K : AV → AH → Prop) : Prop :=
  K (AV.tup [AV.nilslice, AV.int IntKind.i64 (0 : Int)])
  { nx := (4 : Nat),
    m :=
      [((3 : Nat), AObj.cells (42 : Nat) [AV.map (2 : Nat)]), ((2 : Nat), AObj.mp []),
        ((1 : Nat),
          AObj.cells (29 : Nat)
            [AV.int IntKind.i64 (311 : Int), AV.int IntKind.i64 (228 : Int), AV.int IntKind.i64 (63 : Int),
              AV.int IntKind.i64 (192 : Int), AV.int IntKind.i64 (14 : Int), AV.int IntKind.i64 (32 : Int),
              AV.int IntKind.i64 (36 : Int)]),
        ((0 : Nat),
          AObj.cells (29 : Nat)
            [AV.int IntKind.i64 (311 : Int), AV.int IntKind.i64 (228 : Int), AV.int IntKind.i64 (63 : Int),
              AV.int IntKind.i64 (192 : Int), AV.int IntKind.i64 (14 : Int), AV.int IntKind.i64 (32 : Int),
              AV.int IntKind.i64 (36 : Int)])] }
def frs_scr : Plan := .z
theorem frs_vc (u : Unit) (K : AV → AH → Prop) : (funP (XFs) 6 [classicA, .nilslice] h0 frs_scr (fun v σ _ => K v σ)) = frs_VC u K := by kernel_rfl
def nds_VC (u : Unit) (K : AV → Prop) : Prop :=
  K (AV.int IntKind.i64 (49152 : Int))
def nds_scr : Plan := .z
theorem nds_vc (u : Unit) (K : AV → Prop) : (funP (cxP Try.prog [] []) 16 [classicA] h0 nds_scr (fun v _ _ => K v)) = nds_VC u K := by kernel_rfl
def ck0_VC (u : Unit) (K : AV → Prop) : Prop :=
  K (AV.int IntKind.i64 (2 : Int))
def ck0_scr : Plan := .z
theorem ck0_vc (u : Unit) (K : AV → Prop) : (funP (XCk) 15 [zeroA] h0 ck0_scr (fun v _ _ => K v)) = ck0_VC u K := by kernel_rfl
end Go.Proofs.Ytkehopncefhohaa.V
