/- Printed by vc.py: what must hold for functions' ways (RdY). -/
import Derived.Test.YtkehopncefhohaaRdF
namespace Go.Proofs.Ytkehopncefhohaa.V
open Go Go.Proofs
set_option maxRecDepth 100000
set_option linter.unusedVariables false
def frm_VC (cs : List AV) (K : AV → AH → Prop) : Prop :=
  K
  (AV.tup
    [AV.agg [AV.int IntKind.i64 (0 : Int), AV.slice (5 : Nat) (0 : Nat) (49152 : Nat) none, AV.nilslice],
      AV.int IntKind.i64 (0 : Int)])
  { nx := (6 : Nat),
    m :=
      [((1 : Nat),
          AObj.cells (24 : Nat)
            [AV.int IntKind.i64 (0 : Int), AV.slice (5 : Nat) (0 : Nat) (49152 : Nat) none, AV.nilslice]),
        ((5 : Nat), AObj.opn (5 : Nat) (1 : Nat) cs), ((4 : Nat), AObj.mp []),
        ((3 : Nat),
          AObj.cells (29 : Nat)
            [AV.int IntKind.i64 (311 : Int), AV.int IntKind.i64 (228 : Int), AV.int IntKind.i64 (63 : Int),
              AV.int IntKind.i64 (192 : Int), AV.int IntKind.i64 (14 : Int), AV.int IntKind.i64 (32 : Int),
              AV.int IntKind.i64 (36 : Int)]),
        ((2 : Nat),
          AObj.cells (29 : Nat)
            [AV.int IntKind.i64 (311 : Int), AV.int IntKind.i64 (228 : Int), AV.int IntKind.i64 (63 : Int),
              AV.int IntKind.i64 (192 : Int), AV.int IntKind.i64 (14 : Int), AV.int IntKind.i64 (32 : Int),
              AV.int IntKind.i64 (36 : Int)]),
        ((0 : Nat),
          AObj.cells (29 : Nat)
            [AV.int IntKind.i64 (311 : Int), AV.int IntKind.i64 (228 : Int), AV.int IntKind.i64 (63 : Int),
              AV.int IntKind.i64 (192 : Int), AV.int IntKind.i64 (14 : Int), AV.int IntKind.i64 (32 : Int),
              AV.int IntKind.i64 (36 : Int)])] }
def frm_scr : Plan := .z
theorem frm_vc (cs : List AV) (K : AV → AH → Prop) : (funP (XFr cs) 4 [classicA, .nilslice, .int .i64 0] h0 frm_scr (fun v σ _ => K v σ)) = frm_VC cs K := by kernel_rfl
end Go.Proofs.Ytkehopncefhohaa.V
