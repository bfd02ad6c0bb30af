/- Printed by vc.py: what must hold for functions' ways (MgB). -/
import Derived.Test.YtngemikgnlgjcaaMgA
namespace Go.Proofs.Ytngemikgnlgjcaa.V
open Go Go.Proofs
set_option maxRecDepth 100000
set_option linter.unusedVariables false
def pz_VC (l : Nat) (K : AV → AH → Prop) : Prop :=
  K (AV.tup [])
  { nx := (5 : Nat),
    m :=
      [((4 : Nat),
          AObj.cells (23 : Nat)
            [AV.int IntKind.i64 (9 : Int), AV.int IntKind.i64 (1 : Int), AV.int IntKind.i64 (1 : Int),
              AV.int IntKind.i64 (1 : Int), AV.int IntKind.i64 (0 : Int), AV.int IntKind.i64 (0 : Int)]),
        ((3 : Nat),
          AObj.cells (23 : Nat)
            [AV.int IntKind.i64 (3 : Int), AV.int IntKind.i64 (1 : Int), AV.int IntKind.i64 (0 : Int),
              AV.int IntKind.i64 (1 : Int), AV.int IntKind.i64 (0 : Int), AV.int IntKind.i64 (0 : Int)]),
        ((2 : Nat), AObj.ro [AV.int IntKind.i64 (3 : Int)]),
        ((1 : Nat), AObj.ro [AV.slice (0 : Nat) (0 : Nat) (2 : Nat) (some (2 : Nat))]),
        ((0 : Nat),
          AObj.ro
            [AV.int IntKind.i64 (3 : Int), AV.int IntKind.i64 (1 : Int), AV.int IntKind.i64 (0 : Int),
              AV.int IntKind.i64 (1 : Int), AV.int IntKind.i64 (0 : Int), AV.int IntKind.i64 (0 : Int),
              AV.int IntKind.i64 (9 : Int), AV.int IntKind.i64 (1 : Int), AV.int IntKind.i64 (1 : Int),
              AV.int IntKind.i64 (1 : Int), AV.int IntKind.i64 (0 : Int), AV.int IntKind.i64 (0 : Int)])] }
def pz_scr : Plan := .z
theorem pz_vc (l : Nat) (K : AV → AH → Prop) : (funP (cxP Try.prog [] []) 19 [.func (.yield l) [] [], .ptr 1 0, .ptr 2 0] ⟨3, [(2, .ro [.int .i64 3]), (1, .ro [.slice 0 0 2 (some 2)]), (0, .ro evL)]⟩ pz_scr (fun v σ _ => K v σ)) = pz_VC l K := by kernel_rfl
end Go.Proofs.Ytngemikgnlgjcaa.V
