/- Printed by vc.py: what must hold for functions' ways (LlV). -/
import Derived.Test.YtfamikdibjhnpaaLlA
namespace Go.Proofs.Ytfamikdibjhnpaa.V
open Go Go.Proofs
set_option maxRecDepth 100000
set_option linter.unusedVariables false
def pN_VC (room : Int) (ln lk : Nat) (lc : List AV) (tv : AV) (N : NS) (Q : QS) (K : Unit) : Prop :=
  ((decide ((↑ln : Int) > (100 : Int))) = true →
    Q Exit.ret (162 : Nat)
  [some (AV.bool true), some (AV.slice (0 : Nat) (0 : Nat) ln (some lk)), some tv, none, none, none, none]
  { nx := (1 : Nat), m := [((0 : Nat), AObj.ro lc)] }) ∧
  ((decide ((↑ln : Int) > (100 : Int))) = false →
    (N (162 : Nat)
  [some (AV.bool false), some (AV.slice (0 : Nat) (0 : Nat) ln (some lk)), some tv, some (AV.int IntKind.i64 (9 : Int)),
    some (AV.ptr (2 : Nat) (0 : Nat)), some AV.nilslice, some AV.nilslice]
  { nx := (3 : Nat),
    m :=
      [((2 : Nat),
          AObj.cells (42 : Nat)
            [AV.slice (1 : Nat) (0 : Nat) (9 : Nat) (some (9 : Nat)), AV.int IntKind.i64 (0 : Int),
              AV.int IntKind.i64 (0 : Int), AV.int IntKind.i64 (0 : Int), AV.bool false]),
        ((1 : Nat),
          AObj.cells (33 : Nat)
            [AV.int IntKind.i64 (0 : Int), AV.int IntKind.i64 (0 : Int), AV.int IntKind.i64 (0 : Int),
              AV.int IntKind.u8 (0 : Int), AV.int IntKind.i64 (0 : Int), AV.int IntKind.i64 (0 : Int),
              AV.int IntKind.u8 (0 : Int), AV.int IntKind.i64 (0 : Int), AV.int IntKind.i64 (0 : Int),
              AV.int IntKind.i64 (0 : Int), AV.int IntKind.u8 (0 : Int), AV.int IntKind.i64 (0 : Int),
              AV.int IntKind.i64 (0 : Int), AV.int IntKind.u8 (0 : Int), AV.int IntKind.i64 (0 : Int),
              AV.int IntKind.i64 (0 : Int), AV.int IntKind.i64 (0 : Int), AV.int IntKind.u8 (0 : Int),
              AV.int IntKind.i64 (0 : Int), AV.int IntKind.i64 (0 : Int), AV.int IntKind.u8 (0 : Int),
              AV.int IntKind.i64 (0 : Int), AV.int IntKind.i64 (0 : Int), AV.int IntKind.i64 (0 : Int),
              AV.int IntKind.u8 (0 : Int), AV.int IntKind.i64 (0 : Int), AV.int IntKind.i64 (0 : Int),
              AV.int IntKind.u8 (0 : Int), AV.int IntKind.i64 (0 : Int), AV.int IntKind.i64 (0 : Int),
              AV.int IntKind.i64 (0 : Int), AV.int IntKind.u8 (0 : Int), AV.int IntKind.i64 (0 : Int),
              AV.int IntKind.i64 (0 : Int), AV.int IntKind.u8 (0 : Int), AV.int IntKind.i64 (0 : Int),
              AV.int IntKind.i64 (0 : Int), AV.int IntKind.i64 (0 : Int), AV.int IntKind.u8 (0 : Int),
              AV.int IntKind.i64 (0 : Int), AV.int IntKind.i64 (0 : Int), AV.int IntKind.u8 (0 : Int),
              AV.int IntKind.i64 (0 : Int), AV.int IntKind.i64 (0 : Int), AV.int IntKind.i64 (0 : Int),
              AV.int IntKind.u8 (0 : Int), AV.int IntKind.i64 (0 : Int), AV.int IntKind.i64 (0 : Int),
              AV.int IntKind.u8 (0 : Int), AV.int IntKind.i64 (0 : Int), AV.int IntKind.i64 (0 : Int),
              AV.int IntKind.i64 (0 : Int), AV.int IntKind.u8 (0 : Int), AV.int IntKind.i64 (0 : Int),
              AV.int IntKind.i64 (0 : Int), AV.int IntKind.u8 (0 : Int), AV.int IntKind.i64 (0 : Int),
              AV.int IntKind.i64 (0 : Int), AV.int IntKind.i64 (0 : Int), AV.int IntKind.u8 (0 : Int),
              AV.int IntKind.i64 (0 : Int), AV.int IntKind.i64 (0 : Int), AV.int IntKind.u8 (0 : Int)]),
        ((0 : Nat), AObj.ro lc)] }) ∧
    ((N (162 : Nat)
  [some (AV.bool false), some (AV.slice (0 : Nat) (0 : Nat) ln (some lk)), some tv, some (AV.int IntKind.i64 (8 : Int)),
    some (AV.ptr (2 : Nat) (0 : Nat)), some AV.nilslice, some AV.nilslice]
  { nx := (3 : Nat),
    m :=
      [((2 : Nat),
          AObj.cells (42 : Nat)
            [AV.slice (1 : Nat) (0 : Nat) (8 : Nat) (some (8 : Nat)), AV.int IntKind.i64 (0 : Int),
              AV.int IntKind.i64 (0 : Int), AV.int IntKind.i64 (0 : Int), AV.bool false]),
        ((1 : Nat),
          AObj.cells (33 : Nat)
            [AV.int IntKind.i64 (0 : Int), AV.int IntKind.i64 (0 : Int), AV.int IntKind.i64 (0 : Int),
              AV.int IntKind.u8 (0 : Int), AV.int IntKind.i64 (0 : Int), AV.int IntKind.i64 (0 : Int),
              AV.int IntKind.u8 (0 : Int), AV.int IntKind.i64 (0 : Int), AV.int IntKind.i64 (0 : Int),
              AV.int IntKind.i64 (0 : Int), AV.int IntKind.u8 (0 : Int), AV.int IntKind.i64 (0 : Int),
              AV.int IntKind.i64 (0 : Int), AV.int IntKind.u8 (0 : Int), AV.int IntKind.i64 (0 : Int),
              AV.int IntKind.i64 (0 : Int), AV.int IntKind.i64 (0 : Int), AV.int IntKind.u8 (0 : Int),
              AV.int IntKind.i64 (0 : Int), AV.int IntKind.i64 (0 : Int), AV.int IntKind.u8 (0 : Int),
              AV.int IntKind.i64 (0 : Int), AV.int IntKind.i64 (0 : Int), AV.int IntKind.i64 (0 : Int),
              AV.int IntKind.u8 (0 : Int), AV.int IntKind.i64 (0 : Int), AV.int IntKind.i64 (0 : Int),
              AV.int IntKind.u8 (0 : Int), AV.int IntKind.i64 (0 : Int), AV.int IntKind.i64 (0 : Int),
              AV.int IntKind.i64 (0 : Int), AV.int IntKind.u8 (0 : Int), AV.int IntKind.i64 (0 : Int),
              AV.int IntKind.i64 (0 : Int), AV.int IntKind.u8 (0 : Int), AV.int IntKind.i64 (0 : Int),
              AV.int IntKind.i64 (0 : Int), AV.int IntKind.i64 (0 : Int), AV.int IntKind.u8 (0 : Int),
              AV.int IntKind.i64 (0 : Int), AV.int IntKind.i64 (0 : Int), AV.int IntKind.u8 (0 : Int),
              AV.int IntKind.i64 (0 : Int), AV.int IntKind.i64 (0 : Int), AV.int IntKind.i64 (0 : Int),
              AV.int IntKind.u8 (0 : Int), AV.int IntKind.i64 (0 : Int), AV.int IntKind.i64 (0 : Int),
              AV.int IntKind.u8 (0 : Int), AV.int IntKind.i64 (0 : Int), AV.int IntKind.i64 (0 : Int),
              AV.int IntKind.i64 (0 : Int), AV.int IntKind.u8 (0 : Int), AV.int IntKind.i64 (0 : Int),
              AV.int IntKind.i64 (0 : Int), AV.int IntKind.u8 (0 : Int)]),
        ((0 : Nat), AObj.ro lc)] }) ∧
      ((N (162 : Nat)
  [some (AV.bool false), some (AV.slice (0 : Nat) (0 : Nat) ln (some lk)), some tv, some (AV.int IntKind.i64 (7 : Int)),
    some (AV.ptr (2 : Nat) (0 : Nat)), some AV.nilslice, some AV.nilslice]
  { nx := (3 : Nat),
    m :=
      [((2 : Nat),
          AObj.cells (42 : Nat)
            [AV.slice (1 : Nat) (0 : Nat) (7 : Nat) (some (7 : Nat)), AV.int IntKind.i64 (0 : Int),
              AV.int IntKind.i64 (0 : Int), AV.int IntKind.i64 (0 : Int), AV.bool false]),
        ((1 : Nat),
          AObj.cells (33 : Nat)
            [AV.int IntKind.i64 (0 : Int), AV.int IntKind.i64 (0 : Int), AV.int IntKind.i64 (0 : Int),
              AV.int IntKind.u8 (0 : Int), AV.int IntKind.i64 (0 : Int), AV.int IntKind.i64 (0 : Int),
              AV.int IntKind.u8 (0 : Int), AV.int IntKind.i64 (0 : Int), AV.int IntKind.i64 (0 : Int),
              AV.int IntKind.i64 (0 : Int), AV.int IntKind.u8 (0 : Int), AV.int IntKind.i64 (0 : Int),
              AV.int IntKind.i64 (0 : Int), AV.int IntKind.u8 (0 : Int), AV.int IntKind.i64 (0 : Int),
              AV.int IntKind.i64 (0 : Int), AV.int IntKind.i64 (0 : Int), AV.int IntKind.u8 (0 : Int),
              AV.int IntKind.i64 (0 : Int), AV.int IntKind.i64 (0 : Int), AV.int IntKind.u8 (0 : Int),
              AV.int IntKind.i64 (0 : Int), AV.int IntKind.i64 (0 : Int), AV.int IntKind.i64 (0 : Int),
              AV.int IntKind.u8 (0 : Int), AV.int IntKind.i64 (0 : Int), AV.int IntKind.i64 (0 : Int),
              AV.int IntKind.u8 (0 : Int), AV.int IntKind.i64 (0 : Int), AV.int IntKind.i64 (0 : Int),
              AV.int IntKind.i64 (0 : Int), AV.int IntKind.u8 (0 : Int), AV.int IntKind.i64 (0 : Int),
              AV.int IntKind.i64 (0 : Int), AV.int IntKind.u8 (0 : Int), AV.int IntKind.i64 (0 : Int),
              AV.int IntKind.i64 (0 : Int), AV.int IntKind.i64 (0 : Int), AV.int IntKind.u8 (0 : Int),
              AV.int IntKind.i64 (0 : Int), AV.int IntKind.i64 (0 : Int), AV.int IntKind.u8 (0 : Int),
              AV.int IntKind.i64 (0 : Int), AV.int IntKind.i64 (0 : Int), AV.int IntKind.i64 (0 : Int),
              AV.int IntKind.u8 (0 : Int), AV.int IntKind.i64 (0 : Int), AV.int IntKind.i64 (0 : Int),
              AV.int IntKind.u8 (0 : Int)]),
        ((0 : Nat), AObj.ro lc)] }) ∧
        ((N (162 : Nat)
  [some (AV.bool false), some (AV.slice (0 : Nat) (0 : Nat) ln (some lk)), some tv, some (AV.int IntKind.i64 (6 : Int)),
    some (AV.ptr (2 : Nat) (0 : Nat)), some AV.nilslice, some AV.nilslice]
  { nx := (3 : Nat),
    m :=
      [((2 : Nat),
          AObj.cells (42 : Nat)
            [AV.slice (1 : Nat) (0 : Nat) (6 : Nat) (some (6 : Nat)), AV.int IntKind.i64 (0 : Int),
              AV.int IntKind.i64 (0 : Int), AV.int IntKind.i64 (0 : Int), AV.bool false]),
        ((1 : Nat),
          AObj.cells (33 : Nat)
            [AV.int IntKind.i64 (0 : Int), AV.int IntKind.i64 (0 : Int), AV.int IntKind.i64 (0 : Int),
              AV.int IntKind.u8 (0 : Int), AV.int IntKind.i64 (0 : Int), AV.int IntKind.i64 (0 : Int),
              AV.int IntKind.u8 (0 : Int), AV.int IntKind.i64 (0 : Int), AV.int IntKind.i64 (0 : Int),
              AV.int IntKind.i64 (0 : Int), AV.int IntKind.u8 (0 : Int), AV.int IntKind.i64 (0 : Int),
              AV.int IntKind.i64 (0 : Int), AV.int IntKind.u8 (0 : Int), AV.int IntKind.i64 (0 : Int),
              AV.int IntKind.i64 (0 : Int), AV.int IntKind.i64 (0 : Int), AV.int IntKind.u8 (0 : Int),
              AV.int IntKind.i64 (0 : Int), AV.int IntKind.i64 (0 : Int), AV.int IntKind.u8 (0 : Int),
              AV.int IntKind.i64 (0 : Int), AV.int IntKind.i64 (0 : Int), AV.int IntKind.i64 (0 : Int),
              AV.int IntKind.u8 (0 : Int), AV.int IntKind.i64 (0 : Int), AV.int IntKind.i64 (0 : Int),
              AV.int IntKind.u8 (0 : Int), AV.int IntKind.i64 (0 : Int), AV.int IntKind.i64 (0 : Int),
              AV.int IntKind.i64 (0 : Int), AV.int IntKind.u8 (0 : Int), AV.int IntKind.i64 (0 : Int),
              AV.int IntKind.i64 (0 : Int), AV.int IntKind.u8 (0 : Int), AV.int IntKind.i64 (0 : Int),
              AV.int IntKind.i64 (0 : Int), AV.int IntKind.i64 (0 : Int), AV.int IntKind.u8 (0 : Int),
              AV.int IntKind.i64 (0 : Int), AV.int IntKind.i64 (0 : Int), AV.int IntKind.u8 (0 : Int)]),
        ((0 : Nat), AObj.ro lc)] }) ∧
          ((N (162 : Nat)
  [some (AV.bool false), some (AV.slice (0 : Nat) (0 : Nat) ln (some lk)), some tv, some (AV.int IntKind.i64 (5 : Int)),
    some (AV.ptr (2 : Nat) (0 : Nat)), some AV.nilslice, some AV.nilslice]
  { nx := (3 : Nat),
    m :=
      [((2 : Nat),
          AObj.cells (42 : Nat)
            [AV.slice (1 : Nat) (0 : Nat) (5 : Nat) (some (5 : Nat)), AV.int IntKind.i64 (0 : Int),
              AV.int IntKind.i64 (0 : Int), AV.int IntKind.i64 (0 : Int), AV.bool false]),
        ((1 : Nat),
          AObj.cells (33 : Nat)
            [AV.int IntKind.i64 (0 : Int), AV.int IntKind.i64 (0 : Int), AV.int IntKind.i64 (0 : Int),
              AV.int IntKind.u8 (0 : Int), AV.int IntKind.i64 (0 : Int), AV.int IntKind.i64 (0 : Int),
              AV.int IntKind.u8 (0 : Int), AV.int IntKind.i64 (0 : Int), AV.int IntKind.i64 (0 : Int),
              AV.int IntKind.i64 (0 : Int), AV.int IntKind.u8 (0 : Int), AV.int IntKind.i64 (0 : Int),
              AV.int IntKind.i64 (0 : Int), AV.int IntKind.u8 (0 : Int), AV.int IntKind.i64 (0 : Int),
              AV.int IntKind.i64 (0 : Int), AV.int IntKind.i64 (0 : Int), AV.int IntKind.u8 (0 : Int),
              AV.int IntKind.i64 (0 : Int), AV.int IntKind.i64 (0 : Int), AV.int IntKind.u8 (0 : Int),
              AV.int IntKind.i64 (0 : Int), AV.int IntKind.i64 (0 : Int), AV.int IntKind.i64 (0 : Int),
              AV.int IntKind.u8 (0 : Int), AV.int IntKind.i64 (0 : Int), AV.int IntKind.i64 (0 : Int),
              AV.int IntKind.u8 (0 : Int), AV.int IntKind.i64 (0 : Int), AV.int IntKind.i64 (0 : Int),
              AV.int IntKind.i64 (0 : Int), AV.int IntKind.u8 (0 : Int), AV.int IntKind.i64 (0 : Int),
              AV.int IntKind.i64 (0 : Int), AV.int IntKind.u8 (0 : Int)]),
        ((0 : Nat), AObj.ro lc)] }) ∧
            ((N (162 : Nat)
  [some (AV.bool false), some (AV.slice (0 : Nat) (0 : Nat) ln (some lk)), some tv, some (AV.int IntKind.i64 (4 : Int)),
    some (AV.ptr (2 : Nat) (0 : Nat)), some AV.nilslice, some AV.nilslice]
  { nx := (3 : Nat),
    m :=
      [((2 : Nat),
          AObj.cells (42 : Nat)
            [AV.slice (1 : Nat) (0 : Nat) (4 : Nat) (some (4 : Nat)), AV.int IntKind.i64 (0 : Int),
              AV.int IntKind.i64 (0 : Int), AV.int IntKind.i64 (0 : Int), AV.bool false]),
        ((1 : Nat),
          AObj.cells (33 : Nat)
            [AV.int IntKind.i64 (0 : Int), AV.int IntKind.i64 (0 : Int), AV.int IntKind.i64 (0 : Int),
              AV.int IntKind.u8 (0 : Int), AV.int IntKind.i64 (0 : Int), AV.int IntKind.i64 (0 : Int),
              AV.int IntKind.u8 (0 : Int), AV.int IntKind.i64 (0 : Int), AV.int IntKind.i64 (0 : Int),
              AV.int IntKind.i64 (0 : Int), AV.int IntKind.u8 (0 : Int), AV.int IntKind.i64 (0 : Int),
              AV.int IntKind.i64 (0 : Int), AV.int IntKind.u8 (0 : Int), AV.int IntKind.i64 (0 : Int),
              AV.int IntKind.i64 (0 : Int), AV.int IntKind.i64 (0 : Int), AV.int IntKind.u8 (0 : Int),
              AV.int IntKind.i64 (0 : Int), AV.int IntKind.i64 (0 : Int), AV.int IntKind.u8 (0 : Int),
              AV.int IntKind.i64 (0 : Int), AV.int IntKind.i64 (0 : Int), AV.int IntKind.i64 (0 : Int),
              AV.int IntKind.u8 (0 : Int), AV.int IntKind.i64 (0 : Int), AV.int IntKind.i64 (0 : Int),
              AV.int IntKind.u8 (0 : Int)]),
        ((0 : Nat), AObj.ro lc)] }) ∧
              ((N (162 : Nat)
  [some (AV.bool false), some (AV.slice (0 : Nat) (0 : Nat) ln (some lk)), some tv, some (AV.int IntKind.i64 (3 : Int)),
    some (AV.ptr (2 : Nat) (0 : Nat)), some AV.nilslice, some AV.nilslice]
  { nx := (3 : Nat),
    m :=
      [((2 : Nat),
          AObj.cells (42 : Nat)
            [AV.slice (1 : Nat) (0 : Nat) (3 : Nat) (some (3 : Nat)), AV.int IntKind.i64 (0 : Int),
              AV.int IntKind.i64 (0 : Int), AV.int IntKind.i64 (0 : Int), AV.bool false]),
        ((1 : Nat),
          AObj.cells (33 : Nat)
            [AV.int IntKind.i64 (0 : Int), AV.int IntKind.i64 (0 : Int), AV.int IntKind.i64 (0 : Int),
              AV.int IntKind.u8 (0 : Int), AV.int IntKind.i64 (0 : Int), AV.int IntKind.i64 (0 : Int),
              AV.int IntKind.u8 (0 : Int), AV.int IntKind.i64 (0 : Int), AV.int IntKind.i64 (0 : Int),
              AV.int IntKind.i64 (0 : Int), AV.int IntKind.u8 (0 : Int), AV.int IntKind.i64 (0 : Int),
              AV.int IntKind.i64 (0 : Int), AV.int IntKind.u8 (0 : Int), AV.int IntKind.i64 (0 : Int),
              AV.int IntKind.i64 (0 : Int), AV.int IntKind.i64 (0 : Int), AV.int IntKind.u8 (0 : Int),
              AV.int IntKind.i64 (0 : Int), AV.int IntKind.i64 (0 : Int), AV.int IntKind.u8 (0 : Int)]),
        ((0 : Nat), AObj.ro lc)] }) ∧
                ((N (162 : Nat)
  [some (AV.bool false), some (AV.slice (0 : Nat) (0 : Nat) ln (some lk)), some tv, some (AV.int IntKind.i64 (2 : Int)),
    some (AV.ptr (2 : Nat) (0 : Nat)), some AV.nilslice, some AV.nilslice]
  { nx := (3 : Nat),
    m :=
      [((2 : Nat),
          AObj.cells (42 : Nat)
            [AV.slice (1 : Nat) (0 : Nat) (2 : Nat) (some (2 : Nat)), AV.int IntKind.i64 (0 : Int),
              AV.int IntKind.i64 (0 : Int), AV.int IntKind.i64 (0 : Int), AV.bool false]),
        ((1 : Nat),
          AObj.cells (33 : Nat)
            [AV.int IntKind.i64 (0 : Int), AV.int IntKind.i64 (0 : Int), AV.int IntKind.i64 (0 : Int),
              AV.int IntKind.u8 (0 : Int), AV.int IntKind.i64 (0 : Int), AV.int IntKind.i64 (0 : Int),
              AV.int IntKind.u8 (0 : Int), AV.int IntKind.i64 (0 : Int), AV.int IntKind.i64 (0 : Int),
              AV.int IntKind.i64 (0 : Int), AV.int IntKind.u8 (0 : Int), AV.int IntKind.i64 (0 : Int),
              AV.int IntKind.i64 (0 : Int), AV.int IntKind.u8 (0 : Int)]),
        ((0 : Nat), AObj.ro lc)] }) ∧
                  (N (162 : Nat)
  [some (AV.bool false), some (AV.slice (0 : Nat) (0 : Nat) ln (some lk)), some tv, some (AV.int IntKind.i64 (1 : Int)),
    some (AV.ptr (2 : Nat) (0 : Nat)), some AV.nilslice, some AV.nilslice]
  { nx := (3 : Nat),
    m :=
      [((2 : Nat),
          AObj.cells (42 : Nat)
            [AV.slice (1 : Nat) (0 : Nat) (1 : Nat) (some (1 : Nat)), AV.int IntKind.i64 (0 : Int),
              AV.int IntKind.i64 (0 : Int), AV.int IntKind.i64 (0 : Int), AV.bool false]),
        ((1 : Nat),
          AObj.cells (33 : Nat)
            [AV.int IntKind.i64 (0 : Int), AV.int IntKind.i64 (0 : Int), AV.int IntKind.i64 (0 : Int),
              AV.int IntKind.u8 (0 : Int), AV.int IntKind.i64 (0 : Int), AV.int IntKind.i64 (0 : Int),
              AV.int IntKind.u8 (0 : Int)]),
        ((0 : Nat), AObj.ro lc)] })))))))))
def pN_scr : Plan := .k (.b (.z) (.b (.z) (.b (.z) (.b (.z) (.b (.z) (.b (.z) (.b (.z) (.b (.z) (.b (.z) (.z))))))))))
theorem pN_vc (room : Int) (ln lk : Nat) (lc : List AV) (tv : AV) (N : NS) (Q : QS) (K : Unit) : (wpP XPr lkSy 1 (seqs lkPre .skip) 0 (rndS slP N Q) (AF.enter 162 [.int .i64 room, .slice 0 0 ln (some lk), tv]) ⟨1, [(0, .ro lc)]⟩ pN_scr) = pN_VC room ln lk lc tv N Q K := by kernel_rfl
def pT_VC (room : Int) (ln lk : Nat) (lc tc : List AV) (tv : AV) (N : NS) (Q : QS) (K : Unit) : Prop :=
  ((decide ((↑ln : Int) > (100 : Int))) = true →
    Q Exit.ret (162 : Nat)
  [some (AV.bool true), some (AV.slice (0 : Nat) (0 : Nat) ln (some lk)), some tv, none, none, none, none]
  { nx := (2 : Nat), m := [((1 : Nat), AObj.ro tc), ((0 : Nat), AObj.ro lc)] }) ∧
  ((decide ((↑ln : Int) > (100 : Int))) = false →
    (N (162 : Nat)
  [some (AV.bool false), some (AV.slice (0 : Nat) (0 : Nat) ln (some lk)), some tv, some (AV.int IntKind.i64 (9 : Int)),
    some (AV.ptr (3 : Nat) (0 : Nat)), some AV.nilslice, some AV.nilslice]
  { nx := (4 : Nat),
    m :=
      [((3 : Nat),
          AObj.cells (42 : Nat)
            [AV.slice (2 : Nat) (0 : Nat) (9 : Nat) (some (9 : Nat)), AV.int IntKind.i64 (0 : Int),
              AV.int IntKind.i64 (0 : Int), AV.int IntKind.i64 (0 : Int), AV.bool false]),
        ((2 : Nat),
          AObj.cells (33 : Nat)
            [AV.int IntKind.i64 (0 : Int), AV.int IntKind.i64 (0 : Int), AV.int IntKind.i64 (0 : Int),
              AV.int IntKind.u8 (0 : Int), AV.int IntKind.i64 (0 : Int), AV.int IntKind.i64 (0 : Int),
              AV.int IntKind.u8 (0 : Int), AV.int IntKind.i64 (0 : Int), AV.int IntKind.i64 (0 : Int),
              AV.int IntKind.i64 (0 : Int), AV.int IntKind.u8 (0 : Int), AV.int IntKind.i64 (0 : Int),
              AV.int IntKind.i64 (0 : Int), AV.int IntKind.u8 (0 : Int), AV.int IntKind.i64 (0 : Int),
              AV.int IntKind.i64 (0 : Int), AV.int IntKind.i64 (0 : Int), AV.int IntKind.u8 (0 : Int),
              AV.int IntKind.i64 (0 : Int), AV.int IntKind.i64 (0 : Int), AV.int IntKind.u8 (0 : Int),
              AV.int IntKind.i64 (0 : Int), AV.int IntKind.i64 (0 : Int), AV.int IntKind.i64 (0 : Int),
              AV.int IntKind.u8 (0 : Int), AV.int IntKind.i64 (0 : Int), AV.int IntKind.i64 (0 : Int),
              AV.int IntKind.u8 (0 : Int), AV.int IntKind.i64 (0 : Int), AV.int IntKind.i64 (0 : Int),
              AV.int IntKind.i64 (0 : Int), AV.int IntKind.u8 (0 : Int), AV.int IntKind.i64 (0 : Int),
              AV.int IntKind.i64 (0 : Int), AV.int IntKind.u8 (0 : Int), AV.int IntKind.i64 (0 : Int),
              AV.int IntKind.i64 (0 : Int), AV.int IntKind.i64 (0 : Int), AV.int IntKind.u8 (0 : Int),
              AV.int IntKind.i64 (0 : Int), AV.int IntKind.i64 (0 : Int), AV.int IntKind.u8 (0 : Int),
              AV.int IntKind.i64 (0 : Int), AV.int IntKind.i64 (0 : Int), AV.int IntKind.i64 (0 : Int),
              AV.int IntKind.u8 (0 : Int), AV.int IntKind.i64 (0 : Int), AV.int IntKind.i64 (0 : Int),
              AV.int IntKind.u8 (0 : Int), AV.int IntKind.i64 (0 : Int), AV.int IntKind.i64 (0 : Int),
              AV.int IntKind.i64 (0 : Int), AV.int IntKind.u8 (0 : Int), AV.int IntKind.i64 (0 : Int),
              AV.int IntKind.i64 (0 : Int), AV.int IntKind.u8 (0 : Int), AV.int IntKind.i64 (0 : Int),
              AV.int IntKind.i64 (0 : Int), AV.int IntKind.i64 (0 : Int), AV.int IntKind.u8 (0 : Int),
              AV.int IntKind.i64 (0 : Int), AV.int IntKind.i64 (0 : Int), AV.int IntKind.u8 (0 : Int)]),
        ((1 : Nat), AObj.ro tc), ((0 : Nat), AObj.ro lc)] }) ∧
    ((N (162 : Nat)
  [some (AV.bool false), some (AV.slice (0 : Nat) (0 : Nat) ln (some lk)), some tv, some (AV.int IntKind.i64 (8 : Int)),
    some (AV.ptr (3 : Nat) (0 : Nat)), some AV.nilslice, some AV.nilslice]
  { nx := (4 : Nat),
    m :=
      [((3 : Nat),
          AObj.cells (42 : Nat)
            [AV.slice (2 : Nat) (0 : Nat) (8 : Nat) (some (8 : Nat)), AV.int IntKind.i64 (0 : Int),
              AV.int IntKind.i64 (0 : Int), AV.int IntKind.i64 (0 : Int), AV.bool false]),
        ((2 : Nat),
          AObj.cells (33 : Nat)
            [AV.int IntKind.i64 (0 : Int), AV.int IntKind.i64 (0 : Int), AV.int IntKind.i64 (0 : Int),
              AV.int IntKind.u8 (0 : Int), AV.int IntKind.i64 (0 : Int), AV.int IntKind.i64 (0 : Int),
              AV.int IntKind.u8 (0 : Int), AV.int IntKind.i64 (0 : Int), AV.int IntKind.i64 (0 : Int),
              AV.int IntKind.i64 (0 : Int), AV.int IntKind.u8 (0 : Int), AV.int IntKind.i64 (0 : Int),
              AV.int IntKind.i64 (0 : Int), AV.int IntKind.u8 (0 : Int), AV.int IntKind.i64 (0 : Int),
              AV.int IntKind.i64 (0 : Int), AV.int IntKind.i64 (0 : Int), AV.int IntKind.u8 (0 : Int),
              AV.int IntKind.i64 (0 : Int), AV.int IntKind.i64 (0 : Int), AV.int IntKind.u8 (0 : Int),
              AV.int IntKind.i64 (0 : Int), AV.int IntKind.i64 (0 : Int), AV.int IntKind.i64 (0 : Int),
              AV.int IntKind.u8 (0 : Int), AV.int IntKind.i64 (0 : Int), AV.int IntKind.i64 (0 : Int),
              AV.int IntKind.u8 (0 : Int), AV.int IntKind.i64 (0 : Int), AV.int IntKind.i64 (0 : Int),
              AV.int IntKind.i64 (0 : Int), AV.int IntKind.u8 (0 : Int), AV.int IntKind.i64 (0 : Int),
              AV.int IntKind.i64 (0 : Int), AV.int IntKind.u8 (0 : Int), AV.int IntKind.i64 (0 : Int),
              AV.int IntKind.i64 (0 : Int), AV.int IntKind.i64 (0 : Int), AV.int IntKind.u8 (0 : Int),
              AV.int IntKind.i64 (0 : Int), AV.int IntKind.i64 (0 : Int), AV.int IntKind.u8 (0 : Int),
              AV.int IntKind.i64 (0 : Int), AV.int IntKind.i64 (0 : Int), AV.int IntKind.i64 (0 : Int),
              AV.int IntKind.u8 (0 : Int), AV.int IntKind.i64 (0 : Int), AV.int IntKind.i64 (0 : Int),
              AV.int IntKind.u8 (0 : Int), AV.int IntKind.i64 (0 : Int), AV.int IntKind.i64 (0 : Int),
              AV.int IntKind.i64 (0 : Int), AV.int IntKind.u8 (0 : Int), AV.int IntKind.i64 (0 : Int),
              AV.int IntKind.i64 (0 : Int), AV.int IntKind.u8 (0 : Int)]),
        ((1 : Nat), AObj.ro tc), ((0 : Nat), AObj.ro lc)] }) ∧
      ((N (162 : Nat)
  [some (AV.bool false), some (AV.slice (0 : Nat) (0 : Nat) ln (some lk)), some tv, some (AV.int IntKind.i64 (7 : Int)),
    some (AV.ptr (3 : Nat) (0 : Nat)), some AV.nilslice, some AV.nilslice]
  { nx := (4 : Nat),
    m :=
      [((3 : Nat),
          AObj.cells (42 : Nat)
            [AV.slice (2 : Nat) (0 : Nat) (7 : Nat) (some (7 : Nat)), AV.int IntKind.i64 (0 : Int),
              AV.int IntKind.i64 (0 : Int), AV.int IntKind.i64 (0 : Int), AV.bool false]),
        ((2 : Nat),
          AObj.cells (33 : Nat)
            [AV.int IntKind.i64 (0 : Int), AV.int IntKind.i64 (0 : Int), AV.int IntKind.i64 (0 : Int),
              AV.int IntKind.u8 (0 : Int), AV.int IntKind.i64 (0 : Int), AV.int IntKind.i64 (0 : Int),
              AV.int IntKind.u8 (0 : Int), AV.int IntKind.i64 (0 : Int), AV.int IntKind.i64 (0 : Int),
              AV.int IntKind.i64 (0 : Int), AV.int IntKind.u8 (0 : Int), AV.int IntKind.i64 (0 : Int),
              AV.int IntKind.i64 (0 : Int), AV.int IntKind.u8 (0 : Int), AV.int IntKind.i64 (0 : Int),
              AV.int IntKind.i64 (0 : Int), AV.int IntKind.i64 (0 : Int), AV.int IntKind.u8 (0 : Int),
              AV.int IntKind.i64 (0 : Int), AV.int IntKind.i64 (0 : Int), AV.int IntKind.u8 (0 : Int),
              AV.int IntKind.i64 (0 : Int), AV.int IntKind.i64 (0 : Int), AV.int IntKind.i64 (0 : Int),
              AV.int IntKind.u8 (0 : Int), AV.int IntKind.i64 (0 : Int), AV.int IntKind.i64 (0 : Int),
              AV.int IntKind.u8 (0 : Int), AV.int IntKind.i64 (0 : Int), AV.int IntKind.i64 (0 : Int),
              AV.int IntKind.i64 (0 : Int), AV.int IntKind.u8 (0 : Int), AV.int IntKind.i64 (0 : Int),
              AV.int IntKind.i64 (0 : Int), AV.int IntKind.u8 (0 : Int), AV.int IntKind.i64 (0 : Int),
              AV.int IntKind.i64 (0 : Int), AV.int IntKind.i64 (0 : Int), AV.int IntKind.u8 (0 : Int),
              AV.int IntKind.i64 (0 : Int), AV.int IntKind.i64 (0 : Int), AV.int IntKind.u8 (0 : Int),
              AV.int IntKind.i64 (0 : Int), AV.int IntKind.i64 (0 : Int), AV.int IntKind.i64 (0 : Int),
              AV.int IntKind.u8 (0 : Int), AV.int IntKind.i64 (0 : Int), AV.int IntKind.i64 (0 : Int),
              AV.int IntKind.u8 (0 : Int)]),
        ((1 : Nat), AObj.ro tc), ((0 : Nat), AObj.ro lc)] }) ∧
        ((N (162 : Nat)
  [some (AV.bool false), some (AV.slice (0 : Nat) (0 : Nat) ln (some lk)), some tv, some (AV.int IntKind.i64 (6 : Int)),
    some (AV.ptr (3 : Nat) (0 : Nat)), some AV.nilslice, some AV.nilslice]
  { nx := (4 : Nat),
    m :=
      [((3 : Nat),
          AObj.cells (42 : Nat)
            [AV.slice (2 : Nat) (0 : Nat) (6 : Nat) (some (6 : Nat)), AV.int IntKind.i64 (0 : Int),
              AV.int IntKind.i64 (0 : Int), AV.int IntKind.i64 (0 : Int), AV.bool false]),
        ((2 : Nat),
          AObj.cells (33 : Nat)
            [AV.int IntKind.i64 (0 : Int), AV.int IntKind.i64 (0 : Int), AV.int IntKind.i64 (0 : Int),
              AV.int IntKind.u8 (0 : Int), AV.int IntKind.i64 (0 : Int), AV.int IntKind.i64 (0 : Int),
              AV.int IntKind.u8 (0 : Int), AV.int IntKind.i64 (0 : Int), AV.int IntKind.i64 (0 : Int),
              AV.int IntKind.i64 (0 : Int), AV.int IntKind.u8 (0 : Int), AV.int IntKind.i64 (0 : Int),
              AV.int IntKind.i64 (0 : Int), AV.int IntKind.u8 (0 : Int), AV.int IntKind.i64 (0 : Int),
              AV.int IntKind.i64 (0 : Int), AV.int IntKind.i64 (0 : Int), AV.int IntKind.u8 (0 : Int),
              AV.int IntKind.i64 (0 : Int), AV.int IntKind.i64 (0 : Int), AV.int IntKind.u8 (0 : Int),
              AV.int IntKind.i64 (0 : Int), AV.int IntKind.i64 (0 : Int), AV.int IntKind.i64 (0 : Int),
              AV.int IntKind.u8 (0 : Int), AV.int IntKind.i64 (0 : Int), AV.int IntKind.i64 (0 : Int),
              AV.int IntKind.u8 (0 : Int), AV.int IntKind.i64 (0 : Int), AV.int IntKind.i64 (0 : Int),
              AV.int IntKind.i64 (0 : Int), AV.int IntKind.u8 (0 : Int), AV.int IntKind.i64 (0 : Int),
              AV.int IntKind.i64 (0 : Int), AV.int IntKind.u8 (0 : Int), AV.int IntKind.i64 (0 : Int),
              AV.int IntKind.i64 (0 : Int), AV.int IntKind.i64 (0 : Int), AV.int IntKind.u8 (0 : Int),
              AV.int IntKind.i64 (0 : Int), AV.int IntKind.i64 (0 : Int), AV.int IntKind.u8 (0 : Int)]),
        ((1 : Nat), AObj.ro tc), ((0 : Nat), AObj.ro lc)] }) ∧
          ((N (162 : Nat)
  [some (AV.bool false), some (AV.slice (0 : Nat) (0 : Nat) ln (some lk)), some tv, some (AV.int IntKind.i64 (5 : Int)),
    some (AV.ptr (3 : Nat) (0 : Nat)), some AV.nilslice, some AV.nilslice]
  { nx := (4 : Nat),
    m :=
      [((3 : Nat),
          AObj.cells (42 : Nat)
            [AV.slice (2 : Nat) (0 : Nat) (5 : Nat) (some (5 : Nat)), AV.int IntKind.i64 (0 : Int),
              AV.int IntKind.i64 (0 : Int), AV.int IntKind.i64 (0 : Int), AV.bool false]),
        ((2 : Nat),
          AObj.cells (33 : Nat)
            [AV.int IntKind.i64 (0 : Int), AV.int IntKind.i64 (0 : Int), AV.int IntKind.i64 (0 : Int),
              AV.int IntKind.u8 (0 : Int), AV.int IntKind.i64 (0 : Int), AV.int IntKind.i64 (0 : Int),
              AV.int IntKind.u8 (0 : Int), AV.int IntKind.i64 (0 : Int), AV.int IntKind.i64 (0 : Int),
              AV.int IntKind.i64 (0 : Int), AV.int IntKind.u8 (0 : Int), AV.int IntKind.i64 (0 : Int),
              AV.int IntKind.i64 (0 : Int), AV.int IntKind.u8 (0 : Int), AV.int IntKind.i64 (0 : Int),
              AV.int IntKind.i64 (0 : Int), AV.int IntKind.i64 (0 : Int), AV.int IntKind.u8 (0 : Int),
              AV.int IntKind.i64 (0 : Int), AV.int IntKind.i64 (0 : Int), AV.int IntKind.u8 (0 : Int),
              AV.int IntKind.i64 (0 : Int), AV.int IntKind.i64 (0 : Int), AV.int IntKind.i64 (0 : Int),
              AV.int IntKind.u8 (0 : Int), AV.int IntKind.i64 (0 : Int), AV.int IntKind.i64 (0 : Int),
              AV.int IntKind.u8 (0 : Int), AV.int IntKind.i64 (0 : Int), AV.int IntKind.i64 (0 : Int),
              AV.int IntKind.i64 (0 : Int), AV.int IntKind.u8 (0 : Int), AV.int IntKind.i64 (0 : Int),
              AV.int IntKind.i64 (0 : Int), AV.int IntKind.u8 (0 : Int)]),
        ((1 : Nat), AObj.ro tc), ((0 : Nat), AObj.ro lc)] }) ∧
            ((N (162 : Nat)
  [some (AV.bool false), some (AV.slice (0 : Nat) (0 : Nat) ln (some lk)), some tv, some (AV.int IntKind.i64 (4 : Int)),
    some (AV.ptr (3 : Nat) (0 : Nat)), some AV.nilslice, some AV.nilslice]
  { nx := (4 : Nat),
    m :=
      [((3 : Nat),
          AObj.cells (42 : Nat)
            [AV.slice (2 : Nat) (0 : Nat) (4 : Nat) (some (4 : Nat)), AV.int IntKind.i64 (0 : Int),
              AV.int IntKind.i64 (0 : Int), AV.int IntKind.i64 (0 : Int), AV.bool false]),
        ((2 : Nat),
          AObj.cells (33 : Nat)
            [AV.int IntKind.i64 (0 : Int), AV.int IntKind.i64 (0 : Int), AV.int IntKind.i64 (0 : Int),
              AV.int IntKind.u8 (0 : Int), AV.int IntKind.i64 (0 : Int), AV.int IntKind.i64 (0 : Int),
              AV.int IntKind.u8 (0 : Int), AV.int IntKind.i64 (0 : Int), AV.int IntKind.i64 (0 : Int),
              AV.int IntKind.i64 (0 : Int), AV.int IntKind.u8 (0 : Int), AV.int IntKind.i64 (0 : Int),
              AV.int IntKind.i64 (0 : Int), AV.int IntKind.u8 (0 : Int), AV.int IntKind.i64 (0 : Int),
              AV.int IntKind.i64 (0 : Int), AV.int IntKind.i64 (0 : Int), AV.int IntKind.u8 (0 : Int),
              AV.int IntKind.i64 (0 : Int), AV.int IntKind.i64 (0 : Int), AV.int IntKind.u8 (0 : Int),
              AV.int IntKind.i64 (0 : Int), AV.int IntKind.i64 (0 : Int), AV.int IntKind.i64 (0 : Int),
              AV.int IntKind.u8 (0 : Int), AV.int IntKind.i64 (0 : Int), AV.int IntKind.i64 (0 : Int),
              AV.int IntKind.u8 (0 : Int)]),
        ((1 : Nat), AObj.ro tc), ((0 : Nat), AObj.ro lc)] }) ∧
              ((N (162 : Nat)
  [some (AV.bool false), some (AV.slice (0 : Nat) (0 : Nat) ln (some lk)), some tv, some (AV.int IntKind.i64 (3 : Int)),
    some (AV.ptr (3 : Nat) (0 : Nat)), some AV.nilslice, some AV.nilslice]
  { nx := (4 : Nat),
    m :=
      [((3 : Nat),
          AObj.cells (42 : Nat)
            [AV.slice (2 : Nat) (0 : Nat) (3 : Nat) (some (3 : Nat)), AV.int IntKind.i64 (0 : Int),
              AV.int IntKind.i64 (0 : Int), AV.int IntKind.i64 (0 : Int), AV.bool false]),
        ((2 : Nat),
          AObj.cells (33 : Nat)
            [AV.int IntKind.i64 (0 : Int), AV.int IntKind.i64 (0 : Int), AV.int IntKind.i64 (0 : Int),
              AV.int IntKind.u8 (0 : Int), AV.int IntKind.i64 (0 : Int), AV.int IntKind.i64 (0 : Int),
              AV.int IntKind.u8 (0 : Int), AV.int IntKind.i64 (0 : Int), AV.int IntKind.i64 (0 : Int),
              AV.int IntKind.i64 (0 : Int), AV.int IntKind.u8 (0 : Int), AV.int IntKind.i64 (0 : Int),
              AV.int IntKind.i64 (0 : Int), AV.int IntKind.u8 (0 : Int), AV.int IntKind.i64 (0 : Int),
              AV.int IntKind.i64 (0 : Int), AV.int IntKind.i64 (0 : Int), AV.int IntKind.u8 (0 : Int),
              AV.int IntKind.i64 (0 : Int), AV.int IntKind.i64 (0 : Int), AV.int IntKind.u8 (0 : Int)]),
        ((1 : Nat), AObj.ro tc), ((0 : Nat), AObj.ro lc)] }) ∧
                ((N (162 : Nat)
  [some (AV.bool false), some (AV.slice (0 : Nat) (0 : Nat) ln (some lk)), some tv, some (AV.int IntKind.i64 (2 : Int)),
    some (AV.ptr (3 : Nat) (0 : Nat)), some AV.nilslice, some AV.nilslice]
  { nx := (4 : Nat),
    m :=
      [((3 : Nat),
          AObj.cells (42 : Nat)
            [AV.slice (2 : Nat) (0 : Nat) (2 : Nat) (some (2 : Nat)), AV.int IntKind.i64 (0 : Int),
              AV.int IntKind.i64 (0 : Int), AV.int IntKind.i64 (0 : Int), AV.bool false]),
        ((2 : Nat),
          AObj.cells (33 : Nat)
            [AV.int IntKind.i64 (0 : Int), AV.int IntKind.i64 (0 : Int), AV.int IntKind.i64 (0 : Int),
              AV.int IntKind.u8 (0 : Int), AV.int IntKind.i64 (0 : Int), AV.int IntKind.i64 (0 : Int),
              AV.int IntKind.u8 (0 : Int), AV.int IntKind.i64 (0 : Int), AV.int IntKind.i64 (0 : Int),
              AV.int IntKind.i64 (0 : Int), AV.int IntKind.u8 (0 : Int), AV.int IntKind.i64 (0 : Int),
              AV.int IntKind.i64 (0 : Int), AV.int IntKind.u8 (0 : Int)]),
        ((1 : Nat), AObj.ro tc), ((0 : Nat), AObj.ro lc)] }) ∧
                  (N (162 : Nat)
  [some (AV.bool false), some (AV.slice (0 : Nat) (0 : Nat) ln (some lk)), some tv, some (AV.int IntKind.i64 (1 : Int)),
    some (AV.ptr (3 : Nat) (0 : Nat)), some AV.nilslice, some AV.nilslice]
  { nx := (4 : Nat),
    m :=
      [((3 : Nat),
          AObj.cells (42 : Nat)
            [AV.slice (2 : Nat) (0 : Nat) (1 : Nat) (some (1 : Nat)), AV.int IntKind.i64 (0 : Int),
              AV.int IntKind.i64 (0 : Int), AV.int IntKind.i64 (0 : Int), AV.bool false]),
        ((2 : Nat),
          AObj.cells (33 : Nat)
            [AV.int IntKind.i64 (0 : Int), AV.int IntKind.i64 (0 : Int), AV.int IntKind.i64 (0 : Int),
              AV.int IntKind.u8 (0 : Int), AV.int IntKind.i64 (0 : Int), AV.int IntKind.i64 (0 : Int),
              AV.int IntKind.u8 (0 : Int)]),
        ((1 : Nat), AObj.ro tc), ((0 : Nat), AObj.ro lc)] })))))))))
def pT_scr : Plan := .k (.b (.z) (.b (.z) (.b (.z) (.b (.z) (.b (.z) (.b (.z) (.b (.z) (.b (.z) (.b (.z) (.z))))))))))
theorem pT_vc (room : Int) (ln lk : Nat) (lc tc : List AV) (tv : AV) (N : NS) (Q : QS) (K : Unit) : (wpP XPr lkSy 2 (seqs lkPre .skip) 0 (rndS slP N Q) (AF.enter 162 [.int .i64 room, .slice 0 0 ln (some lk), tv]) ⟨2, [(1, .ro tc), (0, .ro lc)]⟩ pT_scr) = pT_VC room ln lk lc tc tv N Q K := by kernel_rfl
def pR_VC (n0 n : Nat) (lv tv : AV) (σ : AH) (N : NS) (Q : QS) (K : Unit) : Prop :=
  N (162 : Nat)
  [some lv, some tv, some (AV.int IntKind.i64 (↑n : Int)), some (AV.ptr (3 : Nat) (0 : Nat)), some AV.nilslice,
    some AV.nilslice, some (AV.int IntKind.i64 (0 : Int))]
  σ
def pR_scr : Plan := .z
theorem pR_vc (n0 n : Nat) (lv tv : AV) (σ : AH) (N : NS) (Q : QS) (K : Unit) : (wpP XL0 lkSy n0 (seqs [hdC lkMid] .skip) 0 (rndS slR N Q) (frP n lv tv) σ pR_scr) = pR_VC n0 n lv tv σ N Q K := by kernel_rfl
def zN_VC (room : Int) (tv : AV) (N : NS) (Q : QS) (K : Unit) : Prop :=
  (N (162 : Nat) [some (AV.bool false), some (AV.ptr (1 : Nat) (0 : Nat)), some AV.nilslice, some AV.nilslice]
  { nx := (2 : Nat),
    m :=
      [((1 : Nat),
          AObj.cells (42 : Nat)
            [AV.slice (0 : Nat) (0 : Nat) (9 : Nat) (some (9 : Nat)), AV.int IntKind.i64 (0 : Int),
              AV.int IntKind.i64 (0 : Int), AV.int IntKind.i64 (0 : Int), AV.bool false]),
        ((0 : Nat),
          AObj.cells (33 : Nat)
            [AV.int IntKind.i64 (0 : Int), AV.int IntKind.i64 (0 : Int), AV.int IntKind.i64 (0 : Int),
              AV.int IntKind.u8 (0 : Int), AV.int IntKind.i64 (0 : Int), AV.int IntKind.i64 (0 : Int),
              AV.int IntKind.u8 (0 : Int), AV.int IntKind.i64 (0 : Int), AV.int IntKind.i64 (0 : Int),
              AV.int IntKind.i64 (0 : Int), AV.int IntKind.u8 (0 : Int), AV.int IntKind.i64 (0 : Int),
              AV.int IntKind.i64 (0 : Int), AV.int IntKind.u8 (0 : Int), AV.int IntKind.i64 (0 : Int),
              AV.int IntKind.i64 (0 : Int), AV.int IntKind.i64 (0 : Int), AV.int IntKind.u8 (0 : Int),
              AV.int IntKind.i64 (0 : Int), AV.int IntKind.i64 (0 : Int), AV.int IntKind.u8 (0 : Int),
              AV.int IntKind.i64 (0 : Int), AV.int IntKind.i64 (0 : Int), AV.int IntKind.i64 (0 : Int),
              AV.int IntKind.u8 (0 : Int), AV.int IntKind.i64 (0 : Int), AV.int IntKind.i64 (0 : Int),
              AV.int IntKind.u8 (0 : Int), AV.int IntKind.i64 (0 : Int), AV.int IntKind.i64 (0 : Int),
              AV.int IntKind.i64 (0 : Int), AV.int IntKind.u8 (0 : Int), AV.int IntKind.i64 (0 : Int),
              AV.int IntKind.i64 (0 : Int), AV.int IntKind.u8 (0 : Int), AV.int IntKind.i64 (0 : Int),
              AV.int IntKind.i64 (0 : Int), AV.int IntKind.i64 (0 : Int), AV.int IntKind.u8 (0 : Int),
              AV.int IntKind.i64 (0 : Int), AV.int IntKind.i64 (0 : Int), AV.int IntKind.u8 (0 : Int),
              AV.int IntKind.i64 (0 : Int), AV.int IntKind.i64 (0 : Int), AV.int IntKind.i64 (0 : Int),
              AV.int IntKind.u8 (0 : Int), AV.int IntKind.i64 (0 : Int), AV.int IntKind.i64 (0 : Int),
              AV.int IntKind.u8 (0 : Int), AV.int IntKind.i64 (0 : Int), AV.int IntKind.i64 (0 : Int),
              AV.int IntKind.i64 (0 : Int), AV.int IntKind.u8 (0 : Int), AV.int IntKind.i64 (0 : Int),
              AV.int IntKind.i64 (0 : Int), AV.int IntKind.u8 (0 : Int), AV.int IntKind.i64 (0 : Int),
              AV.int IntKind.i64 (0 : Int), AV.int IntKind.i64 (0 : Int), AV.int IntKind.u8 (0 : Int),
              AV.int IntKind.i64 (0 : Int), AV.int IntKind.i64 (0 : Int), AV.int IntKind.u8 (0 : Int)])] }) ∧
  ((N (162 : Nat) [some (AV.bool false), some (AV.ptr (1 : Nat) (0 : Nat)), some AV.nilslice, some AV.nilslice]
  { nx := (2 : Nat),
    m :=
      [((1 : Nat),
          AObj.cells (42 : Nat)
            [AV.slice (0 : Nat) (0 : Nat) (8 : Nat) (some (8 : Nat)), AV.int IntKind.i64 (0 : Int),
              AV.int IntKind.i64 (0 : Int), AV.int IntKind.i64 (0 : Int), AV.bool false]),
        ((0 : Nat),
          AObj.cells (33 : Nat)
            [AV.int IntKind.i64 (0 : Int), AV.int IntKind.i64 (0 : Int), AV.int IntKind.i64 (0 : Int),
              AV.int IntKind.u8 (0 : Int), AV.int IntKind.i64 (0 : Int), AV.int IntKind.i64 (0 : Int),
              AV.int IntKind.u8 (0 : Int), AV.int IntKind.i64 (0 : Int), AV.int IntKind.i64 (0 : Int),
              AV.int IntKind.i64 (0 : Int), AV.int IntKind.u8 (0 : Int), AV.int IntKind.i64 (0 : Int),
              AV.int IntKind.i64 (0 : Int), AV.int IntKind.u8 (0 : Int), AV.int IntKind.i64 (0 : Int),
              AV.int IntKind.i64 (0 : Int), AV.int IntKind.i64 (0 : Int), AV.int IntKind.u8 (0 : Int),
              AV.int IntKind.i64 (0 : Int), AV.int IntKind.i64 (0 : Int), AV.int IntKind.u8 (0 : Int),
              AV.int IntKind.i64 (0 : Int), AV.int IntKind.i64 (0 : Int), AV.int IntKind.i64 (0 : Int),
              AV.int IntKind.u8 (0 : Int), AV.int IntKind.i64 (0 : Int), AV.int IntKind.i64 (0 : Int),
              AV.int IntKind.u8 (0 : Int), AV.int IntKind.i64 (0 : Int), AV.int IntKind.i64 (0 : Int),
              AV.int IntKind.i64 (0 : Int), AV.int IntKind.u8 (0 : Int), AV.int IntKind.i64 (0 : Int),
              AV.int IntKind.i64 (0 : Int), AV.int IntKind.u8 (0 : Int), AV.int IntKind.i64 (0 : Int),
              AV.int IntKind.i64 (0 : Int), AV.int IntKind.i64 (0 : Int), AV.int IntKind.u8 (0 : Int),
              AV.int IntKind.i64 (0 : Int), AV.int IntKind.i64 (0 : Int), AV.int IntKind.u8 (0 : Int),
              AV.int IntKind.i64 (0 : Int), AV.int IntKind.i64 (0 : Int), AV.int IntKind.i64 (0 : Int),
              AV.int IntKind.u8 (0 : Int), AV.int IntKind.i64 (0 : Int), AV.int IntKind.i64 (0 : Int),
              AV.int IntKind.u8 (0 : Int), AV.int IntKind.i64 (0 : Int), AV.int IntKind.i64 (0 : Int),
              AV.int IntKind.i64 (0 : Int), AV.int IntKind.u8 (0 : Int), AV.int IntKind.i64 (0 : Int),
              AV.int IntKind.i64 (0 : Int), AV.int IntKind.u8 (0 : Int)])] }) ∧
    ((N (162 : Nat) [some (AV.bool false), some (AV.ptr (1 : Nat) (0 : Nat)), some AV.nilslice, some AV.nilslice]
  { nx := (2 : Nat),
    m :=
      [((1 : Nat),
          AObj.cells (42 : Nat)
            [AV.slice (0 : Nat) (0 : Nat) (7 : Nat) (some (7 : Nat)), AV.int IntKind.i64 (0 : Int),
              AV.int IntKind.i64 (0 : Int), AV.int IntKind.i64 (0 : Int), AV.bool false]),
        ((0 : Nat),
          AObj.cells (33 : Nat)
            [AV.int IntKind.i64 (0 : Int), AV.int IntKind.i64 (0 : Int), AV.int IntKind.i64 (0 : Int),
              AV.int IntKind.u8 (0 : Int), AV.int IntKind.i64 (0 : Int), AV.int IntKind.i64 (0 : Int),
              AV.int IntKind.u8 (0 : Int), AV.int IntKind.i64 (0 : Int), AV.int IntKind.i64 (0 : Int),
              AV.int IntKind.i64 (0 : Int), AV.int IntKind.u8 (0 : Int), AV.int IntKind.i64 (0 : Int),
              AV.int IntKind.i64 (0 : Int), AV.int IntKind.u8 (0 : Int), AV.int IntKind.i64 (0 : Int),
              AV.int IntKind.i64 (0 : Int), AV.int IntKind.i64 (0 : Int), AV.int IntKind.u8 (0 : Int),
              AV.int IntKind.i64 (0 : Int), AV.int IntKind.i64 (0 : Int), AV.int IntKind.u8 (0 : Int),
              AV.int IntKind.i64 (0 : Int), AV.int IntKind.i64 (0 : Int), AV.int IntKind.i64 (0 : Int),
              AV.int IntKind.u8 (0 : Int), AV.int IntKind.i64 (0 : Int), AV.int IntKind.i64 (0 : Int),
              AV.int IntKind.u8 (0 : Int), AV.int IntKind.i64 (0 : Int), AV.int IntKind.i64 (0 : Int),
              AV.int IntKind.i64 (0 : Int), AV.int IntKind.u8 (0 : Int), AV.int IntKind.i64 (0 : Int),
              AV.int IntKind.i64 (0 : Int), AV.int IntKind.u8 (0 : Int), AV.int IntKind.i64 (0 : Int),
              AV.int IntKind.i64 (0 : Int), AV.int IntKind.i64 (0 : Int), AV.int IntKind.u8 (0 : Int),
              AV.int IntKind.i64 (0 : Int), AV.int IntKind.i64 (0 : Int), AV.int IntKind.u8 (0 : Int),
              AV.int IntKind.i64 (0 : Int), AV.int IntKind.i64 (0 : Int), AV.int IntKind.i64 (0 : Int),
              AV.int IntKind.u8 (0 : Int), AV.int IntKind.i64 (0 : Int), AV.int IntKind.i64 (0 : Int),
              AV.int IntKind.u8 (0 : Int)])] }) ∧
      ((N (162 : Nat) [some (AV.bool false), some (AV.ptr (1 : Nat) (0 : Nat)), some AV.nilslice, some AV.nilslice]
  { nx := (2 : Nat),
    m :=
      [((1 : Nat),
          AObj.cells (42 : Nat)
            [AV.slice (0 : Nat) (0 : Nat) (6 : Nat) (some (6 : Nat)), AV.int IntKind.i64 (0 : Int),
              AV.int IntKind.i64 (0 : Int), AV.int IntKind.i64 (0 : Int), AV.bool false]),
        ((0 : Nat),
          AObj.cells (33 : Nat)
            [AV.int IntKind.i64 (0 : Int), AV.int IntKind.i64 (0 : Int), AV.int IntKind.i64 (0 : Int),
              AV.int IntKind.u8 (0 : Int), AV.int IntKind.i64 (0 : Int), AV.int IntKind.i64 (0 : Int),
              AV.int IntKind.u8 (0 : Int), AV.int IntKind.i64 (0 : Int), AV.int IntKind.i64 (0 : Int),
              AV.int IntKind.i64 (0 : Int), AV.int IntKind.u8 (0 : Int), AV.int IntKind.i64 (0 : Int),
              AV.int IntKind.i64 (0 : Int), AV.int IntKind.u8 (0 : Int), AV.int IntKind.i64 (0 : Int),
              AV.int IntKind.i64 (0 : Int), AV.int IntKind.i64 (0 : Int), AV.int IntKind.u8 (0 : Int),
              AV.int IntKind.i64 (0 : Int), AV.int IntKind.i64 (0 : Int), AV.int IntKind.u8 (0 : Int),
              AV.int IntKind.i64 (0 : Int), AV.int IntKind.i64 (0 : Int), AV.int IntKind.i64 (0 : Int),
              AV.int IntKind.u8 (0 : Int), AV.int IntKind.i64 (0 : Int), AV.int IntKind.i64 (0 : Int),
              AV.int IntKind.u8 (0 : Int), AV.int IntKind.i64 (0 : Int), AV.int IntKind.i64 (0 : Int),
              AV.int IntKind.i64 (0 : Int), AV.int IntKind.u8 (0 : Int), AV.int IntKind.i64 (0 : Int),
              AV.int IntKind.i64 (0 : Int), AV.int IntKind.u8 (0 : Int), AV.int IntKind.i64 (0 : Int),
              AV.int IntKind.i64 (0 : Int), AV.int IntKind.i64 (0 : Int), AV.int IntKind.u8 (0 : Int),
              AV.int IntKind.i64 (0 : Int), AV.int IntKind.i64 (0 : Int), AV.int IntKind.u8 (0 : Int)])] }) ∧
        ((N (162 : Nat) [some (AV.bool false), some (AV.ptr (1 : Nat) (0 : Nat)), some AV.nilslice, some AV.nilslice]
  { nx := (2 : Nat),
    m :=
      [((1 : Nat),
          AObj.cells (42 : Nat)
            [AV.slice (0 : Nat) (0 : Nat) (5 : Nat) (some (5 : Nat)), AV.int IntKind.i64 (0 : Int),
              AV.int IntKind.i64 (0 : Int), AV.int IntKind.i64 (0 : Int), AV.bool false]),
        ((0 : Nat),
          AObj.cells (33 : Nat)
            [AV.int IntKind.i64 (0 : Int), AV.int IntKind.i64 (0 : Int), AV.int IntKind.i64 (0 : Int),
              AV.int IntKind.u8 (0 : Int), AV.int IntKind.i64 (0 : Int), AV.int IntKind.i64 (0 : Int),
              AV.int IntKind.u8 (0 : Int), AV.int IntKind.i64 (0 : Int), AV.int IntKind.i64 (0 : Int),
              AV.int IntKind.i64 (0 : Int), AV.int IntKind.u8 (0 : Int), AV.int IntKind.i64 (0 : Int),
              AV.int IntKind.i64 (0 : Int), AV.int IntKind.u8 (0 : Int), AV.int IntKind.i64 (0 : Int),
              AV.int IntKind.i64 (0 : Int), AV.int IntKind.i64 (0 : Int), AV.int IntKind.u8 (0 : Int),
              AV.int IntKind.i64 (0 : Int), AV.int IntKind.i64 (0 : Int), AV.int IntKind.u8 (0 : Int),
              AV.int IntKind.i64 (0 : Int), AV.int IntKind.i64 (0 : Int), AV.int IntKind.i64 (0 : Int),
              AV.int IntKind.u8 (0 : Int), AV.int IntKind.i64 (0 : Int), AV.int IntKind.i64 (0 : Int),
              AV.int IntKind.u8 (0 : Int), AV.int IntKind.i64 (0 : Int), AV.int IntKind.i64 (0 : Int),
              AV.int IntKind.i64 (0 : Int), AV.int IntKind.u8 (0 : Int), AV.int IntKind.i64 (0 : Int),
              AV.int IntKind.i64 (0 : Int), AV.int IntKind.u8 (0 : Int)])] }) ∧
          ((N (162 : Nat) [some (AV.bool false), some (AV.ptr (1 : Nat) (0 : Nat)), some AV.nilslice, some AV.nilslice]
  { nx := (2 : Nat),
    m :=
      [((1 : Nat),
          AObj.cells (42 : Nat)
            [AV.slice (0 : Nat) (0 : Nat) (4 : Nat) (some (4 : Nat)), AV.int IntKind.i64 (0 : Int),
              AV.int IntKind.i64 (0 : Int), AV.int IntKind.i64 (0 : Int), AV.bool false]),
        ((0 : Nat),
          AObj.cells (33 : Nat)
            [AV.int IntKind.i64 (0 : Int), AV.int IntKind.i64 (0 : Int), AV.int IntKind.i64 (0 : Int),
              AV.int IntKind.u8 (0 : Int), AV.int IntKind.i64 (0 : Int), AV.int IntKind.i64 (0 : Int),
              AV.int IntKind.u8 (0 : Int), AV.int IntKind.i64 (0 : Int), AV.int IntKind.i64 (0 : Int),
              AV.int IntKind.i64 (0 : Int), AV.int IntKind.u8 (0 : Int), AV.int IntKind.i64 (0 : Int),
              AV.int IntKind.i64 (0 : Int), AV.int IntKind.u8 (0 : Int), AV.int IntKind.i64 (0 : Int),
              AV.int IntKind.i64 (0 : Int), AV.int IntKind.i64 (0 : Int), AV.int IntKind.u8 (0 : Int),
              AV.int IntKind.i64 (0 : Int), AV.int IntKind.i64 (0 : Int), AV.int IntKind.u8 (0 : Int),
              AV.int IntKind.i64 (0 : Int), AV.int IntKind.i64 (0 : Int), AV.int IntKind.i64 (0 : Int),
              AV.int IntKind.u8 (0 : Int), AV.int IntKind.i64 (0 : Int), AV.int IntKind.i64 (0 : Int),
              AV.int IntKind.u8 (0 : Int)])] }) ∧
            ((N (162 : Nat) [some (AV.bool false), some (AV.ptr (1 : Nat) (0 : Nat)), some AV.nilslice, some AV.nilslice]
  { nx := (2 : Nat),
    m :=
      [((1 : Nat),
          AObj.cells (42 : Nat)
            [AV.slice (0 : Nat) (0 : Nat) (3 : Nat) (some (3 : Nat)), AV.int IntKind.i64 (0 : Int),
              AV.int IntKind.i64 (0 : Int), AV.int IntKind.i64 (0 : Int), AV.bool false]),
        ((0 : Nat),
          AObj.cells (33 : Nat)
            [AV.int IntKind.i64 (0 : Int), AV.int IntKind.i64 (0 : Int), AV.int IntKind.i64 (0 : Int),
              AV.int IntKind.u8 (0 : Int), AV.int IntKind.i64 (0 : Int), AV.int IntKind.i64 (0 : Int),
              AV.int IntKind.u8 (0 : Int), AV.int IntKind.i64 (0 : Int), AV.int IntKind.i64 (0 : Int),
              AV.int IntKind.i64 (0 : Int), AV.int IntKind.u8 (0 : Int), AV.int IntKind.i64 (0 : Int),
              AV.int IntKind.i64 (0 : Int), AV.int IntKind.u8 (0 : Int), AV.int IntKind.i64 (0 : Int),
              AV.int IntKind.i64 (0 : Int), AV.int IntKind.i64 (0 : Int), AV.int IntKind.u8 (0 : Int),
              AV.int IntKind.i64 (0 : Int), AV.int IntKind.i64 (0 : Int), AV.int IntKind.u8 (0 : Int)])] }) ∧
              ((N (162 : Nat) [some (AV.bool false), some (AV.ptr (1 : Nat) (0 : Nat)), some AV.nilslice, some AV.nilslice]
  { nx := (2 : Nat),
    m :=
      [((1 : Nat),
          AObj.cells (42 : Nat)
            [AV.slice (0 : Nat) (0 : Nat) (2 : Nat) (some (2 : Nat)), AV.int IntKind.i64 (0 : Int),
              AV.int IntKind.i64 (0 : Int), AV.int IntKind.i64 (0 : Int), AV.bool false]),
        ((0 : Nat),
          AObj.cells (33 : Nat)
            [AV.int IntKind.i64 (0 : Int), AV.int IntKind.i64 (0 : Int), AV.int IntKind.i64 (0 : Int),
              AV.int IntKind.u8 (0 : Int), AV.int IntKind.i64 (0 : Int), AV.int IntKind.i64 (0 : Int),
              AV.int IntKind.u8 (0 : Int), AV.int IntKind.i64 (0 : Int), AV.int IntKind.i64 (0 : Int),
              AV.int IntKind.i64 (0 : Int), AV.int IntKind.u8 (0 : Int), AV.int IntKind.i64 (0 : Int),
              AV.int IntKind.i64 (0 : Int), AV.int IntKind.u8 (0 : Int)])] }) ∧
                (N (162 : Nat) [some (AV.bool false), some (AV.ptr (1 : Nat) (0 : Nat)), some AV.nilslice, some AV.nilslice]
  { nx := (2 : Nat),
    m :=
      [((1 : Nat),
          AObj.cells (42 : Nat)
            [AV.slice (0 : Nat) (0 : Nat) (1 : Nat) (some (1 : Nat)), AV.int IntKind.i64 (0 : Int),
              AV.int IntKind.i64 (0 : Int), AV.int IntKind.i64 (0 : Int), AV.bool false]),
        ((0 : Nat),
          AObj.cells (33 : Nat)
            [AV.int IntKind.i64 (0 : Int), AV.int IntKind.i64 (0 : Int), AV.int IntKind.i64 (0 : Int),
              AV.int IntKind.u8 (0 : Int), AV.int IntKind.i64 (0 : Int), AV.int IntKind.i64 (0 : Int),
              AV.int IntKind.u8 (0 : Int)])] }))))))))
def zN_scr : Plan := .k (.k (.b (.z) (.b (.z) (.b (.z) (.b (.z) (.b (.z) (.b (.z) (.b (.z) (.b (.z) (.z))))))))))
theorem zN_vc (room : Int) (tv : AV) (N : NS) (Q : QS) (K : Unit) : (wpP XPr lkSy 0 (seqs (lkPre ++ [lkMid]) .skip) 0 (rndS slT N Q) (AF.enter 162 [.int .i64 room, .nilslice, tv]) ⟨0, []⟩ zN_scr) = zN_VC room tv N Q K := by kernel_rfl
def zT_VC (room : Int) (tv : AV) (tc : List AV) (N : NS) (Q : QS) (K : Unit) : Prop :=
  (N (162 : Nat) [some (AV.bool false), some (AV.ptr (2 : Nat) (0 : Nat)), some AV.nilslice, some AV.nilslice]
  { nx := (3 : Nat),
    m :=
      [((2 : Nat),
          AObj.cells (42 : Nat)
            [AV.slice (1 : Nat) (0 : Nat) (9 : Nat) (some (9 : Nat)), AV.int IntKind.i64 (0 : Int),
              AV.int IntKind.i64 (0 : Int), AV.int IntKind.i64 (0 : Int), AV.bool false]),
        ((1 : Nat),
          AObj.cells (33 : Nat)
            [AV.int IntKind.i64 (0 : Int), AV.int IntKind.i64 (0 : Int), AV.int IntKind.i64 (0 : Int),
              AV.int IntKind.u8 (0 : Int), AV.int IntKind.i64 (0 : Int), AV.int IntKind.i64 (0 : Int),
              AV.int IntKind.u8 (0 : Int), AV.int IntKind.i64 (0 : Int), AV.int IntKind.i64 (0 : Int),
              AV.int IntKind.i64 (0 : Int), AV.int IntKind.u8 (0 : Int), AV.int IntKind.i64 (0 : Int),
              AV.int IntKind.i64 (0 : Int), AV.int IntKind.u8 (0 : Int), AV.int IntKind.i64 (0 : Int),
              AV.int IntKind.i64 (0 : Int), AV.int IntKind.i64 (0 : Int), AV.int IntKind.u8 (0 : Int),
              AV.int IntKind.i64 (0 : Int), AV.int IntKind.i64 (0 : Int), AV.int IntKind.u8 (0 : Int),
              AV.int IntKind.i64 (0 : Int), AV.int IntKind.i64 (0 : Int), AV.int IntKind.i64 (0 : Int),
              AV.int IntKind.u8 (0 : Int), AV.int IntKind.i64 (0 : Int), AV.int IntKind.i64 (0 : Int),
              AV.int IntKind.u8 (0 : Int), AV.int IntKind.i64 (0 : Int), AV.int IntKind.i64 (0 : Int),
              AV.int IntKind.i64 (0 : Int), AV.int IntKind.u8 (0 : Int), AV.int IntKind.i64 (0 : Int),
              AV.int IntKind.i64 (0 : Int), AV.int IntKind.u8 (0 : Int), AV.int IntKind.i64 (0 : Int),
              AV.int IntKind.i64 (0 : Int), AV.int IntKind.i64 (0 : Int), AV.int IntKind.u8 (0 : Int),
              AV.int IntKind.i64 (0 : Int), AV.int IntKind.i64 (0 : Int), AV.int IntKind.u8 (0 : Int),
              AV.int IntKind.i64 (0 : Int), AV.int IntKind.i64 (0 : Int), AV.int IntKind.i64 (0 : Int),
              AV.int IntKind.u8 (0 : Int), AV.int IntKind.i64 (0 : Int), AV.int IntKind.i64 (0 : Int),
              AV.int IntKind.u8 (0 : Int), AV.int IntKind.i64 (0 : Int), AV.int IntKind.i64 (0 : Int),
              AV.int IntKind.i64 (0 : Int), AV.int IntKind.u8 (0 : Int), AV.int IntKind.i64 (0 : Int),
              AV.int IntKind.i64 (0 : Int), AV.int IntKind.u8 (0 : Int), AV.int IntKind.i64 (0 : Int),
              AV.int IntKind.i64 (0 : Int), AV.int IntKind.i64 (0 : Int), AV.int IntKind.u8 (0 : Int),
              AV.int IntKind.i64 (0 : Int), AV.int IntKind.i64 (0 : Int), AV.int IntKind.u8 (0 : Int)]),
        ((0 : Nat), AObj.ro tc)] }) ∧
  ((N (162 : Nat) [some (AV.bool false), some (AV.ptr (2 : Nat) (0 : Nat)), some AV.nilslice, some AV.nilslice]
  { nx := (3 : Nat),
    m :=
      [((2 : Nat),
          AObj.cells (42 : Nat)
            [AV.slice (1 : Nat) (0 : Nat) (8 : Nat) (some (8 : Nat)), AV.int IntKind.i64 (0 : Int),
              AV.int IntKind.i64 (0 : Int), AV.int IntKind.i64 (0 : Int), AV.bool false]),
        ((1 : Nat),
          AObj.cells (33 : Nat)
            [AV.int IntKind.i64 (0 : Int), AV.int IntKind.i64 (0 : Int), AV.int IntKind.i64 (0 : Int),
              AV.int IntKind.u8 (0 : Int), AV.int IntKind.i64 (0 : Int), AV.int IntKind.i64 (0 : Int),
              AV.int IntKind.u8 (0 : Int), AV.int IntKind.i64 (0 : Int), AV.int IntKind.i64 (0 : Int),
              AV.int IntKind.i64 (0 : Int), AV.int IntKind.u8 (0 : Int), AV.int IntKind.i64 (0 : Int),
              AV.int IntKind.i64 (0 : Int), AV.int IntKind.u8 (0 : Int), AV.int IntKind.i64 (0 : Int),
              AV.int IntKind.i64 (0 : Int), AV.int IntKind.i64 (0 : Int), AV.int IntKind.u8 (0 : Int),
              AV.int IntKind.i64 (0 : Int), AV.int IntKind.i64 (0 : Int), AV.int IntKind.u8 (0 : Int),
              AV.int IntKind.i64 (0 : Int), AV.int IntKind.i64 (0 : Int), AV.int IntKind.i64 (0 : Int),
              AV.int IntKind.u8 (0 : Int), AV.int IntKind.i64 (0 : Int), AV.int IntKind.i64 (0 : Int),
              AV.int IntKind.u8 (0 : Int), AV.int IntKind.i64 (0 : Int), AV.int IntKind.i64 (0 : Int),
              AV.int IntKind.i64 (0 : Int), AV.int IntKind.u8 (0 : Int), AV.int IntKind.i64 (0 : Int),
              AV.int IntKind.i64 (0 : Int), AV.int IntKind.u8 (0 : Int), AV.int IntKind.i64 (0 : Int),
              AV.int IntKind.i64 (0 : Int), AV.int IntKind.i64 (0 : Int), AV.int IntKind.u8 (0 : Int),
              AV.int IntKind.i64 (0 : Int), AV.int IntKind.i64 (0 : Int), AV.int IntKind.u8 (0 : Int),
              AV.int IntKind.i64 (0 : Int), AV.int IntKind.i64 (0 : Int), AV.int IntKind.i64 (0 : Int),
              AV.int IntKind.u8 (0 : Int), AV.int IntKind.i64 (0 : Int), AV.int IntKind.i64 (0 : Int),
              AV.int IntKind.u8 (0 : Int), AV.int IntKind.i64 (0 : Int), AV.int IntKind.i64 (0 : Int),
              AV.int IntKind.i64 (0 : Int), AV.int IntKind.u8 (0 : Int), AV.int IntKind.i64 (0 : Int),
              AV.int IntKind.i64 (0 : Int), AV.int IntKind.u8 (0 : Int)]),
        ((0 : Nat), AObj.ro tc)] }) ∧
    ((N (162 : Nat) [some (AV.bool false), some (AV.ptr (2 : Nat) (0 : Nat)), some AV.nilslice, some AV.nilslice]
  { nx := (3 : Nat),
    m :=
      [((2 : Nat),
          AObj.cells (42 : Nat)
            [AV.slice (1 : Nat) (0 : Nat) (7 : Nat) (some (7 : Nat)), AV.int IntKind.i64 (0 : Int),
              AV.int IntKind.i64 (0 : Int), AV.int IntKind.i64 (0 : Int), AV.bool false]),
        ((1 : Nat),
          AObj.cells (33 : Nat)
            [AV.int IntKind.i64 (0 : Int), AV.int IntKind.i64 (0 : Int), AV.int IntKind.i64 (0 : Int),
              AV.int IntKind.u8 (0 : Int), AV.int IntKind.i64 (0 : Int), AV.int IntKind.i64 (0 : Int),
              AV.int IntKind.u8 (0 : Int), AV.int IntKind.i64 (0 : Int), AV.int IntKind.i64 (0 : Int),
              AV.int IntKind.i64 (0 : Int), AV.int IntKind.u8 (0 : Int), AV.int IntKind.i64 (0 : Int),
              AV.int IntKind.i64 (0 : Int), AV.int IntKind.u8 (0 : Int), AV.int IntKind.i64 (0 : Int),
              AV.int IntKind.i64 (0 : Int), AV.int IntKind.i64 (0 : Int), AV.int IntKind.u8 (0 : Int),
              AV.int IntKind.i64 (0 : Int), AV.int IntKind.i64 (0 : Int), AV.int IntKind.u8 (0 : Int),
              AV.int IntKind.i64 (0 : Int), AV.int IntKind.i64 (0 : Int), AV.int IntKind.i64 (0 : Int),
              AV.int IntKind.u8 (0 : Int), AV.int IntKind.i64 (0 : Int), AV.int IntKind.i64 (0 : Int),
              AV.int IntKind.u8 (0 : Int), AV.int IntKind.i64 (0 : Int), AV.int IntKind.i64 (0 : Int),
              AV.int IntKind.i64 (0 : Int), AV.int IntKind.u8 (0 : Int), AV.int IntKind.i64 (0 : Int),
              AV.int IntKind.i64 (0 : Int), AV.int IntKind.u8 (0 : Int), AV.int IntKind.i64 (0 : Int),
              AV.int IntKind.i64 (0 : Int), AV.int IntKind.i64 (0 : Int), AV.int IntKind.u8 (0 : Int),
              AV.int IntKind.i64 (0 : Int), AV.int IntKind.i64 (0 : Int), AV.int IntKind.u8 (0 : Int),
              AV.int IntKind.i64 (0 : Int), AV.int IntKind.i64 (0 : Int), AV.int IntKind.i64 (0 : Int),
              AV.int IntKind.u8 (0 : Int), AV.int IntKind.i64 (0 : Int), AV.int IntKind.i64 (0 : Int),
              AV.int IntKind.u8 (0 : Int)]),
        ((0 : Nat), AObj.ro tc)] }) ∧
      ((N (162 : Nat) [some (AV.bool false), some (AV.ptr (2 : Nat) (0 : Nat)), some AV.nilslice, some AV.nilslice]
  { nx := (3 : Nat),
    m :=
      [((2 : Nat),
          AObj.cells (42 : Nat)
            [AV.slice (1 : Nat) (0 : Nat) (6 : Nat) (some (6 : Nat)), AV.int IntKind.i64 (0 : Int),
              AV.int IntKind.i64 (0 : Int), AV.int IntKind.i64 (0 : Int), AV.bool false]),
        ((1 : Nat),
          AObj.cells (33 : Nat)
            [AV.int IntKind.i64 (0 : Int), AV.int IntKind.i64 (0 : Int), AV.int IntKind.i64 (0 : Int),
              AV.int IntKind.u8 (0 : Int), AV.int IntKind.i64 (0 : Int), AV.int IntKind.i64 (0 : Int),
              AV.int IntKind.u8 (0 : Int), AV.int IntKind.i64 (0 : Int), AV.int IntKind.i64 (0 : Int),
              AV.int IntKind.i64 (0 : Int), AV.int IntKind.u8 (0 : Int), AV.int IntKind.i64 (0 : Int),
              AV.int IntKind.i64 (0 : Int), AV.int IntKind.u8 (0 : Int), AV.int IntKind.i64 (0 : Int),
              AV.int IntKind.i64 (0 : Int), AV.int IntKind.i64 (0 : Int), AV.int IntKind.u8 (0 : Int),
              AV.int IntKind.i64 (0 : Int), AV.int IntKind.i64 (0 : Int), AV.int IntKind.u8 (0 : Int),
              AV.int IntKind.i64 (0 : Int), AV.int IntKind.i64 (0 : Int), AV.int IntKind.i64 (0 : Int),
              AV.int IntKind.u8 (0 : Int), AV.int IntKind.i64 (0 : Int), AV.int IntKind.i64 (0 : Int),
              AV.int IntKind.u8 (0 : Int), AV.int IntKind.i64 (0 : Int), AV.int IntKind.i64 (0 : Int),
              AV.int IntKind.i64 (0 : Int), AV.int IntKind.u8 (0 : Int), AV.int IntKind.i64 (0 : Int),
              AV.int IntKind.i64 (0 : Int), AV.int IntKind.u8 (0 : Int), AV.int IntKind.i64 (0 : Int),
              AV.int IntKind.i64 (0 : Int), AV.int IntKind.i64 (0 : Int), AV.int IntKind.u8 (0 : Int),
              AV.int IntKind.i64 (0 : Int), AV.int IntKind.i64 (0 : Int), AV.int IntKind.u8 (0 : Int)]),
        ((0 : Nat), AObj.ro tc)] }) ∧
        ((N (162 : Nat) [some (AV.bool false), some (AV.ptr (2 : Nat) (0 : Nat)), some AV.nilslice, some AV.nilslice]
  { nx := (3 : Nat),
    m :=
      [((2 : Nat),
          AObj.cells (42 : Nat)
            [AV.slice (1 : Nat) (0 : Nat) (5 : Nat) (some (5 : Nat)), AV.int IntKind.i64 (0 : Int),
              AV.int IntKind.i64 (0 : Int), AV.int IntKind.i64 (0 : Int), AV.bool false]),
        ((1 : Nat),
          AObj.cells (33 : Nat)
            [AV.int IntKind.i64 (0 : Int), AV.int IntKind.i64 (0 : Int), AV.int IntKind.i64 (0 : Int),
              AV.int IntKind.u8 (0 : Int), AV.int IntKind.i64 (0 : Int), AV.int IntKind.i64 (0 : Int),
              AV.int IntKind.u8 (0 : Int), AV.int IntKind.i64 (0 : Int), AV.int IntKind.i64 (0 : Int),
              AV.int IntKind.i64 (0 : Int), AV.int IntKind.u8 (0 : Int), AV.int IntKind.i64 (0 : Int),
              AV.int IntKind.i64 (0 : Int), AV.int IntKind.u8 (0 : Int), AV.int IntKind.i64 (0 : Int),
              AV.int IntKind.i64 (0 : Int), AV.int IntKind.i64 (0 : Int), AV.int IntKind.u8 (0 : Int),
              AV.int IntKind.i64 (0 : Int), AV.int IntKind.i64 (0 : Int), AV.int IntKind.u8 (0 : Int),
              AV.int IntKind.i64 (0 : Int), AV.int IntKind.i64 (0 : Int), AV.int IntKind.i64 (0 : Int),
              AV.int IntKind.u8 (0 : Int), AV.int IntKind.i64 (0 : Int), AV.int IntKind.i64 (0 : Int),
              AV.int IntKind.u8 (0 : Int), AV.int IntKind.i64 (0 : Int), AV.int IntKind.i64 (0 : Int),
              AV.int IntKind.i64 (0 : Int), AV.int IntKind.u8 (0 : Int), AV.int IntKind.i64 (0 : Int),
              AV.int IntKind.i64 (0 : Int), AV.int IntKind.u8 (0 : Int)]),
        ((0 : Nat), AObj.ro tc)] }) ∧
          ((N (162 : Nat) [some (AV.bool false), some (AV.ptr (2 : Nat) (0 : Nat)), some AV.nilslice, some AV.nilslice]
  { nx := (3 : Nat),
    m :=
      [((2 : Nat),
          AObj.cells (42 : Nat)
            [AV.slice (1 : Nat) (0 : Nat) (4 : Nat) (some (4 : Nat)), AV.int IntKind.i64 (0 : Int),
              AV.int IntKind.i64 (0 : Int), AV.int IntKind.i64 (0 : Int), AV.bool false]),
        ((1 : Nat),
          AObj.cells (33 : Nat)
            [AV.int IntKind.i64 (0 : Int), AV.int IntKind.i64 (0 : Int), AV.int IntKind.i64 (0 : Int),
              AV.int IntKind.u8 (0 : Int), AV.int IntKind.i64 (0 : Int), AV.int IntKind.i64 (0 : Int),
              AV.int IntKind.u8 (0 : Int), AV.int IntKind.i64 (0 : Int), AV.int IntKind.i64 (0 : Int),
              AV.int IntKind.i64 (0 : Int), AV.int IntKind.u8 (0 : Int), AV.int IntKind.i64 (0 : Int),
              AV.int IntKind.i64 (0 : Int), AV.int IntKind.u8 (0 : Int), AV.int IntKind.i64 (0 : Int),
              AV.int IntKind.i64 (0 : Int), AV.int IntKind.i64 (0 : Int), AV.int IntKind.u8 (0 : Int),
              AV.int IntKind.i64 (0 : Int), AV.int IntKind.i64 (0 : Int), AV.int IntKind.u8 (0 : Int),
              AV.int IntKind.i64 (0 : Int), AV.int IntKind.i64 (0 : Int), AV.int IntKind.i64 (0 : Int),
              AV.int IntKind.u8 (0 : Int), AV.int IntKind.i64 (0 : Int), AV.int IntKind.i64 (0 : Int),
              AV.int IntKind.u8 (0 : Int)]),
        ((0 : Nat), AObj.ro tc)] }) ∧
            ((N (162 : Nat) [some (AV.bool false), some (AV.ptr (2 : Nat) (0 : Nat)), some AV.nilslice, some AV.nilslice]
  { nx := (3 : Nat),
    m :=
      [((2 : Nat),
          AObj.cells (42 : Nat)
            [AV.slice (1 : Nat) (0 : Nat) (3 : Nat) (some (3 : Nat)), AV.int IntKind.i64 (0 : Int),
              AV.int IntKind.i64 (0 : Int), AV.int IntKind.i64 (0 : Int), AV.bool false]),
        ((1 : Nat),
          AObj.cells (33 : Nat)
            [AV.int IntKind.i64 (0 : Int), AV.int IntKind.i64 (0 : Int), AV.int IntKind.i64 (0 : Int),
              AV.int IntKind.u8 (0 : Int), AV.int IntKind.i64 (0 : Int), AV.int IntKind.i64 (0 : Int),
              AV.int IntKind.u8 (0 : Int), AV.int IntKind.i64 (0 : Int), AV.int IntKind.i64 (0 : Int),
              AV.int IntKind.i64 (0 : Int), AV.int IntKind.u8 (0 : Int), AV.int IntKind.i64 (0 : Int),
              AV.int IntKind.i64 (0 : Int), AV.int IntKind.u8 (0 : Int), AV.int IntKind.i64 (0 : Int),
              AV.int IntKind.i64 (0 : Int), AV.int IntKind.i64 (0 : Int), AV.int IntKind.u8 (0 : Int),
              AV.int IntKind.i64 (0 : Int), AV.int IntKind.i64 (0 : Int), AV.int IntKind.u8 (0 : Int)]),
        ((0 : Nat), AObj.ro tc)] }) ∧
              ((N (162 : Nat) [some (AV.bool false), some (AV.ptr (2 : Nat) (0 : Nat)), some AV.nilslice, some AV.nilslice]
  { nx := (3 : Nat),
    m :=
      [((2 : Nat),
          AObj.cells (42 : Nat)
            [AV.slice (1 : Nat) (0 : Nat) (2 : Nat) (some (2 : Nat)), AV.int IntKind.i64 (0 : Int),
              AV.int IntKind.i64 (0 : Int), AV.int IntKind.i64 (0 : Int), AV.bool false]),
        ((1 : Nat),
          AObj.cells (33 : Nat)
            [AV.int IntKind.i64 (0 : Int), AV.int IntKind.i64 (0 : Int), AV.int IntKind.i64 (0 : Int),
              AV.int IntKind.u8 (0 : Int), AV.int IntKind.i64 (0 : Int), AV.int IntKind.i64 (0 : Int),
              AV.int IntKind.u8 (0 : Int), AV.int IntKind.i64 (0 : Int), AV.int IntKind.i64 (0 : Int),
              AV.int IntKind.i64 (0 : Int), AV.int IntKind.u8 (0 : Int), AV.int IntKind.i64 (0 : Int),
              AV.int IntKind.i64 (0 : Int), AV.int IntKind.u8 (0 : Int)]),
        ((0 : Nat), AObj.ro tc)] }) ∧
                (N (162 : Nat) [some (AV.bool false), some (AV.ptr (2 : Nat) (0 : Nat)), some AV.nilslice, some AV.nilslice]
  { nx := (3 : Nat),
    m :=
      [((2 : Nat),
          AObj.cells (42 : Nat)
            [AV.slice (1 : Nat) (0 : Nat) (1 : Nat) (some (1 : Nat)), AV.int IntKind.i64 (0 : Int),
              AV.int IntKind.i64 (0 : Int), AV.int IntKind.i64 (0 : Int), AV.bool false]),
        ((1 : Nat),
          AObj.cells (33 : Nat)
            [AV.int IntKind.i64 (0 : Int), AV.int IntKind.i64 (0 : Int), AV.int IntKind.i64 (0 : Int),
              AV.int IntKind.u8 (0 : Int), AV.int IntKind.i64 (0 : Int), AV.int IntKind.i64 (0 : Int),
              AV.int IntKind.u8 (0 : Int)]),
        ((0 : Nat), AObj.ro tc)] }))))))))
def zT_scr : Plan := .k (.k (.b (.z) (.b (.z) (.b (.z) (.b (.z) (.b (.z) (.b (.z) (.b (.z) (.b (.z) (.z))))))))))
theorem zT_vc (room : Int) (tv : AV) (tc : List AV) (N : NS) (Q : QS) (K : Unit) : (wpP XPr lkSy 1 (seqs (lkPre ++ [lkMid]) .skip) 0 (rndS slT N Q) (AF.enter 162 [.int .i64 room, .nilslice, tv]) ⟨1, [(0, .ro tc)]⟩ zT_scr) = zT_VC room tv tc N Q K := by kernel_rfl
def yN_VC (room : Int) (tv : AV) (N : NS) (Q : QS) (K : Unit) : Prop :=
  (N (162 : Nat) [some (AV.bool false), some (AV.ptr (1 : Nat) (0 : Nat)), some AV.nilslice, some AV.nilslice]
  { nx := (2 : Nat),
    m :=
      [((1 : Nat),
          AObj.cells (42 : Nat)
            [AV.slice (0 : Nat) (0 : Nat) (9 : Nat) (some (9 : Nat)), AV.int IntKind.i64 (0 : Int),
              AV.int IntKind.i64 (0 : Int), AV.int IntKind.i64 (0 : Int), AV.bool false]),
        ((0 : Nat),
          AObj.cells (33 : Nat)
            [AV.int IntKind.i64 (0 : Int), AV.int IntKind.i64 (0 : Int), AV.int IntKind.i64 (0 : Int),
              AV.int IntKind.u8 (0 : Int), AV.int IntKind.i64 (0 : Int), AV.int IntKind.i64 (0 : Int),
              AV.int IntKind.u8 (0 : Int), AV.int IntKind.i64 (0 : Int), AV.int IntKind.i64 (0 : Int),
              AV.int IntKind.i64 (0 : Int), AV.int IntKind.u8 (0 : Int), AV.int IntKind.i64 (0 : Int),
              AV.int IntKind.i64 (0 : Int), AV.int IntKind.u8 (0 : Int), AV.int IntKind.i64 (0 : Int),
              AV.int IntKind.i64 (0 : Int), AV.int IntKind.i64 (0 : Int), AV.int IntKind.u8 (0 : Int),
              AV.int IntKind.i64 (0 : Int), AV.int IntKind.i64 (0 : Int), AV.int IntKind.u8 (0 : Int),
              AV.int IntKind.i64 (0 : Int), AV.int IntKind.i64 (0 : Int), AV.int IntKind.i64 (0 : Int),
              AV.int IntKind.u8 (0 : Int), AV.int IntKind.i64 (0 : Int), AV.int IntKind.i64 (0 : Int),
              AV.int IntKind.u8 (0 : Int), AV.int IntKind.i64 (0 : Int), AV.int IntKind.i64 (0 : Int),
              AV.int IntKind.i64 (0 : Int), AV.int IntKind.u8 (0 : Int), AV.int IntKind.i64 (0 : Int),
              AV.int IntKind.i64 (0 : Int), AV.int IntKind.u8 (0 : Int), AV.int IntKind.i64 (0 : Int),
              AV.int IntKind.i64 (0 : Int), AV.int IntKind.i64 (0 : Int), AV.int IntKind.u8 (0 : Int),
              AV.int IntKind.i64 (0 : Int), AV.int IntKind.i64 (0 : Int), AV.int IntKind.u8 (0 : Int),
              AV.int IntKind.i64 (0 : Int), AV.int IntKind.i64 (0 : Int), AV.int IntKind.i64 (0 : Int),
              AV.int IntKind.u8 (0 : Int), AV.int IntKind.i64 (0 : Int), AV.int IntKind.i64 (0 : Int),
              AV.int IntKind.u8 (0 : Int), AV.int IntKind.i64 (0 : Int), AV.int IntKind.i64 (0 : Int),
              AV.int IntKind.i64 (0 : Int), AV.int IntKind.u8 (0 : Int), AV.int IntKind.i64 (0 : Int),
              AV.int IntKind.i64 (0 : Int), AV.int IntKind.u8 (0 : Int), AV.int IntKind.i64 (0 : Int),
              AV.int IntKind.i64 (0 : Int), AV.int IntKind.i64 (0 : Int), AV.int IntKind.u8 (0 : Int),
              AV.int IntKind.i64 (0 : Int), AV.int IntKind.i64 (0 : Int), AV.int IntKind.u8 (0 : Int)])] }) ∧
  ((N (162 : Nat) [some (AV.bool false), some (AV.ptr (1 : Nat) (0 : Nat)), some AV.nilslice, some AV.nilslice]
  { nx := (2 : Nat),
    m :=
      [((1 : Nat),
          AObj.cells (42 : Nat)
            [AV.slice (0 : Nat) (0 : Nat) (8 : Nat) (some (8 : Nat)), AV.int IntKind.i64 (0 : Int),
              AV.int IntKind.i64 (0 : Int), AV.int IntKind.i64 (0 : Int), AV.bool false]),
        ((0 : Nat),
          AObj.cells (33 : Nat)
            [AV.int IntKind.i64 (0 : Int), AV.int IntKind.i64 (0 : Int), AV.int IntKind.i64 (0 : Int),
              AV.int IntKind.u8 (0 : Int), AV.int IntKind.i64 (0 : Int), AV.int IntKind.i64 (0 : Int),
              AV.int IntKind.u8 (0 : Int), AV.int IntKind.i64 (0 : Int), AV.int IntKind.i64 (0 : Int),
              AV.int IntKind.i64 (0 : Int), AV.int IntKind.u8 (0 : Int), AV.int IntKind.i64 (0 : Int),
              AV.int IntKind.i64 (0 : Int), AV.int IntKind.u8 (0 : Int), AV.int IntKind.i64 (0 : Int),
              AV.int IntKind.i64 (0 : Int), AV.int IntKind.i64 (0 : Int), AV.int IntKind.u8 (0 : Int),
              AV.int IntKind.i64 (0 : Int), AV.int IntKind.i64 (0 : Int), AV.int IntKind.u8 (0 : Int),
              AV.int IntKind.i64 (0 : Int), AV.int IntKind.i64 (0 : Int), AV.int IntKind.i64 (0 : Int),
              AV.int IntKind.u8 (0 : Int), AV.int IntKind.i64 (0 : Int), AV.int IntKind.i64 (0 : Int),
              AV.int IntKind.u8 (0 : Int), AV.int IntKind.i64 (0 : Int), AV.int IntKind.i64 (0 : Int),
              AV.int IntKind.i64 (0 : Int), AV.int IntKind.u8 (0 : Int), AV.int IntKind.i64 (0 : Int),
              AV.int IntKind.i64 (0 : Int), AV.int IntKind.u8 (0 : Int), AV.int IntKind.i64 (0 : Int),
              AV.int IntKind.i64 (0 : Int), AV.int IntKind.i64 (0 : Int), AV.int IntKind.u8 (0 : Int),
              AV.int IntKind.i64 (0 : Int), AV.int IntKind.i64 (0 : Int), AV.int IntKind.u8 (0 : Int),
              AV.int IntKind.i64 (0 : Int), AV.int IntKind.i64 (0 : Int), AV.int IntKind.i64 (0 : Int),
              AV.int IntKind.u8 (0 : Int), AV.int IntKind.i64 (0 : Int), AV.int IntKind.i64 (0 : Int),
              AV.int IntKind.u8 (0 : Int), AV.int IntKind.i64 (0 : Int), AV.int IntKind.i64 (0 : Int),
              AV.int IntKind.i64 (0 : Int), AV.int IntKind.u8 (0 : Int), AV.int IntKind.i64 (0 : Int),
              AV.int IntKind.i64 (0 : Int), AV.int IntKind.u8 (0 : Int)])] }) ∧
    ((N (162 : Nat) [some (AV.bool false), some (AV.ptr (1 : Nat) (0 : Nat)), some AV.nilslice, some AV.nilslice]
  { nx := (2 : Nat),
    m :=
      [((1 : Nat),
          AObj.cells (42 : Nat)
            [AV.slice (0 : Nat) (0 : Nat) (7 : Nat) (some (7 : Nat)), AV.int IntKind.i64 (0 : Int),
              AV.int IntKind.i64 (0 : Int), AV.int IntKind.i64 (0 : Int), AV.bool false]),
        ((0 : Nat),
          AObj.cells (33 : Nat)
            [AV.int IntKind.i64 (0 : Int), AV.int IntKind.i64 (0 : Int), AV.int IntKind.i64 (0 : Int),
              AV.int IntKind.u8 (0 : Int), AV.int IntKind.i64 (0 : Int), AV.int IntKind.i64 (0 : Int),
              AV.int IntKind.u8 (0 : Int), AV.int IntKind.i64 (0 : Int), AV.int IntKind.i64 (0 : Int),
              AV.int IntKind.i64 (0 : Int), AV.int IntKind.u8 (0 : Int), AV.int IntKind.i64 (0 : Int),
              AV.int IntKind.i64 (0 : Int), AV.int IntKind.u8 (0 : Int), AV.int IntKind.i64 (0 : Int),
              AV.int IntKind.i64 (0 : Int), AV.int IntKind.i64 (0 : Int), AV.int IntKind.u8 (0 : Int),
              AV.int IntKind.i64 (0 : Int), AV.int IntKind.i64 (0 : Int), AV.int IntKind.u8 (0 : Int),
              AV.int IntKind.i64 (0 : Int), AV.int IntKind.i64 (0 : Int), AV.int IntKind.i64 (0 : Int),
              AV.int IntKind.u8 (0 : Int), AV.int IntKind.i64 (0 : Int), AV.int IntKind.i64 (0 : Int),
              AV.int IntKind.u8 (0 : Int), AV.int IntKind.i64 (0 : Int), AV.int IntKind.i64 (0 : Int),
              AV.int IntKind.i64 (0 : Int), AV.int IntKind.u8 (0 : Int), AV.int IntKind.i64 (0 : Int),
              AV.int IntKind.i64 (0 : Int), AV.int IntKind.u8 (0 : Int), AV.int IntKind.i64 (0 : Int),
              AV.int IntKind.i64 (0 : Int), AV.int IntKind.i64 (0 : Int), AV.int IntKind.u8 (0 : Int),
              AV.int IntKind.i64 (0 : Int), AV.int IntKind.i64 (0 : Int), AV.int IntKind.u8 (0 : Int),
              AV.int IntKind.i64 (0 : Int), AV.int IntKind.i64 (0 : Int), AV.int IntKind.i64 (0 : Int),
              AV.int IntKind.u8 (0 : Int), AV.int IntKind.i64 (0 : Int), AV.int IntKind.i64 (0 : Int),
              AV.int IntKind.u8 (0 : Int)])] }) ∧
      ((N (162 : Nat) [some (AV.bool false), some (AV.ptr (1 : Nat) (0 : Nat)), some AV.nilslice, some AV.nilslice]
  { nx := (2 : Nat),
    m :=
      [((1 : Nat),
          AObj.cells (42 : Nat)
            [AV.slice (0 : Nat) (0 : Nat) (6 : Nat) (some (6 : Nat)), AV.int IntKind.i64 (0 : Int),
              AV.int IntKind.i64 (0 : Int), AV.int IntKind.i64 (0 : Int), AV.bool false]),
        ((0 : Nat),
          AObj.cells (33 : Nat)
            [AV.int IntKind.i64 (0 : Int), AV.int IntKind.i64 (0 : Int), AV.int IntKind.i64 (0 : Int),
              AV.int IntKind.u8 (0 : Int), AV.int IntKind.i64 (0 : Int), AV.int IntKind.i64 (0 : Int),
              AV.int IntKind.u8 (0 : Int), AV.int IntKind.i64 (0 : Int), AV.int IntKind.i64 (0 : Int),
              AV.int IntKind.i64 (0 : Int), AV.int IntKind.u8 (0 : Int), AV.int IntKind.i64 (0 : Int),
              AV.int IntKind.i64 (0 : Int), AV.int IntKind.u8 (0 : Int), AV.int IntKind.i64 (0 : Int),
              AV.int IntKind.i64 (0 : Int), AV.int IntKind.i64 (0 : Int), AV.int IntKind.u8 (0 : Int),
              AV.int IntKind.i64 (0 : Int), AV.int IntKind.i64 (0 : Int), AV.int IntKind.u8 (0 : Int),
              AV.int IntKind.i64 (0 : Int), AV.int IntKind.i64 (0 : Int), AV.int IntKind.i64 (0 : Int),
              AV.int IntKind.u8 (0 : Int), AV.int IntKind.i64 (0 : Int), AV.int IntKind.i64 (0 : Int),
              AV.int IntKind.u8 (0 : Int), AV.int IntKind.i64 (0 : Int), AV.int IntKind.i64 (0 : Int),
              AV.int IntKind.i64 (0 : Int), AV.int IntKind.u8 (0 : Int), AV.int IntKind.i64 (0 : Int),
              AV.int IntKind.i64 (0 : Int), AV.int IntKind.u8 (0 : Int), AV.int IntKind.i64 (0 : Int),
              AV.int IntKind.i64 (0 : Int), AV.int IntKind.i64 (0 : Int), AV.int IntKind.u8 (0 : Int),
              AV.int IntKind.i64 (0 : Int), AV.int IntKind.i64 (0 : Int), AV.int IntKind.u8 (0 : Int)])] }) ∧
        ((N (162 : Nat) [some (AV.bool false), some (AV.ptr (1 : Nat) (0 : Nat)), some AV.nilslice, some AV.nilslice]
  { nx := (2 : Nat),
    m :=
      [((1 : Nat),
          AObj.cells (42 : Nat)
            [AV.slice (0 : Nat) (0 : Nat) (5 : Nat) (some (5 : Nat)), AV.int IntKind.i64 (0 : Int),
              AV.int IntKind.i64 (0 : Int), AV.int IntKind.i64 (0 : Int), AV.bool false]),
        ((0 : Nat),
          AObj.cells (33 : Nat)
            [AV.int IntKind.i64 (0 : Int), AV.int IntKind.i64 (0 : Int), AV.int IntKind.i64 (0 : Int),
              AV.int IntKind.u8 (0 : Int), AV.int IntKind.i64 (0 : Int), AV.int IntKind.i64 (0 : Int),
              AV.int IntKind.u8 (0 : Int), AV.int IntKind.i64 (0 : Int), AV.int IntKind.i64 (0 : Int),
              AV.int IntKind.i64 (0 : Int), AV.int IntKind.u8 (0 : Int), AV.int IntKind.i64 (0 : Int),
              AV.int IntKind.i64 (0 : Int), AV.int IntKind.u8 (0 : Int), AV.int IntKind.i64 (0 : Int),
              AV.int IntKind.i64 (0 : Int), AV.int IntKind.i64 (0 : Int), AV.int IntKind.u8 (0 : Int),
              AV.int IntKind.i64 (0 : Int), AV.int IntKind.i64 (0 : Int), AV.int IntKind.u8 (0 : Int),
              AV.int IntKind.i64 (0 : Int), AV.int IntKind.i64 (0 : Int), AV.int IntKind.i64 (0 : Int),
              AV.int IntKind.u8 (0 : Int), AV.int IntKind.i64 (0 : Int), AV.int IntKind.i64 (0 : Int),
              AV.int IntKind.u8 (0 : Int), AV.int IntKind.i64 (0 : Int), AV.int IntKind.i64 (0 : Int),
              AV.int IntKind.i64 (0 : Int), AV.int IntKind.u8 (0 : Int), AV.int IntKind.i64 (0 : Int),
              AV.int IntKind.i64 (0 : Int), AV.int IntKind.u8 (0 : Int)])] }) ∧
          ((N (162 : Nat) [some (AV.bool false), some (AV.ptr (1 : Nat) (0 : Nat)), some AV.nilslice, some AV.nilslice]
  { nx := (2 : Nat),
    m :=
      [((1 : Nat),
          AObj.cells (42 : Nat)
            [AV.slice (0 : Nat) (0 : Nat) (4 : Nat) (some (4 : Nat)), AV.int IntKind.i64 (0 : Int),
              AV.int IntKind.i64 (0 : Int), AV.int IntKind.i64 (0 : Int), AV.bool false]),
        ((0 : Nat),
          AObj.cells (33 : Nat)
            [AV.int IntKind.i64 (0 : Int), AV.int IntKind.i64 (0 : Int), AV.int IntKind.i64 (0 : Int),
              AV.int IntKind.u8 (0 : Int), AV.int IntKind.i64 (0 : Int), AV.int IntKind.i64 (0 : Int),
              AV.int IntKind.u8 (0 : Int), AV.int IntKind.i64 (0 : Int), AV.int IntKind.i64 (0 : Int),
              AV.int IntKind.i64 (0 : Int), AV.int IntKind.u8 (0 : Int), AV.int IntKind.i64 (0 : Int),
              AV.int IntKind.i64 (0 : Int), AV.int IntKind.u8 (0 : Int), AV.int IntKind.i64 (0 : Int),
              AV.int IntKind.i64 (0 : Int), AV.int IntKind.i64 (0 : Int), AV.int IntKind.u8 (0 : Int),
              AV.int IntKind.i64 (0 : Int), AV.int IntKind.i64 (0 : Int), AV.int IntKind.u8 (0 : Int),
              AV.int IntKind.i64 (0 : Int), AV.int IntKind.i64 (0 : Int), AV.int IntKind.i64 (0 : Int),
              AV.int IntKind.u8 (0 : Int), AV.int IntKind.i64 (0 : Int), AV.int IntKind.i64 (0 : Int),
              AV.int IntKind.u8 (0 : Int)])] }) ∧
            ((N (162 : Nat) [some (AV.bool false), some (AV.ptr (1 : Nat) (0 : Nat)), some AV.nilslice, some AV.nilslice]
  { nx := (2 : Nat),
    m :=
      [((1 : Nat),
          AObj.cells (42 : Nat)
            [AV.slice (0 : Nat) (0 : Nat) (3 : Nat) (some (3 : Nat)), AV.int IntKind.i64 (0 : Int),
              AV.int IntKind.i64 (0 : Int), AV.int IntKind.i64 (0 : Int), AV.bool false]),
        ((0 : Nat),
          AObj.cells (33 : Nat)
            [AV.int IntKind.i64 (0 : Int), AV.int IntKind.i64 (0 : Int), AV.int IntKind.i64 (0 : Int),
              AV.int IntKind.u8 (0 : Int), AV.int IntKind.i64 (0 : Int), AV.int IntKind.i64 (0 : Int),
              AV.int IntKind.u8 (0 : Int), AV.int IntKind.i64 (0 : Int), AV.int IntKind.i64 (0 : Int),
              AV.int IntKind.i64 (0 : Int), AV.int IntKind.u8 (0 : Int), AV.int IntKind.i64 (0 : Int),
              AV.int IntKind.i64 (0 : Int), AV.int IntKind.u8 (0 : Int), AV.int IntKind.i64 (0 : Int),
              AV.int IntKind.i64 (0 : Int), AV.int IntKind.i64 (0 : Int), AV.int IntKind.u8 (0 : Int),
              AV.int IntKind.i64 (0 : Int), AV.int IntKind.i64 (0 : Int), AV.int IntKind.u8 (0 : Int)])] }) ∧
              ((N (162 : Nat) [some (AV.bool false), some (AV.ptr (1 : Nat) (0 : Nat)), some AV.nilslice, some AV.nilslice]
  { nx := (2 : Nat),
    m :=
      [((1 : Nat),
          AObj.cells (42 : Nat)
            [AV.slice (0 : Nat) (0 : Nat) (2 : Nat) (some (2 : Nat)), AV.int IntKind.i64 (0 : Int),
              AV.int IntKind.i64 (0 : Int), AV.int IntKind.i64 (0 : Int), AV.bool false]),
        ((0 : Nat),
          AObj.cells (33 : Nat)
            [AV.int IntKind.i64 (0 : Int), AV.int IntKind.i64 (0 : Int), AV.int IntKind.i64 (0 : Int),
              AV.int IntKind.u8 (0 : Int), AV.int IntKind.i64 (0 : Int), AV.int IntKind.i64 (0 : Int),
              AV.int IntKind.u8 (0 : Int), AV.int IntKind.i64 (0 : Int), AV.int IntKind.i64 (0 : Int),
              AV.int IntKind.i64 (0 : Int), AV.int IntKind.u8 (0 : Int), AV.int IntKind.i64 (0 : Int),
              AV.int IntKind.i64 (0 : Int), AV.int IntKind.u8 (0 : Int)])] }) ∧
                (N (162 : Nat) [some (AV.bool false), some (AV.ptr (1 : Nat) (0 : Nat)), some AV.nilslice, some AV.nilslice]
  { nx := (2 : Nat),
    m :=
      [((1 : Nat),
          AObj.cells (42 : Nat)
            [AV.slice (0 : Nat) (0 : Nat) (1 : Nat) (some (1 : Nat)), AV.int IntKind.i64 (0 : Int),
              AV.int IntKind.i64 (0 : Int), AV.int IntKind.i64 (0 : Int), AV.bool false]),
        ((0 : Nat),
          AObj.cells (33 : Nat)
            [AV.int IntKind.i64 (0 : Int), AV.int IntKind.i64 (0 : Int), AV.int IntKind.i64 (0 : Int),
              AV.int IntKind.u8 (0 : Int), AV.int IntKind.i64 (0 : Int), AV.int IntKind.i64 (0 : Int),
              AV.int IntKind.u8 (0 : Int)])] }))))))))
def yN_scr : Plan := .k (.k (.b (.z) (.b (.z) (.b (.z) (.b (.z) (.b (.z) (.b (.z) (.b (.z) (.b (.z) (.z))))))))))
theorem yN_vc (room : Int) (tv : AV) (N : NS) (Q : QS) (K : Unit) : (wpP XPr lkSy 0 (seqs (lkPre ++ [lkMid]) .skip) 0 (rndS slT N Q) (AF.enter 162 [.int .i64 room, .slice 1000 0 0 none, tv]) ⟨0, []⟩ yN_scr) = yN_VC room tv N Q K := by kernel_rfl
def yT_VC (room : Int) (tv : AV) (tc : List AV) (N : NS) (Q : QS) (K : Unit) : Prop :=
  (N (162 : Nat) [some (AV.bool false), some (AV.ptr (2 : Nat) (0 : Nat)), some AV.nilslice, some AV.nilslice]
  { nx := (3 : Nat),
    m :=
      [((2 : Nat),
          AObj.cells (42 : Nat)
            [AV.slice (1 : Nat) (0 : Nat) (9 : Nat) (some (9 : Nat)), AV.int IntKind.i64 (0 : Int),
              AV.int IntKind.i64 (0 : Int), AV.int IntKind.i64 (0 : Int), AV.bool false]),
        ((1 : Nat),
          AObj.cells (33 : Nat)
            [AV.int IntKind.i64 (0 : Int), AV.int IntKind.i64 (0 : Int), AV.int IntKind.i64 (0 : Int),
              AV.int IntKind.u8 (0 : Int), AV.int IntKind.i64 (0 : Int), AV.int IntKind.i64 (0 : Int),
              AV.int IntKind.u8 (0 : Int), AV.int IntKind.i64 (0 : Int), AV.int IntKind.i64 (0 : Int),
              AV.int IntKind.i64 (0 : Int), AV.int IntKind.u8 (0 : Int), AV.int IntKind.i64 (0 : Int),
              AV.int IntKind.i64 (0 : Int), AV.int IntKind.u8 (0 : Int), AV.int IntKind.i64 (0 : Int),
              AV.int IntKind.i64 (0 : Int), AV.int IntKind.i64 (0 : Int), AV.int IntKind.u8 (0 : Int),
              AV.int IntKind.i64 (0 : Int), AV.int IntKind.i64 (0 : Int), AV.int IntKind.u8 (0 : Int),
              AV.int IntKind.i64 (0 : Int), AV.int IntKind.i64 (0 : Int), AV.int IntKind.i64 (0 : Int),
              AV.int IntKind.u8 (0 : Int), AV.int IntKind.i64 (0 : Int), AV.int IntKind.i64 (0 : Int),
              AV.int IntKind.u8 (0 : Int), AV.int IntKind.i64 (0 : Int), AV.int IntKind.i64 (0 : Int),
              AV.int IntKind.i64 (0 : Int), AV.int IntKind.u8 (0 : Int), AV.int IntKind.i64 (0 : Int),
              AV.int IntKind.i64 (0 : Int), AV.int IntKind.u8 (0 : Int), AV.int IntKind.i64 (0 : Int),
              AV.int IntKind.i64 (0 : Int), AV.int IntKind.i64 (0 : Int), AV.int IntKind.u8 (0 : Int),
              AV.int IntKind.i64 (0 : Int), AV.int IntKind.i64 (0 : Int), AV.int IntKind.u8 (0 : Int),
              AV.int IntKind.i64 (0 : Int), AV.int IntKind.i64 (0 : Int), AV.int IntKind.i64 (0 : Int),
              AV.int IntKind.u8 (0 : Int), AV.int IntKind.i64 (0 : Int), AV.int IntKind.i64 (0 : Int),
              AV.int IntKind.u8 (0 : Int), AV.int IntKind.i64 (0 : Int), AV.int IntKind.i64 (0 : Int),
              AV.int IntKind.i64 (0 : Int), AV.int IntKind.u8 (0 : Int), AV.int IntKind.i64 (0 : Int),
              AV.int IntKind.i64 (0 : Int), AV.int IntKind.u8 (0 : Int), AV.int IntKind.i64 (0 : Int),
              AV.int IntKind.i64 (0 : Int), AV.int IntKind.i64 (0 : Int), AV.int IntKind.u8 (0 : Int),
              AV.int IntKind.i64 (0 : Int), AV.int IntKind.i64 (0 : Int), AV.int IntKind.u8 (0 : Int)]),
        ((0 : Nat), AObj.ro tc)] }) ∧
  ((N (162 : Nat) [some (AV.bool false), some (AV.ptr (2 : Nat) (0 : Nat)), some AV.nilslice, some AV.nilslice]
  { nx := (3 : Nat),
    m :=
      [((2 : Nat),
          AObj.cells (42 : Nat)
            [AV.slice (1 : Nat) (0 : Nat) (8 : Nat) (some (8 : Nat)), AV.int IntKind.i64 (0 : Int),
              AV.int IntKind.i64 (0 : Int), AV.int IntKind.i64 (0 : Int), AV.bool false]),
        ((1 : Nat),
          AObj.cells (33 : Nat)
            [AV.int IntKind.i64 (0 : Int), AV.int IntKind.i64 (0 : Int), AV.int IntKind.i64 (0 : Int),
              AV.int IntKind.u8 (0 : Int), AV.int IntKind.i64 (0 : Int), AV.int IntKind.i64 (0 : Int),
              AV.int IntKind.u8 (0 : Int), AV.int IntKind.i64 (0 : Int), AV.int IntKind.i64 (0 : Int),
              AV.int IntKind.i64 (0 : Int), AV.int IntKind.u8 (0 : Int), AV.int IntKind.i64 (0 : Int),
              AV.int IntKind.i64 (0 : Int), AV.int IntKind.u8 (0 : Int), AV.int IntKind.i64 (0 : Int),
              AV.int IntKind.i64 (0 : Int), AV.int IntKind.i64 (0 : Int), AV.int IntKind.u8 (0 : Int),
              AV.int IntKind.i64 (0 : Int), AV.int IntKind.i64 (0 : Int), AV.int IntKind.u8 (0 : Int),
              AV.int IntKind.i64 (0 : Int), AV.int IntKind.i64 (0 : Int), AV.int IntKind.i64 (0 : Int),
              AV.int IntKind.u8 (0 : Int), AV.int IntKind.i64 (0 : Int), AV.int IntKind.i64 (0 : Int),
              AV.int IntKind.u8 (0 : Int), AV.int IntKind.i64 (0 : Int), AV.int IntKind.i64 (0 : Int),
              AV.int IntKind.i64 (0 : Int), AV.int IntKind.u8 (0 : Int), AV.int IntKind.i64 (0 : Int),
              AV.int IntKind.i64 (0 : Int), AV.int IntKind.u8 (0 : Int), AV.int IntKind.i64 (0 : Int),
              AV.int IntKind.i64 (0 : Int), AV.int IntKind.i64 (0 : Int), AV.int IntKind.u8 (0 : Int),
              AV.int IntKind.i64 (0 : Int), AV.int IntKind.i64 (0 : Int), AV.int IntKind.u8 (0 : Int),
              AV.int IntKind.i64 (0 : Int), AV.int IntKind.i64 (0 : Int), AV.int IntKind.i64 (0 : Int),
              AV.int IntKind.u8 (0 : Int), AV.int IntKind.i64 (0 : Int), AV.int IntKind.i64 (0 : Int),
              AV.int IntKind.u8 (0 : Int), AV.int IntKind.i64 (0 : Int), AV.int IntKind.i64 (0 : Int),
              AV.int IntKind.i64 (0 : Int), AV.int IntKind.u8 (0 : Int), AV.int IntKind.i64 (0 : Int),
              AV.int IntKind.i64 (0 : Int), AV.int IntKind.u8 (0 : Int)]),
        ((0 : Nat), AObj.ro tc)] }) ∧
    ((N (162 : Nat) [some (AV.bool false), some (AV.ptr (2 : Nat) (0 : Nat)), some AV.nilslice, some AV.nilslice]
  { nx := (3 : Nat),
    m :=
      [((2 : Nat),
          AObj.cells (42 : Nat)
            [AV.slice (1 : Nat) (0 : Nat) (7 : Nat) (some (7 : Nat)), AV.int IntKind.i64 (0 : Int),
              AV.int IntKind.i64 (0 : Int), AV.int IntKind.i64 (0 : Int), AV.bool false]),
        ((1 : Nat),
          AObj.cells (33 : Nat)
            [AV.int IntKind.i64 (0 : Int), AV.int IntKind.i64 (0 : Int), AV.int IntKind.i64 (0 : Int),
              AV.int IntKind.u8 (0 : Int), AV.int IntKind.i64 (0 : Int), AV.int IntKind.i64 (0 : Int),
              AV.int IntKind.u8 (0 : Int), AV.int IntKind.i64 (0 : Int), AV.int IntKind.i64 (0 : Int),
              AV.int IntKind.i64 (0 : Int), AV.int IntKind.u8 (0 : Int), AV.int IntKind.i64 (0 : Int),
              AV.int IntKind.i64 (0 : Int), AV.int IntKind.u8 (0 : Int), AV.int IntKind.i64 (0 : Int),
              AV.int IntKind.i64 (0 : Int), AV.int IntKind.i64 (0 : Int), AV.int IntKind.u8 (0 : Int),
              AV.int IntKind.i64 (0 : Int), AV.int IntKind.i64 (0 : Int), AV.int IntKind.u8 (0 : Int),
              AV.int IntKind.i64 (0 : Int), AV.int IntKind.i64 (0 : Int), AV.int IntKind.i64 (0 : Int),
              AV.int IntKind.u8 (0 : Int), AV.int IntKind.i64 (0 : Int), AV.int IntKind.i64 (0 : Int),
              AV.int IntKind.u8 (0 : Int), AV.int IntKind.i64 (0 : Int), AV.int IntKind.i64 (0 : Int),
              AV.int IntKind.i64 (0 : Int), AV.int IntKind.u8 (0 : Int), AV.int IntKind.i64 (0 : Int),
              AV.int IntKind.i64 (0 : Int), AV.int IntKind.u8 (0 : Int), AV.int IntKind.i64 (0 : Int),
              AV.int IntKind.i64 (0 : Int), AV.int IntKind.i64 (0 : Int), AV.int IntKind.u8 (0 : Int),
              AV.int IntKind.i64 (0 : Int), AV.int IntKind.i64 (0 : Int), AV.int IntKind.u8 (0 : Int),
              AV.int IntKind.i64 (0 : Int), AV.int IntKind.i64 (0 : Int), AV.int IntKind.i64 (0 : Int),
              AV.int IntKind.u8 (0 : Int), AV.int IntKind.i64 (0 : Int), AV.int IntKind.i64 (0 : Int),
              AV.int IntKind.u8 (0 : Int)]),
        ((0 : Nat), AObj.ro tc)] }) ∧
      ((N (162 : Nat) [some (AV.bool false), some (AV.ptr (2 : Nat) (0 : Nat)), some AV.nilslice, some AV.nilslice]
  { nx := (3 : Nat),
    m :=
      [((2 : Nat),
          AObj.cells (42 : Nat)
            [AV.slice (1 : Nat) (0 : Nat) (6 : Nat) (some (6 : Nat)), AV.int IntKind.i64 (0 : Int),
              AV.int IntKind.i64 (0 : Int), AV.int IntKind.i64 (0 : Int), AV.bool false]),
        ((1 : Nat),
          AObj.cells (33 : Nat)
            [AV.int IntKind.i64 (0 : Int), AV.int IntKind.i64 (0 : Int), AV.int IntKind.i64 (0 : Int),
              AV.int IntKind.u8 (0 : Int), AV.int IntKind.i64 (0 : Int), AV.int IntKind.i64 (0 : Int),
              AV.int IntKind.u8 (0 : Int), AV.int IntKind.i64 (0 : Int), AV.int IntKind.i64 (0 : Int),
              AV.int IntKind.i64 (0 : Int), AV.int IntKind.u8 (0 : Int), AV.int IntKind.i64 (0 : Int),
              AV.int IntKind.i64 (0 : Int), AV.int IntKind.u8 (0 : Int), AV.int IntKind.i64 (0 : Int),
              AV.int IntKind.i64 (0 : Int), AV.int IntKind.i64 (0 : Int), AV.int IntKind.u8 (0 : Int),
              AV.int IntKind.i64 (0 : Int), AV.int IntKind.i64 (0 : Int), AV.int IntKind.u8 (0 : Int),
              AV.int IntKind.i64 (0 : Int), AV.int IntKind.i64 (0 : Int), AV.int IntKind.i64 (0 : Int),
              AV.int IntKind.u8 (0 : Int), AV.int IntKind.i64 (0 : Int), AV.int IntKind.i64 (0 : Int),
              AV.int IntKind.u8 (0 : Int), AV.int IntKind.i64 (0 : Int), AV.int IntKind.i64 (0 : Int),
              AV.int IntKind.i64 (0 : Int), AV.int IntKind.u8 (0 : Int), AV.int IntKind.i64 (0 : Int),
              AV.int IntKind.i64 (0 : Int), AV.int IntKind.u8 (0 : Int), AV.int IntKind.i64 (0 : Int),
              AV.int IntKind.i64 (0 : Int), AV.int IntKind.i64 (0 : Int), AV.int IntKind.u8 (0 : Int),
              AV.int IntKind.i64 (0 : Int), AV.int IntKind.i64 (0 : Int), AV.int IntKind.u8 (0 : Int)]),
        ((0 : Nat), AObj.ro tc)] }) ∧
        ((N (162 : Nat) [some (AV.bool false), some (AV.ptr (2 : Nat) (0 : Nat)), some AV.nilslice, some AV.nilslice]
  { nx := (3 : Nat),
    m :=
      [((2 : Nat),
          AObj.cells (42 : Nat)
            [AV.slice (1 : Nat) (0 : Nat) (5 : Nat) (some (5 : Nat)), AV.int IntKind.i64 (0 : Int),
              AV.int IntKind.i64 (0 : Int), AV.int IntKind.i64 (0 : Int), AV.bool false]),
        ((1 : Nat),
          AObj.cells (33 : Nat)
            [AV.int IntKind.i64 (0 : Int), AV.int IntKind.i64 (0 : Int), AV.int IntKind.i64 (0 : Int),
              AV.int IntKind.u8 (0 : Int), AV.int IntKind.i64 (0 : Int), AV.int IntKind.i64 (0 : Int),
              AV.int IntKind.u8 (0 : Int), AV.int IntKind.i64 (0 : Int), AV.int IntKind.i64 (0 : Int),
              AV.int IntKind.i64 (0 : Int), AV.int IntKind.u8 (0 : Int), AV.int IntKind.i64 (0 : Int),
              AV.int IntKind.i64 (0 : Int), AV.int IntKind.u8 (0 : Int), AV.int IntKind.i64 (0 : Int),
              AV.int IntKind.i64 (0 : Int), AV.int IntKind.i64 (0 : Int), AV.int IntKind.u8 (0 : Int),
              AV.int IntKind.i64 (0 : Int), AV.int IntKind.i64 (0 : Int), AV.int IntKind.u8 (0 : Int),
              AV.int IntKind.i64 (0 : Int), AV.int IntKind.i64 (0 : Int), AV.int IntKind.i64 (0 : Int),
              AV.int IntKind.u8 (0 : Int), AV.int IntKind.i64 (0 : Int), AV.int IntKind.i64 (0 : Int),
              AV.int IntKind.u8 (0 : Int), AV.int IntKind.i64 (0 : Int), AV.int IntKind.i64 (0 : Int),
              AV.int IntKind.i64 (0 : Int), AV.int IntKind.u8 (0 : Int), AV.int IntKind.i64 (0 : Int),
              AV.int IntKind.i64 (0 : Int), AV.int IntKind.u8 (0 : Int)]),
        ((0 : Nat), AObj.ro tc)] }) ∧
          ((N (162 : Nat) [some (AV.bool false), some (AV.ptr (2 : Nat) (0 : Nat)), some AV.nilslice, some AV.nilslice]
  { nx := (3 : Nat),
    m :=
      [((2 : Nat),
          AObj.cells (42 : Nat)
            [AV.slice (1 : Nat) (0 : Nat) (4 : Nat) (some (4 : Nat)), AV.int IntKind.i64 (0 : Int),
              AV.int IntKind.i64 (0 : Int), AV.int IntKind.i64 (0 : Int), AV.bool false]),
        ((1 : Nat),
          AObj.cells (33 : Nat)
            [AV.int IntKind.i64 (0 : Int), AV.int IntKind.i64 (0 : Int), AV.int IntKind.i64 (0 : Int),
              AV.int IntKind.u8 (0 : Int), AV.int IntKind.i64 (0 : Int), AV.int IntKind.i64 (0 : Int),
              AV.int IntKind.u8 (0 : Int), AV.int IntKind.i64 (0 : Int), AV.int IntKind.i64 (0 : Int),
              AV.int IntKind.i64 (0 : Int), AV.int IntKind.u8 (0 : Int), AV.int IntKind.i64 (0 : Int),
              AV.int IntKind.i64 (0 : Int), AV.int IntKind.u8 (0 : Int), AV.int IntKind.i64 (0 : Int),
              AV.int IntKind.i64 (0 : Int), AV.int IntKind.i64 (0 : Int), AV.int IntKind.u8 (0 : Int),
              AV.int IntKind.i64 (0 : Int), AV.int IntKind.i64 (0 : Int), AV.int IntKind.u8 (0 : Int),
              AV.int IntKind.i64 (0 : Int), AV.int IntKind.i64 (0 : Int), AV.int IntKind.i64 (0 : Int),
              AV.int IntKind.u8 (0 : Int), AV.int IntKind.i64 (0 : Int), AV.int IntKind.i64 (0 : Int),
              AV.int IntKind.u8 (0 : Int)]),
        ((0 : Nat), AObj.ro tc)] }) ∧
            ((N (162 : Nat) [some (AV.bool false), some (AV.ptr (2 : Nat) (0 : Nat)), some AV.nilslice, some AV.nilslice]
  { nx := (3 : Nat),
    m :=
      [((2 : Nat),
          AObj.cells (42 : Nat)
            [AV.slice (1 : Nat) (0 : Nat) (3 : Nat) (some (3 : Nat)), AV.int IntKind.i64 (0 : Int),
              AV.int IntKind.i64 (0 : Int), AV.int IntKind.i64 (0 : Int), AV.bool false]),
        ((1 : Nat),
          AObj.cells (33 : Nat)
            [AV.int IntKind.i64 (0 : Int), AV.int IntKind.i64 (0 : Int), AV.int IntKind.i64 (0 : Int),
              AV.int IntKind.u8 (0 : Int), AV.int IntKind.i64 (0 : Int), AV.int IntKind.i64 (0 : Int),
              AV.int IntKind.u8 (0 : Int), AV.int IntKind.i64 (0 : Int), AV.int IntKind.i64 (0 : Int),
              AV.int IntKind.i64 (0 : Int), AV.int IntKind.u8 (0 : Int), AV.int IntKind.i64 (0 : Int),
              AV.int IntKind.i64 (0 : Int), AV.int IntKind.u8 (0 : Int), AV.int IntKind.i64 (0 : Int),
              AV.int IntKind.i64 (0 : Int), AV.int IntKind.i64 (0 : Int), AV.int IntKind.u8 (0 : Int),
              AV.int IntKind.i64 (0 : Int), AV.int IntKind.i64 (0 : Int), AV.int IntKind.u8 (0 : Int)]),
        ((0 : Nat), AObj.ro tc)] }) ∧
              ((N (162 : Nat) [some (AV.bool false), some (AV.ptr (2 : Nat) (0 : Nat)), some AV.nilslice, some AV.nilslice]
  { nx := (3 : Nat),
    m :=
      [((2 : Nat),
          AObj.cells (42 : Nat)
            [AV.slice (1 : Nat) (0 : Nat) (2 : Nat) (some (2 : Nat)), AV.int IntKind.i64 (0 : Int),
              AV.int IntKind.i64 (0 : Int), AV.int IntKind.i64 (0 : Int), AV.bool false]),
        ((1 : Nat),
          AObj.cells (33 : Nat)
            [AV.int IntKind.i64 (0 : Int), AV.int IntKind.i64 (0 : Int), AV.int IntKind.i64 (0 : Int),
              AV.int IntKind.u8 (0 : Int), AV.int IntKind.i64 (0 : Int), AV.int IntKind.i64 (0 : Int),
              AV.int IntKind.u8 (0 : Int), AV.int IntKind.i64 (0 : Int), AV.int IntKind.i64 (0 : Int),
              AV.int IntKind.i64 (0 : Int), AV.int IntKind.u8 (0 : Int), AV.int IntKind.i64 (0 : Int),
              AV.int IntKind.i64 (0 : Int), AV.int IntKind.u8 (0 : Int)]),
        ((0 : Nat), AObj.ro tc)] }) ∧
                (N (162 : Nat) [some (AV.bool false), some (AV.ptr (2 : Nat) (0 : Nat)), some AV.nilslice, some AV.nilslice]
  { nx := (3 : Nat),
    m :=
      [((2 : Nat),
          AObj.cells (42 : Nat)
            [AV.slice (1 : Nat) (0 : Nat) (1 : Nat) (some (1 : Nat)), AV.int IntKind.i64 (0 : Int),
              AV.int IntKind.i64 (0 : Int), AV.int IntKind.i64 (0 : Int), AV.bool false]),
        ((1 : Nat),
          AObj.cells (33 : Nat)
            [AV.int IntKind.i64 (0 : Int), AV.int IntKind.i64 (0 : Int), AV.int IntKind.i64 (0 : Int),
              AV.int IntKind.u8 (0 : Int), AV.int IntKind.i64 (0 : Int), AV.int IntKind.i64 (0 : Int),
              AV.int IntKind.u8 (0 : Int)]),
        ((0 : Nat), AObj.ro tc)] }))))))))
def yT_scr : Plan := .k (.k (.b (.z) (.b (.z) (.b (.z) (.b (.z) (.b (.z) (.b (.z) (.b (.z) (.b (.z) (.z))))))))))
theorem yT_vc (room : Int) (tv : AV) (tc : List AV) (N : NS) (Q : QS) (K : Unit) : (wpP XPr lkSy 1 (seqs (lkPre ++ [lkMid]) .skip) 0 (rndS slT N Q) (AF.enter 162 [.int .i64 room, .slice 1000 0 0 none, tv]) ⟨1, [(0, .ro tc)]⟩ yT_scr) = yT_VC room tv tc N Q K := by kernel_rfl
end Go.Proofs.Ytfamikdibjhnpaa.V
