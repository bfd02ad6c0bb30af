/- Printed by vc.py: what must hold for functions' ways (RdW). -/
import Derived.Test.YtkehopncefhohaaRdC
namespace Go.Proofs.Ytkehopncefhohaa.V
open Go Go.Proofs
set_option maxRecDepth 100000
set_option linter.unusedVariables false
def p1_VC (N : NS) (Q : QS) (K : Unit) : Prop :=
  N (75 : Nat)
  [some (AV.ptr (2 : Nat) (0 : Nat)), some (AV.int IntKind.i64 (0 : Int)), some (AV.ptr (0 : Nat) (0 : Nat)),
    some (AV.ptr (1 : Nat) (0 : Nat)), some (AV.ptr (3 : Nat) (0 : Nat))]
  { nx := (4 : Nat),
    m :=
      [((3 : Nat), AObj.cells (24 : Nat) [AV.int IntKind.i64 (0 : Int), AV.nilslice, AV.nilslice]),
        ((2 : Nat), AObj.cells (65 : Nat) [AV.nilmap, AV.nilmap, AV.nilslice]),
        ((1 : Nat), AObj.cells (24 : Nat) [AV.int IntKind.i64 (0 : Int), AV.nilslice, AV.nilslice]),
        ((0 : Nat),
          AObj.cells (29 : Nat)
            [AV.int IntKind.i64 (311 : Int), AV.int IntKind.i64 (228 : Int), AV.int IntKind.i64 (63 : Int),
              AV.int IntKind.i64 (192 : Int), AV.int IntKind.i64 (14 : Int), AV.int IntKind.i64 (32 : Int),
              AV.int IntKind.i64 (36 : Int)])] }
def p1_scr : Plan := .z
theorem p1_vc (N : NS) (Q : QS) (K : Unit) : (wpP XRw pcSy 0 (seqs pcPre .skip) 0 (rndS [1, 2, 3, 6, 7] N Q) (AF.enter 75 [classicA, .nilptr, .int .i64 0]) ⟨0, []⟩ p1_scr) = p1_VC N Q K := by kernel_rfl
def p4_VC (pv : AV) (o4 : AObj) (N : NS) (Q : QS) (K : Unit) : Prop :=
  N (75 : Nat)
  [some (AV.ptr (2 : Nat) (0 : Nat)), some (AV.int IntKind.i64 (0 : Int)), some (AV.ptr (0 : Nat) (0 : Nat)),
    some (AV.ptr (1 : Nat) (0 : Nat)), some (AV.ptr (3 : Nat) (0 : Nat)), some (AV.int IntKind.i64 (192 : Int)),
    some (AV.int IntKind.i64 (0 : Int))]
  { nx := (5 : Nat),
    m :=
      [((0 : Nat),
          AObj.cells (29 : Nat)
            [AV.int IntKind.i64 (311 : Int), AV.int IntKind.i64 (228 : Int), AV.int IntKind.i64 (63 : Int),
              AV.int IntKind.i64 (192 : Int), AV.int IntKind.i64 (14 : Int), AV.int IntKind.i64 (32 : Int),
              AV.int IntKind.i64 (36 : Int)]),
        ((1 : Nat), AObj.cells (24 : Nat) [AV.int IntKind.i64 (0 : Int), AV.nilslice, AV.nilslice]),
        ((2 : Nat), AObj.cells (65 : Nat) [AV.nilmap, AV.nilmap, AV.nilslice]),
        ((3 : Nat), AObj.cells (24 : Nat) [AV.int IntKind.i64 (0 : Int), pv, AV.nilslice]), ((4 : Nat), o4)] }
def p4_scr : Plan := .z
theorem p4_vc (pv : AV) (o4 : AObj) (N : NS) (Q : QS) (K : Unit) : (wpP XRw pcSy 0 (seqs [hdC pcMid] .skip) 0 (rndS slY N Q) ⟨75, [(1, .ptr 2 0), (2, .int .i64 0), (3, .ptr 0 0), (6, .ptr 1 0), (7, .ptr 3 0)]⟩ (pHp pv o4) p4_scr) = p4_VC pv o4 N Q K := by kernel_rfl
def yH_VC (y : Int) (σ : AH) (N : NS) (Q : QS) (K : Unit) : Prop :=
  ((decide (y < (192 : Int))) = true →
    N (75 : Nat)
  [some (AV.ptr (2 : Nat) (0 : Nat)), some (AV.int IntKind.i64 (0 : Int)), some (AV.ptr (0 : Nat) (0 : Nat)),
    some (AV.ptr (1 : Nat) (0 : Nat)), some (AV.ptr (3 : Nat) (0 : Nat)), some (AV.int IntKind.i64 (192 : Int)),
    some (AV.int IntKind.i64 y)]
  σ) ∧
  ((decide (y < (192 : Int))) = false →
    Q (Exit.exit (0 : Nat)) (75 : Nat)
  [some (AV.ptr (2 : Nat) (0 : Nat)), some (AV.int IntKind.i64 (0 : Int)), some (AV.ptr (0 : Nat) (0 : Nat)),
    some (AV.ptr (1 : Nat) (0 : Nat)), some (AV.ptr (3 : Nat) (0 : Nat)), some (AV.int IntKind.i64 (192 : Int)),
    some (AV.int IntKind.i64 y)]
  σ)
def yH_scr : Plan := .b (.z) (.z)
theorem yH_vc (y : Int) (σ : AH) (N : NS) (Q : QS) (K : Unit) : (wpP XRw pcSy 0 (seqs pcYH .skip) 0 (rndS slY N Q) (fY y) σ yH_scr) = yH_VC y σ N Q K := by kernel_rfl
def yI_VC (y : Int) (σ : AH) (N : NS) (Q : QS) (K : Unit) : Prop :=
  N (75 : Nat)
  [some (AV.ptr (2 : Nat) (0 : Nat)), some (AV.int IntKind.i64 (0 : Int)), some (AV.ptr (0 : Nat) (0 : Nat)),
    some (AV.ptr (1 : Nat) (0 : Nat)), some (AV.ptr (3 : Nat) (0 : Nat)), some (AV.int IntKind.i64 (192 : Int)),
    some (AV.int IntKind.i64 (IntKind.wrap IntKind.i64 (y + (1 : Int))))]
  σ
def yI_scr : Plan := .z
theorem yI_vc (y : Int) (σ : AH) (N : NS) (Q : QS) (K : Unit) : (wpP XRw pcSy 0 pcYI 0 (rndS slY N Q) (fY y) σ yI_scr) = yI_VC y σ N Q K := by kernel_rfl
def yB_VC (y : Int) (pv : AV) (o4 : AObj) (N : NS) (Q : QS) (K : Unit) : Prop :=
  N (75 : Nat)
  [some (AV.ptr (2 : Nat) (0 : Nat)), some (AV.int IntKind.i64 (0 : Int)), some (AV.ptr (0 : Nat) (0 : Nat)),
    some (AV.ptr (1 : Nat) (0 : Nat)), some (AV.ptr (3 : Nat) (0 : Nat)), some (AV.int IntKind.i64 y),
    some (AV.int IntKind.i64 (192 : Int)), some (AV.int IntKind.i64 y), some (AV.int IntKind.i64 (32 : Int)),
    some (AV.int IntKind.i64 (0 : Int))]
  { nx := (5 : Nat),
    m :=
      [((0 : Nat),
          AObj.cells (29 : Nat)
            [AV.int IntKind.i64 (311 : Int), AV.int IntKind.i64 (228 : Int), AV.int IntKind.i64 (63 : Int),
              AV.int IntKind.i64 (192 : Int), AV.int IntKind.i64 (14 : Int), AV.int IntKind.i64 (32 : Int),
              AV.int IntKind.i64 (36 : Int)]),
        ((1 : Nat), AObj.cells (24 : Nat) [AV.int IntKind.i64 (0 : Int), AV.nilslice, AV.nilslice]),
        ((2 : Nat), AObj.cells (65 : Nat) [AV.nilmap, AV.nilmap, AV.nilslice]),
        ((3 : Nat), AObj.cells (24 : Nat) [AV.int IntKind.i64 (0 : Int), pv, AV.nilslice]), ((4 : Nat), o4)] }
def yB_scr : Plan := .z
theorem yB_vc (y : Int) (pv : AV) (o4 : AObj) (N : NS) (Q : QS) (K : Unit) : (wpP XRw pcSy 0 (seqs pcYS .skip) 1 (rndS slX N Q) (fY y) (pHp pv o4) yB_scr) = yB_VC y pv o4 N Q K := by kernel_rfl
def xH_VC (y x : Int) (σ : AH) (N : NS) (Q : QS) (K : Unit) : Prop :=
  ((decide (x < (32 : Int))) = true →
    N (75 : Nat)
  [some (AV.ptr (2 : Nat) (0 : Nat)), some (AV.int IntKind.i64 (0 : Int)), some (AV.ptr (0 : Nat) (0 : Nat)),
    some (AV.ptr (1 : Nat) (0 : Nat)), some (AV.ptr (3 : Nat) (0 : Nat)), some (AV.int IntKind.i64 y),
    some (AV.int IntKind.i64 (192 : Int)), some (AV.int IntKind.i64 y), some (AV.int IntKind.i64 (32 : Int)),
    some (AV.int IntKind.i64 x)]
  σ) ∧
  ((decide (x < (32 : Int))) = false →
    Q (Exit.exit (2 : Nat)) (75 : Nat)
  [some (AV.ptr (2 : Nat) (0 : Nat)), some (AV.int IntKind.i64 (0 : Int)), some (AV.ptr (0 : Nat) (0 : Nat)),
    some (AV.ptr (1 : Nat) (0 : Nat)), some (AV.ptr (3 : Nat) (0 : Nat)), some (AV.int IntKind.i64 y),
    some (AV.int IntKind.i64 (192 : Int)), some (AV.int IntKind.i64 y), some (AV.int IntKind.i64 (32 : Int)),
    some (AV.int IntKind.i64 x)]
  σ)
def xH_scr : Plan := .b (.z) (.z)
theorem xH_vc (y x : Int) (σ : AH) (N : NS) (Q : QS) (K : Unit) : (wpP XRw pcSy 0 (seqs pcXH .skip) 2 (rndS slX N Q) (fX y x) σ xH_scr) = xH_VC y x σ N Q K := by kernel_rfl
def xI_VC (y x m : Int) (σ : AH) (N : NS) (Q : QS) (K : Unit) : Prop :=
  N (75 : Nat)
  [some (AV.ptr (2 : Nat) (0 : Nat)), some (AV.int IntKind.i64 (0 : Int)), some (AV.ptr (0 : Nat) (0 : Nat)),
    some (AV.ptr (1 : Nat) (0 : Nat)), some (AV.ptr (3 : Nat) (0 : Nat)), some (AV.int IntKind.i64 y),
    some (AV.int IntKind.i64 (192 : Int)), some (AV.int IntKind.i64 y), some (AV.int IntKind.i64 (32 : Int)),
    some (AV.int IntKind.i64 (IntKind.wrap IntKind.i64 (x + (1 : Int))))]
  σ
def xI_scr : Plan := .z
theorem xI_vc (y x m : Int) (σ : AH) (N : NS) (Q : QS) (K : Unit) : (wpP XRw pcSy 0 pcXI 2 (rndS slX N Q) (fM y x m) σ xI_scr) = xI_VC y x m σ N Q K := by kernel_rfl
def xB_VC (y x : Int) (pv : AV) (o4 : AObj) (N : NS) (Q : QS) (K : Unit) : Prop :=
  ((!decide (x < (0 : Int))) = true →
    (!decide (x < (0 : Int))) = true ∧
    ((!decide (x < (0 : Int))) = true ∧
    ((!decide (x < (0 : Int))) = true ∧
    ((decide (x < (0 : Int))) = false ∧
    (((!decide (x ≥ (32 : Int))) = true →
      (!decide (x ≥ (32 : Int))) = true ∧
      ((decide (x ≥ (32 : Int))) = false ∧
      (((!decide (y < (0 : Int))) = true →
        (!decide (y < (0 : Int))) = true ∧
        ((!decide (y < (0 : Int))) = true ∧
        ((!decide (y < (0 : Int))) = true ∧
        ((decide (y < (0 : Int))) = false ∧
        (((decide (y ≥ (192 : Int))) = true →
          N (75 : Nat)
  [some (AV.ptr (2 : Nat) (0 : Nat)), some (AV.int IntKind.i64 (0 : Int)), some (AV.ptr (0 : Nat) (0 : Nat)),
    some (AV.ptr (1 : Nat) (0 : Nat)), some (AV.ptr (3 : Nat) (0 : Nat)), some (AV.int IntKind.i64 y),
    some (AV.int IntKind.u8 (0 : Int)), some (AV.int IntKind.u8 (0 : Int)), some (AV.int IntKind.u8 (128 : Int)),
    some (AV.int IntKind.i64 (192 : Int)), some (AV.int IntKind.i64 y), some (AV.int IntKind.i64 (32 : Int)),
    some (AV.int IntKind.i64 x)]
  { nx := (6 : Nat),
    m :=
      [((5 : Nat),
          AObj.cells (29 : Nat)
            [AV.int IntKind.i64 (311 : Int), AV.int IntKind.i64 (228 : Int), AV.int IntKind.i64 (63 : Int),
              AV.int IntKind.i64 (192 : Int), AV.int IntKind.i64 (14 : Int), AV.int IntKind.i64 (32 : Int),
              AV.int IntKind.i64 (36 : Int)]),
        ((0 : Nat),
          AObj.cells (29 : Nat)
            [AV.int IntKind.i64 (311 : Int), AV.int IntKind.i64 (228 : Int), AV.int IntKind.i64 (63 : Int),
              AV.int IntKind.i64 (192 : Int), AV.int IntKind.i64 (14 : Int), AV.int IntKind.i64 (32 : Int),
              AV.int IntKind.i64 (36 : Int)]),
        ((1 : Nat), AObj.cells (24 : Nat) [AV.int IntKind.i64 (0 : Int), AV.nilslice, AV.nilslice]),
        ((2 : Nat), AObj.cells (65 : Nat) [AV.nilmap, AV.nilmap, AV.nilslice]),
        ((3 : Nat), AObj.cells (24 : Nat) [AV.int IntKind.i64 (0 : Int), pv, AV.nilslice]), ((4 : Nat), o4)] }) ∧
        ((decide (y ≥ (192 : Int))) = false →
          N (75 : Nat)
  [some (AV.ptr (2 : Nat) (0 : Nat)), some (AV.int IntKind.i64 (0 : Int)), some (AV.ptr (0 : Nat) (0 : Nat)),
    some (AV.ptr (1 : Nat) (0 : Nat)), some (AV.ptr (3 : Nat) (0 : Nat)), some (AV.int IntKind.i64 y),
    some (AV.int IntKind.u8 (0 : Int)), some (AV.int IntKind.u8 (0 : Int)), some (AV.int IntKind.u8 (128 : Int)),
    some (AV.int IntKind.i64 (192 : Int)), some (AV.int IntKind.i64 y), some (AV.int IntKind.i64 (32 : Int)),
    some (AV.int IntKind.i64 x)]
  { nx := (6 : Nat),
    m :=
      [((5 : Nat),
          AObj.cells (29 : Nat)
            [AV.int IntKind.i64 (311 : Int), AV.int IntKind.i64 (228 : Int), AV.int IntKind.i64 (63 : Int),
              AV.int IntKind.i64 (192 : Int), AV.int IntKind.i64 (14 : Int), AV.int IntKind.i64 (32 : Int),
              AV.int IntKind.i64 (36 : Int)]),
        ((0 : Nat),
          AObj.cells (29 : Nat)
            [AV.int IntKind.i64 (311 : Int), AV.int IntKind.i64 (228 : Int), AV.int IntKind.i64 (63 : Int),
              AV.int IntKind.i64 (192 : Int), AV.int IntKind.i64 (14 : Int), AV.int IntKind.i64 (32 : Int),
              AV.int IntKind.i64 (36 : Int)]),
        ((1 : Nat), AObj.cells (24 : Nat) [AV.int IntKind.i64 (0 : Int), AV.nilslice, AV.nilslice]),
        ((2 : Nat), AObj.cells (65 : Nat) [AV.nilmap, AV.nilmap, AV.nilslice]),
        ((3 : Nat), AObj.cells (24 : Nat) [AV.int IntKind.i64 (0 : Int), pv, AV.nilslice]), ((4 : Nat), o4)] })))))) ∧
      ((!decide (y < (0 : Int))) = false →
        (!decide (y < (0 : Int))) = false ∧
        ((!decide (y < (0 : Int))) = false ∧
        ((!decide (y < (0 : Int))) = false ∧
        ((decide (y < (0 : Int))) = true ∧
        (N (75 : Nat)
  [some (AV.ptr (2 : Nat) (0 : Nat)), some (AV.int IntKind.i64 (0 : Int)), some (AV.ptr (0 : Nat) (0 : Nat)),
    some (AV.ptr (1 : Nat) (0 : Nat)), some (AV.ptr (3 : Nat) (0 : Nat)), some (AV.int IntKind.i64 y),
    some (AV.int IntKind.u8 (0 : Int)), some (AV.int IntKind.u8 (0 : Int)), some (AV.int IntKind.u8 (128 : Int)),
    some (AV.int IntKind.i64 (192 : Int)), some (AV.int IntKind.i64 y), some (AV.int IntKind.i64 (32 : Int)),
    some (AV.int IntKind.i64 x)]
  { nx := (6 : Nat),
    m :=
      [((5 : Nat),
          AObj.cells (29 : Nat)
            [AV.int IntKind.i64 (311 : Int), AV.int IntKind.i64 (228 : Int), AV.int IntKind.i64 (63 : Int),
              AV.int IntKind.i64 (192 : Int), AV.int IntKind.i64 (14 : Int), AV.int IntKind.i64 (32 : Int),
              AV.int IntKind.i64 (36 : Int)]),
        ((0 : Nat),
          AObj.cells (29 : Nat)
            [AV.int IntKind.i64 (311 : Int), AV.int IntKind.i64 (228 : Int), AV.int IntKind.i64 (63 : Int),
              AV.int IntKind.i64 (192 : Int), AV.int IntKind.i64 (14 : Int), AV.int IntKind.i64 (32 : Int),
              AV.int IntKind.i64 (36 : Int)]),
        ((1 : Nat), AObj.cells (24 : Nat) [AV.int IntKind.i64 (0 : Int), AV.nilslice, AV.nilslice]),
        ((2 : Nat), AObj.cells (65 : Nat) [AV.nilmap, AV.nilmap, AV.nilslice]),
        ((3 : Nat), AObj.cells (24 : Nat) [AV.int IntKind.i64 (0 : Int), pv, AV.nilslice]), ((4 : Nat), o4)] })))))))) ∧
    ((!decide (x ≥ (32 : Int))) = false →
      (!decide (x ≥ (32 : Int))) = false ∧
      ((decide (x ≥ (32 : Int))) = true ∧
      (N (75 : Nat)
  [some (AV.ptr (2 : Nat) (0 : Nat)), some (AV.int IntKind.i64 (0 : Int)), some (AV.ptr (0 : Nat) (0 : Nat)),
    some (AV.ptr (1 : Nat) (0 : Nat)), some (AV.ptr (3 : Nat) (0 : Nat)), some (AV.int IntKind.i64 y),
    some (AV.int IntKind.u8 (0 : Int)), some (AV.int IntKind.u8 (0 : Int)), some (AV.int IntKind.u8 (128 : Int)),
    some (AV.int IntKind.i64 (192 : Int)), some (AV.int IntKind.i64 y), some (AV.int IntKind.i64 (32 : Int)),
    some (AV.int IntKind.i64 x)]
  { nx := (6 : Nat),
    m :=
      [((5 : Nat),
          AObj.cells (29 : Nat)
            [AV.int IntKind.i64 (311 : Int), AV.int IntKind.i64 (228 : Int), AV.int IntKind.i64 (63 : Int),
              AV.int IntKind.i64 (192 : Int), AV.int IntKind.i64 (14 : Int), AV.int IntKind.i64 (32 : Int),
              AV.int IntKind.i64 (36 : Int)]),
        ((0 : Nat),
          AObj.cells (29 : Nat)
            [AV.int IntKind.i64 (311 : Int), AV.int IntKind.i64 (228 : Int), AV.int IntKind.i64 (63 : Int),
              AV.int IntKind.i64 (192 : Int), AV.int IntKind.i64 (14 : Int), AV.int IntKind.i64 (32 : Int),
              AV.int IntKind.i64 (36 : Int)]),
        ((1 : Nat), AObj.cells (24 : Nat) [AV.int IntKind.i64 (0 : Int), AV.nilslice, AV.nilslice]),
        ((2 : Nat), AObj.cells (65 : Nat) [AV.nilmap, AV.nilmap, AV.nilslice]),
        ((3 : Nat), AObj.cells (24 : Nat) [AV.int IntKind.i64 (0 : Int), pv, AV.nilslice]), ((4 : Nat), o4)] })))))))) ∧
  ((!decide (x < (0 : Int))) = false →
    (!decide (x < (0 : Int))) = false ∧
    ((!decide (x < (0 : Int))) = false ∧
    ((!decide (x < (0 : Int))) = false ∧
    ((decide (x < (0 : Int))) = true ∧
    (N (75 : Nat)
  [some (AV.ptr (2 : Nat) (0 : Nat)), some (AV.int IntKind.i64 (0 : Int)), some (AV.ptr (0 : Nat) (0 : Nat)),
    some (AV.ptr (1 : Nat) (0 : Nat)), some (AV.ptr (3 : Nat) (0 : Nat)), some (AV.int IntKind.i64 y),
    some (AV.int IntKind.u8 (0 : Int)), some (AV.int IntKind.u8 (0 : Int)), some (AV.int IntKind.u8 (128 : Int)),
    some (AV.int IntKind.i64 (192 : Int)), some (AV.int IntKind.i64 y), some (AV.int IntKind.i64 (32 : Int)),
    some (AV.int IntKind.i64 x)]
  { nx := (6 : Nat),
    m :=
      [((5 : Nat),
          AObj.cells (29 : Nat)
            [AV.int IntKind.i64 (311 : Int), AV.int IntKind.i64 (228 : Int), AV.int IntKind.i64 (63 : Int),
              AV.int IntKind.i64 (192 : Int), AV.int IntKind.i64 (14 : Int), AV.int IntKind.i64 (32 : Int),
              AV.int IntKind.i64 (36 : Int)]),
        ((0 : Nat),
          AObj.cells (29 : Nat)
            [AV.int IntKind.i64 (311 : Int), AV.int IntKind.i64 (228 : Int), AV.int IntKind.i64 (63 : Int),
              AV.int IntKind.i64 (192 : Int), AV.int IntKind.i64 (14 : Int), AV.int IntKind.i64 (32 : Int),
              AV.int IntKind.i64 (36 : Int)]),
        ((1 : Nat), AObj.cells (24 : Nat) [AV.int IntKind.i64 (0 : Int), AV.nilslice, AV.nilslice]),
        ((2 : Nat), AObj.cells (65 : Nat) [AV.nilmap, AV.nilmap, AV.nilslice]),
        ((3 : Nat), AObj.cells (24 : Nat) [AV.int IntKind.i64 (0 : Int), pv, AV.nilslice]), ((4 : Nat), o4)] })))))
def xB_scr : Plan := .k (.k (.k (.b (.t (.t (.t (.f (.b (.t (.f (.b (.t (.t (.t (.f (.b (.z) (.z)))))) (.f (.f (.f (.t (.z)))))))) (.f (.t (.z)))))))) (.f (.f (.f (.t (.z))))))))
theorem xB_vc (y x : Int) (pv : AV) (o4 : AObj) (N : NS) (Q : QS) (K : Unit) : (wpP XRw pcSy 0 (seqs pcXS .skip) 3 (rndS slM N Q) (fX y x) (pHp pv o4) xB_scr) = xB_VC y x pv o4 N Q K := by kernel_rfl
def mN_VC (y x m : Int) (N : NS) (Q : QS) (K : Unit) : Prop :=
  ((!decide (m = (0 : Int))) = true →
    N (75 : Nat)
  [some (AV.ptr (2 : Nat) (0 : Nat)), some (AV.int IntKind.i64 (0 : Int)), some (AV.ptr (0 : Nat) (0 : Nat)),
    some (AV.ptr (1 : Nat) (0 : Nat)), some (AV.ptr (3 : Nat) (0 : Nat)), some (AV.int IntKind.i64 y),
    some (AV.int IntKind.u8 (0 : Int)), some (AV.int IntKind.u8 (0 : Int)), some (AV.int IntKind.u8 (m / (2 : Int))),
    some (AV.int IntKind.i64 (192 : Int)), some (AV.int IntKind.i64 y), some (AV.int IntKind.i64 (32 : Int)),
    some (AV.int IntKind.i64 x)]
  { nx := (7 : Nat),
    m :=
      [((3 : Nat),
          AObj.cells (24 : Nat)
            [AV.int IntKind.i64 (0 : Int), AV.slice (6 : Nat) (0 : Nat) (1 : Nat) none, AV.nilslice]),
        ((6 : Nat), AObj.opn (5 : Nat) (1 : Nat) [AV.int IntKind.u8 (0 : Int)]),
        ((5 : Nat), AObj.cells (5 : Nat) [AV.int IntKind.u8 (0 : Int)]),
        ((0 : Nat),
          AObj.cells (29 : Nat)
            [AV.int IntKind.i64 (311 : Int), AV.int IntKind.i64 (228 : Int), AV.int IntKind.i64 (63 : Int),
              AV.int IntKind.i64 (192 : Int), AV.int IntKind.i64 (14 : Int), AV.int IntKind.i64 (32 : Int),
              AV.int IntKind.i64 (36 : Int)]),
        ((1 : Nat), AObj.cells (24 : Nat) [AV.int IntKind.i64 (0 : Int), AV.nilslice, AV.nilslice]),
        ((2 : Nat), AObj.cells (65 : Nat) [AV.nilmap, AV.nilmap, AV.nilslice]), ((4 : Nat), AObj.dead)] }) ∧
  ((!decide (m = (0 : Int))) = false →
    Q (Exit.exit (4 : Nat)) (75 : Nat)
  [some (AV.ptr (2 : Nat) (0 : Nat)), some (AV.int IntKind.i64 (0 : Int)), some (AV.ptr (0 : Nat) (0 : Nat)),
    some (AV.ptr (1 : Nat) (0 : Nat)), some (AV.ptr (3 : Nat) (0 : Nat)), some (AV.int IntKind.i64 y),
    some (AV.int IntKind.u8 (0 : Int)), some (AV.int IntKind.u8 (0 : Int)), some (AV.int IntKind.u8 m),
    some (AV.int IntKind.i64 (192 : Int)), some (AV.int IntKind.i64 y), some (AV.int IntKind.i64 (32 : Int)),
    some (AV.int IntKind.i64 x)]
  { nx := (5 : Nat),
    m :=
      [((0 : Nat),
          AObj.cells (29 : Nat)
            [AV.int IntKind.i64 (311 : Int), AV.int IntKind.i64 (228 : Int), AV.int IntKind.i64 (63 : Int),
              AV.int IntKind.i64 (192 : Int), AV.int IntKind.i64 (14 : Int), AV.int IntKind.i64 (32 : Int),
              AV.int IntKind.i64 (36 : Int)]),
        ((1 : Nat), AObj.cells (24 : Nat) [AV.int IntKind.i64 (0 : Int), AV.nilslice, AV.nilslice]),
        ((2 : Nat), AObj.cells (65 : Nat) [AV.nilmap, AV.nilmap, AV.nilslice]),
        ((3 : Nat), AObj.cells (24 : Nat) [AV.int IntKind.i64 (0 : Int), AV.nilslice, AV.nilslice]),
        ((4 : Nat), AObj.dead)] })
def mN_scr : Plan := .b (.z) (.z)
theorem mN_vc (y x m : Int) (N : NS) (Q : QS) (K : Unit) : (wpP XRw pcSy 0 pcM 4 (rndS slM N Q) (fM y x m) (pHp .nilslice .dead) mN_scr) = mN_VC y x m N Q K := by kernel_rfl
def mS_VC (y x m : Int) (k : Nat) (cs : List AV) (N : NS) (Q : QS) (K : Unit) : Prop :=
  ((!decide (m = (0 : Int))) = true →
    (decide ((0 : Nat) < k)) = true ∧
    ((decide (k * (1 : Nat) = List.length cs)) = true ∧
    ((decide ((k + (1 : Nat)) * (1 : Nat) ≤ (140737488355328 : Nat))) = true ∧
    ((decide (k + (1 : Nat) ≤ (140737488355328 : Nat))) = true ∧
    (N (75 : Nat)
  [some (AV.ptr (2 : Nat) (0 : Nat)), some (AV.int IntKind.i64 (0 : Int)), some (AV.ptr (0 : Nat) (0 : Nat)),
    some (AV.ptr (1 : Nat) (0 : Nat)), some (AV.ptr (3 : Nat) (0 : Nat)), some (AV.int IntKind.i64 y),
    some (AV.int IntKind.u8 (0 : Int)), some (AV.int IntKind.u8 (0 : Int)), some (AV.int IntKind.u8 (m / (2 : Int))),
    some (AV.int IntKind.i64 (192 : Int)), some (AV.int IntKind.i64 y), some (AV.int IntKind.i64 (32 : Int)),
    some (AV.int IntKind.i64 x)]
  { nx := (7 : Nat),
    m :=
      [((3 : Nat),
          AObj.cells (24 : Nat)
            [AV.int IntKind.i64 (0 : Int), AV.slice (6 : Nat) (0 : Nat) (k + (1 : Nat)) none, AV.nilslice]),
        ((6 : Nat), AObj.opn (5 : Nat) (1 : Nat) (cs ++ [AV.int IntKind.u8 (0 : Int)])), ((4 : Nat), AObj.dead),
        ((5 : Nat), AObj.cells (5 : Nat) [AV.int IntKind.u8 (0 : Int)]),
        ((0 : Nat),
          AObj.cells (29 : Nat)
            [AV.int IntKind.i64 (311 : Int), AV.int IntKind.i64 (228 : Int), AV.int IntKind.i64 (63 : Int),
              AV.int IntKind.i64 (192 : Int), AV.int IntKind.i64 (14 : Int), AV.int IntKind.i64 (32 : Int),
              AV.int IntKind.i64 (36 : Int)]),
        ((1 : Nat), AObj.cells (24 : Nat) [AV.int IntKind.i64 (0 : Int), AV.nilslice, AV.nilslice]),
        ((2 : Nat), AObj.cells (65 : Nat) [AV.nilmap, AV.nilmap, AV.nilslice])] }))))) ∧
  ((!decide (m = (0 : Int))) = false →
    Q (Exit.exit (4 : Nat)) (75 : Nat)
  [some (AV.ptr (2 : Nat) (0 : Nat)), some (AV.int IntKind.i64 (0 : Int)), some (AV.ptr (0 : Nat) (0 : Nat)),
    some (AV.ptr (1 : Nat) (0 : Nat)), some (AV.ptr (3 : Nat) (0 : Nat)), some (AV.int IntKind.i64 y),
    some (AV.int IntKind.u8 (0 : Int)), some (AV.int IntKind.u8 (0 : Int)), some (AV.int IntKind.u8 m),
    some (AV.int IntKind.i64 (192 : Int)), some (AV.int IntKind.i64 y), some (AV.int IntKind.i64 (32 : Int)),
    some (AV.int IntKind.i64 x)]
  { nx := (5 : Nat),
    m :=
      [((0 : Nat),
          AObj.cells (29 : Nat)
            [AV.int IntKind.i64 (311 : Int), AV.int IntKind.i64 (228 : Int), AV.int IntKind.i64 (63 : Int),
              AV.int IntKind.i64 (192 : Int), AV.int IntKind.i64 (14 : Int), AV.int IntKind.i64 (32 : Int),
              AV.int IntKind.i64 (36 : Int)]),
        ((1 : Nat), AObj.cells (24 : Nat) [AV.int IntKind.i64 (0 : Int), AV.nilslice, AV.nilslice]),
        ((2 : Nat), AObj.cells (65 : Nat) [AV.nilmap, AV.nilmap, AV.nilslice]),
        ((3 : Nat),
          AObj.cells (24 : Nat) [AV.int IntKind.i64 (0 : Int), AV.slice (4 : Nat) (0 : Nat) k none, AV.nilslice]),
        ((4 : Nat), AObj.opn (5 : Nat) (1 : Nat) cs)] })
def mS_scr : Plan := .b (.t (.t (.t (.t (.z))))) (.z)
theorem mS_vc (y x m : Int) (k : Nat) (cs : List AV) (N : NS) (Q : QS) (K : Unit) : (wpP XRw pcSy 0 pcM 4 (rndS slM N Q) (fM y x m) (pHp (.slice 4 0 k none) (.opn 5 1 cs)) mS_scr) = mS_VC y x m k cs N Q K := by kernel_rfl
def pT_VC (k : Nat) (o4 : AObj) (N : NS) (Q : QS) (K : Unit) : Prop :=
  Q Exit.ret (75 : Nat) [some (AV.ptr (1 : Nat) (0 : Nat))]
  { nx := (5 : Nat),
    m :=
      [((0 : Nat),
          AObj.cells (29 : Nat)
            [AV.int IntKind.i64 (311 : Int), AV.int IntKind.i64 (228 : Int), AV.int IntKind.i64 (63 : Int),
              AV.int IntKind.i64 (192 : Int), AV.int IntKind.i64 (14 : Int), AV.int IntKind.i64 (32 : Int),
              AV.int IntKind.i64 (36 : Int)]),
        ((1 : Nat),
          AObj.cells (24 : Nat) [AV.int IntKind.i64 (0 : Int), AV.slice (4 : Nat) (0 : Nat) k none, AV.nilslice]),
        ((2 : Nat), AObj.cells (65 : Nat) [AV.nilmap, AV.nilmap, AV.nilslice]),
        ((3 : Nat),
          AObj.cells (24 : Nat) [AV.int IntKind.i64 (0 : Int), AV.slice (4 : Nat) (0 : Nat) k none, AV.nilslice]),
        ((4 : Nat), o4)] }
def pT_scr : Plan := .z
theorem pT_vc (k : Nat) (o4 : AObj) (N : NS) (Q : QS) (K : Unit) : (wpP XRw pcSy 0 pcTail 0 (rndS [6] N Q) (fY 192) (pHp (.slice 4 0 k none) o4) pT_scr) = pT_VC k o4 N Q K := by kernel_rfl
end Go.Proofs.Ytkehopncefhohaa.V
