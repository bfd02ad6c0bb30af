/- Printed by vc.py: what must hold for functions' ways (RwH). -/
import Derived.Test.YtnfelncgeihihaaRwG
namespace Go.Proofs.Ytnfelncgeihihaa.V
open Go Go.Proofs
set_option maxRecDepth 100000
set_option linter.unusedVariables false
def rwN_VC (L C T R F W U t : Int) (rq : List Rq) (bs : List AV) (c : Nat) (K : AV → AH → Prop) : Prop :=
  need ((2 : Nat) = (2 : Nat)) ∧
  (need (Fits (2 : Nat) [((0 : Nat), (0 : Nat)), ((1 : Nat), (1 : Nat)), ((2 : Nat), (2 : Nat))]
  { n := (50 : Nat),
    l :=
      [((17 : Nat), AV.int IntKind.i64 (0 : Int)), ((16 : Nat), AV.int IntKind.i64 (↑(List.length rq) : Int)),
        ((15 : Nat), AV.slice (0 : Nat) (0 : Nat) (List.length rq) (some c)), ((9 : Nat), AV.int IntKind.i64 t),
        ((14 : Nat), AV.int IntKind.i64 t), ((10 : Nat), AV.int IntKind.i64 (0 : Int)),
        ((9 : Nat), AV.int IntKind.i64 (0 : Int)), ((8 : Nat), AV.nilslice), ((4 : Nat), AV.ptr (2 : Nat) (0 : Nat)),
        ((0 : Nat),
          AV.agg
            [AV.int IntKind.i64 L, AV.int IntKind.i64 C, AV.int IntKind.i64 T, AV.int IntKind.i64 R,
              AV.int IntKind.i64 F, AV.int IntKind.i64 W, AV.int IntKind.i64 U]),
        ((1 : Nat), AV.slice (0 : Nat) (0 : Nat) (List.length rq) (some c)), ((2 : Nat), AV.nilslice),
        ((3 : Nat), AV.int IntKind.i64 t)] }
  { nx := (3 : Nat),
    m :=
      [((2 : Nat),
          AObj.cells (23 : Nat)
            [AV.int IntKind.i64 L, AV.int IntKind.i64 C, AV.int IntKind.i64 T, AV.int IntKind.i64 R,
              AV.int IntKind.i64 F, AV.int IntKind.i64 W, AV.int IntKind.i64 U]),
        ((1 : Nat), AObj.ro bs), ((0 : Nat), AObj.ro (qF rq))] }
  { n := (50 : Nat),
    l :=
      [((2 : Nat), AV.nilslice), ((4 : Nat), AV.ptr (2 : Nat) (0 : Nat)), ((8 : Nat), AV.nilslice),
        ((9 : Nat), AV.int IntKind.i64 t), ((15 : Nat), AV.slice (0 : Nat) (0 : Nat) (List.length rq) (some c)),
        ((16 : Nat), AV.int IntKind.i64 (↑(List.length rq) : Int)), ((17 : Nat), AV.int IntKind.i64 (0 : Int))] }
  { nx := (3 : Nat),
    m :=
      [((2 : Nat),
          AObj.cells (23 : Nat)
            [AV.int IntKind.i64 L, AV.int IntKind.i64 C, AV.int IntKind.i64 T, AV.int IntKind.i64 R,
              AV.int IntKind.i64 F, AV.int IntKind.i64 W, AV.int IntKind.i64 U]),
        ((1 : Nat), AObj.ro bs), ((0 : Nat), AObj.ro (qF rq))] }) ∧
  (need (rowOksN L C T R F W U t rq bs) ∧
  (K
  (AV.tup
    [AV.slice (3 : Nat) (0 : Nat) (List.length rq) none,
      AV.int IntKind.i64 (rowE L C T R F W U rq (fun x => false) t (List.length rq)), AV.int IntKind.i64 (0 : Int)])
  { nx := (4 : Nat),
    m :=
      [((3 : Nat),
          AObj.opn (2 : Nat) (1 : Nat)
            (encI IntKind.i64 (rowAcc L C T R F W U rq (fun x => false) t (List.length rq)))),
        ((2 : Nat),
          AObj.cells (23 : Nat)
            [AV.int IntKind.i64 L, AV.int IntKind.i64 C, AV.int IntKind.i64 T, AV.int IntKind.i64 R,
              AV.int IntKind.i64 F, AV.int IntKind.i64 W, AV.int IntKind.i64 U]),
        ((1 : Nat), AObj.ro bs), ((0 : Nat), AObj.ro (qF rq))] })))
def rwN_scr : Plan := .z
theorem rwN_vc (L C T R F W U t : Int) (rq : List Rq) (bs : List AV) (c : Nat) (K : AV → AH → Prop) : (funP (XRwN L C T R F W U t rq bs c) 45 [.agg [.int .i64 L, .int .i64 C, .int .i64 T, .int .i64 R, .int .i64 F, .int .i64 W, .int .i64 U], .slice 0 0 rq.length (some c), .nilslice, .int .i64 t] ⟨2, [(1, .ro bs), (0, .ro (qF rq))]⟩ rwN_scr (fun v σ _ => K v σ)) = rwN_VC L C T R F W U t rq bs c K := by kernel_rfl
def rwE_VC (L C T R F W U t : Int) (rq : List Rq) (bs : List AV) (c : Nat) (K : AV → AH → Prop) : Prop :=
  need ((2 : Nat) = (2 : Nat)) ∧
  (need (Fits (2 : Nat) [((0 : Nat), (0 : Nat)), ((1 : Nat), (1 : Nat)), ((2 : Nat), (2 : Nat))]
  { n := (50 : Nat),
    l :=
      [((17 : Nat), AV.int IntKind.i64 (0 : Int)), ((16 : Nat), AV.int IntKind.i64 (↑(List.length rq) : Int)),
        ((15 : Nat), AV.slice (0 : Nat) (0 : Nat) (List.length rq) (some c)), ((9 : Nat), AV.int IntKind.i64 t),
        ((14 : Nat), AV.int IntKind.i64 t), ((10 : Nat), AV.int IntKind.i64 (0 : Int)),
        ((9 : Nat), AV.int IntKind.i64 (0 : Int)), ((8 : Nat), AV.nilslice), ((4 : Nat), AV.ptr (2 : Nat) (0 : Nat)),
        ((0 : Nat),
          AV.agg
            [AV.int IntKind.i64 L, AV.int IntKind.i64 C, AV.int IntKind.i64 T, AV.int IntKind.i64 R,
              AV.int IntKind.i64 F, AV.int IntKind.i64 W, AV.int IntKind.i64 U]),
        ((1 : Nat), AV.slice (0 : Nat) (0 : Nat) (List.length rq) (some c)),
        ((2 : Nat), AV.slice (1 : Nat) (0 : Nat) (0 : Nat) none), ((3 : Nat), AV.int IntKind.i64 t)] }
  { nx := (3 : Nat),
    m :=
      [((2 : Nat),
          AObj.cells (23 : Nat)
            [AV.int IntKind.i64 L, AV.int IntKind.i64 C, AV.int IntKind.i64 T, AV.int IntKind.i64 R,
              AV.int IntKind.i64 F, AV.int IntKind.i64 W, AV.int IntKind.i64 U]),
        ((1 : Nat), AObj.ro bs), ((0 : Nat), AObj.ro (qF rq))] }
  { n := (50 : Nat),
    l :=
      [((2 : Nat), AV.slice (1 : Nat) (0 : Nat) (0 : Nat) none), ((4 : Nat), AV.ptr (2 : Nat) (0 : Nat)),
        ((8 : Nat), AV.nilslice), ((9 : Nat), AV.int IntKind.i64 t),
        ((15 : Nat), AV.slice (0 : Nat) (0 : Nat) (List.length rq) (some c)),
        ((16 : Nat), AV.int IntKind.i64 (↑(List.length rq) : Int)), ((17 : Nat), AV.int IntKind.i64 (0 : Int))] }
  { nx := (3 : Nat),
    m :=
      [((2 : Nat),
          AObj.cells (23 : Nat)
            [AV.int IntKind.i64 L, AV.int IntKind.i64 C, AV.int IntKind.i64 T, AV.int IntKind.i64 R,
              AV.int IntKind.i64 F, AV.int IntKind.i64 W, AV.int IntKind.i64 U]),
        ((1 : Nat), AObj.ro bs), ((0 : Nat), AObj.ro (qF rq))] }) ∧
  (need (rowOksE L C T R F W U t rq bs) ∧
  (K
  (AV.tup
    [AV.slice (3 : Nat) (0 : Nat) (List.length rq) none,
      AV.int IntKind.i64 (rowE L C T R F W U rq (fun x => false) t (List.length rq)), AV.int IntKind.i64 (0 : Int)])
  { nx := (4 : Nat),
    m :=
      [((3 : Nat),
          AObj.opn (2 : Nat) (1 : Nat)
            (encI IntKind.i64 (rowAcc L C T R F W U rq (fun x => false) t (List.length rq)))),
        ((2 : Nat),
          AObj.cells (23 : Nat)
            [AV.int IntKind.i64 L, AV.int IntKind.i64 C, AV.int IntKind.i64 T, AV.int IntKind.i64 R,
              AV.int IntKind.i64 F, AV.int IntKind.i64 W, AV.int IntKind.i64 U]),
        ((1 : Nat), AObj.ro bs), ((0 : Nat), AObj.ro (qF rq))] })))
def rwE_scr : Plan := .z
theorem rwE_vc (L C T R F W U t : Int) (rq : List Rq) (bs : List AV) (c : Nat) (K : AV → AH → Prop) : (funP (XRwE L C T R F W U t rq bs c) 45 [.agg [.int .i64 L, .int .i64 C, .int .i64 T, .int .i64 R, .int .i64 F, .int .i64 W, .int .i64 U], .slice 0 0 rq.length (some c), (.slice 1 0 0 none), .int .i64 t] ⟨2, [(1, .ro bs), (0, .ro (qF rq))]⟩ rwE_scr (fun v σ _ => K v σ)) = rwE_VC L C T R F W U t rq bs c K := by kernel_rfl
def rwS_VC (L C T R F W U t : Int) (rq : List Rq) (bl : List Bool) (c cm : Nat) (K : AV → AH → Prop) : Prop :=
  need ((2 : Nat) = (2 : Nat)) ∧
  (need (Fits (2 : Nat) [((0 : Nat), (0 : Nat)), ((1 : Nat), (1 : Nat)), ((2 : Nat), (2 : Nat))]
  { n := (50 : Nat),
    l :=
      [((17 : Nat), AV.int IntKind.i64 (0 : Int)), ((16 : Nat), AV.int IntKind.i64 (↑(List.length rq) : Int)),
        ((15 : Nat), AV.slice (0 : Nat) (0 : Nat) (List.length rq) (some c)), ((9 : Nat), AV.int IntKind.i64 t),
        ((14 : Nat), AV.int IntKind.i64 t), ((10 : Nat), AV.int IntKind.i64 (0 : Int)),
        ((9 : Nat), AV.int IntKind.i64 (0 : Int)), ((8 : Nat), AV.nilslice), ((4 : Nat), AV.ptr (2 : Nat) (0 : Nat)),
        ((0 : Nat),
          AV.agg
            [AV.int IntKind.i64 L, AV.int IntKind.i64 C, AV.int IntKind.i64 T, AV.int IntKind.i64 R,
              AV.int IntKind.i64 F, AV.int IntKind.i64 W, AV.int IntKind.i64 U]),
        ((1 : Nat), AV.slice (0 : Nat) (0 : Nat) (List.length rq) (some c)),
        ((2 : Nat), AV.slice (1 : Nat) (0 : Nat) (List.length bl) (some cm)), ((3 : Nat), AV.int IntKind.i64 t)] }
  { nx := (3 : Nat),
    m :=
      [((2 : Nat),
          AObj.cells (23 : Nat)
            [AV.int IntKind.i64 L, AV.int IntKind.i64 C, AV.int IntKind.i64 T, AV.int IntKind.i64 R,
              AV.int IntKind.i64 F, AV.int IntKind.i64 W, AV.int IntKind.i64 U]),
        ((1 : Nat), AObj.ro (bF bl)), ((0 : Nat), AObj.ro (qF rq))] }
  { n := (50 : Nat),
    l :=
      [((2 : Nat), AV.slice (1 : Nat) (0 : Nat) (List.length bl) (some cm)), ((4 : Nat), AV.ptr (2 : Nat) (0 : Nat)),
        ((8 : Nat), AV.nilslice), ((9 : Nat), AV.int IntKind.i64 t),
        ((15 : Nat), AV.slice (0 : Nat) (0 : Nat) (List.length rq) (some c)),
        ((16 : Nat), AV.int IntKind.i64 (↑(List.length rq) : Int)), ((17 : Nat), AV.int IntKind.i64 (0 : Int))] }
  { nx := (3 : Nat),
    m :=
      [((2 : Nat),
          AObj.cells (23 : Nat)
            [AV.int IntKind.i64 L, AV.int IntKind.i64 C, AV.int IntKind.i64 T, AV.int IntKind.i64 R,
              AV.int IntKind.i64 F, AV.int IntKind.i64 W, AV.int IntKind.i64 U]),
        ((1 : Nat), AObj.ro (bF bl)), ((0 : Nat), AObj.ro (qF rq))] }) ∧
  (need (rowOksS L C T R F W U t rq bl) ∧
  (K
  (AV.tup
    [AV.slice (3 : Nat) (0 : Nat) (List.length rq) none,
      AV.int IntKind.i64 (rowE L C T R F W U rq (fun i => List.getD bl i false) t (List.length rq)),
      AV.int IntKind.i64 (0 : Int)])
  { nx := (4 : Nat),
    m :=
      [((3 : Nat),
          AObj.opn (2 : Nat) (1 : Nat)
            (encI IntKind.i64 (rowAcc L C T R F W U rq (fun i => List.getD bl i false) t (List.length rq)))),
        ((2 : Nat),
          AObj.cells (23 : Nat)
            [AV.int IntKind.i64 L, AV.int IntKind.i64 C, AV.int IntKind.i64 T, AV.int IntKind.i64 R,
              AV.int IntKind.i64 F, AV.int IntKind.i64 W, AV.int IntKind.i64 U]),
        ((1 : Nat), AObj.ro (bF bl)), ((0 : Nat), AObj.ro (qF rq))] })))
def rwS_scr : Plan := .z
theorem rwS_vc (L C T R F W U t : Int) (rq : List Rq) (bl : List Bool) (c cm : Nat) (K : AV → AH → Prop) : (funP (XRwS L C T R F W U t rq bl c cm) 45 [.agg [.int .i64 L, .int .i64 C, .int .i64 T, .int .i64 R, .int .i64 F, .int .i64 W, .int .i64 U], .slice 0 0 rq.length (some c), (.slice 1 0 bl.length (some cm)), .int .i64 t] ⟨2, [(1, .ro (bF bl)), (0, .ro (qF rq))]⟩ rwS_scr (fun v σ _ => K v σ)) = rwS_VC L C T R F W U t rq bl c cm K := by kernel_rfl
end Go.Proofs.Ytnfelncgeihihaa.V
