/- Printed by vc.py: what must hold for functions' ways (TbH). -/
import Derived.Test.YtnfelncgeihihaaTbG
namespace Go.Proofs.Ytnfelncgeihihaa.V
open Go Go.Proofs
set_option maxRecDepth 100000
set_option linter.unusedVariables false
def red_VC (x : Nat → Int) (n o7 : Nat) (cs : List AV) (K : AV → AH → Prop) : Prop :=
  need ((0 : Nat) < n ∧ n = List.length cs ∧ n ≤ (100 : Nat) ∧ (0 : Nat) < (2 : Nat) ∧ pfs cs = true) ∧
  (need ((1 : Nat) = (1 : Nat)) ∧
  (need (Fits (1 : Nat)
  [((0 : Nat), (0 : Nat)), ((1 : Nat), (1 : Nat)), ((2 : Nat), (2 : Nat)), ((3 : Nat), (3 : Nat)),
    ((4 : Nat), (4 : Nat)), ((5 : Nat), (5 : Nat))]
  { n := (38 : Nat),
    l :=
      [((19 : Nat), AV.int IntKind.i64 (0 : Int)), ((18 : Nat), AV.int IntKind.i64 (7 : Int)),
        ((17 : Nat), AV.slice (5 : Nat) (0 : Nat) (7 : Nat) (some (7 : Nat))), ((16 : Nat), AV.ptr (4 : Nat) (6 : Nat)),
        ((15 : Nat), AV.ptr (4 : Nat) (5 : Nat)), ((14 : Nat), AV.ptr (4 : Nat) (4 : Nat)),
        ((13 : Nat), AV.ptr (4 : Nat) (3 : Nat)), ((12 : Nat), AV.ptr (4 : Nat) (2 : Nat)),
        ((11 : Nat), AV.ptr (4 : Nat) (1 : Nat)), ((10 : Nat), AV.ptr (4 : Nat) (0 : Nat)),
        ((5 : Nat), AV.ptr (4 : Nat) (0 : Nat)), ((4 : Nat), AV.ptr (3 : Nat) (0 : Nat)),
        ((9 : Nat), AV.ptr (3 : Nat) (0 : Nat)), ((8 : Nat), AV.slice (0 : Nat) (0 : Nat) n none),
        ((3 : Nat), AV.int IntKind.i64 (0 : Int)), ((2 : Nat), AV.ptr (1 : Nat) (0 : Nat)),
        ((0 : Nat), AV.slice (0 : Nat) (0 : Nat) n none)] }
  { nx := (6 : Nat),
    m :=
      [((5 : Nat),
          AObj.cells (95 : Nat)
            [AV.ptr (4 : Nat) (0 : Nat), AV.ptr (4 : Nat) (1 : Nat), AV.ptr (4 : Nat) (2 : Nat),
              AV.ptr (4 : Nat) (3 : Nat), AV.ptr (4 : Nat) (4 : Nat), AV.ptr (4 : Nat) (5 : Nat),
              AV.ptr (4 : Nat) (6 : Nat)]),
        ((4 : Nat),
          AObj.cells (23 : Nat)
            [AV.int IntKind.i64 (0 : Int), AV.int IntKind.i64 (0 : Int), AV.int IntKind.i64 (0 : Int),
              AV.int IntKind.i64 (0 : Int), AV.int IntKind.i64 (0 : Int), AV.int IntKind.i64 (0 : Int),
              AV.int IntKind.i64 (0 : Int)]),
        ((3 : Nat),
          AObj.cells (105 : Nat) [AV.slice (2 : Nat) (0 : Nat) n none, AV.int IntKind.i64 (0 : Int), AV.bool true]),
        ((2 : Nat), AObj.opn (5 : Nat) (1 : Nat) cs),
        ((1 : Nat),
          AObj.cells (23 : Nat)
            [AV.int IntKind.i64 (0 : Int), AV.int IntKind.i64 (0 : Int), AV.int IntKind.i64 (0 : Int),
              AV.int IntKind.i64 (0 : Int), AV.int IntKind.i64 (0 : Int), AV.int IntKind.i64 (0 : Int),
              AV.int IntKind.i64 (0 : Int)]),
        ((0 : Nat), AObj.ro cs)] }
  { n := (38 : Nat),
    l :=
      [((2 : Nat), AV.ptr (1 : Nat) (0 : Nat)), ((4 : Nat), AV.ptr (3 : Nat) (0 : Nat)),
        ((5 : Nat), AV.ptr (4 : Nat) (0 : Nat)), ((17 : Nat), AV.slice (5 : Nat) (0 : Nat) (7 : Nat) (some (7 : Nat))),
        ((18 : Nat), AV.int IntKind.i64 (7 : Int)), ((19 : Nat), AV.int IntKind.i64 (0 : Int))] }
  { nx := (6 : Nat),
    m :=
      [((5 : Nat),
          AObj.cells (95 : Nat)
            [AV.ptr (4 : Nat) (0 : Nat), AV.ptr (4 : Nat) (1 : Nat), AV.ptr (4 : Nat) (2 : Nat),
              AV.ptr (4 : Nat) (3 : Nat), AV.ptr (4 : Nat) (4 : Nat), AV.ptr (4 : Nat) (5 : Nat),
              AV.ptr (4 : Nat) (6 : Nat)]),
        ((4 : Nat),
          AObj.cells (23 : Nat)
            [AV.int IntKind.i64 (0 : Int), AV.int IntKind.i64 (0 : Int), AV.int IntKind.i64 (0 : Int),
              AV.int IntKind.i64 (0 : Int), AV.int IntKind.i64 (0 : Int), AV.int IntKind.i64 (0 : Int),
              AV.int IntKind.i64 (0 : Int)]),
        ((3 : Nat),
          AObj.cells (105 : Nat) [AV.slice (2 : Nat) (0 : Nat) n none, AV.int IntKind.i64 (0 : Int), AV.bool true]),
        ((2 : Nat), AObj.opn (5 : Nat) (1 : Nat) cs),
        ((1 : Nat),
          AObj.cells (23 : Nat)
            [AV.int IntKind.i64 (0 : Int), AV.int IntKind.i64 (0 : Int), AV.int IntKind.i64 (0 : Int),
              AV.int IntKind.i64 (0 : Int), AV.int IntKind.i64 (0 : Int), AV.int IntKind.i64 (0 : Int),
              AV.int IntKind.i64 (0 : Int)]),
        ((0 : Nat), AObj.ro cs)] }) ∧
  (need (n = List.length (bts x (7 : Nat)) ∧
  cs = encI IntKind.u8 (bts x (7 : Nat)) ∧ o7 = oA x (7 : Nat) ∧ ∀ (i : Nat), (0 : Int) ≤ x i ∧ x i ≤ (1000 : Int)) ∧
  (((!decide
    ((if
          okF (x (0 : Nat)) (x (1 : Nat)) (x (2 : Nat)) (x (3 : Nat)) (x (4 : Nat)) (x (5 : Nat)) (x (6 : Nat)) =
            true then
        (0 : Int)
      else (2 : Int)) =
      (0 : Int))) = true →
    K
  (AV.tup
    [AV.agg
        [AV.int IntKind.i64 (0 : Int), AV.int IntKind.i64 (0 : Int), AV.int IntKind.i64 (0 : Int),
          AV.int IntKind.i64 (0 : Int), AV.int IntKind.i64 (0 : Int), AV.int IntKind.i64 (0 : Int),
          AV.int IntKind.i64 (0 : Int)],
      AV.int IntKind.i64 (4 : Int)])
  { nx := (6 : Nat),
    m :=
      [((5 : Nat),
          AObj.cells (95 : Nat)
            [AV.ptr (4 : Nat) (0 : Nat), AV.ptr (4 : Nat) (1 : Nat), AV.ptr (4 : Nat) (2 : Nat),
              AV.ptr (4 : Nat) (3 : Nat), AV.ptr (4 : Nat) (4 : Nat), AV.ptr (4 : Nat) (5 : Nat),
              AV.ptr (4 : Nat) (6 : Nat)]),
        ((4 : Nat),
          AObj.cells (23 : Nat)
            [AV.int IntKind.i64 (x (0 : Nat)), AV.int IntKind.i64 (x (1 : Nat)), AV.int IntKind.i64 (x (2 : Nat)),
              AV.int IntKind.i64 (x (3 : Nat)), AV.int IntKind.i64 (x (4 : Nat)), AV.int IntKind.i64 (x (5 : Nat)),
              AV.int IntKind.i64 (x (6 : Nat))]),
        ((3 : Nat),
          AObj.cells (105 : Nat) [AV.slice (2 : Nat) o7 (0 : Nat) none, AV.int IntKind.i64 (0 : Int), AV.bool true]),
        ((2 : Nat), AObj.opn (5 : Nat) (1 : Nat) cs),
        ((1 : Nat),
          AObj.cells (23 : Nat)
            [AV.int IntKind.i64 (0 : Int), AV.int IntKind.i64 (0 : Int), AV.int IntKind.i64 (0 : Int),
              AV.int IntKind.i64 (0 : Int), AV.int IntKind.i64 (0 : Int), AV.int IntKind.i64 (0 : Int),
              AV.int IntKind.i64 (0 : Int)]),
        ((0 : Nat), AObj.ro cs)] }) ∧
  ((!decide
    ((if
          okF (x (0 : Nat)) (x (1 : Nat)) (x (2 : Nat)) (x (3 : Nat)) (x (4 : Nat)) (x (5 : Nat)) (x (6 : Nat)) =
            true then
        (0 : Int)
      else (2 : Int)) =
      (0 : Int))) = false →
    K
  (AV.tup
    [AV.agg
        [AV.int IntKind.i64 (x (0 : Nat)), AV.int IntKind.i64 (x (1 : Nat)), AV.int IntKind.i64 (x (2 : Nat)),
          AV.int IntKind.i64 (x (3 : Nat)), AV.int IntKind.i64 (x (4 : Nat)), AV.int IntKind.i64 (x (5 : Nat)),
          AV.int IntKind.i64 (x (6 : Nat))],
      AV.int IntKind.i64 (0 : Int)])
  { nx := (6 : Nat),
    m :=
      [((5 : Nat),
          AObj.cells (95 : Nat)
            [AV.ptr (4 : Nat) (0 : Nat), AV.ptr (4 : Nat) (1 : Nat), AV.ptr (4 : Nat) (2 : Nat),
              AV.ptr (4 : Nat) (3 : Nat), AV.ptr (4 : Nat) (4 : Nat), AV.ptr (4 : Nat) (5 : Nat),
              AV.ptr (4 : Nat) (6 : Nat)]),
        ((4 : Nat),
          AObj.cells (23 : Nat)
            [AV.int IntKind.i64 (x (0 : Nat)), AV.int IntKind.i64 (x (1 : Nat)), AV.int IntKind.i64 (x (2 : Nat)),
              AV.int IntKind.i64 (x (3 : Nat)), AV.int IntKind.i64 (x (4 : Nat)), AV.int IntKind.i64 (x (5 : Nat)),
              AV.int IntKind.i64 (x (6 : Nat))]),
        ((3 : Nat),
          AObj.cells (105 : Nat) [AV.slice (2 : Nat) o7 (0 : Nat) none, AV.int IntKind.i64 (0 : Int), AV.bool true]),
        ((2 : Nat), AObj.opn (5 : Nat) (1 : Nat) cs),
        ((1 : Nat),
          AObj.cells (23 : Nat)
            [AV.int IntKind.i64 (x (0 : Nat)), AV.int IntKind.i64 (x (1 : Nat)), AV.int IntKind.i64 (x (2 : Nat)),
              AV.int IntKind.i64 (x (3 : Nat)), AV.int IntKind.i64 (x (4 : Nat)), AV.int IntKind.i64 (x (5 : Nat)),
              AV.int IntKind.i64 (x (6 : Nat))]),
        ((0 : Nat), AObj.ro cs)] })))))
def red_scr : Plan := .k (.k (.k (.k (.k (.k (.k (.k (.k (.k (.k (.k (.k (.b (.z) (.z))))))))))))))
theorem red_vc (x : Nat → Int) (n o7 : Nat) (cs : List AV) (K : AV → AH → Prop) : (funP (XRe x n o7 cs) 47 [.slice 0 0 n none] ⟨1, [(0, .ro cs)]⟩ red_scr (fun v σ _ => K v σ)) = red_VC x n o7 cs K := by kernel_rfl
end Go.Proofs.Ytnfelncgeihihaa.V
