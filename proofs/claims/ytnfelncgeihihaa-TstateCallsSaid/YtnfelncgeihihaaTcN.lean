/- Printed by vc.py: what must hold for functions' ways (TcH). tstate: a screen's bytes in the document: the loop. Printed by vc.py: what must hold for functions' ways (TcJ). Printed by vc.py: what must hold for functions' ways (TcQ). tstate: the document's times, frames and pulses (part 2). tstate: the law's way: what is known ahead of it. Printed by vc.py: what must hold for functions' ways (TcL). Printed by vc.py: what must hold for functions' ways (TcM). tstate: screens, spots and pulses are what the document says: the law over plain values. -/
import Derived.Test.YtnfelncgeihihaaTcG
import Derived.Test.YtnfelncgeihihaaTcG
namespace Go.Proofs.Ytnfelncgeihihaa.V
open Go Go.Proofs
set_option maxRecDepth 100000
set_option linter.unusedVariables false
def b0R_VC (x : Nat → Int) (N : NS) (Q : QS) (K : Unit) : Prop :=
  ((decide (IntKind.wrap IntKind.u64 (x (0 : Nat)) ≤ (247 : Int))) = true →
    N (39 : Nat)
  [some (AV.slice (1 : Nat) (0 : Nat) (7 : Nat) (some (7 : Nat))), some (AV.slice (3 : Nat) (0 : Nat) (1 : Nat) none),
    some (AV.int IntKind.i64 (1 : Int))]
  { nx := (4 : Nat),
    m :=
      [((3 : Nat),
          AObj.opn (5 : Nat) (1 : Nat)
            [AV.int IntKind.u8 (IntKind.wrap IntKind.u8 (IntKind.wrap IntKind.u64 (x (0 : Nat))))]),
        ((2 : Nat),
          AObj.cells (5 : Nat) [AV.int IntKind.u8 (IntKind.wrap IntKind.u8 (IntKind.wrap IntKind.u64 (x (0 : Nat))))]),
        ((1 : Nat),
          AObj.cells (3 : Nat)
            [AV.int IntKind.i64 (x (0 : Nat)), AV.int IntKind.i64 (x (1 : Nat)), AV.int IntKind.i64 (x (2 : Nat)),
              AV.int IntKind.i64 (x (3 : Nat)), AV.int IntKind.i64 (x (4 : Nat)), AV.int IntKind.i64 (x (5 : Nat)),
              AV.int IntKind.i64 (x (6 : Nat))])] }) ∧
  ((decide (IntKind.wrap IntKind.u64 (x (0 : Nat)) ≤ (247 : Int))) = false →
    ((decide (IntKind.wrap IntKind.u64 (x (0 : Nat)) > (0 : Int))) = true →
      ((decide (IntKind.wrap IntKind.u64 (Int.tdiv (IntKind.wrap IntKind.u64 (x (0 : Nat))) (256 : Int)) > (0 : Int))) = true →
        ((decide
  (IntKind.wrap IntKind.u64
      (Int.tdiv (IntKind.wrap IntKind.u64 (Int.tdiv (IntKind.wrap IntKind.u64 (x (0 : Nat))) (256 : Int)))
        (256 : Int)) >
    (0 : Int))) = true →
          False) ∧
        ((decide
  (IntKind.wrap IntKind.u64
      (Int.tdiv (IntKind.wrap IntKind.u64 (Int.tdiv (IntKind.wrap IntKind.u64 (x (0 : Nat))) (256 : Int)))
        (256 : Int)) >
    (0 : Int))) = false →
          N (39 : Nat)
  [some (AV.slice (1 : Nat) (0 : Nat) (7 : Nat) (some (7 : Nat))), some (AV.slice (8 : Nat) (0 : Nat) (3 : Nat) none),
    some (AV.int IntKind.i64 (1 : Int))]
  { nx := (9 : Nat),
    m :=
      [((8 : Nat),
          AObj.opn (5 : Nat) (1 : Nat)
            [AV.int IntKind.u8 (249 : Int),
              AV.int IntKind.u8
                (IntKind.wrap IntKind.u8 (Int.tmod (IntKind.wrap IntKind.u64 (x (0 : Nat))) (256 : Int))),
              AV.int IntKind.u8
                (IntKind.wrap IntKind.u8
                  (Int.tmod (IntKind.wrap IntKind.u64 (Int.tdiv (IntKind.wrap IntKind.u64 (x (0 : Nat))) (256 : Int)))
                    (256 : Int)))]),
        ((7 : Nat), AObj.dead), ((6 : Nat), AObj.cells (5 : Nat) [AV.int IntKind.u8 (249 : Int)]),
        ((5 : Nat),
          AObj.opn (5 : Nat) (1 : Nat)
            [AV.int IntKind.u8
                (IntKind.wrap IntKind.u8 (Int.tmod (IntKind.wrap IntKind.u64 (x (0 : Nat))) (256 : Int))),
              AV.int IntKind.u8
                (IntKind.wrap IntKind.u8
                  (Int.tmod (IntKind.wrap IntKind.u64 (Int.tdiv (IntKind.wrap IntKind.u64 (x (0 : Nat))) (256 : Int)))
                    (256 : Int)))]),
        ((4 : Nat),
          AObj.cells (5 : Nat)
            [AV.int IntKind.u8
                (IntKind.wrap IntKind.u8
                  (Int.tmod (IntKind.wrap IntKind.u64 (Int.tdiv (IntKind.wrap IntKind.u64 (x (0 : Nat))) (256 : Int)))
                    (256 : Int)))]),
        ((3 : Nat), AObj.dead),
        ((2 : Nat),
          AObj.cells (5 : Nat)
            [AV.int IntKind.u8
                (IntKind.wrap IntKind.u8 (Int.tmod (IntKind.wrap IntKind.u64 (x (0 : Nat))) (256 : Int)))]),
        ((1 : Nat),
          AObj.cells (3 : Nat)
            [AV.int IntKind.i64 (x (0 : Nat)), AV.int IntKind.i64 (x (1 : Nat)), AV.int IntKind.i64 (x (2 : Nat)),
              AV.int IntKind.i64 (x (3 : Nat)), AV.int IntKind.i64 (x (4 : Nat)), AV.int IntKind.i64 (x (5 : Nat)),
              AV.int IntKind.i64 (x (6 : Nat))])] })) ∧
      ((decide (IntKind.wrap IntKind.u64 (Int.tdiv (IntKind.wrap IntKind.u64 (x (0 : Nat))) (256 : Int)) > (0 : Int))) = false →
        N (39 : Nat)
  [some (AV.slice (1 : Nat) (0 : Nat) (7 : Nat) (some (7 : Nat))), some (AV.slice (6 : Nat) (0 : Nat) (2 : Nat) none),
    some (AV.int IntKind.i64 (1 : Int))]
  { nx := (7 : Nat),
    m :=
      [((6 : Nat),
          AObj.opn (5 : Nat) (1 : Nat)
            [AV.int IntKind.u8 (248 : Int),
              AV.int IntKind.u8
                (IntKind.wrap IntKind.u8 (Int.tmod (IntKind.wrap IntKind.u64 (x (0 : Nat))) (256 : Int)))]),
        ((5 : Nat), AObj.dead), ((4 : Nat), AObj.cells (5 : Nat) [AV.int IntKind.u8 (248 : Int)]),
        ((3 : Nat),
          AObj.opn (5 : Nat) (1 : Nat)
            [AV.int IntKind.u8
                (IntKind.wrap IntKind.u8 (Int.tmod (IntKind.wrap IntKind.u64 (x (0 : Nat))) (256 : Int)))]),
        ((2 : Nat),
          AObj.cells (5 : Nat)
            [AV.int IntKind.u8
                (IntKind.wrap IntKind.u8 (Int.tmod (IntKind.wrap IntKind.u64 (x (0 : Nat))) (256 : Int)))]),
        ((1 : Nat),
          AObj.cells (3 : Nat)
            [AV.int IntKind.i64 (x (0 : Nat)), AV.int IntKind.i64 (x (1 : Nat)), AV.int IntKind.i64 (x (2 : Nat)),
              AV.int IntKind.i64 (x (3 : Nat)), AV.int IntKind.i64 (x (4 : Nat)), AV.int IntKind.i64 (x (5 : Nat)),
              AV.int IntKind.i64 (x (6 : Nat))])] })) ∧
    ((decide (IntKind.wrap IntKind.u64 (x (0 : Nat)) > (0 : Int))) = false →
      N (39 : Nat)
  [some (AV.slice (1 : Nat) (0 : Nat) (7 : Nat) (some (7 : Nat))), some (AV.slice (3 : Nat) (0 : Nat) (1 : Nat) none),
    some (AV.int IntKind.i64 (1 : Int))]
  { nx := (4 : Nat),
    m :=
      [((3 : Nat), AObj.opn (5 : Nat) (1 : Nat) [AV.int IntKind.u8 (247 : Int)]),
        ((2 : Nat), AObj.cells (5 : Nat) [AV.int IntKind.u8 (247 : Int)]),
        ((1 : Nat),
          AObj.cells (3 : Nat)
            [AV.int IntKind.i64 (x (0 : Nat)), AV.int IntKind.i64 (x (1 : Nat)), AV.int IntKind.i64 (x (2 : Nat)),
              AV.int IntKind.i64 (x (3 : Nat)), AV.int IntKind.i64 (x (4 : Nat)), AV.int IntKind.i64 (x (5 : Nat)),
              AV.int IntKind.i64 (x (6 : Nat))])] }))
def b0R_scr : Plan := .k (.k (.k (.k (.b (.z) (.b (.b (.k (.k (.k (.k (.b (.z) (.z)))))) (.z)) (.z))))))
theorem b0R_vc (x : Nat → Int) (N : NS) (Q : QS) (K : Unit) : (wpP XBr (symC Try.prog (bodyOf Try.prog 51) []) 0 (loopAt Try.prog 51 0) 0 (rndS [4, 5, 6] N Q) (by0 x).1 (by0 x).2 b0R_scr) = b0R_VC x N Q K := by kernel_rfl
def bsR_VC (x : Nat → Int) (n : Nat) (cs : List AV) (i : Int) (N : NS) (Q : QS) (K : Unit) : Prop :=
  ((decide (i < (7 : Int))) = true →
    (decide ((0 : Int) ≤ i ∧ i < (7 : Int))) = true ∧
    ((decide ((0 : Nat) + Int.toNat i * (1 : Nat) < (7 : Nat))) = true ∧
    ((AV.isI IntKind.i64
  (List.getD
    [AV.int IntKind.i64 (x (0 : Nat)), AV.int IntKind.i64 (x (1 : Nat)), AV.int IntKind.i64 (x (2 : Nat)),
      AV.int IntKind.i64 (x (3 : Nat)), AV.int IntKind.i64 (x (4 : Nat)), AV.int IntKind.i64 (x (5 : Nat)),
      AV.int IntKind.i64 (x (6 : Nat))]
    ((0 : Nat) + Int.toNat i * (1 : Nat)) (AV.tup []))) = true ∧
    (((decide
  (IntKind.wrap IntKind.u64
      (AV.toI
        (List.getD
          [AV.int IntKind.i64 (x (0 : Nat)), AV.int IntKind.i64 (x (1 : Nat)), AV.int IntKind.i64 (x (2 : Nat)),
            AV.int IntKind.i64 (x (3 : Nat)), AV.int IntKind.i64 (x (4 : Nat)), AV.int IntKind.i64 (x (5 : Nat)),
            AV.int IntKind.i64 (x (6 : Nat))]
          ((0 : Nat) + Int.toNat i * (1 : Nat)) (AV.tup []))) ≤
    (247 : Int))) = true →
      (decide ((0 : Nat) < n)) = true ∧
      ((decide (n * (1 : Nat) = List.length cs)) = true ∧
      ((decide ((n + (1 : Nat)) * (1 : Nat) ≤ (140737488355328 : Nat))) = true ∧
      ((decide (n + (1 : Nat) ≤ (140737488355328 : Nat))) = true ∧
      (N (39 : Nat)
  [some (AV.slice (1 : Nat) (0 : Nat) (7 : Nat) (some (7 : Nat))),
    some (AV.slice (4 : Nat) (0 : Nat) (n + (1 : Nat)) none),
    some (AV.int IntKind.i64 (IntKind.wrap IntKind.i64 (i + (1 : Int))))]
  { nx := (5 : Nat),
    m :=
      [((4 : Nat),
          AObj.opn (5 : Nat) (1 : Nat)
            (cs ++
              [AV.int IntKind.u8
                  (IntKind.wrap IntKind.u8
                    (IntKind.wrap IntKind.u64
                      (AV.toI
                        (List.getD
                          [AV.int IntKind.i64 (x (0 : Nat)), AV.int IntKind.i64 (x (1 : Nat)),
                            AV.int IntKind.i64 (x (2 : Nat)), AV.int IntKind.i64 (x (3 : Nat)),
                            AV.int IntKind.i64 (x (4 : Nat)), AV.int IntKind.i64 (x (5 : Nat)),
                            AV.int IntKind.i64 (x (6 : Nat))]
                          ((0 : Nat) + Int.toNat i * (1 : Nat)) (AV.tup [])))))])),
        ((3 : Nat),
          AObj.cells (5 : Nat)
            [AV.int IntKind.u8
                (IntKind.wrap IntKind.u8
                  (IntKind.wrap IntKind.u64
                    (AV.toI
                      (List.getD
                        [AV.int IntKind.i64 (x (0 : Nat)), AV.int IntKind.i64 (x (1 : Nat)),
                          AV.int IntKind.i64 (x (2 : Nat)), AV.int IntKind.i64 (x (3 : Nat)),
                          AV.int IntKind.i64 (x (4 : Nat)), AV.int IntKind.i64 (x (5 : Nat)),
                          AV.int IntKind.i64 (x (6 : Nat))]
                        ((0 : Nat) + Int.toNat i * (1 : Nat)) (AV.tup [])))))]),
        ((2 : Nat), AObj.dead),
        ((1 : Nat),
          AObj.cells (3 : Nat)
            [AV.int IntKind.i64 (x (0 : Nat)), AV.int IntKind.i64 (x (1 : Nat)), AV.int IntKind.i64 (x (2 : Nat)),
              AV.int IntKind.i64 (x (3 : Nat)), AV.int IntKind.i64 (x (4 : Nat)), AV.int IntKind.i64 (x (5 : Nat)),
              AV.int IntKind.i64 (x (6 : Nat))])] }))))) ∧
    ((decide
  (IntKind.wrap IntKind.u64
      (AV.toI
        (List.getD
          [AV.int IntKind.i64 (x (0 : Nat)), AV.int IntKind.i64 (x (1 : Nat)), AV.int IntKind.i64 (x (2 : Nat)),
            AV.int IntKind.i64 (x (3 : Nat)), AV.int IntKind.i64 (x (4 : Nat)), AV.int IntKind.i64 (x (5 : Nat)),
            AV.int IntKind.i64 (x (6 : Nat))]
          ((0 : Nat) + Int.toNat i * (1 : Nat)) (AV.tup []))) ≤
    (247 : Int))) = false →
      ((decide
  (IntKind.wrap IntKind.u64
      (AV.toI
        (List.getD
          [AV.int IntKind.i64 (x (0 : Nat)), AV.int IntKind.i64 (x (1 : Nat)), AV.int IntKind.i64 (x (2 : Nat)),
            AV.int IntKind.i64 (x (3 : Nat)), AV.int IntKind.i64 (x (4 : Nat)), AV.int IntKind.i64 (x (5 : Nat)),
            AV.int IntKind.i64 (x (6 : Nat))]
          ((0 : Nat) + Int.toNat i * (1 : Nat)) (AV.tup []))) >
    (0 : Int))) = true →
        ((decide
  (IntKind.wrap IntKind.u64
      (Int.tdiv
        (IntKind.wrap IntKind.u64
          (AV.toI
            (List.getD
              [AV.int IntKind.i64 (x (0 : Nat)), AV.int IntKind.i64 (x (1 : Nat)), AV.int IntKind.i64 (x (2 : Nat)),
                AV.int IntKind.i64 (x (3 : Nat)), AV.int IntKind.i64 (x (4 : Nat)), AV.int IntKind.i64 (x (5 : Nat)),
                AV.int IntKind.i64 (x (6 : Nat))]
              ((0 : Nat) + Int.toNat i * (1 : Nat)) (AV.tup []))))
        (256 : Int)) >
    (0 : Int))) = true →
          ((decide
  (IntKind.wrap IntKind.u64
      (Int.tdiv
        (IntKind.wrap IntKind.u64
          (Int.tdiv
            (IntKind.wrap IntKind.u64
              (AV.toI
                (List.getD
                  [AV.int IntKind.i64 (x (0 : Nat)), AV.int IntKind.i64 (x (1 : Nat)), AV.int IntKind.i64 (x (2 : Nat)),
                    AV.int IntKind.i64 (x (3 : Nat)), AV.int IntKind.i64 (x (4 : Nat)),
                    AV.int IntKind.i64 (x (5 : Nat)), AV.int IntKind.i64 (x (6 : Nat))]
                  ((0 : Nat) + Int.toNat i * (1 : Nat)) (AV.tup []))))
            (256 : Int)))
        (256 : Int)) >
    (0 : Int))) = true →
            False) ∧
          ((decide
  (IntKind.wrap IntKind.u64
      (Int.tdiv
        (IntKind.wrap IntKind.u64
          (Int.tdiv
            (IntKind.wrap IntKind.u64
              (AV.toI
                (List.getD
                  [AV.int IntKind.i64 (x (0 : Nat)), AV.int IntKind.i64 (x (1 : Nat)), AV.int IntKind.i64 (x (2 : Nat)),
                    AV.int IntKind.i64 (x (3 : Nat)), AV.int IntKind.i64 (x (4 : Nat)),
                    AV.int IntKind.i64 (x (5 : Nat)), AV.int IntKind.i64 (x (6 : Nat))]
                  ((0 : Nat) + Int.toNat i * (1 : Nat)) (AV.tup []))))
            (256 : Int)))
        (256 : Int)) >
    (0 : Int))) = false →
            (decide ((0 : Nat) < n)) = true ∧
            ((decide (n * (1 : Nat) = List.length cs)) = true ∧
            ((decide ((n + (1 : Nat)) * (1 : Nat) ≤ (140737488355328 : Nat))) = true ∧
            ((decide (n + (1 : Nat) ≤ (140737488355328 : Nat))) = true ∧
            ((decide ((n + (1 : Nat)) * (1 : Nat) = List.length (cs ++ [AV.int IntKind.u8 (249 : Int)]))) = true ∧
            ((decide ((n + (1 : Nat) + (2 : Nat)) * (1 : Nat) ≤ (140737488355328 : Nat))) = true ∧
            ((decide (n + (1 : Nat) + (2 : Nat) ≤ (140737488355328 : Nat))) = true ∧
            (N (39 : Nat)
  [some (AV.slice (1 : Nat) (0 : Nat) (7 : Nat) (some (7 : Nat))),
    some (AV.slice (9 : Nat) (0 : Nat) (n + (1 : Nat) + (2 : Nat)) none),
    some (AV.int IntKind.i64 (IntKind.wrap IntKind.i64 (i + (1 : Int))))]
  { nx := (10 : Nat),
    m :=
      [((9 : Nat),
          AObj.opn (5 : Nat) (1 : Nat)
            (cs ++ [AV.int IntKind.u8 (249 : Int)] ++
              [AV.int IntKind.u8
                  (IntKind.wrap IntKind.u8
                    (Int.tmod
                      (IntKind.wrap IntKind.u64
                        (AV.toI
                          (List.getD
                            [AV.int IntKind.i64 (x (0 : Nat)), AV.int IntKind.i64 (x (1 : Nat)),
                              AV.int IntKind.i64 (x (2 : Nat)), AV.int IntKind.i64 (x (3 : Nat)),
                              AV.int IntKind.i64 (x (4 : Nat)), AV.int IntKind.i64 (x (5 : Nat)),
                              AV.int IntKind.i64 (x (6 : Nat))]
                            ((0 : Nat) + Int.toNat i * (1 : Nat)) (AV.tup []))))
                      (256 : Int))),
                AV.int IntKind.u8
                  (IntKind.wrap IntKind.u8
                    (Int.tmod
                      (IntKind.wrap IntKind.u64
                        (Int.tdiv
                          (IntKind.wrap IntKind.u64
                            (AV.toI
                              (List.getD
                                [AV.int IntKind.i64 (x (0 : Nat)), AV.int IntKind.i64 (x (1 : Nat)),
                                  AV.int IntKind.i64 (x (2 : Nat)), AV.int IntKind.i64 (x (3 : Nat)),
                                  AV.int IntKind.i64 (x (4 : Nat)), AV.int IntKind.i64 (x (5 : Nat)),
                                  AV.int IntKind.i64 (x (6 : Nat))]
                                ((0 : Nat) + Int.toNat i * (1 : Nat)) (AV.tup []))))
                          (256 : Int)))
                      (256 : Int)))])),
        ((8 : Nat), AObj.dead), ((7 : Nat), AObj.cells (5 : Nat) [AV.int IntKind.u8 (249 : Int)]),
        ((6 : Nat),
          AObj.opn (5 : Nat) (1 : Nat)
            [AV.int IntKind.u8
                (IntKind.wrap IntKind.u8
                  (Int.tmod
                    (IntKind.wrap IntKind.u64
                      (AV.toI
                        (List.getD
                          [AV.int IntKind.i64 (x (0 : Nat)), AV.int IntKind.i64 (x (1 : Nat)),
                            AV.int IntKind.i64 (x (2 : Nat)), AV.int IntKind.i64 (x (3 : Nat)),
                            AV.int IntKind.i64 (x (4 : Nat)), AV.int IntKind.i64 (x (5 : Nat)),
                            AV.int IntKind.i64 (x (6 : Nat))]
                          ((0 : Nat) + Int.toNat i * (1 : Nat)) (AV.tup []))))
                    (256 : Int))),
              AV.int IntKind.u8
                (IntKind.wrap IntKind.u8
                  (Int.tmod
                    (IntKind.wrap IntKind.u64
                      (Int.tdiv
                        (IntKind.wrap IntKind.u64
                          (AV.toI
                            (List.getD
                              [AV.int IntKind.i64 (x (0 : Nat)), AV.int IntKind.i64 (x (1 : Nat)),
                                AV.int IntKind.i64 (x (2 : Nat)), AV.int IntKind.i64 (x (3 : Nat)),
                                AV.int IntKind.i64 (x (4 : Nat)), AV.int IntKind.i64 (x (5 : Nat)),
                                AV.int IntKind.i64 (x (6 : Nat))]
                              ((0 : Nat) + Int.toNat i * (1 : Nat)) (AV.tup []))))
                        (256 : Int)))
                    (256 : Int)))]),
        ((5 : Nat),
          AObj.cells (5 : Nat)
            [AV.int IntKind.u8
                (IntKind.wrap IntKind.u8
                  (Int.tmod
                    (IntKind.wrap IntKind.u64
                      (Int.tdiv
                        (IntKind.wrap IntKind.u64
                          (AV.toI
                            (List.getD
                              [AV.int IntKind.i64 (x (0 : Nat)), AV.int IntKind.i64 (x (1 : Nat)),
                                AV.int IntKind.i64 (x (2 : Nat)), AV.int IntKind.i64 (x (3 : Nat)),
                                AV.int IntKind.i64 (x (4 : Nat)), AV.int IntKind.i64 (x (5 : Nat)),
                                AV.int IntKind.i64 (x (6 : Nat))]
                              ((0 : Nat) + Int.toNat i * (1 : Nat)) (AV.tup []))))
                        (256 : Int)))
                    (256 : Int)))]),
        ((4 : Nat), AObj.dead),
        ((3 : Nat),
          AObj.cells (5 : Nat)
            [AV.int IntKind.u8
                (IntKind.wrap IntKind.u8
                  (Int.tmod
                    (IntKind.wrap IntKind.u64
                      (AV.toI
                        (List.getD
                          [AV.int IntKind.i64 (x (0 : Nat)), AV.int IntKind.i64 (x (1 : Nat)),
                            AV.int IntKind.i64 (x (2 : Nat)), AV.int IntKind.i64 (x (3 : Nat)),
                            AV.int IntKind.i64 (x (4 : Nat)), AV.int IntKind.i64 (x (5 : Nat)),
                            AV.int IntKind.i64 (x (6 : Nat))]
                          ((0 : Nat) + Int.toNat i * (1 : Nat)) (AV.tup []))))
                    (256 : Int)))]),
        ((2 : Nat), AObj.dead),
        ((1 : Nat),
          AObj.cells (3 : Nat)
            [AV.int IntKind.i64 (x (0 : Nat)), AV.int IntKind.i64 (x (1 : Nat)), AV.int IntKind.i64 (x (2 : Nat)),
              AV.int IntKind.i64 (x (3 : Nat)), AV.int IntKind.i64 (x (4 : Nat)), AV.int IntKind.i64 (x (5 : Nat)),
              AV.int IntKind.i64 (x (6 : Nat))])] }))))))))) ∧
        ((decide
  (IntKind.wrap IntKind.u64
      (Int.tdiv
        (IntKind.wrap IntKind.u64
          (AV.toI
            (List.getD
              [AV.int IntKind.i64 (x (0 : Nat)), AV.int IntKind.i64 (x (1 : Nat)), AV.int IntKind.i64 (x (2 : Nat)),
                AV.int IntKind.i64 (x (3 : Nat)), AV.int IntKind.i64 (x (4 : Nat)), AV.int IntKind.i64 (x (5 : Nat)),
                AV.int IntKind.i64 (x (6 : Nat))]
              ((0 : Nat) + Int.toNat i * (1 : Nat)) (AV.tup []))))
        (256 : Int)) >
    (0 : Int))) = false →
          (decide ((0 : Nat) < n)) = true ∧
          ((decide (n * (1 : Nat) = List.length cs)) = true ∧
          ((decide ((n + (1 : Nat)) * (1 : Nat) ≤ (140737488355328 : Nat))) = true ∧
          ((decide (n + (1 : Nat) ≤ (140737488355328 : Nat))) = true ∧
          ((decide ((n + (1 : Nat)) * (1 : Nat) = List.length (cs ++ [AV.int IntKind.u8 (248 : Int)]))) = true ∧
          ((decide ((n + (1 : Nat) + (1 : Nat)) * (1 : Nat) ≤ (140737488355328 : Nat))) = true ∧
          ((decide (n + (1 : Nat) + (1 : Nat) ≤ (140737488355328 : Nat))) = true ∧
          (N (39 : Nat)
  [some (AV.slice (1 : Nat) (0 : Nat) (7 : Nat) (some (7 : Nat))),
    some (AV.slice (7 : Nat) (0 : Nat) (n + (1 : Nat) + (1 : Nat)) none),
    some (AV.int IntKind.i64 (IntKind.wrap IntKind.i64 (i + (1 : Int))))]
  { nx := (8 : Nat),
    m :=
      [((7 : Nat),
          AObj.opn (5 : Nat) (1 : Nat)
            (cs ++ [AV.int IntKind.u8 (248 : Int)] ++
              [AV.int IntKind.u8
                  (IntKind.wrap IntKind.u8
                    (Int.tmod
                      (IntKind.wrap IntKind.u64
                        (AV.toI
                          (List.getD
                            [AV.int IntKind.i64 (x (0 : Nat)), AV.int IntKind.i64 (x (1 : Nat)),
                              AV.int IntKind.i64 (x (2 : Nat)), AV.int IntKind.i64 (x (3 : Nat)),
                              AV.int IntKind.i64 (x (4 : Nat)), AV.int IntKind.i64 (x (5 : Nat)),
                              AV.int IntKind.i64 (x (6 : Nat))]
                            ((0 : Nat) + Int.toNat i * (1 : Nat)) (AV.tup []))))
                      (256 : Int)))])),
        ((6 : Nat), AObj.dead), ((5 : Nat), AObj.cells (5 : Nat) [AV.int IntKind.u8 (248 : Int)]),
        ((4 : Nat),
          AObj.opn (5 : Nat) (1 : Nat)
            [AV.int IntKind.u8
                (IntKind.wrap IntKind.u8
                  (Int.tmod
                    (IntKind.wrap IntKind.u64
                      (AV.toI
                        (List.getD
                          [AV.int IntKind.i64 (x (0 : Nat)), AV.int IntKind.i64 (x (1 : Nat)),
                            AV.int IntKind.i64 (x (2 : Nat)), AV.int IntKind.i64 (x (3 : Nat)),
                            AV.int IntKind.i64 (x (4 : Nat)), AV.int IntKind.i64 (x (5 : Nat)),
                            AV.int IntKind.i64 (x (6 : Nat))]
                          ((0 : Nat) + Int.toNat i * (1 : Nat)) (AV.tup []))))
                    (256 : Int)))]),
        ((3 : Nat),
          AObj.cells (5 : Nat)
            [AV.int IntKind.u8
                (IntKind.wrap IntKind.u8
                  (Int.tmod
                    (IntKind.wrap IntKind.u64
                      (AV.toI
                        (List.getD
                          [AV.int IntKind.i64 (x (0 : Nat)), AV.int IntKind.i64 (x (1 : Nat)),
                            AV.int IntKind.i64 (x (2 : Nat)), AV.int IntKind.i64 (x (3 : Nat)),
                            AV.int IntKind.i64 (x (4 : Nat)), AV.int IntKind.i64 (x (5 : Nat)),
                            AV.int IntKind.i64 (x (6 : Nat))]
                          ((0 : Nat) + Int.toNat i * (1 : Nat)) (AV.tup []))))
                    (256 : Int)))]),
        ((2 : Nat), AObj.dead),
        ((1 : Nat),
          AObj.cells (3 : Nat)
            [AV.int IntKind.i64 (x (0 : Nat)), AV.int IntKind.i64 (x (1 : Nat)), AV.int IntKind.i64 (x (2 : Nat)),
              AV.int IntKind.i64 (x (3 : Nat)), AV.int IntKind.i64 (x (4 : Nat)), AV.int IntKind.i64 (x (5 : Nat)),
              AV.int IntKind.i64 (x (6 : Nat))])] }))))))))) ∧
      ((decide
  (IntKind.wrap IntKind.u64
      (AV.toI
        (List.getD
          [AV.int IntKind.i64 (x (0 : Nat)), AV.int IntKind.i64 (x (1 : Nat)), AV.int IntKind.i64 (x (2 : Nat)),
            AV.int IntKind.i64 (x (3 : Nat)), AV.int IntKind.i64 (x (4 : Nat)), AV.int IntKind.i64 (x (5 : Nat)),
            AV.int IntKind.i64 (x (6 : Nat))]
          ((0 : Nat) + Int.toNat i * (1 : Nat)) (AV.tup []))) >
    (0 : Int))) = false →
        (decide ((0 : Nat) < n)) = true ∧
        ((decide (n * (1 : Nat) = List.length cs)) = true ∧
        ((decide ((n + (1 : Nat)) * (1 : Nat) ≤ (140737488355328 : Nat))) = true ∧
        ((decide (n + (1 : Nat) ≤ (140737488355328 : Nat))) = true ∧
        (N (39 : Nat)
  [some (AV.slice (1 : Nat) (0 : Nat) (7 : Nat) (some (7 : Nat))),
    some (AV.slice (4 : Nat) (0 : Nat) (n + (1 : Nat)) none),
    some (AV.int IntKind.i64 (IntKind.wrap IntKind.i64 (i + (1 : Int))))]
  { nx := (5 : Nat),
    m :=
      [((4 : Nat), AObj.opn (5 : Nat) (1 : Nat) (cs ++ [AV.int IntKind.u8 (247 : Int)])),
        ((3 : Nat), AObj.cells (5 : Nat) [AV.int IntKind.u8 (247 : Int)]), ((2 : Nat), AObj.dead),
        ((1 : Nat),
          AObj.cells (3 : Nat)
            [AV.int IntKind.i64 (x (0 : Nat)), AV.int IntKind.i64 (x (1 : Nat)), AV.int IntKind.i64 (x (2 : Nat)),
              AV.int IntKind.i64 (x (3 : Nat)), AV.int IntKind.i64 (x (4 : Nat)), AV.int IntKind.i64 (x (5 : Nat)),
              AV.int IntKind.i64 (x (6 : Nat))])] })))))))))) ∧
  ((decide (i < (7 : Int))) = false →
    Q (Exit.exit (0 : Nat)) (39 : Nat)
  [some (AV.slice (1 : Nat) (0 : Nat) (7 : Nat) (some (7 : Nat))), some (AV.slice (2 : Nat) (0 : Nat) n none),
    some (AV.int IntKind.i64 i)]
  { nx := (3 : Nat),
    m :=
      [((2 : Nat), AObj.opn (5 : Nat) (1 : Nat) cs),
        ((1 : Nat),
          AObj.cells (3 : Nat)
            [AV.int IntKind.i64 (x (0 : Nat)), AV.int IntKind.i64 (x (1 : Nat)), AV.int IntKind.i64 (x (2 : Nat)),
              AV.int IntKind.i64 (x (3 : Nat)), AV.int IntKind.i64 (x (4 : Nat)), AV.int IntKind.i64 (x (5 : Nat)),
              AV.int IntKind.i64 (x (6 : Nat))])] })
def bsR_scr : Plan := .b (.t (.t (.t (.b (.t (.t (.t (.t (.z))))) (.b (.b (.k (.k (.k (.k (.b (.z) (.t (.t (.t (.t (.k (.t (.t (.t (.z)))))))))))))) (.t (.t (.t (.t (.k (.t (.t (.t (.z)))))))))) (.t (.t (.t (.t (.z)))))))))) (.z)
theorem bsR_vc (x : Nat → Int) (n : Nat) (cs : List AV) (i : Int) (N : NS) (Q : QS) (K : Unit) : (wpP XBr (symC Try.prog (bodyOf Try.prog 51) []) 0 (loopAt Try.prog 51 0) 0 (rndS [4, 5, 6] N Q) (byS x n cs i).1 (byS x n cs i).2 bsR_scr) = bsR_VC x n cs i N Q K := by kernel_rfl
end Go.Proofs.Ytnfelncgeihihaa.V
namespace Go.Proofs.Ytnfelncgeihihaa.V
open Go Go.Proofs
set_option maxRecDepth 100000
set_option maxHeartbeats 4000000
set_option linter.unusedSimpArgs false
set_option linter.unusedVariables false
def brT (x : Nat → Int) : Nat → AF × AH
  | 0 => by0 x
  | k + 1 => byS x (bts x (k + 1)).length (encI .u8 (bts x (k + 1))) ((k + 1 : Nat) : Int)
theorem fitB {x : Nat → Int} {j B m : Nat} {i : Int} {cs : List AV} {σ : AH} (hf : fitsB 0 3 [(1, 1), (B, 2)] = true) (hl : lookN [(1, 1), (B, 2)] B = some 2) (h1 : σ.get 1 = .cells 3 (sC x 7)) (h2 : σ.get B = .opn 5 1 cs) (hc : cs = encI .u8 (bts x (j + 1))) (hm : m = (bts x (j + 1)).length) (hi : i = ((j + 1 : Nat) : Int)) :
    FitsS 0 [(1, 1), (B, 2)] [4, 5, 6] 39 [some (.slice 1 0 7 (some 7)), some (.slice B 0 m none), some (.int .i64 i)] σ (brT x (j + 1)).1 (brT x (j + 1)).2 := by
  subst hc hm hi
  refine ⟨hf, ⟨?_, ?_, trivial⟩, rfl, ⟨rfl, ?_, rfl, trivial⟩⟩
  · show ObjRen _ (σ.get 1) _
    rw [h1]
    exact ⟨rfl, .inr ⟨rfl, rfl⟩⟩
  · show ObjRen _ (σ.get B) _
    rw [h2]
    exact ⟨rfl, rfl, .inr ⟨pfs_enc, rfl⟩⟩
  · show AV.ren (lookN [(1, 1), (B, 2)]) (.slice B 0 (bts x (j + 1)).length none) = some (.slice 2 0 (bts x (j + 1)).length none)
    simp only [AV.ren, hl]
theorem sC_get {x : Nat → Int} {j : Nat} (hj : j < 7) : List.getD [AV.int IntKind.i64 (x 0), AV.int IntKind.i64 (x 1), AV.int IntKind.i64 (x 2), AV.int IntKind.i64 (x 3), AV.int IntKind.i64 (x 4), AV.int IntKind.i64 (x 5), AV.int IntKind.i64 (x 6)] (0 + Int.toNat ((j : Nat) : Int) * 1) (AV.tup []) = .int .i64 (x j) := by
  match j, hj with
  | 0, _ | 1, _ | 2, _ | 3, _ | 4, _ | 5, _ | 6, _ => rfl
  | j + 7, h => omega
theorem br_wl {x : Nat → Int} (hx : ∀ i, 0 ≤ x i ∧ x i ≤ 1000) : WL Try.prog 0 (loopAt Try.prog 51 0) (fun e fr σ => e = .exit 0 ∧ fr = (brT x 7).1 ∧ σ = (brT x 7).2) (brT x 0).1 (brT x 0).2 := by
  refine loop_fam (X := XBr) XBr_ok (n0 := 0) (b := 0) (sy := symC Try.prog (bodyOf Try.prog 51) []) (by kernel_rfl) rfl [4, 5, 6] (ι := {i : Nat // i ≤ 7}) (fun i => brT x i.1) (fun i => 7 - i.1) _ (fun i => match i.1 with | 0 => b0R_scr | _ + 1 => bsR_scr)
    (fun i N Q => match i.1 with
      | 0 => b0R_VC x N Q ()
      | k + 1 => bsR_VC x (bts x (k + 1)).length (encI .u8 (bts x (k + 1))) ((k + 1 : Nat) : Int) N Q ()) ?_ ?_ ⟨0, Nat.zero_le _⟩
  · rintro ⟨i, hi⟩ N Q
    match i, hi with
    | 0, _ => exact b0R_vc x N Q ()
    | k + 1, _ => exact bsR_vc x (bts x (k + 1)).length (encI .u8 (bts x (k + 1))) ((k + 1 : Nat) : Int) N Q ()
  have u8b : ∀ z : Int, 0 ≤ z → z ≤ 255 → IntKind.u8.wrap z = z := fun z a b => by rw [u8w]; omega
  rintro ⟨i, hi⟩
  match i, hi with
  | 0, _ =>
    obtain ⟨x0, x1⟩ := hx 0
    show b0R_VC x _ _ ()
    have hb : bts x (0 + 1) = numB (x 0) := by simp [bts]
    unfold b0R_VC
    generalize hv : x 0 = v at x0 x1 hb
    have w1 : IntKind.u64.wrap v = v := u64w x0 (by omega)
    have td : Int.tdiv v 256 = v / 256 := Int.tdiv_eq_ediv_of_nonneg x0
    have tm : Int.tmod v 256 = v % 256 := Int.tmod_eq_emod_of_nonneg x0
    have w2 : IntKind.u64.wrap (v / 256) = v / 256 := u64w (by omega) (by omega)
    have td2 : Int.tdiv (v / 256) 256 = 0 := by rw [Int.tdiv_eq_ediv_of_nonneg (by omega)]; omega
    have tm2 : Int.tmod (v / 256) 256 = v / 256 := by rw [Int.tmod_eq_emod_of_nonneg (by omega)]; omega
    have w3 : IntKind.u64.wrap 0 = 0 := rfl
    rw [w1, td, tm, w2, td2, tm2, w3]
    have hs : ∀ σ : AH, σ.get 1 = .cells 3 [AV.int IntKind.i64 v, AV.int IntKind.i64 (x 1), AV.int IntKind.i64 (x 2), AV.int IntKind.i64 (x 3), AV.int IntKind.i64 (x 4), AV.int IntKind.i64 (x 5), AV.int IntKind.i64 (x 6)] → σ.get 1 = .cells 3 (sC x 7) := fun σ h => by rw [h, ← hv]; rfl
    by_cases a : v ≤ 247
    · have hn : numB v = [v] := by simp [numB, a]
      exact bothT (by simpa using a) ⟨⟨1, by omega⟩, [(1, 1), (3, 2)], (show 7 - 1 < 7 - 0 by omega), fitB rfl rfl (hs _ rfl) rfl (by rw [hb, hn, u8b v x0 (by omega)]; rfl) (by rw [hb, hn]; rfl) rfl⟩
    · refine bothF (by simpa using a) (bothT (by simp; omega) ?_)
      by_cases d : v ≤ 255
      · have hn : numB v = [248, v] := by simp [numB, a, d]
        exact bothF (by simp; omega) ⟨⟨1, by omega⟩, [(1, 1), (6, 2)], (show 7 - 1 < 7 - 0 by omega), fitB rfl rfl (hs _ rfl) rfl (by rw [hb, hn, show v % 256 = v by omega, u8b v x0 (by omega)]; rfl) (by rw [hb, hn]; rfl) rfl⟩
      · have hn : numB v = [249, v % 256, v / 256] := by simp [numB, a, d]
        exact bothT (by simp; omega) (bothF (by simp) ⟨⟨1, by omega⟩, [(1, 1), (8, 2)], (show 7 - 1 < 7 - 0 by omega), fitB rfl rfl (hs _ rfl) rfl (by rw [hb, hn, u8b (v % 256) (by omega) (by omega), u8b (v / 256) (by omega) (by omega)]; rfl) (by rw [hb, hn]; rfl) rfl⟩)
  | k + 1, hk =>
    show bsR_VC x (bts x (k + 1)).length (encI .u8 (bts x (k + 1))) ((k + 1 : Nat) : Int) _ _ ()
    have hlen := bts_len x (k + 1)
    have hpos : 0 < (bts x (k + 1)).length := by
      have := numB_len (x k)
      simp only [bts, List.length_append]; omega
    unfold bsR_VC
    by_cases h7 : k + 1 = 7
    · have e : k = 6 := by omega
      subst e
      refine bothF (by decide) ⟨[(1, 1), (2, 2)], _, _, fitB (j := 6) (x := x) rfl rfl rfl rfl rfl rfl rfl, rfl, rfl, rfl⟩
    refine bothT (by simp; omega) ?_
    rw [sC_get (by omega)]
    obtain ⟨x0, x1⟩ := hx (k + 1)
    have hb : bts x (k + 1 + 1) = bts x (k + 1) ++ numB (x (k + 1)) := rfl
    generalize x (k + 1) = v at x0 x1 hb ⊢
    repeat rw [toI_i]
    have w1 : IntKind.u64.wrap v = v := u64w x0 (by omega)
    have td : Int.tdiv v 256 = v / 256 := Int.tdiv_eq_ediv_of_nonneg x0
    have tm : Int.tmod v 256 = v % 256 := Int.tmod_eq_emod_of_nonneg x0
    have w2 : IntKind.u64.wrap (v / 256) = v / 256 := u64w (by omega) (by omega)
    have td2 : Int.tdiv (v / 256) 256 = 0 := by rw [Int.tdiv_eq_ediv_of_nonneg (by omega)]; omega
    have tm2 : Int.tmod (v / 256) 256 = v / 256 := by rw [Int.tmod_eq_emod_of_nonneg (by omega)]; omega
    have w3 : IntKind.u64.wrap 0 = 0 := rfl
    have wi : IntKind.i64.wrap (((k + 1 : Nat) : Int) + 1) = ((k + 1 + 1 : Nat) : Int) := by rw [wrap_in (by omega) (by omega)]; omega
    rw [w1, td, tm, w2, td2, tm2, w3, wi]
    refine ⟨by simp; omega, by simp; omega, rfl, ?_⟩
    have g1 : (bts x (k + 1)).length * 1 = (encI .u8 (bts x (k + 1))).length := by rw [enc_len]; omega
    by_cases a : v ≤ 247
    · have hn : numB v = [v] := by simp [numB, a]
      exact bothT (by simpa using a) ⟨by simpa using hpos, by simpa using g1, by simp; omega, by simp; omega, ⟨k + 2, by omega⟩, [(1, 1), (4, 2)], (show 7 - (k + 2) < 7 - (k + 1) by omega), fitB rfl rfl rfl rfl (by rw [hb, hn, u8b v x0 (by omega), enc_app]; rfl) (by rw [hb, hn]; simp) rfl⟩
    · refine bothF (by simpa using a) (bothT (by simp; omega) ?_)
      by_cases d : v ≤ 255
      · have hn : numB v = [248, v] := by simp [numB, a, d]
        exact bothF (by simp; omega) ⟨by simpa using hpos, by simpa using g1, by simp; omega, by simp; omega, by simp [enc_len], by simp; omega, by simp; omega, ⟨k + 2, by omega⟩, [(1, 1), (7, 2)], (show 7 - (k + 2) < 7 - (k + 1) by omega), fitB rfl rfl rfl rfl (by rw [hb, hn, show v % 256 = v by omega, u8b v x0 (by omega), enc_app, List.append_assoc]; rfl) (by rw [hb, hn]; simp) rfl⟩
      · have hn : numB v = [249, v % 256, v / 256] := by simp [numB, a, d]
        exact bothT (by simp; omega) (bothF (by simp) ⟨by simpa using hpos, by simpa using g1, by simp; omega, by simp; omega, by simp [enc_len], by simp; omega, by simp; omega, ⟨k + 2, by omega⟩, [(1, 1), (9, 2)], (show 7 - (k + 2) < 7 - (k + 1) by omega), fitB rfl rfl rfl rfl (by rw [hb, hn, u8b (v % 256) (by omega) (by omega), u8b (v / 256) (by omega) (by omega), enc_app, List.append_assoc]; rfl) (by rw [hb, hn]; simp) rfl⟩)
def LBr (x : Nat → Int) (n : Nat) (cs : List AV) : LTr := fun n0 fr σ s K => need (n0 = 0) ∧ need (Fits 0 [(1, 1)] fr σ (by0 x).1 (by0 x).2) ∧ need ((∀ i, 0 ≤ x i ∧ x i ≤ 1000) ∧ n = (bts x 7).length ∧ cs = encI .u8 (bts x 7)) ∧ K (.exit 0) (byS x n cs 7).1 (byS x n cs 7).2 s
theorem LBr_ok (x : Nat → Int) (n : Nat) (cs : List AV) : LOk Try.prog (loopAt Try.prog 51 0) (LBr x n cs) := by
  rintro n0 fr σ s Q ⟨h0, hf, ⟨hx, h1, h2⟩, hq⟩
  cases (h0 : n0 = 0)
  subst h1 h2
  intro E a w hE hs
  refine (WL.less (br_wl hx) ?_) E a w hE (Fits.refines hf E hE a w hs)
  rintro e fr σ ⟨rfl, rfl, rfl⟩
  exact ⟨_, _, fun E _ a w h => h, s, hq⟩
theorem LBr_loops : loopsOf (bodyOf Try.prog 51) 0 = [(0, loopAt Try.prog 51 0)] := by kernel_rfl
noncomputable def XBy2 (x : Nat → Int) (n : Nat) (cs : List AV) : Cx := ⟨Try.prog, purT purTp, purO purTp, purTp.map (·.1), 20, lookL [(0, LBr x n cs)]⟩
theorem XBy2_ok (x : Nat → Int) (n : Nat) (cs : List AV) : CxOk (XBy2 x n cs) := ⟨purT_ok purTp_ok, purO_ok purTp_ok, mixed⟩
end Go.Proofs.Ytnfelncgeihihaa.V
namespace Go.Proofs.Ytnfelncgeihihaa.V
open Go Go.Proofs
set_option maxRecDepth 100000
set_option linter.unusedVariables false
def rby_VC (x : Nat → Int) (n : Nat) (cs : List AV) (K : AV → AH → Prop) : Prop :=
  ((!decide
    ((if
          okF (x (0 : Nat)) (x (1 : Nat)) (x (2 : Nat)) (x (3 : Nat)) (x (4 : Nat)) (x (5 : Nat)) (x (6 : Nat)) =
            true then
        (0 : Int)
      else (2 : Int)) =
      (0 : Int))) = true →
    K (AV.tup [AV.nilslice, AV.int IntKind.i64 (2 : Int)])
  { nx := (1 : Nat),
    m :=
      [((0 : Nat),
          AObj.cells (23 : Nat)
            [AV.int IntKind.i64 (x (0 : Nat)), AV.int IntKind.i64 (x (1 : Nat)), AV.int IntKind.i64 (x (2 : Nat)),
              AV.int IntKind.i64 (x (3 : Nat)), AV.int IntKind.i64 (x (4 : Nat)), AV.int IntKind.i64 (x (5 : Nat)),
              AV.int IntKind.i64 (x (6 : Nat))])] }) ∧
  ((!decide
    ((if
          okF (x (0 : Nat)) (x (1 : Nat)) (x (2 : Nat)) (x (3 : Nat)) (x (4 : Nat)) (x (5 : Nat)) (x (6 : Nat)) =
            true then
        (0 : Int)
      else (2 : Int)) =
      (0 : Int))) = false →
    need ((0 : Nat) = (0 : Nat)) ∧
    (need (Fits (0 : Nat) [((1 : Nat), (1 : Nat))]
  { n := (39 : Nat),
    l :=
      [((6 : Nat), AV.int IntKind.i64 (0 : Int)), ((5 : Nat), AV.nilslice),
        ((4 : Nat), AV.slice (1 : Nat) (0 : Nat) (7 : Nat) (some (7 : Nat))),
        ((24 : Nat), AV.slice (1 : Nat) (0 : Nat) (7 : Nat) (some (7 : Nat))),
        ((23 : Nat), AV.int IntKind.i64 (x (6 : Nat))), ((22 : Nat), AV.ptr (0 : Nat) (6 : Nat)),
        ((21 : Nat), AV.int IntKind.i64 (x (5 : Nat))), ((20 : Nat), AV.ptr (0 : Nat) (5 : Nat)),
        ((19 : Nat), AV.int IntKind.i64 (x (4 : Nat))), ((18 : Nat), AV.ptr (0 : Nat) (4 : Nat)),
        ((17 : Nat), AV.int IntKind.i64 (x (3 : Nat))), ((16 : Nat), AV.ptr (0 : Nat) (3 : Nat)),
        ((15 : Nat), AV.int IntKind.i64 (x (2 : Nat))), ((14 : Nat), AV.ptr (0 : Nat) (2 : Nat)),
        ((13 : Nat), AV.int IntKind.i64 (x (1 : Nat))), ((12 : Nat), AV.ptr (0 : Nat) (1 : Nat)),
        ((11 : Nat), AV.int IntKind.i64 (x (0 : Nat))), ((10 : Nat), AV.ptr (0 : Nat) (0 : Nat)),
        ((9 : Nat),
          AV.bool
            !decide
                ((if
                      okF (x (0 : Nat)) (x (1 : Nat)) (x (2 : Nat)) (x (3 : Nat)) (x (4 : Nat)) (x (5 : Nat))
                          (x (6 : Nat)) =
                        true then
                    (0 : Int)
                  else (2 : Int)) =
                  (0 : Int))),
        ((8 : Nat),
          AV.int IntKind.i64
            (if
                okF (x (0 : Nat)) (x (1 : Nat)) (x (2 : Nat)) (x (3 : Nat)) (x (4 : Nat)) (x (5 : Nat)) (x (6 : Nat)) =
                  true then
              (0 : Int)
            else (2 : Int))),
        ((7 : Nat),
          AV.agg
            [AV.int IntKind.i64 (x (0 : Nat)), AV.int IntKind.i64 (x (1 : Nat)), AV.int IntKind.i64 (x (2 : Nat)),
              AV.int IntKind.i64 (x (3 : Nat)), AV.int IntKind.i64 (x (4 : Nat)), AV.int IntKind.i64 (x (5 : Nat)),
              AV.int IntKind.i64 (x (6 : Nat))]),
        ((3 : Nat), AV.int IntKind.i64 (0 : Int)), ((2 : Nat), AV.nilslice), ((1 : Nat), AV.ptr (0 : Nat) (0 : Nat)),
        ((0 : Nat),
          AV.agg
            [AV.int IntKind.i64 (x (0 : Nat)), AV.int IntKind.i64 (x (1 : Nat)), AV.int IntKind.i64 (x (2 : Nat)),
              AV.int IntKind.i64 (x (3 : Nat)), AV.int IntKind.i64 (x (4 : Nat)), AV.int IntKind.i64 (x (5 : Nat)),
              AV.int IntKind.i64 (x (6 : Nat))])] }
  { nx := (2 : Nat),
    m :=
      [((1 : Nat),
          AObj.cells (3 : Nat)
            [AV.int IntKind.i64 (x (0 : Nat)), AV.int IntKind.i64 (x (1 : Nat)), AV.int IntKind.i64 (x (2 : Nat)),
              AV.int IntKind.i64 (x (3 : Nat)), AV.int IntKind.i64 (x (4 : Nat)), AV.int IntKind.i64 (x (5 : Nat)),
              AV.int IntKind.i64 (x (6 : Nat))]),
        ((0 : Nat),
          AObj.cells (23 : Nat)
            [AV.int IntKind.i64 (x (0 : Nat)), AV.int IntKind.i64 (x (1 : Nat)), AV.int IntKind.i64 (x (2 : Nat)),
              AV.int IntKind.i64 (x (3 : Nat)), AV.int IntKind.i64 (x (4 : Nat)), AV.int IntKind.i64 (x (5 : Nat)),
              AV.int IntKind.i64 (x (6 : Nat))])] }
  { n := (39 : Nat),
    l :=
      [((4 : Nat), AV.slice (1 : Nat) (0 : Nat) (7 : Nat) (some (7 : Nat))), ((5 : Nat), AV.nilslice),
        ((6 : Nat), AV.int IntKind.i64 (0 : Int))] }
  { nx := (2 : Nat),
    m :=
      [((1 : Nat),
          AObj.cells (3 : Nat)
            [AV.int IntKind.i64 (x (0 : Nat)), AV.int IntKind.i64 (x (1 : Nat)), AV.int IntKind.i64 (x (2 : Nat)),
              AV.int IntKind.i64 (x (3 : Nat)), AV.int IntKind.i64 (x (4 : Nat)), AV.int IntKind.i64 (x (5 : Nat)),
              AV.int IntKind.i64 (x (6 : Nat))])] }) ∧
    (need ((∀ (i : Nat), (0 : Int) ≤ x i ∧ x i ≤ (1000 : Int)) ∧
  n = List.length (bts x (7 : Nat)) ∧ cs = encI IntKind.u8 (bts x (7 : Nat))) ∧
    (K (AV.tup [AV.slice (2 : Nat) (0 : Nat) n none, AV.int IntKind.i64 (0 : Int)])
  { nx := (3 : Nat),
    m :=
      [((2 : Nat), AObj.opn (5 : Nat) (1 : Nat) cs),
        ((1 : Nat),
          AObj.cells (3 : Nat)
            [AV.int IntKind.i64 (x (0 : Nat)), AV.int IntKind.i64 (x (1 : Nat)), AV.int IntKind.i64 (x (2 : Nat)),
              AV.int IntKind.i64 (x (3 : Nat)), AV.int IntKind.i64 (x (4 : Nat)), AV.int IntKind.i64 (x (5 : Nat)),
              AV.int IntKind.i64 (x (6 : Nat))])] }))))
def rby_scr : Plan := .b (.z) (.z)
theorem rby_vc (x : Nat → Int) (n : Nat) (cs : List AV) (K : AV → AH → Prop) : (funP (XBy2 x n cs) 51 [.agg [.int .i64 (x 0), .int .i64 (x 1), .int .i64 (x 2), .int .i64 (x 3), .int .i64 (x 4), .int .i64 (x 5), .int .i64 (x 6)]] ⟨0, []⟩ rby_scr (fun v σ _ => K v σ)) = rby_VC x n cs K := by kernel_rfl
end Go.Proofs.Ytnfelncgeihihaa.V
namespace Go.Proofs.Ytnfelncgeihihaa.V
open Go Go.Proofs
set_option maxRecDepth 100000
set_option linter.unusedVariables false
def rTim_VC (L C T R F W U f l c : Int) (K : AV → Prop) : Prop :=
  ((!!decide ((if okF L C T R F W U = true then (0 : Int) else (2 : Int)) = (0 : Int))) = true →
    (!!decide ((if okF L C T R F W U = true then (0 : Int) else (2 : Int)) = (0 : Int))) = true ∧
    ((!!decide ((if okF L C T R F W U = true then (0 : Int) else (2 : Int)) = (0 : Int))) = true ∧
    ((!decide ((if okF L C T R F W U = true then (0 : Int) else (2 : Int)) = (0 : Int))) = false ∧
    (((!decide (f < (0 : Int))) = true →
      (!decide (f < (0 : Int))) = true ∧
      ((!decide (f < (0 : Int))) = true ∧
      ((decide (f < (0 : Int))) = false ∧
      (((!decide (f > (1099511627776 : Int))) = true →
        (!decide (f > (1099511627776 : Int))) = true ∧
        ((!decide (f > (1099511627776 : Int))) = true ∧
        ((decide (f > (1099511627776 : Int))) = false ∧
        (((!decide (l < (0 : Int))) = true →
          (!decide (l < (0 : Int))) = true ∧
          ((!decide (l < (0 : Int))) = true ∧
          ((!decide (l < (0 : Int))) = true ∧
          ((!decide (l < (0 : Int))) = true ∧
          ((decide (l < (0 : Int))) = false ∧
          (((!decide (l ≥ L)) = true →
            (!decide (l ≥ L)) = true ∧
            ((!decide (l ≥ L)) = true ∧
            ((decide (l ≥ L)) = false ∧
            (((!decide (c < (0 : Int))) = true →
              (!decide (c < (0 : Int))) = true ∧
              ((!decide (c < (0 : Int))) = true ∧
              ((!decide (c < (0 : Int))) = true ∧
              ((!decide (c < (0 : Int))) = true ∧
              ((decide (c < (0 : Int))) = false ∧
              (((decide (c ≥ C)) = true →
                K (AV.tup [AV.int IntKind.i64 (0 : Int), AV.int IntKind.i64 (2 : Int)])) ∧
              ((decide (c ≥ C)) = false →
                ((!mayB
    (IntKind.wrap IntKind.i64
      (IntKind.wrap IntKind.i64 (f * lenF L C T R F W U) +
        IntKind.wrap IntKind.i64 (IntKind.wrap IntKind.i64 (l * C) + c)))) = true →
                  K (AV.tup [AV.int IntKind.i64 (0 : Int), AV.int IntKind.i64 (2 : Int)])) ∧
                ((!mayB
    (IntKind.wrap IntKind.i64
      (IntKind.wrap IntKind.i64 (f * lenF L C T R F W U) +
        IntKind.wrap IntKind.i64 (IntKind.wrap IntKind.i64 (l * C) + c)))) = false →
                  K
  (AV.tup
    [AV.int IntKind.i64
        (IntKind.wrap IntKind.i64
          (IntKind.wrap IntKind.i64 (f * lenF L C T R F W U) +
            IntKind.wrap IntKind.i64 (IntKind.wrap IntKind.i64 (l * C) + c))),
      AV.int IntKind.i64 (0 : Int)]))))))))) ∧
            ((!decide (c < (0 : Int))) = false →
              (!decide (c < (0 : Int))) = false ∧
              ((!decide (c < (0 : Int))) = false ∧
              ((!decide (c < (0 : Int))) = false ∧
              ((!decide (c < (0 : Int))) = false ∧
              ((decide (c < (0 : Int))) = true ∧
              (K (AV.tup [AV.int IntKind.i64 (0 : Int), AV.int IntKind.i64 (2 : Int)]))))))))))) ∧
          ((!decide (l ≥ L)) = false →
            (!decide (l ≥ L)) = false ∧
            ((!decide (l ≥ L)) = false ∧
            ((decide (l ≥ L)) = true ∧
            (K (AV.tup [AV.int IntKind.i64 (0 : Int), AV.int IntKind.i64 (2 : Int)]))))))))))) ∧
        ((!decide (l < (0 : Int))) = false →
          (!decide (l < (0 : Int))) = false ∧
          ((!decide (l < (0 : Int))) = false ∧
          ((!decide (l < (0 : Int))) = false ∧
          ((!decide (l < (0 : Int))) = false ∧
          ((decide (l < (0 : Int))) = true ∧
          (K (AV.tup [AV.int IntKind.i64 (0 : Int), AV.int IntKind.i64 (2 : Int)]))))))))))) ∧
      ((!decide (f > (1099511627776 : Int))) = false →
        (!decide (f > (1099511627776 : Int))) = false ∧
        ((!decide (f > (1099511627776 : Int))) = false ∧
        ((decide (f > (1099511627776 : Int))) = true ∧
        (K (AV.tup [AV.int IntKind.i64 (0 : Int), AV.int IntKind.i64 (2 : Int)]))))))))) ∧
    ((!decide (f < (0 : Int))) = false →
      (!decide (f < (0 : Int))) = false ∧
      ((!decide (f < (0 : Int))) = false ∧
      ((decide (f < (0 : Int))) = true ∧
      (K (AV.tup [AV.int IntKind.i64 (0 : Int), AV.int IntKind.i64 (2 : Int)]))))))))) ∧
  ((!!decide ((if okF L C T R F W U = true then (0 : Int) else (2 : Int)) = (0 : Int))) = false →
    (!!decide ((if okF L C T R F W U = true then (0 : Int) else (2 : Int)) = (0 : Int))) = false ∧
    ((!!decide ((if okF L C T R F W U = true then (0 : Int) else (2 : Int)) = (0 : Int))) = false ∧
    ((!decide ((if okF L C T R F W U = true then (0 : Int) else (2 : Int)) = (0 : Int))) = true ∧
    (K (AV.tup [AV.int IntKind.i64 (0 : Int), AV.int IntKind.i64 (2 : Int)])))))
def rTim_scr : Plan := .b (.t (.t (.f (.b (.t (.t (.f (.b (.t (.t (.f (.b (.t (.t (.t (.t (.f (.b (.t (.t (.f (.b (.t (.t (.t (.t (.f (.b (.z) (.b (.z) (.z)))))))) (.f (.f (.f (.f (.t (.z)))))))))) (.f (.f (.t (.z)))))))))) (.f (.f (.f (.f (.t (.z)))))))))) (.f (.f (.t (.z)))))))) (.f (.f (.t (.z)))))))) (.f (.f (.t (.z))))
theorem rTim_vc (L C T R F W U f l c : Int) (K : AV → Prop) : (funP (XTp) 49 [.agg [.int .i64 L, .int .i64 C, .int .i64 T, .int .i64 R, .int .i64 F, .int .i64 W, .int .i64 U], .agg [.int .i64 f, .int .i64 l, .int .i64 c]] h0 rTim_scr (fun v _ _ => K v)) = rTim_VC L C T R F W U f l c K := by kernel_rfl
def rNxt_VC (L C T R F W U t : Int) (K : AV → Prop) : Prop :=
  ((!!decide ((if okF L C T R F W U = true then (0 : Int) else (2 : Int)) = (0 : Int))) = true →
    (!!decide ((if okF L C T R F W U = true then (0 : Int) else (2 : Int)) = (0 : Int))) = true ∧
    ((!decide ((if okF L C T R F W U = true then (0 : Int) else (2 : Int)) = (0 : Int))) = false ∧
    (((decide (t ≥ (1099511627776 : Int))) = true →
      K (AV.tup [AV.int IntKind.i64 (0 : Int), AV.bool false])) ∧
    ((decide (t ≥ (1099511627776 : Int))) = false →
      ((decide (t < (0 : Int))) = true →
        K (AV.tup [AV.int IntKind.i64 (0 : Int), AV.bool true])) ∧
      ((decide (t < (0 : Int))) = false →
        (!decide (lenF L C T R F W U = (0 : Int))) = true ∧
        (((!mayB
    (IntKind.wrap IntKind.i64
      (IntKind.wrap IntKind.i64 (IntKind.wrap IntKind.i64 (Int.tdiv t (lenF L C T R F W U)) + (1 : Int)) *
        lenF L C T R F W U))) = true →
          K (AV.tup [AV.int IntKind.i64 (0 : Int), AV.bool false])) ∧
        ((!mayB
    (IntKind.wrap IntKind.i64
      (IntKind.wrap IntKind.i64 (IntKind.wrap IntKind.i64 (Int.tdiv t (lenF L C T R F W U)) + (1 : Int)) *
        lenF L C T R F W U))) = false →
          K
  (AV.tup
    [AV.int IntKind.i64
        (IntKind.wrap IntKind.i64
          (IntKind.wrap IntKind.i64 (IntKind.wrap IntKind.i64 (Int.tdiv t (lenF L C T R F W U)) + (1 : Int)) *
            lenF L C T R F W U)),
      AV.bool true])))))))) ∧
  ((!!decide ((if okF L C T R F W U = true then (0 : Int) else (2 : Int)) = (0 : Int))) = false →
    (!!decide ((if okF L C T R F W U = true then (0 : Int) else (2 : Int)) = (0 : Int))) = false ∧
    ((!decide ((if okF L C T R F W U = true then (0 : Int) else (2 : Int)) = (0 : Int))) = true ∧
    (K (AV.tup [AV.int IntKind.i64 (0 : Int), AV.bool false]))))
def rNxt_scr : Plan := .b (.t (.f (.b (.z) (.b (.z) (.t (.b (.z) (.z))))))) (.f (.t (.z)))
theorem rNxt_vc (L C T R F W U t : Int) (K : AV → Prop) : (funP (XTp) 50 [.agg [.int .i64 L, .int .i64 C, .int .i64 T, .int .i64 R, .int .i64 F, .int .i64 W, .int .i64 U], .int .i64 t] h0 rNxt_scr (fun v _ _ => K v)) = rNxt_VC L C T R F W U t K := by kernel_rfl
def rPul_VC (L C T R F W U t : Int) (K : AV → Prop) : Prop :=
  ((decide ((if okF L C T R F W U = true then (0 : Int) else (2 : Int)) = (0 : Int))) = true →
    (decide ((if okF L C T R F W U = true then (0 : Int) else (2 : Int)) = (0 : Int))) = true ∧
    ((decide ((if okF L C T R F W U = true then (0 : Int) else (2 : Int)) = (0 : Int))) = true ∧
    (((mayB t) = true →
      (mayB t) = true ∧
      ((mayB t) = true ∧
      ((mayB t) = true ∧
      ((!decide (lenF L C T R F W U = (0 : Int))) = true ∧
      ((mayB t) = true ∧
      ((mayB t) = true ∧
      ((mayB t) = true ∧
      ((mayB t) = true ∧
      (K (AV.bool (decide (Int.tmod t (lenF L C T R F W U) < U)))))))))))) ∧
    ((mayB t) = false →
      (mayB t) = false ∧
      ((mayB t) = false ∧
      ((mayB t) = false ∧
      ((mayB t) = false ∧
      ((mayB t) = false ∧
      ((mayB t) = false ∧
      ((mayB t) = false ∧
      (K (AV.bool false)))))))))))) ∧
  ((decide ((if okF L C T R F W U = true then (0 : Int) else (2 : Int)) = (0 : Int))) = false →
    (decide ((if okF L C T R F W U = true then (0 : Int) else (2 : Int)) = (0 : Int))) = false ∧
    ((decide ((if okF L C T R F W U = true then (0 : Int) else (2 : Int)) = (0 : Int))) = false ∧
    (K (AV.bool false))))
def rPul_scr : Plan := .b (.t (.t (.b (.t (.t (.t (.t (.t (.t (.t (.t (.z))))))))) (.f (.f (.f (.f (.f (.f (.f (.z))))))))))) (.f (.f (.z)))
theorem rPul_vc (L C T R F W U t : Int) (K : AV → Prop) : (funP (XTp) 54 [.agg [.int .i64 L, .int .i64 C, .int .i64 T, .int .i64 R, .int .i64 F, .int .i64 W, .int .i64 U], .int .i64 t] h0 rPul_scr (fun v _ _ => K v)) = rPul_VC L C T R F W U t K := by kernel_rfl
def rBel_VC (L C T R F W U t : Int) (K : AV → Prop) : Prop :=
  ((decide (t ≤ (0 : Int))) = true →
    K (AV.int IntKind.i64 (0 : Int))) ∧
  ((decide (t ≤ (0 : Int))) = false →
    (!decide (lenF L C T R F W U = (0 : Int))) = true ∧
    ((!decide (lenF L C T R F W U = (0 : Int))) = true ∧
    (K
  (AV.int IntKind.i64
    (IntKind.wrap IntKind.i64
      (IntKind.wrap IntKind.i64
          (IntKind.wrap IntKind.i64
              (Int.tdiv (if (1099511627777 : Int) < t then (1099511627777 : Int) else t) (lenF L C T R F W U)) *
            U) +
        if U < Int.tmod (if (1099511627777 : Int) < t then (1099511627777 : Int) else t) (lenF L C T R F W U) then U
        else Int.tmod (if (1099511627777 : Int) < t then (1099511627777 : Int) else t) (lenF L C T R F W U)))))))
def rBel_scr : Plan := .b (.z) (.t (.t (.z)))
theorem rBel_vc (L C T R F W U t : Int) (K : AV → Prop) : (funP (XTp) 83 [.agg [.int .i64 L, .int .i64 C, .int .i64 T, .int .i64 R, .int .i64 F, .int .i64 W, .int .i64 U], .int .i64 t] h0 rBel_scr (fun v _ _ => K v)) = rBel_VC L C T R F W U t K := by kernel_rfl
end Go.Proofs.Ytnfelncgeihihaa.V
namespace Go.Proofs.Ytnfelncgeihihaa.V
open Go Go.Proofs
set_option maxRecDepth 100000
set_option maxHeartbeats 4000000
set_option linter.unusedSimpArgs false
set_option linter.unusedVariables false
theorem rTim_ok (L C T R F W U f l c : Int) : rTim_VC L C T R F W U f l c (fun v => v = .tup [.int .i64 (tmT L C T R F W U f l c), .int .i64 (tmE L C T R F W U f l c)]) := by
  have yes : ∀ {v : AV}, tmN L C T R F W U f l c → v = .tup [.int .i64 0, .int .i64 2] → v = .tup [.int .i64 (tmT L C T R F W U f l c), .int .i64 (tmE L C T R F W U f l c)] := by
    intro v h e; unfold tmT tmE; rw [if_pos h, if_pos h, e]
  generalize hT : tmT L C T R F W U f l c = tT at yes ⊢
  generalize hE : tmE L C T R F W U f l c = tE at yes ⊢
  unfold rTim_VC
  by_cases hk : ¬ okF L C T R F W U = true
  · have q := yes (v := .tup [.int .i64 0, .int .i64 2]) (by unfold tmN lenF; rw [if_neg hk]; simp) rfl
    simp only [hk]
    simp at q ⊢
    exact q
  have hk : okF L C T R F W U = true := Classical.not_not.1 hk
  have hz := okF_sz hk
  have hb := okF_bd hk
  have hlen : lenF L C T R F W U = L * C := by simp [lenF, hk]
  by_cases h2 : f < 0
  · have q := yes (v := .tup [.int .i64 0, .int .i64 2]) (by unfold tmN; simp [h2]) rfl
    simp at q
    obtain ⟨rfl, rfl⟩ := q
    simp [hk, h2]
  by_cases h3 : f > 1099511627776
  · have q := yes (v := .tup [.int .i64 0, .int .i64 2]) (by unfold tmN; simp [h3]) rfl
    simp at q
    obtain ⟨rfl, rfl⟩ := q
    simp [hk, h2, h3]
  by_cases h4 : l < 0
  · have q := yes (v := .tup [.int .i64 0, .int .i64 2]) (by unfold tmN; simp [h4]) rfl
    simp at q
    obtain ⟨rfl, rfl⟩ := q
    simp [hk, h2, h3, h4]
  by_cases h5 : l ≥ L
  · have q := yes (v := .tup [.int .i64 0, .int .i64 2]) (by unfold tmN; simp [h5]) rfl
    simp at q
    obtain ⟨rfl, rfl⟩ := q
    simp [hk, h2, h3, h4, h5]
  by_cases h6 : c < 0
  · have q := yes (v := .tup [.int .i64 0, .int .i64 2]) (by unfold tmN; simp [h6]) rfl
    simp at q
    obtain ⟨rfl, rfl⟩ := q
    simp [hk, h2, h3, h4, h5, h6]
  by_cases h7 : c ≥ C
  · have q := yes (v := .tup [.int .i64 0, .int .i64 2]) (by unfold tmN; simp [h7]) rfl
    simp at q
    obtain ⟨rfl, rfl⟩ := q
    simp [hk, h2, h3, h4, h5, h6, h7]
  have a0 : 0 ≤ f * (L * C) := Int.mul_nonneg (by omega) (by omega)
  have a1 : f * (L * C) ≤ 1099511627776 * 160000 := Int.mul_le_mul (by omega) (by omega) (by omega) (by omega)
  have b0 : 0 ≤ l * C := Int.mul_nonneg (by omega) (by omega)
  have b1 : l * C ≤ 400 * 400 := Int.mul_le_mul (by omega) (by omega) (by omega) (by omega)
  have w1 : IntKind.i64.wrap (f * (L * C)) = f * (L * C) := wrap_in (by omega) (by omega)
  have w2 : IntKind.i64.wrap (l * C) = l * C := wrap_in (by omega) (by omega)
  have w3 : IntKind.i64.wrap (l * C + c) = l * C + c := wrap_in (by omega) (by omega)
  have w4 : IntKind.i64.wrap (f * (L * C) + (l * C + c)) = f * (L * C) + (l * C + c) := wrap_in (by omega) (by omega)
  have w5 : IntKind.i64.wrap (f * (L * C) + l * C) = f * (L * C) + l * C := wrap_in (by omega) (by omega)
  have w6 : IntKind.i64.wrap (f * (L * C) + l * C + c) = f * (L * C) + l * C + c := wrap_in (by omega) (by omega)
  have e6 : f * (L * C) + (l * C + c) = f * (L * C) + l * C + c := by omega
  rw [hlen, w1, w2, w3, w4, e6]
  by_cases h8 : mayB (f * (L * C) + l * C + c) = false
  · have q := yes (v := .tup [.int .i64 0, .int .i64 2]) (by unfold tmN; rw [hlen, w1, w2, w5, w6]; simp [h8]) rfl
    simp at q
    obtain ⟨rfl, rfl⟩ := q
    simp [hk, h2, h3, h4, h5, h6, h7, h8]
  · have h9 : mayB (f * (L * C) + l * C + c) = true := by simpa using h8
    obtain ⟨m0, m1⟩ := mayB_true h9
    have hn : ¬ tmN L C T R F W U f l c := by
      unfold tmN
      rw [hlen, w1, w2, w5, w6]
      have w7 : IntKind.i64.wrap (Int.tdiv 1099511627776 (L * C)) = 1099511627776 / (L * C) := by
        have d3 : (0 : Int) ≤ 1099511627776 / (L * C) := Int.ediv_nonneg (by omega) (by omega)
        have d2 : (1099511627776 : Int) / (L * C) ≤ 1099511627776 := Int.ediv_le_self _ (by omega)
        rw [Int.tdiv_eq_ediv_of_nonneg (by omega)]; exact wrap_in (by omega) (by omega)
      have d : f ≤ 1099511627776 / (L * C) := Int.le_ediv_of_mul_le (by omega) (by omega)
      rw [w7]
      simp [h2, h3, h4, h5, h6, h7, h8]
      omega
    have q : tT = f * (L * C) + l * C + c ∧ tE = 0 := by
      rw [← hT, ← hE]; unfold tmT tmE; rw [if_neg hn, if_neg hn, hlen, w1, w2, w5, w6]; exact ⟨rfl, rfl⟩
    simp [hk, h2, h3, h4, h5, h6, h7, h8, h9, q.1, q.2]
theorem rtim_tr : TrOk Try.prog 49 (pureT timF) := by
  refine pureT_ok ?_
  intro xs v h
  unfold timF at h
  split at h
  · cases h; exact ⟨rfl, rfl, sc_of_vc XTp_ok (by kernel_rfl) (rTim_vc _ _ _ _ _ _ _ _ _ _ _) (rTim_ok _ _ _ _ _ _ _ _ _ _)⟩
  · cases h
/-- When the next frame begins; whether it does. -/
def nxV (L C T R F W U t : Int) : Int := if lenF L C T R F W U = 0 ∨ 1099511627776 ≤ t then 0 else if t < 0 then 0 else if 1099511627776 < (t.tdiv (lenF L C T R F W U) + 1) * lenF L C T R F W U then 0 else (t.tdiv (lenF L C T R F W U) + 1) * lenF L C T R F W U
def nxB (L C T R F W U t : Int) : Bool := if lenF L C T R F W U = 0 ∨ 1099511627776 ≤ t then false else if t < 0 then true else if 1099511627776 < (t.tdiv (lenF L C T R F W U) + 1) * lenF L C T R F W U then false else true
theorem nextA_eq (L C T R F W U t : Int) : nextA L C T R F W U t = .tup [.int .i64 (nxV L C T R F W U t), .bool (nxB L C T R F W U t)] := by
  unfold nextA nxV nxB
  by_cases h1 : lenF L C T R F W U = 0 ∨ 1099511627776 ≤ t
  · simp only [if_pos h1]
  · by_cases h2 : t < 0
    · simp only [if_neg h1, if_pos h2]
    · by_cases h3 : 1099511627776 < (t.tdiv (lenF L C T R F W U) + 1) * lenF L C T R F W U
      · simp only [if_neg h1, if_neg h2, if_pos h3]
      · simp only [if_neg h1, if_neg h2, if_neg h3]
def next3F : List AV → Option AV
  | [.agg [.int .i64 L, .int .i64 C, .int .i64 T, .int .i64 R, .int .i64 F, .int .i64 W, .int .i64 U], .int .i64 t] => some (.tup [.int .i64 (nxV L C T R F W U t), .bool (nxB L C T R F W U t)])
  | _ => none
theorem next3_tr : TrOk Try.prog 23 (pureT next3F) := pureT_congr (tr_of_good good_pulses rfl) (F := nextF) (fun xs v h => by
  unfold next3F at h
  split at h
  · cases h
    rw [← nextA_eq]; rfl
  · cases h)
theorem rNxt_ok (L C T R F W U t : Int) : rNxt_VC L C T R F W U t (fun v => v = .tup [.int .i64 (nxV L C T R F W U t), .bool (nxB L C T R F W U t)]) := by
  unfold rNxt_VC
  have hc := lenF_cases L C T R F W U
  rcases hc with h | ⟨hk, h2, h3, h4⟩
  · have hk : okF L C T R F W U = false := by
      rw [Bool.eq_false_iff]; intro q
      have := okF_sz q
      simp [lenF, q] at h
      omega
    simp [hk, nxV, nxB, h]
  · unfold nxV nxB
    generalize hl : lenF L C T R F W U = m at h2 h3 h4 ⊢
    have n0 : m ≠ 0 := by omega
    by_cases h5 : 1099511627776 ≤ t
    · simp [hk, n0, h5]
    · by_cases h6 : t < 0
      · simp [hk, n0, h5, h6]
      · have d1 := tdiv_bd (a := t) (by omega) (b := m) (by omega)
        have d2 := tmod_bd (a := t) (by omega) (b := m) (by omega)
        have d3 := tdiv_tmod t m
        have d4 : (t.tdiv m + 1) * m = t.tdiv m * m + m := by rw [Int.add_mul]; omega
        have e1 : IntKind.i64.wrap (t.tdiv m) = t.tdiv m := wrap_in (by omega) (by omega)
        have e2 : IntKind.i64.wrap (t.tdiv m + 1) = t.tdiv m + 1 := wrap_in (by omega) (by omega)
        have e3 : IntKind.i64.wrap ((t.tdiv m + 1) * m) = (t.tdiv m + 1) * m := wrap_in (by omega) (by omega)
        rw [e1, e2, e3]
        by_cases h7 : 1099511627776 < (t.tdiv m + 1) * m
        · have h8 : mayB ((t.tdiv m + 1) * m) = false := by simp [mayB]; omega
          simp [hk, n0, h5, h6, h7, h8]
        · have h8 : mayB ((t.tdiv m + 1) * m) = true := by simp [mayB]; omega
          simp [hk, n0, h5, h6, h7, h8]
theorem rnext_tr : TrOk Try.prog 50 (pureT next3F) := by
  refine pureT_ok ?_
  intro xs v h
  unfold next3F at h
  split at h
  · cases h; exact ⟨rfl, rfl, sc_of_vc XTp_ok (by kernel_rfl) (rNxt_vc _ _ _ _ _ _ _ _ _) (rNxt_ok _ _ _ _ _ _ _ _)⟩
  · cases h
theorem rPul_ok (L C T R F W U t : Int) : rPul_VC L C T R F W U t (fun v => v = .bool (pulseB L C T R F W U t)) := by
  unfold rPul_VC pulseB
  have hc := lenF_cases L C T R F W U
  rcases hc with h | ⟨hk, h2, h3, h4⟩
  · have hk : okF L C T R F W U = false := by
      rw [Bool.eq_false_iff]; intro q
      have := okF_sz q
      simp [lenF, q] at h
      omega
    simp [hk, h]
  · generalize hl : lenF L C T R F W U = m at h2 h3 h4 ⊢
    have n0 : ¬ m = 0 := by omega
    have n1 : 0 < m := by omega
    rcases Bool.eq_false_or_eq_true (mayB t) with h5 | h5
    · simp [hk, n0, n1, h5]
    · simp [hk, n0, n1, h5]
theorem rpulse_tr : TrOk Try.prog 54 (pureT pulseF) := by
  refine pureT_ok ?_
  intro xs v h
  obtain ⟨L, C, T, R, F, W, U, t, rfl, rfl⟩ := pulseF_some h
  exact ⟨rfl, rfl, sc_of_vc XTp_ok (by kernel_rfl) (rPul_vc _ _ _ _ _ _ _ _ _) (rPul_ok _ _ _ _ _ _ _ _)⟩
/-- At how many times below a time there is a pulse. -/
def bel2 (L C T R F W U t : Int) : Int := if t ≤ 0 then 0 else below (lenF L C T R F W U) U (min t 1099511627777)
def belF : List AV → Option AV
  | [.agg [.int .i64 L, .int .i64 C, .int .i64 T, .int .i64 R, .int .i64 F, .int .i64 W, .int .i64 U], .int .i64 t] => if okF L C T R F W U = true then some (.int .i64 (bel2 L C T R F W U t)) else none
  | _ => none
@[simp] theorem belF_ap {L C T R F W U t : Int} : belF [.agg [.int .i64 L, .int .i64 C, .int .i64 T, .int .i64 R, .int .i64 F, .int .i64 W, .int .i64 U], .int .i64 t] = if okF L C T R F W U = true then some (.int .i64 (bel2 L C T R F W U t)) else none := rfl
theorem belF_some {xs : List AV} {v : AV} (h : belF xs = some v) : ∃ L C T R F W U t, xs = [.agg [.int .i64 L, .int .i64 C, .int .i64 T, .int .i64 R, .int .i64 F, .int .i64 W, .int .i64 U], .int .i64 t] ∧ okF L C T R F W U = true ∧ v = .int .i64 (bel2 L C T R F W U t) := by
  unfold belF at h
  split at h
  · split at h
    · rename_i hk
      cases h; exact ⟨_, _, _, _, _, _, _, _, rfl, hk, rfl⟩
    · cases h
  · cases h
theorem bel_sc {L C T R F W U : Int} (t : Int) (hk : okF L C T R F W U = true) : SC Try.prog 83 [.agg [.int .i64 L, .int .i64 C, .int .i64 T, .int .i64 R, .int .i64 F, .int .i64 W, .int .i64 U], .int .i64 t] h0 (fun u _ => u = .int .i64 (bel2 L C T R F W U t)) := by
  refine sc_of_vc XTp_ok (by kernel_rfl) (rBel_vc _ _ _ _ _ _ _ _ _) ?_
  unfold rBel_VC bel2
  have hz := okF_sz hk
  have hb := okF_bd hk
  have hlen : lenF L C T R F W U = L * C := by simp [lenF, hk]
  rw [hlen]
  generalize L * C = m at hz ⊢
  have n0 : ¬ m = 0 := by omega
  by_cases h : t ≤ 0
  · simp [h]
  · have em : (if (1099511627777 : Int) < t then (1099511627777 : Int) else t) = min t 1099511627777 := by split <;> omega
    rw [em]
    obtain ⟨e1, e2, e3, _⟩ := below_bd (l := m) (U := U) (t := min t 1099511627777) (by omega) (by omega) (by omega) (by omega) (by omega)
    unfold below at e3 ⊢
    rw [e1, e2]
    have ek : (if U < Int.tmod (min t 1099511627777) m then U else Int.tmod (min t 1099511627777) m) = min (Int.tmod (min t 1099511627777) m) U := by split <;> omega
    rw [ek, e3]
    simp [h, n0]
theorem good_bel : Good Try.prog (lookO [(83, pureO belF), (41, pureO spot2F), (74, pureO may2F), (29, pureO whenF), (28, pureO length2F), (27, pureO check2F), (26, pureO livesBF), (43, pureO classicRF), (30, pureO atF), (69, pureO beamF), (35, pureO whereF), (34, pureO attrF), (36, pureO pixelF), (71, pureO onF), (25, pureO pickF), (17, pureO livesF), (24, pureO pulsesF), (23, pureO nextF), (22, pureO classicF), (21, pureO spotF), (20, pureO pulseF), (67, pureO mayF), (19, pureO lengthF), (18, pureO checkF)]) := by
  refine Good.pure good_spot2 _ _ ?_
  intro xs v h
  obtain ⟨L, C, T, R, F, W, U, t, rfl, hk, rfl⟩ := belF_some h
  exact ⟨by simp, by simp, bel_sc t hk⟩
theorem pulses2_sc (L C T R F W U a b : Int) : SC Try.prog 55 [.agg [.int .i64 L, .int .i64 C, .int .i64 T, .int .i64 R, .int .i64 F, .int .i64 W, .int .i64 U], .int .i64 a, .int .i64 b] h0 (fun u _ => u = .int .i64 (pulsesN L C T R F W U a b)) := by
  refine walk good_bel Try.func55 rfl (by simp [Try.ntmps55]) (by kernel_rfl) ?_
  simp [Try.ntmps55, Try.results55, h0]
  have hc := lenF_cases L C T R F W U
  rcases hc with h | ⟨hk, h2, h3, h4⟩
  · have hk : okF L C T R F W U = false := by
      rw [Bool.eq_false_iff]; intro q
      have := okF_sz q
      simp [lenF, q] at h
      omega
    simp [hk, pulsesN, h]
  · by_cases hab : b ≤ a
    · have q : pulsesN L C T R F W U a b = 0 := by unfold pulsesN; rw [if_pos (.inr (by omega))]
      simp [hk, hab, q]
    · have hb := okF_bd hk
      have q : IntKind.i64.wrap (bel2 L C T R F W U b - bel2 L C T R F W U a) = pulsesN L C T R F W U a b := by
        unfold pulsesN bel2
        generalize hl : lenF L C T R F W U = m at h2 h3 h4 ⊢
        have z : below m U 0 = 0 := by unfold below; simp; omega
        have bd : ∀ t, 0 ≤ t → t ≤ 1099511627777 → 0 ≤ below m U t ∧ below m U t ≤ 70368744177793 := fun t h0 h1 => (below_bd h3 (by omega) (by omega) h0 h1).2.2.2
        by_cases h5 : min b 1099511627777 ≤ max 0 a
        · rw [if_pos (show m = 0 ∨ min b 1099511627777 ≤ max 0 a from Or.inr h5)]
          by_cases hb0 : b ≤ 0
          · rw [if_pos hb0, if_pos (show a ≤ 0 by omega)]; decide
          · rw [if_neg hb0, if_neg (show ¬ a ≤ 0 by omega), show min b 1099511627777 = 1099511627777 by omega, show min a 1099511627777 = 1099511627777 by omega, Int.sub_self]; decide
        · rw [if_neg (show ¬ b ≤ 0 by omega), if_neg (show ¬ (m = 0 ∨ min b 1099511627777 ≤ max 0 a) by omega)]
          have x := bd (min b 1099511627777) (by omega) (by omega)
          by_cases ha : a ≤ 0
          · rw [if_pos ha, show max 0 a = 0 by omega, z]
            exact wrap_in (by omega) (by omega)
          · have y := bd a (by omega) (by omega)
            rw [if_neg ha, show max 0 a = a by omega, show min a 1099511627777 = a by omega]
            exact wrap_in (by omega) (by omega)
      simp [hk, hab, q]
theorem rpulses_tr : TrOk Try.prog 55 (pureT pulsesF) := by
  refine pureT_ok ?_
  intro xs v h
  obtain ⟨L, C, T, R, F, W, U, a, b, rfl, rfl⟩ := pulsesF_some h
  exact ⟨rfl, rfl, pulses2_sc _ _ _ _ _ _ _ _ _⟩
end Go.Proofs.Ytnfelncgeihihaa.V
namespace Go.Proofs.Ytnfelncgeihihaa.V
open Go Go.Proofs
set_option maxRecDepth 100000
set_option maxHeartbeats 4000000
set_option linter.unusedSimpArgs false
set_option linter.unusedVariables false
theorem rby_sc {L C T R F W U : Int} (hk : okF L C T R F W U = true) : SC Try.prog 51 [.agg [.int .i64 L, .int .i64 C, .int .i64 T, .int .i64 R, .int .i64 F, .int .i64 W, .int .i64 U]] ⟨0, []⟩
    (fun v τ => v = .tup [.slice 2 0 (bts (scX L C T R F W U) 7).length none, .int .i64 0] ∧ τ.get 2 = .opn 5 1 (encI .u8 (bts (scX L C T R F W U) 7))) := by
  refine sc_of_vcT (XBy2_ok (scX L C T R F W U) (bts (scX L C T R F W U) 7).length (encI .u8 (bts (scX L C T R F W U) 7))) (by kernel_rfl) ?_ (rby_vc (scX L C T R F W U) (bts (scX L C T R F W U) 7).length (encI .u8 (bts (scX L C T R F W U) 7)) _) ?_
  · intro p hp' l hl
    rw [show (XBy2 (scX L C T R F W U) (bts (scX L C T R F W U) 7).length (encI .u8 (bts (scX L C T R F W U) 7))).P = Try.prog from rfl, LBr_loops] at hp'
    simp only [List.mem_cons, List.not_mem_nil, or_false] at hp'
    subst hp'
    have : l = LBr (scX L C T R F W U) (bts (scX L C T R F W U) 7).length (encI .u8 (bts (scX L C T R F W U) 7)) := (Option.some.inj hl).symm
    subst this
    exact LBr_ok _ _ _
  have hk' : okF (scX L C T R F W U 0) (scX L C T R F W U 1) (scX L C T R F W U 2) (scX L C T R F W U 3) (scX L C T R F W U 4) (scX L C T R F W U 5) (scX L C T R F W U 6) = true := hk
  unfold rby_VC
  refine bothF (by rw [if_pos hk']; rfl) ⟨rfl, ⟨rfl, ⟨⟨rfl, .inr ⟨rfl, rfl⟩⟩, trivial⟩, rfl, ⟨rfl, rfl, rfl, trivial⟩⟩, ⟨scX_bd hk, rfl, rfl⟩, ?_⟩
  exact ⟨rfl, rfl⟩
def rbTr (L C T R F W U : Int) (n : Nat) (cs : List AV) : Tr1 := fun xs σ s K => need (xs = [.agg [.int .i64 L, .int .i64 C, .int .i64 T, .int .i64 R, .int .i64 F, .int .i64 W, .int .i64 U]]) ∧ need (okF L C T R F W U = true ∧ n = (bts (scX L C T R F W U) 7).length ∧ cs = encI .u8 (bts (scX L C T R F W U) 7)) ∧
  K (.tup [.slice σ.nx 0 n none, .int .i64 0]) (σ.push (.opn 5 1 cs)) s
theorem rbTr_ok (L C T R F W U : Int) (n : Nat) (cs : List AV) : TrOk Try.prog 51 (rbTr L C T R F W U n cs) := by
  intro xs σ s K h
  obtain ⟨hx, ⟨hk, hn, hc⟩, hq⟩ := h
  have hx : xs = [.agg [.int .i64 L, .int .i64 C, .int .i64 T, .int .i64 R, .int .i64 F, .int .i64 W, .int .i64 U]] := hx
  subst hx hn hc
  refine (SC.frameG (σ0 := ⟨0, []⟩) (σ := σ) (k := 2) (u := .tup [.slice σ.nx 0 (bts (scX L C T R F W U) 7).length none, .int .i64 0]) (fun _ => none) (fun _ => none) (fun i hi => absurd hi (Nat.not_lt_zero i)) (fun i => rfl) (fun x c h => by cases h) rfl pfs_enc rfl (rby_sc hk)).mono ?_
  rintro v τ ⟨rfl, rfl⟩
  exact ⟨s, hq⟩
/-- Bytes of what is no screen. -/
def noBF : List AV → Option (Bool × AV)
  | [.agg [.int .i64 L, .int .i64 C, .int .i64 T, .int .i64 R, .int .i64 F, .int .i64 W, .int .i64 U]] => some (!okF L C T R F W U, .tup [.nilslice, .int .i64 2])
  | _ => none
theorem noB_tr : TrOk Try.prog 46 (pureG noBF) := by
  refine pureG_ok ?_
  intro xs v h
  unfold noBF at h
  split at h
  · simp only [Option.some.injEq, Prod.mk.injEq, Bool.not_eq_true'] at h
    obtain ⟨hk, rfl⟩ := h
    refine ⟨rfl, rfl, ?_⟩
    refine sc_of_vcT XBy_ok (by kernel_rfl) (fun p _ L hL => by cases hL) (byt_vc numB _ _ _ _ _ _ _ _) ?_
    unfold byt_VC
    exact bothT (by rw [hk]; rfl) (by rw [hk]; rfl)
  · cases h
theorem noB2_tr : TrOk Try.prog 51 (pureG noBF) := by
  refine pureG_ok ?_
  intro xs v h
  unfold noBF at h
  split at h
  · simp only [Option.some.injEq, Prod.mk.injEq, Bool.not_eq_true'] at h
    obtain ⟨hk, rfl⟩ := h
    rename_i L C T R F W U
    refine ⟨rfl, rfl, ?_⟩
    refine sc_of_vcT (XBy2_ok (scX L C T R F W U) 0 []) (by kernel_rfl) ?_ (rby_vc (scX L C T R F W U) 0 [] _) ?_
    · intro p hp' l hl
      rw [show (XBy2 (scX L C T R F W U) 0 []).P = Try.prog from rfl, LBr_loops] at hp'
      simp only [List.mem_cons, List.not_mem_nil, or_false] at hp'
      subst hp'
      have : l = LBr (scX L C T R F W U) 0 [] := (Option.some.inj hl).symm
      subst this
      exact LBr_ok _ _ _
    have hk' : okF (scX L C T R F W U 0) (scX L C T R F W U 1) (scX L C T R F W U 2) (scX L C T R F W U 3) (scX L C T R F W U 4) (scX L C T R F W U 5) (scX L C T R F W U 6) = false := hk
    unfold rby_VC
    exact bothT (by rw [hk']; rfl) rfl
  · cases h
def purTc : Pur := [(17, livesF), (18, checkF), (27, check2F), (19, lengthF), (28, length2F), (21, spot3F), (41, spot3F), (48, timF), (49, timF),
  (23, next3F), (50, next3F), (20, pulseF), (54, pulseF), (24, pulsesF), (55, pulsesF)]
theorem purTc_ok : PurOk Try.prog purTc :=
  PurOk.cons (tr_of_good good_lives rfl) <| PurOk.cons (tr_of_good good_lives rfl) <| PurOk.cons (tr_of_good good_spot2 rfl) <| PurOk.cons (tr_of_good good_lives rfl) <| PurOk.cons (tr_of_good good_spot2 rfl) <| PurOk.cons spotT_tr3 <| PurOk.cons spot2_tr3 <| PurOk.cons tim_tr <| PurOk.cons rtim_tr <|
  PurOk.cons next3_tr <| PurOk.cons rnext_tr <| PurOk.cons (tr_of_good good_pulses rfl) <| PurOk.cons rpulse_tr <| PurOk.cons (tr_of_good good_pulses rfl) <| PurOk.cons rpulses_tr PurOk.nil
def okOw : List Nat := [52]
theorem okOw_ok : okFunsX Try.prog okOw = true := by kernel_rfl
def okRn : List Nat := [52, 47, 76, 77, 85, 86, 87, 78, 88, 53, 80, 81, 82]
theorem okRn_ok : okFunsX Try.prog okRn = true := by kernel_rfl
theorem clone0_sc (b : Nat) (σ : AH) (Q : AV → AH → Prop) (h : Q (.slice σ.nx 0 0 (some 0)) (σ.push (.cells 5 []))) : SC Try.prog 84 [.slice b 0 0 (some 0)] σ Q := by
  refine walk good_spot2 Try.func84 rfl (by simp [Try.ntmps84]) (by kernel_rfl) ?_
  simp [Try.ntmps84, Try.results84]
  exact h
def clone0Tr : Tr1 := fun xs σ s K => match xs with
  | [.slice b 0 0 (some 0)] => K (.slice σ.nx 0 0 (some 0)) (σ.push (.cells 5 [])) s
  | _ => False
theorem clone0Tr_ok : TrOk Try.prog 84 clone0Tr := by
  intro xs σ s K h
  unfold clone0Tr at h
  split at h
  · exact clone0_sc _ _ _ ⟨s, h⟩
  · exact h.elim
noncomputable def trC (b : Trs) : Trs := withT 84 clone0Tr b
theorem trC_ok {b : Trs} (hb : TrsOk Try.prog b) : TrsOk Try.prog (trC b) := withT_ok clone0Tr_ok hb
noncomputable def trY (L C T R F W U : Int) (m : Nat) (ds : List AV) : Trs := withT 46 (bytesTr L C T R F W U m ds) (withT 51 (rbTr L C T R F W U m ds) (purT purTc))
theorem trY_ok (L C T R F W U : Int) (m : Nat) (ds : List AV) : TrsOk Try.prog (trY L C T R F W U m ds) := withT_ok (bytesTr_ok L C T R F W U m ds) (withT_ok (rbTr_ok L C T R F W U m ds) (purT_ok purTc_ok))
noncomputable def trZ : Trs := withT 46 (pureG noBF) (withT 51 (pureG noBF) (purT purTc))
theorem trZ_ok : TrsOk Try.prog trZ := withT_ok noB_tr (withT_ok noB2_tr (purT_ok purTc_ok))
noncomputable def trR (bz g : Nat → Int) (er : Int) (n : Nat) (cs : List AV) (b : Trs) : Trs := withT 47 (prTr bz g er n cs) (withT 53 (rrTr bz g er n cs) b)
theorem trR_ok (bz g : Nat → Int) (er : Int) (n : Nat) (cs : List AV) {b : Trs} (hb : TrsOk Try.prog b) : TrsOk Try.prog (trR bz g er n cs b) := withT_ok (prTr_ok bz g er n cs) (withT_ok (rrTr_ok bz g er n cs) hb)
noncomputable def XLw (b : Trs) (ok : List Nat) : Cx := ⟨Try.prog, inl Try.prog (purO purTc) (purTc.map (·.1)) 20 b ok 6, purO purTc, purTc.map (·.1), 20, lookL []⟩
theorem XLw_ok {b : Trs} {ok : List Nat} (hb : TrsOk Try.prog b) (hok : okFunsX Try.prog ok = true) : CxOk (XLw b ok) := ⟨inl_ok (purO_ok purTc_ok) mixed hb hok 6, purO_ok purTc_ok, mixed⟩
end Go.Proofs.Ytnfelncgeihihaa.V
namespace Go.Proofs.Ytnfelncgeihihaa.V
open Go Go.Proofs
set_option maxRecDepth 100000
set_option linter.unusedVariables false
def tcYN_VC (L C T R F W U t u f l c : Int) (m : Nat) (ds : List AV) (K : AV → Prop) : Prop :=
  need ([AV.agg
      [AV.int IntKind.i64 L, AV.int IntKind.i64 C, AV.int IntKind.i64 T, AV.int IntKind.i64 R, AV.int IntKind.i64 F,
        AV.int IntKind.i64 W, AV.int IntKind.i64 U]] =
  [AV.agg
      [AV.int IntKind.i64 L, AV.int IntKind.i64 C, AV.int IntKind.i64 T, AV.int IntKind.i64 R, AV.int IntKind.i64 F,
        AV.int IntKind.i64 W, AV.int IntKind.i64 U]]) ∧
  (need (okF L C T R F W U = true ∧
  m = List.length (bts (scX L C T R F W U) (7 : Nat)) ∧ ds = encI IntKind.u8 (bts (scX L C T R F W U) (7 : Nat))) ∧
  (need ([AV.agg
      [AV.int IntKind.i64 L, AV.int IntKind.i64 C, AV.int IntKind.i64 T, AV.int IntKind.i64 R, AV.int IntKind.i64 F,
        AV.int IntKind.i64 W, AV.int IntKind.i64 U]] =
  [AV.agg
      [AV.int IntKind.i64 L, AV.int IntKind.i64 C, AV.int IntKind.i64 T, AV.int IntKind.i64 R, AV.int IntKind.i64 F,
        AV.int IntKind.i64 W, AV.int IntKind.i64 U]]) ∧
  (need (okF L C T R F W U = true ∧
  m = List.length (bts (scX L C T R F W U) (7 : Nat)) ∧ ds = encI IntKind.u8 (bts (scX L C T R F W U) (7 : Nat))) ∧
  (((spF L C T R F W U t == spF L C T R F W U t &&
  (spL L C T R F W U t == spL L C T R F W U t && (spC L C T R F W U t == spC L C T R F W U t && true))) = true →
    (spF L C T R F W U t == spF L C T R F W U t &&
  (spL L C T R F W U t == spL L C T R F W U t && (spC L C T R F W U t == spC L C T R F W U t && true))) = true ∧
    ((spF L C T R F W U t == spF L C T R F W U t &&
  (spL L C T R F W U t == spL L C T R F W U t && (spC L C T R F W U t == spC L C T R F W U t && true))) = true ∧
    ((spF L C T R F W U t == spF L C T R F W U t &&
  (spL L C T R F W U t == spL L C T R F W U t && (spC L C T R F W U t == spC L C T R F W U t && true))) = true ∧
    (((decide (spE L C T R F W U t = spE L C T R F W U t)) = true →
      (decide (spE L C T R F W U t = spE L C T R F W U t)) = true ∧
      ((decide (spE L C T R F W U t = spE L C T R F W U t)) = true ∧
      ((decide (spE L C T R F W U t = spE L C T R F W U t)) = true ∧
      (((decide (tmT L C T R F W U f l c = tmT L C T R F W U f l c)) = true →
        (decide (tmT L C T R F W U f l c = tmT L C T R F W U f l c)) = true ∧
        ((decide (tmT L C T R F W U f l c = tmT L C T R F W U f l c)) = true ∧
        ((decide (tmT L C T R F W U f l c = tmT L C T R F W U f l c)) = true ∧
        (((decide (tmE L C T R F W U f l c = tmE L C T R F W U f l c)) = true →
          (decide (tmE L C T R F W U f l c = tmE L C T R F W U f l c)) = true ∧
          ((decide (tmE L C T R F W U f l c = tmE L C T R F W U f l c)) = true ∧
          ((decide (tmE L C T R F W U f l c = tmE L C T R F W U f l c)) = true ∧
          (((decide (nxV L C T R F W U t = nxV L C T R F W U t)) = true →
            (decide (nxV L C T R F W U t = nxV L C T R F W U t)) = true ∧
            ((decide (nxV L C T R F W U t = nxV L C T R F W U t)) = true ∧
            ((decide (nxV L C T R F W U t = nxV L C T R F W U t)) = true ∧
            (((nxB L C T R F W U t == nxB L C T R F W U t) = true →
              (nxB L C T R F W U t == nxB L C T R F W U t) = true ∧
              ((!decide (m = (0 : Nat))) = true ∧
              ((decide ((0 : Nat) + m ≤ List.length ds)) = true ∧
              ((match toInts (List.take m (List.drop (0 : Nat) ds)) with
| some val => true
| none => false) = true ∧
              ((nxB L C T R F W U t == nxB L C T R F W U t) = true ∧
              ((nxB L C T R F W U t == nxB L C T R F W U t) = true ∧
              ((!decide (m = (0 : Nat))) = true ∧
              ((decide ((0 : Nat) + m ≤ List.length ds)) = true ∧
              ((match toInts (List.take m (List.drop (0 : Nat) ds)) with
| some val => true
| none => false) = true ∧
              ((nxB L C T R F W U t == nxB L C T R F W U t) = true ∧
              ((nxB L C T R F W U t == nxB L C T R F W U t) = true ∧
              (((decide
  (ByteArray.toList.loop (strOf (Option.getD (toInts (List.take m (List.drop (0 : Nat) ds))) [])) (0 : Nat) [] =
    ByteArray.toList.loop (strOf (Option.getD (toInts (List.take m (List.drop (0 : Nat) ds))) [])) (0 : Nat) [])) = true →
                (decide
  (ByteArray.toList.loop (strOf (Option.getD (toInts (List.take m (List.drop (0 : Nat) ds))) [])) (0 : Nat) [] =
    ByteArray.toList.loop (strOf (Option.getD (toInts (List.take m (List.drop (0 : Nat) ds))) [])) (0 : Nat) [])) = true ∧
                ((decide
  (ByteArray.toList.loop (strOf (Option.getD (toInts (List.take m (List.drop (0 : Nat) ds))) [])) (0 : Nat) [] =
    ByteArray.toList.loop (strOf (Option.getD (toInts (List.take m (List.drop (0 : Nat) ds))) [])) (0 : Nat) [])) = true ∧
                ((decide
  (ByteArray.toList.loop (strOf (Option.getD (toInts (List.take m (List.drop (0 : Nat) ds))) [])) (0 : Nat) [] =
    ByteArray.toList.loop (strOf (Option.getD (toInts (List.take m (List.drop (0 : Nat) ds))) [])) (0 : Nat) [])) = true ∧
                (((decide
  ((if okF L C T R F W U = true then (0 : Int) else (2 : Int)) =
    if okF L C T R F W U = true then (0 : Int) else (2 : Int))) = true →
                  (decide
  ((if okF L C T R F W U = true then (0 : Int) else (2 : Int)) =
    if okF L C T R F W U = true then (0 : Int) else (2 : Int))) = true ∧
                  ((decide
  ((if okF L C T R F W U = true then (0 : Int) else (2 : Int)) =
    if okF L C T R F W U = true then (0 : Int) else (2 : Int))) = true ∧
                  ((decide
  ((if okF L C T R F W U = true then (0 : Int) else (2 : Int)) =
    if okF L C T R F W U = true then (0 : Int) else (2 : Int))) = true ∧
                  ((decide
  ((if okF L C T R F W U = true then (0 : Int) else (2 : Int)) =
    if okF L C T R F W U = true then (0 : Int) else (2 : Int))) = true ∧
                  ((decide
  ((if okF L C T R F W U = true then (0 : Int) else (2 : Int)) =
    if okF L C T R F W U = true then (0 : Int) else (2 : Int))) = true ∧
                  (((decide (lenF L C T R F W U = lenF L C T R F W U)) = true →
                    (decide (lenF L C T R F W U = lenF L C T R F W U)) = true ∧
                    ((decide (lenF L C T R F W U = lenF L C T R F W U)) = true ∧
                    ((decide (lenF L C T R F W U = lenF L C T R F W U)) = true ∧
                    ((decide (lenF L C T R F W U = lenF L C T R F W U)) = true ∧
                    ((decide (lenF L C T R F W U = lenF L C T R F W U)) = true ∧
                    ((decide (lenF L C T R F W U = lenF L C T R F W U)) = true ∧
                    ((decide (lenF L C T R F W U = lenF L C T R F W U)) = true ∧
                    (((pulseB L C T R F W U t == pulseB L C T R F W U t) = true →
                      (pulseB L C T R F W U t == pulseB L C T R F W U t) = true ∧
                      ((pulseB L C T R F W U t == pulseB L C T R F W U t) = true ∧
                      ((pulseB L C T R F W U t == pulseB L C T R F W U t) = true ∧
                      ((pulseB L C T R F W U t == pulseB L C T R F W U t) = true ∧
                      ((pulseB L C T R F W U t == pulseB L C T R F W U t) = true ∧
                      ((pulseB L C T R F W U t == pulseB L C T R F W U t) = true ∧
                      ((pulseB L C T R F W U t == pulseB L C T R F W U t) = true ∧
                      ((pulseB L C T R F W U t == pulseB L C T R F W U t) = true ∧
                      ((pulseB L C T R F W U t == pulseB L C T R F W U t) = true ∧
                      (K (AV.bool (decide (pulsesN L C T R F W U t u = pulsesN L C T R F W U t u))))))))))))) ∧
                    ((pulseB L C T R F W U t == pulseB L C T R F W U t) = false →
                      (pulseB L C T R F W U t == pulseB L C T R F W U t) = false ∧
                      ((pulseB L C T R F W U t == pulseB L C T R F W U t) = false ∧
                      ((pulseB L C T R F W U t == pulseB L C T R F W U t) = false ∧
                      ((pulseB L C T R F W U t == pulseB L C T R F W U t) = false ∧
                      ((pulseB L C T R F W U t == pulseB L C T R F W U t) = false ∧
                      ((pulseB L C T R F W U t == pulseB L C T R F W U t) = false ∧
                      ((pulseB L C T R F W U t == pulseB L C T R F W U t) = false ∧
                      ((pulseB L C T R F W U t == pulseB L C T R F W U t) = false ∧
                      ((pulseB L C T R F W U t == pulseB L C T R F W U t) = false ∧
                      (K (AV.bool false))))))))))))))))))) ∧
                  ((decide (lenF L C T R F W U = lenF L C T R F W U)) = false →
                    (decide (lenF L C T R F W U = lenF L C T R F W U)) = false ∧
                    ((decide (lenF L C T R F W U = lenF L C T R F W U)) = false ∧
                    ((decide (lenF L C T R F W U = lenF L C T R F W U)) = false ∧
                    ((decide (lenF L C T R F W U = lenF L C T R F W U)) = false ∧
                    ((decide (lenF L C T R F W U = lenF L C T R F W U)) = false ∧
                    ((decide (lenF L C T R F W U = lenF L C T R F W U)) = false ∧
                    ((decide (lenF L C T R F W U = lenF L C T R F W U)) = false ∧
                    (K (AV.bool false))))))))))))))) ∧
                ((decide
  ((if okF L C T R F W U = true then (0 : Int) else (2 : Int)) =
    if okF L C T R F W U = true then (0 : Int) else (2 : Int))) = false →
                  (decide
  ((if okF L C T R F W U = true then (0 : Int) else (2 : Int)) =
    if okF L C T R F W U = true then (0 : Int) else (2 : Int))) = false ∧
                  ((decide
  ((if okF L C T R F W U = true then (0 : Int) else (2 : Int)) =
    if okF L C T R F W U = true then (0 : Int) else (2 : Int))) = false ∧
                  ((decide
  ((if okF L C T R F W U = true then (0 : Int) else (2 : Int)) =
    if okF L C T R F W U = true then (0 : Int) else (2 : Int))) = false ∧
                  ((decide
  ((if okF L C T R F W U = true then (0 : Int) else (2 : Int)) =
    if okF L C T R F W U = true then (0 : Int) else (2 : Int))) = false ∧
                  ((decide
  ((if okF L C T R F W U = true then (0 : Int) else (2 : Int)) =
    if okF L C T R F W U = true then (0 : Int) else (2 : Int))) = false ∧
                  (K (AV.bool false))))))))))) ∧
              ((decide
  (ByteArray.toList.loop (strOf (Option.getD (toInts (List.take m (List.drop (0 : Nat) ds))) [])) (0 : Nat) [] =
    ByteArray.toList.loop (strOf (Option.getD (toInts (List.take m (List.drop (0 : Nat) ds))) [])) (0 : Nat) [])) = false →
                (decide
  (ByteArray.toList.loop (strOf (Option.getD (toInts (List.take m (List.drop (0 : Nat) ds))) [])) (0 : Nat) [] =
    ByteArray.toList.loop (strOf (Option.getD (toInts (List.take m (List.drop (0 : Nat) ds))) [])) (0 : Nat) [])) = false ∧
                ((decide
  (ByteArray.toList.loop (strOf (Option.getD (toInts (List.take m (List.drop (0 : Nat) ds))) [])) (0 : Nat) [] =
    ByteArray.toList.loop (strOf (Option.getD (toInts (List.take m (List.drop (0 : Nat) ds))) [])) (0 : Nat) [])) = false ∧
                ((decide
  (ByteArray.toList.loop (strOf (Option.getD (toInts (List.take m (List.drop (0 : Nat) ds))) [])) (0 : Nat) [] =
    ByteArray.toList.loop (strOf (Option.getD (toInts (List.take m (List.drop (0 : Nat) ds))) [])) (0 : Nat) [])) = false ∧
                (K (AV.bool false))))))))))))))))) ∧
            ((nxB L C T R F W U t == nxB L C T R F W U t) = false →
              (nxB L C T R F W U t == nxB L C T R F W U t) = false ∧
              ((nxB L C T R F W U t == nxB L C T R F W U t) = false ∧
              ((nxB L C T R F W U t == nxB L C T R F W U t) = false ∧
              ((nxB L C T R F W U t == nxB L C T R F W U t) = false ∧
              ((nxB L C T R F W U t == nxB L C T R F W U t) = false ∧
              (K (AV.bool false))))))))))) ∧
          ((decide (nxV L C T R F W U t = nxV L C T R F W U t)) = false →
            (decide (nxV L C T R F W U t = nxV L C T R F W U t)) = false ∧
            ((decide (nxV L C T R F W U t = nxV L C T R F W U t)) = false ∧
            ((decide (nxV L C T R F W U t = nxV L C T R F W U t)) = false ∧
            (K (AV.bool false))))))))) ∧
        ((decide (tmE L C T R F W U f l c = tmE L C T R F W U f l c)) = false →
          (decide (tmE L C T R F W U f l c = tmE L C T R F W U f l c)) = false ∧
          ((decide (tmE L C T R F W U f l c = tmE L C T R F W U f l c)) = false ∧
          ((decide (tmE L C T R F W U f l c = tmE L C T R F W U f l c)) = false ∧
          (K (AV.bool false))))))))) ∧
      ((decide (tmT L C T R F W U f l c = tmT L C T R F W U f l c)) = false →
        (decide (tmT L C T R F W U f l c = tmT L C T R F W U f l c)) = false ∧
        ((decide (tmT L C T R F W U f l c = tmT L C T R F W U f l c)) = false ∧
        ((decide (tmT L C T R F W U f l c = tmT L C T R F W U f l c)) = false ∧
        (K (AV.bool false))))))))) ∧
    ((decide (spE L C T R F W U t = spE L C T R F W U t)) = false →
      (decide (spE L C T R F W U t = spE L C T R F W U t)) = false ∧
      ((decide (spE L C T R F W U t = spE L C T R F W U t)) = false ∧
      ((decide (spE L C T R F W U t = spE L C T R F W U t)) = false ∧
      (K (AV.bool false))))))))) ∧
  ((spF L C T R F W U t == spF L C T R F W U t &&
  (spL L C T R F W U t == spL L C T R F W U t && (spC L C T R F W U t == spC L C T R F W U t && true))) = false →
    (spF L C T R F W U t == spF L C T R F W U t &&
  (spL L C T R F W U t == spL L C T R F W U t && (spC L C T R F W U t == spC L C T R F W U t && true))) = false ∧
    ((spF L C T R F W U t == spF L C T R F W U t &&
  (spL L C T R F W U t == spL L C T R F W U t && (spC L C T R F W U t == spC L C T R F W U t && true))) = false ∧
    ((spF L C T R F W U t == spF L C T R F W U t &&
  (spL L C T R F W U t == spL L C T R F W U t && (spC L C T R F W U t == spC L C T R F W U t && true))) = false ∧
    (K (AV.bool false)))))))))
def tcYN_scr : Plan := .k (.k (.k (.k (.k (.k (.k (.k (.k (.k (.k (.k (.k (.k (.k (.k (.k (.k (.k (.k (.k (.k (.k (.k (.k (.k (.k (.k (.k (.k (.k (.k (.k (.k (.k (.k (.k (.k (.k (.k (.k (.k (.k (.k (.k (.k (.k (.k (.k (.k (.k (.k (.k (.k (.k (.k (.k (.k (.k (.k (.k (.k (.k (.k (.k (.k (.k (.k (.k (.k (.k (.k (.k (.k (.k (.k (.k (.k (.k (.k (.k (.k (.k (.k (.k (.k (.k (.k (.k (.k (.k (.k (.k (.k (.k (.k (.k (.k (.k (.k (.k (.k (.k (.k (.k (.k (.k (.k (.k (.k (.k (.k (.k (.k (.k (.k (.k (.k (.k (.k (.k (.k (.k (.k (.k (.k (.k (.k (.k (.k (.k (.k (.k (.k (.k (.k (.k (.k (.k (.k (.k (.k (.k (.k (.k (.k (.k (.k (.k (.k (.k (.k (.k (.k (.k (.k (.k (.k (.k (.k (.k (.k (.k (.k (.k (.k (.k (.k (.k (.k (.k (.k (.k (.k (.k (.k (.k (.k (.k (.k (.k (.k (.k (.k (.k (.k (.k (.k (.k (.k (.k (.k (.k (.k (.k (.k (.k (.k (.k (.k (.k (.k (.k (.k (.k (.k (.k (.k (.k (.k (.k (.k (.k (.k (.k (.k (.k (.k (.k (.k (.k (.k (.k (.k (.k (.k (.k (.k (.k (.k (.k (.k (.k (.k (.k (.k (.k (.k (.k (.k (.k (.k (.k (.k (.k (.k (.k (.k (.k (.k (.k (.k (.k (.k (.k (.k (.k (.k (.k (.k (.k (.k (.k (.b (.t (.t (.t (.b (.t (.t (.t (.b (.t (.t (.t (.b (.t (.t (.t (.b (.t (.t (.t (.b (.t (.t (.t (.t (.t (.t (.t (.t (.t (.t (.t (.b (.t (.t (.t (.k (.k (.k (.k (.k (.k (.k (.k (.k (.k (.k (.k (.k (.k (.b (.t (.t (.t (.t (.t (.b (.t (.t (.t (.t (.t (.t (.t (.b (.t (.t (.t (.t (.t (.t (.t (.t (.t (.z)))))))))) (.f (.f (.f (.f (.f (.f (.f (.f (.f (.z)))))))))))))))))) (.f (.f (.f (.f (.f (.f (.f (.z)))))))))))))) (.f (.f (.f (.f (.f (.z)))))))))))))))))))))))) (.f (.f (.f (.z)))))))))))))))) (.f (.f (.f (.f (.f (.z)))))))))) (.f (.f (.f (.z)))))))) (.f (.f (.f (.z)))))))) (.f (.f (.f (.z)))))))) (.f (.f (.f (.z)))))))) (.f (.f (.f (.z)))))))))))))))))))))))))))))))))))))))))))))))))))))))))))))))))))))))))))))))))))))))))))))))))))))))))))))))))))))))))))))))))))))))))))))))))))))))))))))))))))))))))))))))))))))))))))))))))))))))))))))))))))))))))))))))))))))))))))))))))))))))))))))))))))))))))))
theorem tcYN_vc (L C T R F W U t u f l c : Int) (m : Nat) (ds : List AV) (K : AV → Prop) : (funP (XLw (trC (trY L C T R F W U m ds)) okRn) 16 [.agg [.int .i64 L, .int .i64 C, .int .i64 T, .int .i64 R, .int .i64 F, .int .i64 W, .int .i64 U], .int .i64 t, .int .i64 u, .agg [.int .i64 f, .int .i64 l, .int .i64 c], .nilslice] h0 tcYN_scr (fun v _ _ => K v)) = tcYN_VC L C T R F W U t u f l c m ds K := by kernel_rfl
def tcYE_VC (L C T R F W U t u f l c : Int) (m : Nat) (ds : List AV) (K : AV → Prop) : Prop :=
  need ([AV.agg
      [AV.int IntKind.i64 L, AV.int IntKind.i64 C, AV.int IntKind.i64 T, AV.int IntKind.i64 R, AV.int IntKind.i64 F,
        AV.int IntKind.i64 W, AV.int IntKind.i64 U]] =
  [AV.agg
      [AV.int IntKind.i64 L, AV.int IntKind.i64 C, AV.int IntKind.i64 T, AV.int IntKind.i64 R, AV.int IntKind.i64 F,
        AV.int IntKind.i64 W, AV.int IntKind.i64 U]]) ∧
  (need (okF L C T R F W U = true ∧
  m = List.length (bts (scX L C T R F W U) (7 : Nat)) ∧ ds = encI IntKind.u8 (bts (scX L C T R F W U) (7 : Nat))) ∧
  (need ([AV.agg
      [AV.int IntKind.i64 L, AV.int IntKind.i64 C, AV.int IntKind.i64 T, AV.int IntKind.i64 R, AV.int IntKind.i64 F,
        AV.int IntKind.i64 W, AV.int IntKind.i64 U]] =
  [AV.agg
      [AV.int IntKind.i64 L, AV.int IntKind.i64 C, AV.int IntKind.i64 T, AV.int IntKind.i64 R, AV.int IntKind.i64 F,
        AV.int IntKind.i64 W, AV.int IntKind.i64 U]]) ∧
  (need (okF L C T R F W U = true ∧
  m = List.length (bts (scX L C T R F W U) (7 : Nat)) ∧ ds = encI IntKind.u8 (bts (scX L C T R F W U) (7 : Nat))) ∧
  (((spF L C T R F W U t == spF L C T R F W U t &&
  (spL L C T R F W U t == spL L C T R F W U t && (spC L C T R F W U t == spC L C T R F W U t && true))) = true →
    (spF L C T R F W U t == spF L C T R F W U t &&
  (spL L C T R F W U t == spL L C T R F W U t && (spC L C T R F W U t == spC L C T R F W U t && true))) = true ∧
    ((spF L C T R F W U t == spF L C T R F W U t &&
  (spL L C T R F W U t == spL L C T R F W U t && (spC L C T R F W U t == spC L C T R F W U t && true))) = true ∧
    ((spF L C T R F W U t == spF L C T R F W U t &&
  (spL L C T R F W U t == spL L C T R F W U t && (spC L C T R F W U t == spC L C T R F W U t && true))) = true ∧
    (((decide (spE L C T R F W U t = spE L C T R F W U t)) = true →
      (decide (spE L C T R F W U t = spE L C T R F W U t)) = true ∧
      ((decide (spE L C T R F W U t = spE L C T R F W U t)) = true ∧
      ((decide (spE L C T R F W U t = spE L C T R F W U t)) = true ∧
      (((decide (tmT L C T R F W U f l c = tmT L C T R F W U f l c)) = true →
        (decide (tmT L C T R F W U f l c = tmT L C T R F W U f l c)) = true ∧
        ((decide (tmT L C T R F W U f l c = tmT L C T R F W U f l c)) = true ∧
        ((decide (tmT L C T R F W U f l c = tmT L C T R F W U f l c)) = true ∧
        (((decide (tmE L C T R F W U f l c = tmE L C T R F W U f l c)) = true →
          (decide (tmE L C T R F W U f l c = tmE L C T R F W U f l c)) = true ∧
          ((decide (tmE L C T R F W U f l c = tmE L C T R F W U f l c)) = true ∧
          ((decide (tmE L C T R F W U f l c = tmE L C T R F W U f l c)) = true ∧
          (((decide (nxV L C T R F W U t = nxV L C T R F W U t)) = true →
            (decide (nxV L C T R F W U t = nxV L C T R F W U t)) = true ∧
            ((decide (nxV L C T R F W U t = nxV L C T R F W U t)) = true ∧
            ((decide (nxV L C T R F W U t = nxV L C T R F W U t)) = true ∧
            (((nxB L C T R F W U t == nxB L C T R F W U t) = true →
              (nxB L C T R F W U t == nxB L C T R F W U t) = true ∧
              ((!decide (m = (0 : Nat))) = true ∧
              ((decide ((0 : Nat) + m ≤ List.length ds)) = true ∧
              ((match toInts (List.take m (List.drop (0 : Nat) ds)) with
| some val => true
| none => false) = true ∧
              ((nxB L C T R F W U t == nxB L C T R F W U t) = true ∧
              ((nxB L C T R F W U t == nxB L C T R F W U t) = true ∧
              ((!decide (m = (0 : Nat))) = true ∧
              ((decide ((0 : Nat) + m ≤ List.length ds)) = true ∧
              ((match toInts (List.take m (List.drop (0 : Nat) ds)) with
| some val => true
| none => false) = true ∧
              ((nxB L C T R F W U t == nxB L C T R F W U t) = true ∧
              ((nxB L C T R F W U t == nxB L C T R F W U t) = true ∧
              (((decide
  (ByteArray.toList.loop (strOf (Option.getD (toInts (List.take m (List.drop (0 : Nat) ds))) [])) (0 : Nat) [] =
    ByteArray.toList.loop (strOf (Option.getD (toInts (List.take m (List.drop (0 : Nat) ds))) [])) (0 : Nat) [])) = true →
                (decide
  (ByteArray.toList.loop (strOf (Option.getD (toInts (List.take m (List.drop (0 : Nat) ds))) [])) (0 : Nat) [] =
    ByteArray.toList.loop (strOf (Option.getD (toInts (List.take m (List.drop (0 : Nat) ds))) [])) (0 : Nat) [])) = true ∧
                ((decide
  (ByteArray.toList.loop (strOf (Option.getD (toInts (List.take m (List.drop (0 : Nat) ds))) [])) (0 : Nat) [] =
    ByteArray.toList.loop (strOf (Option.getD (toInts (List.take m (List.drop (0 : Nat) ds))) [])) (0 : Nat) [])) = true ∧
                ((decide
  (ByteArray.toList.loop (strOf (Option.getD (toInts (List.take m (List.drop (0 : Nat) ds))) [])) (0 : Nat) [] =
    ByteArray.toList.loop (strOf (Option.getD (toInts (List.take m (List.drop (0 : Nat) ds))) [])) (0 : Nat) [])) = true ∧
                (((decide
  ((if okF L C T R F W U = true then (0 : Int) else (2 : Int)) =
    if okF L C T R F W U = true then (0 : Int) else (2 : Int))) = true →
                  (decide
  ((if okF L C T R F W U = true then (0 : Int) else (2 : Int)) =
    if okF L C T R F W U = true then (0 : Int) else (2 : Int))) = true ∧
                  ((decide
  ((if okF L C T R F W U = true then (0 : Int) else (2 : Int)) =
    if okF L C T R F W U = true then (0 : Int) else (2 : Int))) = true ∧
                  ((decide
  ((if okF L C T R F W U = true then (0 : Int) else (2 : Int)) =
    if okF L C T R F W U = true then (0 : Int) else (2 : Int))) = true ∧
                  ((decide
  ((if okF L C T R F W U = true then (0 : Int) else (2 : Int)) =
    if okF L C T R F W U = true then (0 : Int) else (2 : Int))) = true ∧
                  ((decide
  ((if okF L C T R F W U = true then (0 : Int) else (2 : Int)) =
    if okF L C T R F W U = true then (0 : Int) else (2 : Int))) = true ∧
                  (((decide (lenF L C T R F W U = lenF L C T R F W U)) = true →
                    (decide (lenF L C T R F W U = lenF L C T R F W U)) = true ∧
                    ((decide (lenF L C T R F W U = lenF L C T R F W U)) = true ∧
                    ((decide (lenF L C T R F W U = lenF L C T R F W U)) = true ∧
                    ((decide (lenF L C T R F W U = lenF L C T R F W U)) = true ∧
                    ((decide (lenF L C T R F W U = lenF L C T R F W U)) = true ∧
                    ((decide (lenF L C T R F W U = lenF L C T R F W U)) = true ∧
                    ((decide (lenF L C T R F W U = lenF L C T R F W U)) = true ∧
                    (((pulseB L C T R F W U t == pulseB L C T R F W U t) = true →
                      (pulseB L C T R F W U t == pulseB L C T R F W U t) = true ∧
                      ((pulseB L C T R F W U t == pulseB L C T R F W U t) = true ∧
                      ((pulseB L C T R F W U t == pulseB L C T R F W U t) = true ∧
                      ((pulseB L C T R F W U t == pulseB L C T R F W U t) = true ∧
                      ((pulseB L C T R F W U t == pulseB L C T R F W U t) = true ∧
                      ((pulseB L C T R F W U t == pulseB L C T R F W U t) = true ∧
                      ((pulseB L C T R F W U t == pulseB L C T R F W U t) = true ∧
                      ((pulseB L C T R F W U t == pulseB L C T R F W U t) = true ∧
                      ((pulseB L C T R F W U t == pulseB L C T R F W U t) = true ∧
                      (K (AV.bool (decide (pulsesN L C T R F W U t u = pulsesN L C T R F W U t u))))))))))))) ∧
                    ((pulseB L C T R F W U t == pulseB L C T R F W U t) = false →
                      (pulseB L C T R F W U t == pulseB L C T R F W U t) = false ∧
                      ((pulseB L C T R F W U t == pulseB L C T R F W U t) = false ∧
                      ((pulseB L C T R F W U t == pulseB L C T R F W U t) = false ∧
                      ((pulseB L C T R F W U t == pulseB L C T R F W U t) = false ∧
                      ((pulseB L C T R F W U t == pulseB L C T R F W U t) = false ∧
                      ((pulseB L C T R F W U t == pulseB L C T R F W U t) = false ∧
                      ((pulseB L C T R F W U t == pulseB L C T R F W U t) = false ∧
                      ((pulseB L C T R F W U t == pulseB L C T R F W U t) = false ∧
                      ((pulseB L C T R F W U t == pulseB L C T R F W U t) = false ∧
                      (K (AV.bool false))))))))))))))))))) ∧
                  ((decide (lenF L C T R F W U = lenF L C T R F W U)) = false →
                    (decide (lenF L C T R F W U = lenF L C T R F W U)) = false ∧
                    ((decide (lenF L C T R F W U = lenF L C T R F W U)) = false ∧
                    ((decide (lenF L C T R F W U = lenF L C T R F W U)) = false ∧
                    ((decide (lenF L C T R F W U = lenF L C T R F W U)) = false ∧
                    ((decide (lenF L C T R F W U = lenF L C T R F W U)) = false ∧
                    ((decide (lenF L C T R F W U = lenF L C T R F W U)) = false ∧
                    ((decide (lenF L C T R F W U = lenF L C T R F W U)) = false ∧
                    (K (AV.bool false))))))))))))))) ∧
                ((decide
  ((if okF L C T R F W U = true then (0 : Int) else (2 : Int)) =
    if okF L C T R F W U = true then (0 : Int) else (2 : Int))) = false →
                  (decide
  ((if okF L C T R F W U = true then (0 : Int) else (2 : Int)) =
    if okF L C T R F W U = true then (0 : Int) else (2 : Int))) = false ∧
                  ((decide
  ((if okF L C T R F W U = true then (0 : Int) else (2 : Int)) =
    if okF L C T R F W U = true then (0 : Int) else (2 : Int))) = false ∧
                  ((decide
  ((if okF L C T R F W U = true then (0 : Int) else (2 : Int)) =
    if okF L C T R F W U = true then (0 : Int) else (2 : Int))) = false ∧
                  ((decide
  ((if okF L C T R F W U = true then (0 : Int) else (2 : Int)) =
    if okF L C T R F W U = true then (0 : Int) else (2 : Int))) = false ∧
                  ((decide
  ((if okF L C T R F W U = true then (0 : Int) else (2 : Int)) =
    if okF L C T R F W U = true then (0 : Int) else (2 : Int))) = false ∧
                  (K (AV.bool false))))))))))) ∧
              ((decide
  (ByteArray.toList.loop (strOf (Option.getD (toInts (List.take m (List.drop (0 : Nat) ds))) [])) (0 : Nat) [] =
    ByteArray.toList.loop (strOf (Option.getD (toInts (List.take m (List.drop (0 : Nat) ds))) [])) (0 : Nat) [])) = false →
                (decide
  (ByteArray.toList.loop (strOf (Option.getD (toInts (List.take m (List.drop (0 : Nat) ds))) [])) (0 : Nat) [] =
    ByteArray.toList.loop (strOf (Option.getD (toInts (List.take m (List.drop (0 : Nat) ds))) [])) (0 : Nat) [])) = false ∧
                ((decide
  (ByteArray.toList.loop (strOf (Option.getD (toInts (List.take m (List.drop (0 : Nat) ds))) [])) (0 : Nat) [] =
    ByteArray.toList.loop (strOf (Option.getD (toInts (List.take m (List.drop (0 : Nat) ds))) [])) (0 : Nat) [])) = false ∧
                ((decide
  (ByteArray.toList.loop (strOf (Option.getD (toInts (List.take m (List.drop (0 : Nat) ds))) [])) (0 : Nat) [] =
    ByteArray.toList.loop (strOf (Option.getD (toInts (List.take m (List.drop (0 : Nat) ds))) [])) (0 : Nat) [])) = false ∧
                (K (AV.bool false))))))))))))))))) ∧
            ((nxB L C T R F W U t == nxB L C T R F W U t) = false →
              (nxB L C T R F W U t == nxB L C T R F W U t) = false ∧
              ((nxB L C T R F W U t == nxB L C T R F W U t) = false ∧
              ((nxB L C T R F W U t == nxB L C T R F W U t) = false ∧
              ((nxB L C T R F W U t == nxB L C T R F W U t) = false ∧
              ((nxB L C T R F W U t == nxB L C T R F W U t) = false ∧
              (K (AV.bool false))))))))))) ∧
          ((decide (nxV L C T R F W U t = nxV L C T R F W U t)) = false →
            (decide (nxV L C T R F W U t = nxV L C T R F W U t)) = false ∧
            ((decide (nxV L C T R F W U t = nxV L C T R F W U t)) = false ∧
            ((decide (nxV L C T R F W U t = nxV L C T R F W U t)) = false ∧
            (K (AV.bool false))))))))) ∧
        ((decide (tmE L C T R F W U f l c = tmE L C T R F W U f l c)) = false →
          (decide (tmE L C T R F W U f l c = tmE L C T R F W U f l c)) = false ∧
          ((decide (tmE L C T R F W U f l c = tmE L C T R F W U f l c)) = false ∧
          ((decide (tmE L C T R F W U f l c = tmE L C T R F W U f l c)) = false ∧
          (K (AV.bool false))))))))) ∧
      ((decide (tmT L C T R F W U f l c = tmT L C T R F W U f l c)) = false →
        (decide (tmT L C T R F W U f l c = tmT L C T R F W U f l c)) = false ∧
        ((decide (tmT L C T R F W U f l c = tmT L C T R F W U f l c)) = false ∧
        ((decide (tmT L C T R F W U f l c = tmT L C T R F W U f l c)) = false ∧
        (K (AV.bool false))))))))) ∧
    ((decide (spE L C T R F W U t = spE L C T R F W U t)) = false →
      (decide (spE L C T R F W U t = spE L C T R F W U t)) = false ∧
      ((decide (spE L C T R F W U t = spE L C T R F W U t)) = false ∧
      ((decide (spE L C T R F W U t = spE L C T R F W U t)) = false ∧
      (K (AV.bool false))))))))) ∧
  ((spF L C T R F W U t == spF L C T R F W U t &&
  (spL L C T R F W U t == spL L C T R F W U t && (spC L C T R F W U t == spC L C T R F W U t && true))) = false →
    (spF L C T R F W U t == spF L C T R F W U t &&
  (spL L C T R F W U t == spL L C T R F W U t && (spC L C T R F W U t == spC L C T R F W U t && true))) = false ∧
    ((spF L C T R F W U t == spF L C T R F W U t &&
  (spL L C T R F W U t == spL L C T R F W U t && (spC L C T R F W U t == spC L C T R F W U t && true))) = false ∧
    ((spF L C T R F W U t == spF L C T R F W U t &&
  (spL L C T R F W U t == spL L C T R F W U t && (spC L C T R F W U t == spC L C T R F W U t && true))) = false ∧
    (K (AV.bool false)))))))))
def tcYE_scr : Plan := .k (.k (.k (.k (.k (.k (.k (.k (.k (.k (.k (.k (.k (.k (.k (.k (.k (.k (.k (.k (.k (.k (.k (.k (.k (.k (.k (.k (.k (.k (.k (.k (.k (.k (.k (.k (.k (.k (.k (.k (.k (.k (.k (.k (.k (.k (.k (.k (.k (.k (.k (.k (.k (.k (.k (.k (.k (.k (.k (.k (.k (.k (.k (.k (.k (.k (.k (.k (.k (.k (.k (.k (.k (.k (.k (.k (.k (.k (.k (.k (.k (.k (.k (.k (.k (.k (.k (.k (.k (.k (.k (.k (.k (.k (.k (.k (.k (.k (.k (.k (.k (.k (.k (.k (.k (.k (.k (.k (.k (.k (.k (.k (.k (.k (.k (.k (.k (.k (.k (.k (.k (.k (.k (.k (.k (.k (.k (.k (.k (.k (.k (.k (.k (.k (.k (.k (.k (.k (.k (.k (.k (.k (.k (.k (.k (.k (.k (.k (.k (.k (.k (.k (.k (.k (.k (.k (.k (.k (.k (.k (.k (.k (.k (.k (.k (.k (.k (.k (.k (.k (.k (.k (.k (.k (.k (.k (.k (.k (.k (.k (.k (.k (.k (.k (.k (.k (.k (.k (.k (.k (.k (.k (.k (.k (.k (.k (.k (.k (.k (.k (.k (.k (.k (.k (.k (.k (.k (.k (.k (.k (.k (.k (.k (.k (.k (.k (.k (.k (.k (.k (.k (.k (.k (.k (.k (.k (.k (.k (.k (.k (.k (.k (.k (.k (.k (.k (.k (.k (.k (.k (.k (.k (.k (.k (.k (.k (.k (.k (.k (.k (.k (.k (.k (.k (.k (.k (.k (.k (.k (.k (.k (.k (.k (.b (.t (.t (.t (.b (.t (.t (.t (.b (.t (.t (.t (.b (.t (.t (.t (.b (.t (.t (.t (.b (.t (.t (.t (.t (.t (.t (.t (.t (.t (.t (.t (.b (.t (.t (.t (.k (.k (.k (.k (.k (.k (.k (.k (.k (.k (.k (.k (.k (.k (.b (.t (.t (.t (.t (.t (.b (.t (.t (.t (.t (.t (.t (.t (.b (.t (.t (.t (.t (.t (.t (.t (.t (.t (.z)))))))))) (.f (.f (.f (.f (.f (.f (.f (.f (.f (.z)))))))))))))))))) (.f (.f (.f (.f (.f (.f (.f (.z)))))))))))))) (.f (.f (.f (.f (.f (.z)))))))))))))))))))))))) (.f (.f (.f (.z)))))))))))))))) (.f (.f (.f (.f (.f (.z)))))))))) (.f (.f (.f (.z)))))))) (.f (.f (.f (.z)))))))) (.f (.f (.f (.z)))))))) (.f (.f (.f (.z)))))))) (.f (.f (.f (.z)))))))))))))))))))))))))))))))))))))))))))))))))))))))))))))))))))))))))))))))))))))))))))))))))))))))))))))))))))))))))))))))))))))))))))))))))))))))))))))))))))))))))))))))))))))))))))))))))))))))))))))))))))))))))))))))))))))))))))))))))))))))))))))))))))))))))))
theorem tcYE_vc (L C T R F W U t u f l c : Int) (m : Nat) (ds : List AV) (K : AV → Prop) : (funP (XLw (trC (trY L C T R F W U m ds)) okRn) 16 [.agg [.int .i64 L, .int .i64 C, .int .i64 T, .int .i64 R, .int .i64 F, .int .i64 W, .int .i64 U], .int .i64 t, .int .i64 u, .agg [.int .i64 f, .int .i64 l, .int .i64 c], .slice 1000 0 0 none] h0 tcYE_scr (fun v _ _ => K v)) = tcYE_VC L C T R F W U t u f l c m ds K := by kernel_rfl
def tcZN_VC (L C T R F W U t u f l c : Int) (K : AV → Prop) : Prop :=
  (!okF L C T R F W U) = true ∧
  ((!okF L C T R F W U) = true ∧
  (((spF L C T R F W U t == spF L C T R F W U t &&
  (spL L C T R F W U t == spL L C T R F W U t && (spC L C T R F W U t == spC L C T R F W U t && true))) = true →
    (spF L C T R F W U t == spF L C T R F W U t &&
  (spL L C T R F W U t == spL L C T R F W U t && (spC L C T R F W U t == spC L C T R F W U t && true))) = true ∧
    ((spF L C T R F W U t == spF L C T R F W U t &&
  (spL L C T R F W U t == spL L C T R F W U t && (spC L C T R F W U t == spC L C T R F W U t && true))) = true ∧
    ((spF L C T R F W U t == spF L C T R F W U t &&
  (spL L C T R F W U t == spL L C T R F W U t && (spC L C T R F W U t == spC L C T R F W U t && true))) = true ∧
    (((decide (spE L C T R F W U t = spE L C T R F W U t)) = true →
      (decide (spE L C T R F W U t = spE L C T R F W U t)) = true ∧
      ((decide (spE L C T R F W U t = spE L C T R F W U t)) = true ∧
      ((decide (spE L C T R F W U t = spE L C T R F W U t)) = true ∧
      (((decide (tmT L C T R F W U f l c = tmT L C T R F W U f l c)) = true →
        (decide (tmT L C T R F W U f l c = tmT L C T R F W U f l c)) = true ∧
        ((decide (tmT L C T R F W U f l c = tmT L C T R F W U f l c)) = true ∧
        ((decide (tmT L C T R F W U f l c = tmT L C T R F W U f l c)) = true ∧
        (((decide (tmE L C T R F W U f l c = tmE L C T R F W U f l c)) = true →
          (decide (tmE L C T R F W U f l c = tmE L C T R F W U f l c)) = true ∧
          ((decide (tmE L C T R F W U f l c = tmE L C T R F W U f l c)) = true ∧
          ((decide (tmE L C T R F W U f l c = tmE L C T R F W U f l c)) = true ∧
          (((decide (nxV L C T R F W U t = nxV L C T R F W U t)) = true →
            (decide (nxV L C T R F W U t = nxV L C T R F W U t)) = true ∧
            ((decide (nxV L C T R F W U t = nxV L C T R F W U t)) = true ∧
            ((decide (nxV L C T R F W U t = nxV L C T R F W U t)) = true ∧
            (((nxB L C T R F W U t == nxB L C T R F W U t) = true →
              (nxB L C T R F W U t == nxB L C T R F W U t) = true ∧
              ((nxB L C T R F W U t == nxB L C T R F W U t) = true ∧
              ((nxB L C T R F W U t == nxB L C T R F W U t) = true ∧
              ((nxB L C T R F W U t == nxB L C T R F W U t) = true ∧
              ((nxB L C T R F W U t == nxB L C T R F W U t) = true ∧
              (((decide
  ((if okF L C T R F W U = true then (0 : Int) else (2 : Int)) =
    if okF L C T R F W U = true then (0 : Int) else (2 : Int))) = true →
                (decide
  ((if okF L C T R F W U = true then (0 : Int) else (2 : Int)) =
    if okF L C T R F W U = true then (0 : Int) else (2 : Int))) = true ∧
                ((decide
  ((if okF L C T R F W U = true then (0 : Int) else (2 : Int)) =
    if okF L C T R F W U = true then (0 : Int) else (2 : Int))) = true ∧
                ((decide
  ((if okF L C T R F W U = true then (0 : Int) else (2 : Int)) =
    if okF L C T R F W U = true then (0 : Int) else (2 : Int))) = true ∧
                ((decide
  ((if okF L C T R F W U = true then (0 : Int) else (2 : Int)) =
    if okF L C T R F W U = true then (0 : Int) else (2 : Int))) = true ∧
                ((decide
  ((if okF L C T R F W U = true then (0 : Int) else (2 : Int)) =
    if okF L C T R F W U = true then (0 : Int) else (2 : Int))) = true ∧
                (((decide (lenF L C T R F W U = lenF L C T R F W U)) = true →
                  (decide (lenF L C T R F W U = lenF L C T R F W U)) = true ∧
                  ((decide (lenF L C T R F W U = lenF L C T R F W U)) = true ∧
                  ((decide (lenF L C T R F W U = lenF L C T R F W U)) = true ∧
                  ((decide (lenF L C T R F W U = lenF L C T R F W U)) = true ∧
                  ((decide (lenF L C T R F W U = lenF L C T R F W U)) = true ∧
                  ((decide (lenF L C T R F W U = lenF L C T R F W U)) = true ∧
                  ((decide (lenF L C T R F W U = lenF L C T R F W U)) = true ∧
                  (((pulseB L C T R F W U t == pulseB L C T R F W U t) = true →
                    (pulseB L C T R F W U t == pulseB L C T R F W U t) = true ∧
                    ((pulseB L C T R F W U t == pulseB L C T R F W U t) = true ∧
                    ((pulseB L C T R F W U t == pulseB L C T R F W U t) = true ∧
                    ((pulseB L C T R F W U t == pulseB L C T R F W U t) = true ∧
                    ((pulseB L C T R F W U t == pulseB L C T R F W U t) = true ∧
                    ((pulseB L C T R F W U t == pulseB L C T R F W U t) = true ∧
                    ((pulseB L C T R F W U t == pulseB L C T R F W U t) = true ∧
                    ((pulseB L C T R F W U t == pulseB L C T R F W U t) = true ∧
                    ((pulseB L C T R F W U t == pulseB L C T R F W U t) = true ∧
                    (K (AV.bool (decide (pulsesN L C T R F W U t u = pulsesN L C T R F W U t u))))))))))))) ∧
                  ((pulseB L C T R F W U t == pulseB L C T R F W U t) = false →
                    (pulseB L C T R F W U t == pulseB L C T R F W U t) = false ∧
                    ((pulseB L C T R F W U t == pulseB L C T R F W U t) = false ∧
                    ((pulseB L C T R F W U t == pulseB L C T R F W U t) = false ∧
                    ((pulseB L C T R F W U t == pulseB L C T R F W U t) = false ∧
                    ((pulseB L C T R F W U t == pulseB L C T R F W U t) = false ∧
                    ((pulseB L C T R F W U t == pulseB L C T R F W U t) = false ∧
                    ((pulseB L C T R F W U t == pulseB L C T R F W U t) = false ∧
                    ((pulseB L C T R F W U t == pulseB L C T R F W U t) = false ∧
                    ((pulseB L C T R F W U t == pulseB L C T R F W U t) = false ∧
                    (K (AV.bool false))))))))))))))))))) ∧
                ((decide (lenF L C T R F W U = lenF L C T R F W U)) = false →
                  (decide (lenF L C T R F W U = lenF L C T R F W U)) = false ∧
                  ((decide (lenF L C T R F W U = lenF L C T R F W U)) = false ∧
                  ((decide (lenF L C T R F W U = lenF L C T R F W U)) = false ∧
                  ((decide (lenF L C T R F W U = lenF L C T R F W U)) = false ∧
                  ((decide (lenF L C T R F W U = lenF L C T R F W U)) = false ∧
                  ((decide (lenF L C T R F W U = lenF L C T R F W U)) = false ∧
                  ((decide (lenF L C T R F W U = lenF L C T R F W U)) = false ∧
                  (K (AV.bool false))))))))))))))) ∧
              ((decide
  ((if okF L C T R F W U = true then (0 : Int) else (2 : Int)) =
    if okF L C T R F W U = true then (0 : Int) else (2 : Int))) = false →
                (decide
  ((if okF L C T R F W U = true then (0 : Int) else (2 : Int)) =
    if okF L C T R F W U = true then (0 : Int) else (2 : Int))) = false ∧
                ((decide
  ((if okF L C T R F W U = true then (0 : Int) else (2 : Int)) =
    if okF L C T R F W U = true then (0 : Int) else (2 : Int))) = false ∧
                ((decide
  ((if okF L C T R F W U = true then (0 : Int) else (2 : Int)) =
    if okF L C T R F W U = true then (0 : Int) else (2 : Int))) = false ∧
                ((decide
  ((if okF L C T R F W U = true then (0 : Int) else (2 : Int)) =
    if okF L C T R F W U = true then (0 : Int) else (2 : Int))) = false ∧
                ((decide
  ((if okF L C T R F W U = true then (0 : Int) else (2 : Int)) =
    if okF L C T R F W U = true then (0 : Int) else (2 : Int))) = false ∧
                (K (AV.bool false))))))))))))) ∧
            ((nxB L C T R F W U t == nxB L C T R F W U t) = false →
              (nxB L C T R F W U t == nxB L C T R F W U t) = false ∧
              ((nxB L C T R F W U t == nxB L C T R F W U t) = false ∧
              ((nxB L C T R F W U t == nxB L C T R F W U t) = false ∧
              ((nxB L C T R F W U t == nxB L C T R F W U t) = false ∧
              ((nxB L C T R F W U t == nxB L C T R F W U t) = false ∧
              (K (AV.bool false))))))))))) ∧
          ((decide (nxV L C T R F W U t = nxV L C T R F W U t)) = false →
            (decide (nxV L C T R F W U t = nxV L C T R F W U t)) = false ∧
            ((decide (nxV L C T R F W U t = nxV L C T R F W U t)) = false ∧
            ((decide (nxV L C T R F W U t = nxV L C T R F W U t)) = false ∧
            (K (AV.bool false))))))))) ∧
        ((decide (tmE L C T R F W U f l c = tmE L C T R F W U f l c)) = false →
          (decide (tmE L C T R F W U f l c = tmE L C T R F W U f l c)) = false ∧
          ((decide (tmE L C T R F W U f l c = tmE L C T R F W U f l c)) = false ∧
          ((decide (tmE L C T R F W U f l c = tmE L C T R F W U f l c)) = false ∧
          (K (AV.bool false))))))))) ∧
      ((decide (tmT L C T R F W U f l c = tmT L C T R F W U f l c)) = false →
        (decide (tmT L C T R F W U f l c = tmT L C T R F W U f l c)) = false ∧
        ((decide (tmT L C T R F W U f l c = tmT L C T R F W U f l c)) = false ∧
        ((decide (tmT L C T R F W U f l c = tmT L C T R F W U f l c)) = false ∧
        (K (AV.bool false))))))))) ∧
    ((decide (spE L C T R F W U t = spE L C T R F W U t)) = false →
      (decide (spE L C T R F W U t = spE L C T R F W U t)) = false ∧
      ((decide (spE L C T R F W U t = spE L C T R F W U t)) = false ∧
      ((decide (spE L C T R F W U t = spE L C T R F W U t)) = false ∧
      (K (AV.bool false))))))))) ∧
  ((spF L C T R F W U t == spF L C T R F W U t &&
  (spL L C T R F W U t == spL L C T R F W U t && (spC L C T R F W U t == spC L C T R F W U t && true))) = false →
    (spF L C T R F W U t == spF L C T R F W U t &&
  (spL L C T R F W U t == spL L C T R F W U t && (spC L C T R F W U t == spC L C T R F W U t && true))) = false ∧
    ((spF L C T R F W U t == spF L C T R F W U t &&
  (spL L C T R F W U t == spL L C T R F W U t && (spC L C T R F W U t == spC L C T R F W U t && true))) = false ∧
    ((spF L C T R F W U t == spF L C T R F W U t &&
  (spL L C T R F W U t == spL L C T R F W U t && (spC L C T R F W U t == spC L C T R F W U t && true))) = false ∧
    (K (AV.bool false)))))))
def tcZN_scr : Plan := .k (.k (.t (.t (.k (.k (.k (.k (.k (.k (.k (.k (.k (.k (.k (.k (.k (.k (.k (.k (.k (.k (.k (.k (.k (.k (.k (.k (.k (.k (.k (.k (.k (.k (.k (.k (.k (.k (.k (.k (.k (.k (.k (.k (.k (.k (.k (.k (.k (.k (.k (.k (.k (.k (.k (.k (.k (.k (.k (.k (.k (.k (.k (.k (.k (.k (.k (.k (.k (.k (.k (.k (.k (.k (.k (.k (.k (.k (.k (.k (.k (.k (.k (.k (.k (.k (.k (.k (.k (.k (.k (.k (.k (.k (.k (.k (.k (.k (.k (.k (.k (.k (.k (.k (.k (.k (.k (.k (.k (.k (.k (.k (.k (.k (.k (.k (.k (.k (.k (.k (.k (.k (.k (.k (.k (.k (.k (.k (.k (.k (.k (.k (.k (.k (.k (.k (.k (.k (.k (.k (.k (.k (.k (.k (.k (.k (.k (.k (.k (.k (.k (.k (.k (.k (.k (.k (.k (.k (.k (.k (.k (.k (.k (.k (.k (.k (.k (.k (.k (.k (.k (.k (.k (.k (.k (.k (.k (.k (.k (.k (.k (.k (.k (.k (.k (.k (.k (.k (.k (.k (.k (.k (.k (.k (.k (.k (.k (.k (.k (.k (.k (.k (.k (.k (.k (.k (.k (.k (.k (.k (.k (.k (.k (.k (.k (.k (.k (.k (.k (.k (.k (.k (.k (.k (.k (.k (.k (.k (.k (.k (.k (.k (.k (.k (.k (.k (.k (.k (.k (.k (.k (.k (.k (.k (.k (.k (.k (.k (.k (.k (.k (.k (.k (.k (.k (.k (.k (.k (.k (.k (.k (.k (.k (.k (.k (.b (.t (.t (.t (.b (.t (.t (.t (.b (.t (.t (.t (.b (.t (.t (.t (.b (.t (.t (.t (.b (.t (.t (.t (.t (.t (.k (.k (.k (.k (.k (.k (.k (.k (.k (.k (.k (.k (.k (.k (.k (.k (.k (.k (.b (.t (.t (.t (.t (.t (.b (.t (.t (.t (.t (.t (.t (.t (.b (.t (.t (.t (.t (.t (.t (.t (.t (.t (.z)))))))))) (.f (.f (.f (.f (.f (.f (.f (.f (.f (.z)))))))))))))))))) (.f (.f (.f (.f (.f (.f (.f (.z)))))))))))))) (.f (.f (.f (.f (.f (.z)))))))))))))))))))))))))))))) (.f (.f (.f (.f (.f (.z)))))))))) (.f (.f (.f (.z)))))))) (.f (.f (.f (.z)))))))) (.f (.f (.f (.z)))))))) (.f (.f (.f (.z)))))))) (.f (.f (.f (.z)))))))))))))))))))))))))))))))))))))))))))))))))))))))))))))))))))))))))))))))))))))))))))))))))))))))))))))))))))))))))))))))))))))))))))))))))))))))))))))))))))))))))))))))))))))))))))))))))))))))))))))))))))))))))))))))))))))))))))))))))))))))))))))))))))))))))))))
theorem tcZN_vc (L C T R F W U t u f l c : Int) (K : AV → Prop) : (funP (XLw (trC (trZ)) okRn) 16 [.agg [.int .i64 L, .int .i64 C, .int .i64 T, .int .i64 R, .int .i64 F, .int .i64 W, .int .i64 U], .int .i64 t, .int .i64 u, .agg [.int .i64 f, .int .i64 l, .int .i64 c], .nilslice] h0 tcZN_scr (fun v _ _ => K v)) = tcZN_VC L C T R F W U t u f l c K := by kernel_rfl
def tcZE_VC (L C T R F W U t u f l c : Int) (K : AV → Prop) : Prop :=
  (!okF L C T R F W U) = true ∧
  ((!okF L C T R F W U) = true ∧
  (((spF L C T R F W U t == spF L C T R F W U t &&
  (spL L C T R F W U t == spL L C T R F W U t && (spC L C T R F W U t == spC L C T R F W U t && true))) = true →
    (spF L C T R F W U t == spF L C T R F W U t &&
  (spL L C T R F W U t == spL L C T R F W U t && (spC L C T R F W U t == spC L C T R F W U t && true))) = true ∧
    ((spF L C T R F W U t == spF L C T R F W U t &&
  (spL L C T R F W U t == spL L C T R F W U t && (spC L C T R F W U t == spC L C T R F W U t && true))) = true ∧
    ((spF L C T R F W U t == spF L C T R F W U t &&
  (spL L C T R F W U t == spL L C T R F W U t && (spC L C T R F W U t == spC L C T R F W U t && true))) = true ∧
    (((decide (spE L C T R F W U t = spE L C T R F W U t)) = true →
      (decide (spE L C T R F W U t = spE L C T R F W U t)) = true ∧
      ((decide (spE L C T R F W U t = spE L C T R F W U t)) = true ∧
      ((decide (spE L C T R F W U t = spE L C T R F W U t)) = true ∧
      (((decide (tmT L C T R F W U f l c = tmT L C T R F W U f l c)) = true →
        (decide (tmT L C T R F W U f l c = tmT L C T R F W U f l c)) = true ∧
        ((decide (tmT L C T R F W U f l c = tmT L C T R F W U f l c)) = true ∧
        ((decide (tmT L C T R F W U f l c = tmT L C T R F W U f l c)) = true ∧
        (((decide (tmE L C T R F W U f l c = tmE L C T R F W U f l c)) = true →
          (decide (tmE L C T R F W U f l c = tmE L C T R F W U f l c)) = true ∧
          ((decide (tmE L C T R F W U f l c = tmE L C T R F W U f l c)) = true ∧
          ((decide (tmE L C T R F W U f l c = tmE L C T R F W U f l c)) = true ∧
          (((decide (nxV L C T R F W U t = nxV L C T R F W U t)) = true →
            (decide (nxV L C T R F W U t = nxV L C T R F W U t)) = true ∧
            ((decide (nxV L C T R F W U t = nxV L C T R F W U t)) = true ∧
            ((decide (nxV L C T R F W U t = nxV L C T R F W U t)) = true ∧
            (((nxB L C T R F W U t == nxB L C T R F W U t) = true →
              (nxB L C T R F W U t == nxB L C T R F W U t) = true ∧
              ((nxB L C T R F W U t == nxB L C T R F W U t) = true ∧
              ((nxB L C T R F W U t == nxB L C T R F W U t) = true ∧
              ((nxB L C T R F W U t == nxB L C T R F W U t) = true ∧
              ((nxB L C T R F W U t == nxB L C T R F W U t) = true ∧
              (((decide
  ((if okF L C T R F W U = true then (0 : Int) else (2 : Int)) =
    if okF L C T R F W U = true then (0 : Int) else (2 : Int))) = true →
                (decide
  ((if okF L C T R F W U = true then (0 : Int) else (2 : Int)) =
    if okF L C T R F W U = true then (0 : Int) else (2 : Int))) = true ∧
                ((decide
  ((if okF L C T R F W U = true then (0 : Int) else (2 : Int)) =
    if okF L C T R F W U = true then (0 : Int) else (2 : Int))) = true ∧
                ((decide
  ((if okF L C T R F W U = true then (0 : Int) else (2 : Int)) =
    if okF L C T R F W U = true then (0 : Int) else (2 : Int))) = true ∧
                ((decide
  ((if okF L C T R F W U = true then (0 : Int) else (2 : Int)) =
    if okF L C T R F W U = true then (0 : Int) else (2 : Int))) = true ∧
                ((decide
  ((if okF L C T R F W U = true then (0 : Int) else (2 : Int)) =
    if okF L C T R F W U = true then (0 : Int) else (2 : Int))) = true ∧
                (((decide (lenF L C T R F W U = lenF L C T R F W U)) = true →
                  (decide (lenF L C T R F W U = lenF L C T R F W U)) = true ∧
                  ((decide (lenF L C T R F W U = lenF L C T R F W U)) = true ∧
                  ((decide (lenF L C T R F W U = lenF L C T R F W U)) = true ∧
                  ((decide (lenF L C T R F W U = lenF L C T R F W U)) = true ∧
                  ((decide (lenF L C T R F W U = lenF L C T R F W U)) = true ∧
                  ((decide (lenF L C T R F W U = lenF L C T R F W U)) = true ∧
                  ((decide (lenF L C T R F W U = lenF L C T R F W U)) = true ∧
                  (((pulseB L C T R F W U t == pulseB L C T R F W U t) = true →
                    (pulseB L C T R F W U t == pulseB L C T R F W U t) = true ∧
                    ((pulseB L C T R F W U t == pulseB L C T R F W U t) = true ∧
                    ((pulseB L C T R F W U t == pulseB L C T R F W U t) = true ∧
                    ((pulseB L C T R F W U t == pulseB L C T R F W U t) = true ∧
                    ((pulseB L C T R F W U t == pulseB L C T R F W U t) = true ∧
                    ((pulseB L C T R F W U t == pulseB L C T R F W U t) = true ∧
                    ((pulseB L C T R F W U t == pulseB L C T R F W U t) = true ∧
                    ((pulseB L C T R F W U t == pulseB L C T R F W U t) = true ∧
                    ((pulseB L C T R F W U t == pulseB L C T R F W U t) = true ∧
                    (K (AV.bool (decide (pulsesN L C T R F W U t u = pulsesN L C T R F W U t u))))))))))))) ∧
                  ((pulseB L C T R F W U t == pulseB L C T R F W U t) = false →
                    (pulseB L C T R F W U t == pulseB L C T R F W U t) = false ∧
                    ((pulseB L C T R F W U t == pulseB L C T R F W U t) = false ∧
                    ((pulseB L C T R F W U t == pulseB L C T R F W U t) = false ∧
                    ((pulseB L C T R F W U t == pulseB L C T R F W U t) = false ∧
                    ((pulseB L C T R F W U t == pulseB L C T R F W U t) = false ∧
                    ((pulseB L C T R F W U t == pulseB L C T R F W U t) = false ∧
                    ((pulseB L C T R F W U t == pulseB L C T R F W U t) = false ∧
                    ((pulseB L C T R F W U t == pulseB L C T R F W U t) = false ∧
                    ((pulseB L C T R F W U t == pulseB L C T R F W U t) = false ∧
                    (K (AV.bool false))))))))))))))))))) ∧
                ((decide (lenF L C T R F W U = lenF L C T R F W U)) = false →
                  (decide (lenF L C T R F W U = lenF L C T R F W U)) = false ∧
                  ((decide (lenF L C T R F W U = lenF L C T R F W U)) = false ∧
                  ((decide (lenF L C T R F W U = lenF L C T R F W U)) = false ∧
                  ((decide (lenF L C T R F W U = lenF L C T R F W U)) = false ∧
                  ((decide (lenF L C T R F W U = lenF L C T R F W U)) = false ∧
                  ((decide (lenF L C T R F W U = lenF L C T R F W U)) = false ∧
                  ((decide (lenF L C T R F W U = lenF L C T R F W U)) = false ∧
                  (K (AV.bool false))))))))))))))) ∧
              ((decide
  ((if okF L C T R F W U = true then (0 : Int) else (2 : Int)) =
    if okF L C T R F W U = true then (0 : Int) else (2 : Int))) = false →
                (decide
  ((if okF L C T R F W U = true then (0 : Int) else (2 : Int)) =
    if okF L C T R F W U = true then (0 : Int) else (2 : Int))) = false ∧
                ((decide
  ((if okF L C T R F W U = true then (0 : Int) else (2 : Int)) =
    if okF L C T R F W U = true then (0 : Int) else (2 : Int))) = false ∧
                ((decide
  ((if okF L C T R F W U = true then (0 : Int) else (2 : Int)) =
    if okF L C T R F W U = true then (0 : Int) else (2 : Int))) = false ∧
                ((decide
  ((if okF L C T R F W U = true then (0 : Int) else (2 : Int)) =
    if okF L C T R F W U = true then (0 : Int) else (2 : Int))) = false ∧
                ((decide
  ((if okF L C T R F W U = true then (0 : Int) else (2 : Int)) =
    if okF L C T R F W U = true then (0 : Int) else (2 : Int))) = false ∧
                (K (AV.bool false))))))))))))) ∧
            ((nxB L C T R F W U t == nxB L C T R F W U t) = false →
              (nxB L C T R F W U t == nxB L C T R F W U t) = false ∧
              ((nxB L C T R F W U t == nxB L C T R F W U t) = false ∧
              ((nxB L C T R F W U t == nxB L C T R F W U t) = false ∧
              ((nxB L C T R F W U t == nxB L C T R F W U t) = false ∧
              ((nxB L C T R F W U t == nxB L C T R F W U t) = false ∧
              (K (AV.bool false))))))))))) ∧
          ((decide (nxV L C T R F W U t = nxV L C T R F W U t)) = false →
            (decide (nxV L C T R F W U t = nxV L C T R F W U t)) = false ∧
            ((decide (nxV L C T R F W U t = nxV L C T R F W U t)) = false ∧
            ((decide (nxV L C T R F W U t = nxV L C T R F W U t)) = false ∧
            (K (AV.bool false))))))))) ∧
        ((decide (tmE L C T R F W U f l c = tmE L C T R F W U f l c)) = false →
          (decide (tmE L C T R F W U f l c = tmE L C T R F W U f l c)) = false ∧
          ((decide (tmE L C T R F W U f l c = tmE L C T R F W U f l c)) = false ∧
          ((decide (tmE L C T R F W U f l c = tmE L C T R F W U f l c)) = false ∧
          (K (AV.bool false))))))))) ∧
      ((decide (tmT L C T R F W U f l c = tmT L C T R F W U f l c)) = false →
        (decide (tmT L C T R F W U f l c = tmT L C T R F W U f l c)) = false ∧
        ((decide (tmT L C T R F W U f l c = tmT L C T R F W U f l c)) = false ∧
        ((decide (tmT L C T R F W U f l c = tmT L C T R F W U f l c)) = false ∧
        (K (AV.bool false))))))))) ∧
    ((decide (spE L C T R F W U t = spE L C T R F W U t)) = false →
      (decide (spE L C T R F W U t = spE L C T R F W U t)) = false ∧
      ((decide (spE L C T R F W U t = spE L C T R F W U t)) = false ∧
      ((decide (spE L C T R F W U t = spE L C T R F W U t)) = false ∧
      (K (AV.bool false))))))))) ∧
  ((spF L C T R F W U t == spF L C T R F W U t &&
  (spL L C T R F W U t == spL L C T R F W U t && (spC L C T R F W U t == spC L C T R F W U t && true))) = false →
    (spF L C T R F W U t == spF L C T R F W U t &&
  (spL L C T R F W U t == spL L C T R F W U t && (spC L C T R F W U t == spC L C T R F W U t && true))) = false ∧
    ((spF L C T R F W U t == spF L C T R F W U t &&
  (spL L C T R F W U t == spL L C T R F W U t && (spC L C T R F W U t == spC L C T R F W U t && true))) = false ∧
    ((spF L C T R F W U t == spF L C T R F W U t &&
  (spL L C T R F W U t == spL L C T R F W U t && (spC L C T R F W U t == spC L C T R F W U t && true))) = false ∧
    (K (AV.bool false)))))))
def tcZE_scr : Plan := .k (.k (.t (.t (.k (.k (.k (.k (.k (.k (.k (.k (.k (.k (.k (.k (.k (.k (.k (.k (.k (.k (.k (.k (.k (.k (.k (.k (.k (.k (.k (.k (.k (.k (.k (.k (.k (.k (.k (.k (.k (.k (.k (.k (.k (.k (.k (.k (.k (.k (.k (.k (.k (.k (.k (.k (.k (.k (.k (.k (.k (.k (.k (.k (.k (.k (.k (.k (.k (.k (.k (.k (.k (.k (.k (.k (.k (.k (.k (.k (.k (.k (.k (.k (.k (.k (.k (.k (.k (.k (.k (.k (.k (.k (.k (.k (.k (.k (.k (.k (.k (.k (.k (.k (.k (.k (.k (.k (.k (.k (.k (.k (.k (.k (.k (.k (.k (.k (.k (.k (.k (.k (.k (.k (.k (.k (.k (.k (.k (.k (.k (.k (.k (.k (.k (.k (.k (.k (.k (.k (.k (.k (.k (.k (.k (.k (.k (.k (.k (.k (.k (.k (.k (.k (.k (.k (.k (.k (.k (.k (.k (.k (.k (.k (.k (.k (.k (.k (.k (.k (.k (.k (.k (.k (.k (.k (.k (.k (.k (.k (.k (.k (.k (.k (.k (.k (.k (.k (.k (.k (.k (.k (.k (.k (.k (.k (.k (.k (.k (.k (.k (.k (.k (.k (.k (.k (.k (.k (.k (.k (.k (.k (.k (.k (.k (.k (.k (.k (.k (.k (.k (.k (.k (.k (.k (.k (.k (.k (.k (.k (.k (.k (.k (.k (.k (.k (.k (.k (.k (.k (.k (.k (.k (.k (.k (.k (.k (.k (.k (.k (.k (.k (.k (.k (.k (.k (.k (.k (.k (.k (.k (.k (.k (.k (.k (.b (.t (.t (.t (.b (.t (.t (.t (.b (.t (.t (.t (.b (.t (.t (.t (.b (.t (.t (.t (.b (.t (.t (.t (.t (.t (.k (.k (.k (.k (.k (.k (.k (.k (.k (.k (.k (.k (.k (.k (.k (.k (.k (.k (.b (.t (.t (.t (.t (.t (.b (.t (.t (.t (.t (.t (.t (.t (.b (.t (.t (.t (.t (.t (.t (.t (.t (.t (.z)))))))))) (.f (.f (.f (.f (.f (.f (.f (.f (.f (.z)))))))))))))))))) (.f (.f (.f (.f (.f (.f (.f (.z)))))))))))))) (.f (.f (.f (.f (.f (.z)))))))))))))))))))))))))))))) (.f (.f (.f (.f (.f (.z)))))))))) (.f (.f (.f (.z)))))))) (.f (.f (.f (.z)))))))) (.f (.f (.f (.z)))))))) (.f (.f (.f (.z)))))))) (.f (.f (.f (.z)))))))))))))))))))))))))))))))))))))))))))))))))))))))))))))))))))))))))))))))))))))))))))))))))))))))))))))))))))))))))))))))))))))))))))))))))))))))))))))))))))))))))))))))))))))))))))))))))))))))))))))))))))))))))))))))))))))))))))))))))))))))))))))))))))))))))))))
theorem tcZE_vc (L C T R F W U t u f l c : Int) (K : AV → Prop) : (funP (XLw (trC (trZ)) okRn) 16 [.agg [.int .i64 L, .int .i64 C, .int .i64 T, .int .i64 R, .int .i64 F, .int .i64 W, .int .i64 U], .int .i64 t, .int .i64 u, .agg [.int .i64 f, .int .i64 l, .int .i64 c], .slice 1000 0 0 none] h0 tcZE_scr (fun v _ _ => K v)) = tcZE_VC L C T R F W U t u f l c K := by kernel_rfl
end Go.Proofs.Ytnfelncgeihihaa.V
namespace Go.Proofs.Ytnfelncgeihihaa.V
open Go Go.Proofs
set_option maxRecDepth 100000
set_option linter.unusedVariables false
def tcYS_VC (L C T R F W U t u f l c : Int) (m : Nat) (ds : List AV) (bz g : Nat → Int) (er : Int) (n k : Nat) (cs : List AV) (K : AV → AH → Prop) : Prop :=
  ((decide ((↑n : Int) > (300 : Int))) = true →
    K (AV.bool true)
  { nx := (3 : Nat),
    m :=
      [((2 : Nat), AObj.cells (30 : Nat) [AV.int IntKind.i64 f, AV.int IntKind.i64 l, AV.int IntKind.i64 c]),
        ((1 : Nat),
          AObj.cells (23 : Nat)
            [AV.int IntKind.i64 L, AV.int IntKind.i64 C, AV.int IntKind.i64 T, AV.int IntKind.i64 R,
              AV.int IntKind.i64 F, AV.int IntKind.i64 W, AV.int IntKind.i64 U]),
        ((0 : Nat), AObj.ro cs)] }) ∧
  ((decide ((↑n : Int) > (300 : Int))) = false →
    need ([AV.agg
      [AV.int IntKind.i64 L, AV.int IntKind.i64 C, AV.int IntKind.i64 T, AV.int IntKind.i64 R, AV.int IntKind.i64 F,
        AV.int IntKind.i64 W, AV.int IntKind.i64 U]] =
  [AV.agg
      [AV.int IntKind.i64 L, AV.int IntKind.i64 C, AV.int IntKind.i64 T, AV.int IntKind.i64 R, AV.int IntKind.i64 F,
        AV.int IntKind.i64 W, AV.int IntKind.i64 U]]) ∧
    (need (okF L C T R F W U = true ∧
  m = List.length (bts (scX L C T R F W U) (7 : Nat)) ∧ ds = encI IntKind.u8 (bts (scX L C T R F W U) (7 : Nat))) ∧
    (need ([AV.agg
      [AV.int IntKind.i64 L, AV.int IntKind.i64 C, AV.int IntKind.i64 T, AV.int IntKind.i64 R, AV.int IntKind.i64 F,
        AV.int IntKind.i64 W, AV.int IntKind.i64 U]] =
  [AV.agg
      [AV.int IntKind.i64 L, AV.int IntKind.i64 C, AV.int IntKind.i64 T, AV.int IntKind.i64 R, AV.int IntKind.i64 F,
        AV.int IntKind.i64 W, AV.int IntKind.i64 U]]) ∧
    (need (okF L C T R F W U = true ∧
  m = List.length (bts (scX L C T R F W U) (7 : Nat)) ∧ ds = encI IntKind.u8 (bts (scX L C T R F W U) (7 : Nat))) ∧
    ((decide ((0 : Nat) < n)) = true ∧
    ((decide ((0 : Nat) + n * (1 : Nat) ≤ List.length cs)) = true ∧
    ((decide (n * (1 : Nat) ≤ (140737488355328 : Nat))) = true ∧
    ((decide (n ≤ (140737488355328 : Nat))) = true ∧
    (need (n = n ∧ List.take (n * (1 : Nat)) (List.drop (0 : Nat) cs) = cs ∧ (8 : Nat) < (9 : Nat) ∧ rdPre bz g er n cs) ∧
    (need (n = n ∧ cs = cs ∧ (0 : Nat) < (11 : Nat) ∧ rdPre bz g er n cs) ∧
    (((spF L C T R F W U t == spF L C T R F W U t &&
  (spL L C T R F W U t == spL L C T R F W U t && (spC L C T R F W U t == spC L C T R F W U t && true))) = true →
      (spF L C T R F W U t == spF L C T R F W U t &&
  (spL L C T R F W U t == spL L C T R F W U t && (spC L C T R F W U t == spC L C T R F W U t && true))) = true ∧
      ((spF L C T R F W U t == spF L C T R F W U t &&
  (spL L C T R F W U t == spL L C T R F W U t && (spC L C T R F W U t == spC L C T R F W U t && true))) = true ∧
      ((spF L C T R F W U t == spF L C T R F W U t &&
  (spL L C T R F W U t == spL L C T R F W U t && (spC L C T R F W U t == spC L C T R F W U t && true))) = true ∧
      (((decide (spE L C T R F W U t = spE L C T R F W U t)) = true →
        (decide (spE L C T R F W U t = spE L C T R F W U t)) = true ∧
        ((decide (spE L C T R F W U t = spE L C T R F W U t)) = true ∧
        ((decide (spE L C T R F W U t = spE L C T R F W U t)) = true ∧
        (((decide (tmT L C T R F W U f l c = tmT L C T R F W U f l c)) = true →
          (decide (tmT L C T R F W U f l c = tmT L C T R F W U f l c)) = true ∧
          ((decide (tmT L C T R F W U f l c = tmT L C T R F W U f l c)) = true ∧
          ((decide (tmT L C T R F W U f l c = tmT L C T R F W U f l c)) = true ∧
          (((decide (tmE L C T R F W U f l c = tmE L C T R F W U f l c)) = true →
            (decide (tmE L C T R F W U f l c = tmE L C T R F W U f l c)) = true ∧
            ((decide (tmE L C T R F W U f l c = tmE L C T R F W U f l c)) = true ∧
            ((decide (tmE L C T R F W U f l c = tmE L C T R F W U f l c)) = true ∧
            (((decide (nxV L C T R F W U t = nxV L C T R F W U t)) = true →
              (decide (nxV L C T R F W U t = nxV L C T R F W U t)) = true ∧
              ((decide (nxV L C T R F W U t = nxV L C T R F W U t)) = true ∧
              ((decide (nxV L C T R F W U t = nxV L C T R F W U t)) = true ∧
              (((nxB L C T R F W U t == nxB L C T R F W U t) = true →
                (nxB L C T R F W U t == nxB L C T R F W U t) = true ∧
                ((!decide (m = (0 : Nat))) = true ∧
                ((decide ((0 : Nat) + m ≤ List.length ds)) = true ∧
                ((match toInts (List.take m (List.drop (0 : Nat) ds)) with
| some val => true
| none => false) = true ∧
                ((nxB L C T R F W U t == nxB L C T R F W U t) = true ∧
                ((nxB L C T R F W U t == nxB L C T R F W U t) = true ∧
                ((!decide (m = (0 : Nat))) = true ∧
                ((decide ((0 : Nat) + m ≤ List.length ds)) = true ∧
                ((match toInts (List.take m (List.drop (0 : Nat) ds)) with
| some val => true
| none => false) = true ∧
                ((nxB L C T R F W U t == nxB L C T R F W U t) = true ∧
                ((nxB L C T R F W U t == nxB L C T R F W U t) = true ∧
                (((decide
  (ByteArray.toList.loop (strOf (Option.getD (toInts (List.take m (List.drop (0 : Nat) ds))) [])) (0 : Nat) [] =
    ByteArray.toList.loop (strOf (Option.getD (toInts (List.take m (List.drop (0 : Nat) ds))) [])) (0 : Nat) [])) = true →
                  (decide
  (ByteArray.toList.loop (strOf (Option.getD (toInts (List.take m (List.drop (0 : Nat) ds))) [])) (0 : Nat) [] =
    ByteArray.toList.loop (strOf (Option.getD (toInts (List.take m (List.drop (0 : Nat) ds))) [])) (0 : Nat) [])) = true ∧
                  ((decide
  (ByteArray.toList.loop (strOf (Option.getD (toInts (List.take m (List.drop (0 : Nat) ds))) [])) (0 : Nat) [] =
    ByteArray.toList.loop (strOf (Option.getD (toInts (List.take m (List.drop (0 : Nat) ds))) [])) (0 : Nat) [])) = true ∧
                  ((decide
  (ByteArray.toList.loop (strOf (Option.getD (toInts (List.take m (List.drop (0 : Nat) ds))) [])) (0 : Nat) [] =
    ByteArray.toList.loop (strOf (Option.getD (toInts (List.take m (List.drop (0 : Nat) ds))) [])) (0 : Nat) [])) = true ∧
                  (((g (0 : Nat) == g (0 : Nat) &&
  (g (1 : Nat) == g (1 : Nat) &&
    (g (2 : Nat) == g (2 : Nat) &&
      (g (3 : Nat) == g (3 : Nat) &&
        (g (4 : Nat) == g (4 : Nat) && (g (5 : Nat) == g (5 : Nat) && (g (6 : Nat) == g (6 : Nat) && true))))))) = true →
                    (g (0 : Nat) == g (0 : Nat) &&
  (g (1 : Nat) == g (1 : Nat) &&
    (g (2 : Nat) == g (2 : Nat) &&
      (g (3 : Nat) == g (3 : Nat) &&
        (g (4 : Nat) == g (4 : Nat) && (g (5 : Nat) == g (5 : Nat) && (g (6 : Nat) == g (6 : Nat) && true))))))) = true ∧
                    ((g (0 : Nat) == g (0 : Nat) &&
  (g (1 : Nat) == g (1 : Nat) &&
    (g (2 : Nat) == g (2 : Nat) &&
      (g (3 : Nat) == g (3 : Nat) &&
        (g (4 : Nat) == g (4 : Nat) && (g (5 : Nat) == g (5 : Nat) && (g (6 : Nat) == g (6 : Nat) && true))))))) = true ∧
                    ((g (0 : Nat) == g (0 : Nat) &&
  (g (1 : Nat) == g (1 : Nat) &&
    (g (2 : Nat) == g (2 : Nat) &&
      (g (3 : Nat) == g (3 : Nat) &&
        (g (4 : Nat) == g (4 : Nat) && (g (5 : Nat) == g (5 : Nat) && (g (6 : Nat) == g (6 : Nat) && true))))))) = true ∧
                    (((decide (er = er)) = true →
                      (decide (er = er)) = true ∧
                      ((decide (er = er)) = true ∧
                      ((decide (er = er)) = true ∧
                      ((decide (er = er)) = true ∧
                      ((decide (er = er)) = true ∧
                      (((decide
  ((if okF L C T R F W U = true then (0 : Int) else (2 : Int)) =
    if okF L C T R F W U = true then (0 : Int) else (2 : Int))) = true →
                        (decide
  ((if okF L C T R F W U = true then (0 : Int) else (2 : Int)) =
    if okF L C T R F W U = true then (0 : Int) else (2 : Int))) = true ∧
                        ((decide
  ((if okF L C T R F W U = true then (0 : Int) else (2 : Int)) =
    if okF L C T R F W U = true then (0 : Int) else (2 : Int))) = true ∧
                        ((decide
  ((if okF L C T R F W U = true then (0 : Int) else (2 : Int)) =
    if okF L C T R F W U = true then (0 : Int) else (2 : Int))) = true ∧
                        ((decide
  ((if okF L C T R F W U = true then (0 : Int) else (2 : Int)) =
    if okF L C T R F W U = true then (0 : Int) else (2 : Int))) = true ∧
                        ((decide
  ((if okF L C T R F W U = true then (0 : Int) else (2 : Int)) =
    if okF L C T R F W U = true then (0 : Int) else (2 : Int))) = true ∧
                        (((decide (lenF L C T R F W U = lenF L C T R F W U)) = true →
                          (decide (lenF L C T R F W U = lenF L C T R F W U)) = true ∧
                          ((decide (lenF L C T R F W U = lenF L C T R F W U)) = true ∧
                          ((decide (lenF L C T R F W U = lenF L C T R F W U)) = true ∧
                          ((decide (lenF L C T R F W U = lenF L C T R F W U)) = true ∧
                          ((decide (lenF L C T R F W U = lenF L C T R F W U)) = true ∧
                          ((decide (lenF L C T R F W U = lenF L C T R F W U)) = true ∧
                          ((decide (lenF L C T R F W U = lenF L C T R F W U)) = true ∧
                          (((pulseB L C T R F W U t == pulseB L C T R F W U t) = true →
                            (pulseB L C T R F W U t == pulseB L C T R F W U t) = true ∧
                            ((pulseB L C T R F W U t == pulseB L C T R F W U t) = true ∧
                            ((pulseB L C T R F W U t == pulseB L C T R F W U t) = true ∧
                            ((pulseB L C T R F W U t == pulseB L C T R F W U t) = true ∧
                            ((pulseB L C T R F W U t == pulseB L C T R F W U t) = true ∧
                            ((pulseB L C T R F W U t == pulseB L C T R F W U t) = true ∧
                            ((pulseB L C T R F W U t == pulseB L C T R F W U t) = true ∧
                            ((pulseB L C T R F W U t == pulseB L C T R F W U t) = true ∧
                            ((pulseB L C T R F W U t == pulseB L C T R F W U t) = true ∧
                            (K (AV.bool (decide (pulsesN L C T R F W U t u = pulsesN L C T R F W U t u)))
  { nx := (13 : Nat),
    m :=
      [((12 : Nat),
          AObj.cells (23 : Nat)
            [AV.int IntKind.i64 (g (0 : Nat)), AV.int IntKind.i64 (g (1 : Nat)), AV.int IntKind.i64 (g (2 : Nat)),
              AV.int IntKind.i64 (g (3 : Nat)), AV.int IntKind.i64 (g (4 : Nat)), AV.int IntKind.i64 (g (5 : Nat)),
              AV.int IntKind.i64 (g (6 : Nat))]),
        ((11 : Nat), AObj.opn (5 : Nat) (1 : Nat) cs),
        ((10 : Nat),
          AObj.cells (23 : Nat)
            [AV.int IntKind.i64 (g (0 : Nat)), AV.int IntKind.i64 (g (1 : Nat)), AV.int IntKind.i64 (g (2 : Nat)),
              AV.int IntKind.i64 (g (3 : Nat)), AV.int IntKind.i64 (g (4 : Nat)), AV.int IntKind.i64 (g (5 : Nat)),
              AV.int IntKind.i64 (g (6 : Nat))]),
        ((9 : Nat), AObj.opn (5 : Nat) (1 : Nat) cs),
        ((8 : Nat), AObj.opn (5 : Nat) (1 : Nat) (List.take (n * (1 : Nat)) (List.drop (0 : Nat) cs))),
        ((7 : Nat), AObj.cells (5 : Nat) []), ((6 : Nat), AObj.opn (5 : Nat) (1 : Nat) ds),
        ((5 : Nat), AObj.opn (5 : Nat) (1 : Nat) ds),
        ((4 : Nat),
          AObj.cells (30 : Nat)
            [AV.int IntKind.i64 (spF L C T R F W U t), AV.int IntKind.i64 (spL L C T R F W U t),
              AV.int IntKind.i64 (spC L C T R F W U t)]),
        ((3 : Nat),
          AObj.cells (30 : Nat)
            [AV.int IntKind.i64 (spF L C T R F W U t), AV.int IntKind.i64 (spL L C T R F W U t),
              AV.int IntKind.i64 (spC L C T R F W U t)]),
        ((2 : Nat), AObj.cells (30 : Nat) [AV.int IntKind.i64 f, AV.int IntKind.i64 l, AV.int IntKind.i64 c]),
        ((1 : Nat),
          AObj.cells (23 : Nat)
            [AV.int IntKind.i64 L, AV.int IntKind.i64 C, AV.int IntKind.i64 T, AV.int IntKind.i64 R,
              AV.int IntKind.i64 F, AV.int IntKind.i64 W, AV.int IntKind.i64 U]),
        ((0 : Nat), AObj.ro cs)] })))))))))) ∧
                          ((pulseB L C T R F W U t == pulseB L C T R F W U t) = false →
                            (pulseB L C T R F W U t == pulseB L C T R F W U t) = false ∧
                            ((pulseB L C T R F W U t == pulseB L C T R F W U t) = false ∧
                            ((pulseB L C T R F W U t == pulseB L C T R F W U t) = false ∧
                            ((pulseB L C T R F W U t == pulseB L C T R F W U t) = false ∧
                            ((pulseB L C T R F W U t == pulseB L C T R F W U t) = false ∧
                            ((pulseB L C T R F W U t == pulseB L C T R F W U t) = false ∧
                            ((pulseB L C T R F W U t == pulseB L C T R F W U t) = false ∧
                            ((pulseB L C T R F W U t == pulseB L C T R F W U t) = false ∧
                            ((pulseB L C T R F W U t == pulseB L C T R F W U t) = false ∧
                            (K (AV.bool false)
  { nx := (13 : Nat),
    m :=
      [((12 : Nat),
          AObj.cells (23 : Nat)
            [AV.int IntKind.i64 (g (0 : Nat)), AV.int IntKind.i64 (g (1 : Nat)), AV.int IntKind.i64 (g (2 : Nat)),
              AV.int IntKind.i64 (g (3 : Nat)), AV.int IntKind.i64 (g (4 : Nat)), AV.int IntKind.i64 (g (5 : Nat)),
              AV.int IntKind.i64 (g (6 : Nat))]),
        ((11 : Nat), AObj.opn (5 : Nat) (1 : Nat) cs),
        ((10 : Nat),
          AObj.cells (23 : Nat)
            [AV.int IntKind.i64 (g (0 : Nat)), AV.int IntKind.i64 (g (1 : Nat)), AV.int IntKind.i64 (g (2 : Nat)),
              AV.int IntKind.i64 (g (3 : Nat)), AV.int IntKind.i64 (g (4 : Nat)), AV.int IntKind.i64 (g (5 : Nat)),
              AV.int IntKind.i64 (g (6 : Nat))]),
        ((9 : Nat), AObj.opn (5 : Nat) (1 : Nat) cs),
        ((8 : Nat), AObj.opn (5 : Nat) (1 : Nat) (List.take (n * (1 : Nat)) (List.drop (0 : Nat) cs))),
        ((7 : Nat), AObj.cells (5 : Nat) []), ((6 : Nat), AObj.opn (5 : Nat) (1 : Nat) ds),
        ((5 : Nat), AObj.opn (5 : Nat) (1 : Nat) ds),
        ((4 : Nat),
          AObj.cells (30 : Nat)
            [AV.int IntKind.i64 (spF L C T R F W U t), AV.int IntKind.i64 (spL L C T R F W U t),
              AV.int IntKind.i64 (spC L C T R F W U t)]),
        ((3 : Nat),
          AObj.cells (30 : Nat)
            [AV.int IntKind.i64 (spF L C T R F W U t), AV.int IntKind.i64 (spL L C T R F W U t),
              AV.int IntKind.i64 (spC L C T R F W U t)]),
        ((2 : Nat), AObj.cells (30 : Nat) [AV.int IntKind.i64 f, AV.int IntKind.i64 l, AV.int IntKind.i64 c]),
        ((1 : Nat),
          AObj.cells (23 : Nat)
            [AV.int IntKind.i64 L, AV.int IntKind.i64 C, AV.int IntKind.i64 T, AV.int IntKind.i64 R,
              AV.int IntKind.i64 F, AV.int IntKind.i64 W, AV.int IntKind.i64 U]),
        ((0 : Nat), AObj.ro cs)] })))))))))))))))))) ∧
                        ((decide (lenF L C T R F W U = lenF L C T R F W U)) = false →
                          (decide (lenF L C T R F W U = lenF L C T R F W U)) = false ∧
                          ((decide (lenF L C T R F W U = lenF L C T R F W U)) = false ∧
                          ((decide (lenF L C T R F W U = lenF L C T R F W U)) = false ∧
                          ((decide (lenF L C T R F W U = lenF L C T R F W U)) = false ∧
                          ((decide (lenF L C T R F W U = lenF L C T R F W U)) = false ∧
                          ((decide (lenF L C T R F W U = lenF L C T R F W U)) = false ∧
                          ((decide (lenF L C T R F W U = lenF L C T R F W U)) = false ∧
                          (K (AV.bool false)
  { nx := (13 : Nat),
    m :=
      [((12 : Nat),
          AObj.cells (23 : Nat)
            [AV.int IntKind.i64 (g (0 : Nat)), AV.int IntKind.i64 (g (1 : Nat)), AV.int IntKind.i64 (g (2 : Nat)),
              AV.int IntKind.i64 (g (3 : Nat)), AV.int IntKind.i64 (g (4 : Nat)), AV.int IntKind.i64 (g (5 : Nat)),
              AV.int IntKind.i64 (g (6 : Nat))]),
        ((11 : Nat), AObj.opn (5 : Nat) (1 : Nat) cs),
        ((10 : Nat),
          AObj.cells (23 : Nat)
            [AV.int IntKind.i64 (g (0 : Nat)), AV.int IntKind.i64 (g (1 : Nat)), AV.int IntKind.i64 (g (2 : Nat)),
              AV.int IntKind.i64 (g (3 : Nat)), AV.int IntKind.i64 (g (4 : Nat)), AV.int IntKind.i64 (g (5 : Nat)),
              AV.int IntKind.i64 (g (6 : Nat))]),
        ((9 : Nat), AObj.opn (5 : Nat) (1 : Nat) cs),
        ((8 : Nat), AObj.opn (5 : Nat) (1 : Nat) (List.take (n * (1 : Nat)) (List.drop (0 : Nat) cs))),
        ((7 : Nat), AObj.cells (5 : Nat) []), ((6 : Nat), AObj.opn (5 : Nat) (1 : Nat) ds),
        ((5 : Nat), AObj.opn (5 : Nat) (1 : Nat) ds),
        ((4 : Nat),
          AObj.cells (30 : Nat)
            [AV.int IntKind.i64 (spF L C T R F W U t), AV.int IntKind.i64 (spL L C T R F W U t),
              AV.int IntKind.i64 (spC L C T R F W U t)]),
        ((3 : Nat),
          AObj.cells (30 : Nat)
            [AV.int IntKind.i64 (spF L C T R F W U t), AV.int IntKind.i64 (spL L C T R F W U t),
              AV.int IntKind.i64 (spC L C T R F W U t)]),
        ((2 : Nat), AObj.cells (30 : Nat) [AV.int IntKind.i64 f, AV.int IntKind.i64 l, AV.int IntKind.i64 c]),
        ((1 : Nat),
          AObj.cells (23 : Nat)
            [AV.int IntKind.i64 L, AV.int IntKind.i64 C, AV.int IntKind.i64 T, AV.int IntKind.i64 R,
              AV.int IntKind.i64 F, AV.int IntKind.i64 W, AV.int IntKind.i64 U]),
        ((0 : Nat), AObj.ro cs)] })))))))))))))) ∧
                      ((decide
  ((if okF L C T R F W U = true then (0 : Int) else (2 : Int)) =
    if okF L C T R F W U = true then (0 : Int) else (2 : Int))) = false →
                        (decide
  ((if okF L C T R F W U = true then (0 : Int) else (2 : Int)) =
    if okF L C T R F W U = true then (0 : Int) else (2 : Int))) = false ∧
                        ((decide
  ((if okF L C T R F W U = true then (0 : Int) else (2 : Int)) =
    if okF L C T R F W U = true then (0 : Int) else (2 : Int))) = false ∧
                        ((decide
  ((if okF L C T R F W U = true then (0 : Int) else (2 : Int)) =
    if okF L C T R F W U = true then (0 : Int) else (2 : Int))) = false ∧
                        ((decide
  ((if okF L C T R F W U = true then (0 : Int) else (2 : Int)) =
    if okF L C T R F W U = true then (0 : Int) else (2 : Int))) = false ∧
                        ((decide
  ((if okF L C T R F W U = true then (0 : Int) else (2 : Int)) =
    if okF L C T R F W U = true then (0 : Int) else (2 : Int))) = false ∧
                        (K (AV.bool false)
  { nx := (13 : Nat),
    m :=
      [((12 : Nat),
          AObj.cells (23 : Nat)
            [AV.int IntKind.i64 (g (0 : Nat)), AV.int IntKind.i64 (g (1 : Nat)), AV.int IntKind.i64 (g (2 : Nat)),
              AV.int IntKind.i64 (g (3 : Nat)), AV.int IntKind.i64 (g (4 : Nat)), AV.int IntKind.i64 (g (5 : Nat)),
              AV.int IntKind.i64 (g (6 : Nat))]),
        ((11 : Nat), AObj.opn (5 : Nat) (1 : Nat) cs),
        ((10 : Nat),
          AObj.cells (23 : Nat)
            [AV.int IntKind.i64 (g (0 : Nat)), AV.int IntKind.i64 (g (1 : Nat)), AV.int IntKind.i64 (g (2 : Nat)),
              AV.int IntKind.i64 (g (3 : Nat)), AV.int IntKind.i64 (g (4 : Nat)), AV.int IntKind.i64 (g (5 : Nat)),
              AV.int IntKind.i64 (g (6 : Nat))]),
        ((9 : Nat), AObj.opn (5 : Nat) (1 : Nat) cs),
        ((8 : Nat), AObj.opn (5 : Nat) (1 : Nat) (List.take (n * (1 : Nat)) (List.drop (0 : Nat) cs))),
        ((7 : Nat), AObj.cells (5 : Nat) []), ((6 : Nat), AObj.opn (5 : Nat) (1 : Nat) ds),
        ((5 : Nat), AObj.opn (5 : Nat) (1 : Nat) ds),
        ((4 : Nat),
          AObj.cells (30 : Nat)
            [AV.int IntKind.i64 (spF L C T R F W U t), AV.int IntKind.i64 (spL L C T R F W U t),
              AV.int IntKind.i64 (spC L C T R F W U t)]),
        ((3 : Nat),
          AObj.cells (30 : Nat)
            [AV.int IntKind.i64 (spF L C T R F W U t), AV.int IntKind.i64 (spL L C T R F W U t),
              AV.int IntKind.i64 (spC L C T R F W U t)]),
        ((2 : Nat), AObj.cells (30 : Nat) [AV.int IntKind.i64 f, AV.int IntKind.i64 l, AV.int IntKind.i64 c]),
        ((1 : Nat),
          AObj.cells (23 : Nat)
            [AV.int IntKind.i64 L, AV.int IntKind.i64 C, AV.int IntKind.i64 T, AV.int IntKind.i64 R,
              AV.int IntKind.i64 F, AV.int IntKind.i64 W, AV.int IntKind.i64 U]),
        ((0 : Nat), AObj.ro cs)] })))))))))))) ∧
                    ((decide (er = er)) = false →
                      (decide (er = er)) = false ∧
                      ((decide (er = er)) = false ∧
                      ((decide (er = er)) = false ∧
                      ((decide (er = er)) = false ∧
                      ((decide (er = er)) = false ∧
                      (K (AV.bool false)
  { nx := (13 : Nat),
    m :=
      [((12 : Nat),
          AObj.cells (23 : Nat)
            [AV.int IntKind.i64 (g (0 : Nat)), AV.int IntKind.i64 (g (1 : Nat)), AV.int IntKind.i64 (g (2 : Nat)),
              AV.int IntKind.i64 (g (3 : Nat)), AV.int IntKind.i64 (g (4 : Nat)), AV.int IntKind.i64 (g (5 : Nat)),
              AV.int IntKind.i64 (g (6 : Nat))]),
        ((11 : Nat), AObj.opn (5 : Nat) (1 : Nat) cs),
        ((10 : Nat),
          AObj.cells (23 : Nat)
            [AV.int IntKind.i64 (g (0 : Nat)), AV.int IntKind.i64 (g (1 : Nat)), AV.int IntKind.i64 (g (2 : Nat)),
              AV.int IntKind.i64 (g (3 : Nat)), AV.int IntKind.i64 (g (4 : Nat)), AV.int IntKind.i64 (g (5 : Nat)),
              AV.int IntKind.i64 (g (6 : Nat))]),
        ((9 : Nat), AObj.opn (5 : Nat) (1 : Nat) cs),
        ((8 : Nat), AObj.opn (5 : Nat) (1 : Nat) (List.take (n * (1 : Nat)) (List.drop (0 : Nat) cs))),
        ((7 : Nat), AObj.cells (5 : Nat) []), ((6 : Nat), AObj.opn (5 : Nat) (1 : Nat) ds),
        ((5 : Nat), AObj.opn (5 : Nat) (1 : Nat) ds),
        ((4 : Nat),
          AObj.cells (30 : Nat)
            [AV.int IntKind.i64 (spF L C T R F W U t), AV.int IntKind.i64 (spL L C T R F W U t),
              AV.int IntKind.i64 (spC L C T R F W U t)]),
        ((3 : Nat),
          AObj.cells (30 : Nat)
            [AV.int IntKind.i64 (spF L C T R F W U t), AV.int IntKind.i64 (spL L C T R F W U t),
              AV.int IntKind.i64 (spC L C T R F W U t)]),
        ((2 : Nat), AObj.cells (30 : Nat) [AV.int IntKind.i64 f, AV.int IntKind.i64 l, AV.int IntKind.i64 c]),
        ((1 : Nat),
          AObj.cells (23 : Nat)
            [AV.int IntKind.i64 L, AV.int IntKind.i64 C, AV.int IntKind.i64 T, AV.int IntKind.i64 R,
              AV.int IntKind.i64 F, AV.int IntKind.i64 W, AV.int IntKind.i64 U]),
        ((0 : Nat), AObj.ro cs)] })))))))))) ∧
                  ((g (0 : Nat) == g (0 : Nat) &&
  (g (1 : Nat) == g (1 : Nat) &&
    (g (2 : Nat) == g (2 : Nat) &&
      (g (3 : Nat) == g (3 : Nat) &&
        (g (4 : Nat) == g (4 : Nat) && (g (5 : Nat) == g (5 : Nat) && (g (6 : Nat) == g (6 : Nat) && true))))))) = false →
                    (g (0 : Nat) == g (0 : Nat) &&
  (g (1 : Nat) == g (1 : Nat) &&
    (g (2 : Nat) == g (2 : Nat) &&
      (g (3 : Nat) == g (3 : Nat) &&
        (g (4 : Nat) == g (4 : Nat) && (g (5 : Nat) == g (5 : Nat) && (g (6 : Nat) == g (6 : Nat) && true))))))) = false ∧
                    ((g (0 : Nat) == g (0 : Nat) &&
  (g (1 : Nat) == g (1 : Nat) &&
    (g (2 : Nat) == g (2 : Nat) &&
      (g (3 : Nat) == g (3 : Nat) &&
        (g (4 : Nat) == g (4 : Nat) && (g (5 : Nat) == g (5 : Nat) && (g (6 : Nat) == g (6 : Nat) && true))))))) = false ∧
                    ((g (0 : Nat) == g (0 : Nat) &&
  (g (1 : Nat) == g (1 : Nat) &&
    (g (2 : Nat) == g (2 : Nat) &&
      (g (3 : Nat) == g (3 : Nat) &&
        (g (4 : Nat) == g (4 : Nat) && (g (5 : Nat) == g (5 : Nat) && (g (6 : Nat) == g (6 : Nat) && true))))))) = false ∧
                    (K (AV.bool false)
  { nx := (13 : Nat),
    m :=
      [((12 : Nat),
          AObj.cells (23 : Nat)
            [AV.int IntKind.i64 (g (0 : Nat)), AV.int IntKind.i64 (g (1 : Nat)), AV.int IntKind.i64 (g (2 : Nat)),
              AV.int IntKind.i64 (g (3 : Nat)), AV.int IntKind.i64 (g (4 : Nat)), AV.int IntKind.i64 (g (5 : Nat)),
              AV.int IntKind.i64 (g (6 : Nat))]),
        ((11 : Nat), AObj.opn (5 : Nat) (1 : Nat) cs),
        ((10 : Nat),
          AObj.cells (23 : Nat)
            [AV.int IntKind.i64 (g (0 : Nat)), AV.int IntKind.i64 (g (1 : Nat)), AV.int IntKind.i64 (g (2 : Nat)),
              AV.int IntKind.i64 (g (3 : Nat)), AV.int IntKind.i64 (g (4 : Nat)), AV.int IntKind.i64 (g (5 : Nat)),
              AV.int IntKind.i64 (g (6 : Nat))]),
        ((9 : Nat), AObj.opn (5 : Nat) (1 : Nat) cs),
        ((8 : Nat), AObj.opn (5 : Nat) (1 : Nat) (List.take (n * (1 : Nat)) (List.drop (0 : Nat) cs))),
        ((7 : Nat), AObj.cells (5 : Nat) []), ((6 : Nat), AObj.opn (5 : Nat) (1 : Nat) ds),
        ((5 : Nat), AObj.opn (5 : Nat) (1 : Nat) ds),
        ((4 : Nat),
          AObj.cells (30 : Nat)
            [AV.int IntKind.i64 (spF L C T R F W U t), AV.int IntKind.i64 (spL L C T R F W U t),
              AV.int IntKind.i64 (spC L C T R F W U t)]),
        ((3 : Nat),
          AObj.cells (30 : Nat)
            [AV.int IntKind.i64 (spF L C T R F W U t), AV.int IntKind.i64 (spL L C T R F W U t),
              AV.int IntKind.i64 (spC L C T R F W U t)]),
        ((2 : Nat), AObj.cells (30 : Nat) [AV.int IntKind.i64 f, AV.int IntKind.i64 l, AV.int IntKind.i64 c]),
        ((1 : Nat),
          AObj.cells (23 : Nat)
            [AV.int IntKind.i64 L, AV.int IntKind.i64 C, AV.int IntKind.i64 T, AV.int IntKind.i64 R,
              AV.int IntKind.i64 F, AV.int IntKind.i64 W, AV.int IntKind.i64 U]),
        ((0 : Nat), AObj.ro cs)] })))))))) ∧
                ((decide
  (ByteArray.toList.loop (strOf (Option.getD (toInts (List.take m (List.drop (0 : Nat) ds))) [])) (0 : Nat) [] =
    ByteArray.toList.loop (strOf (Option.getD (toInts (List.take m (List.drop (0 : Nat) ds))) [])) (0 : Nat) [])) = false →
                  (decide
  (ByteArray.toList.loop (strOf (Option.getD (toInts (List.take m (List.drop (0 : Nat) ds))) [])) (0 : Nat) [] =
    ByteArray.toList.loop (strOf (Option.getD (toInts (List.take m (List.drop (0 : Nat) ds))) [])) (0 : Nat) [])) = false ∧
                  ((decide
  (ByteArray.toList.loop (strOf (Option.getD (toInts (List.take m (List.drop (0 : Nat) ds))) [])) (0 : Nat) [] =
    ByteArray.toList.loop (strOf (Option.getD (toInts (List.take m (List.drop (0 : Nat) ds))) [])) (0 : Nat) [])) = false ∧
                  ((decide
  (ByteArray.toList.loop (strOf (Option.getD (toInts (List.take m (List.drop (0 : Nat) ds))) [])) (0 : Nat) [] =
    ByteArray.toList.loop (strOf (Option.getD (toInts (List.take m (List.drop (0 : Nat) ds))) [])) (0 : Nat) [])) = false ∧
                  (K (AV.bool false)
  { nx := (13 : Nat),
    m :=
      [((12 : Nat),
          AObj.cells (23 : Nat)
            [AV.int IntKind.i64 (g (0 : Nat)), AV.int IntKind.i64 (g (1 : Nat)), AV.int IntKind.i64 (g (2 : Nat)),
              AV.int IntKind.i64 (g (3 : Nat)), AV.int IntKind.i64 (g (4 : Nat)), AV.int IntKind.i64 (g (5 : Nat)),
              AV.int IntKind.i64 (g (6 : Nat))]),
        ((11 : Nat), AObj.opn (5 : Nat) (1 : Nat) cs),
        ((10 : Nat),
          AObj.cells (23 : Nat)
            [AV.int IntKind.i64 (g (0 : Nat)), AV.int IntKind.i64 (g (1 : Nat)), AV.int IntKind.i64 (g (2 : Nat)),
              AV.int IntKind.i64 (g (3 : Nat)), AV.int IntKind.i64 (g (4 : Nat)), AV.int IntKind.i64 (g (5 : Nat)),
              AV.int IntKind.i64 (g (6 : Nat))]),
        ((9 : Nat), AObj.opn (5 : Nat) (1 : Nat) cs),
        ((8 : Nat), AObj.opn (5 : Nat) (1 : Nat) (List.take (n * (1 : Nat)) (List.drop (0 : Nat) cs))),
        ((7 : Nat), AObj.cells (5 : Nat) []), ((6 : Nat), AObj.opn (5 : Nat) (1 : Nat) ds),
        ((5 : Nat), AObj.opn (5 : Nat) (1 : Nat) ds),
        ((4 : Nat),
          AObj.cells (30 : Nat)
            [AV.int IntKind.i64 (spF L C T R F W U t), AV.int IntKind.i64 (spL L C T R F W U t),
              AV.int IntKind.i64 (spC L C T R F W U t)]),
        ((3 : Nat),
          AObj.cells (30 : Nat)
            [AV.int IntKind.i64 (spF L C T R F W U t), AV.int IntKind.i64 (spL L C T R F W U t),
              AV.int IntKind.i64 (spC L C T R F W U t)]),
        ((2 : Nat), AObj.cells (30 : Nat) [AV.int IntKind.i64 f, AV.int IntKind.i64 l, AV.int IntKind.i64 c]),
        ((1 : Nat),
          AObj.cells (23 : Nat)
            [AV.int IntKind.i64 L, AV.int IntKind.i64 C, AV.int IntKind.i64 T, AV.int IntKind.i64 R,
              AV.int IntKind.i64 F, AV.int IntKind.i64 W, AV.int IntKind.i64 U]),
        ((0 : Nat), AObj.ro cs)] })))))))))))))))) ∧
              ((nxB L C T R F W U t == nxB L C T R F W U t) = false →
                (nxB L C T R F W U t == nxB L C T R F W U t) = false ∧
                ((nxB L C T R F W U t == nxB L C T R F W U t) = false ∧
                ((nxB L C T R F W U t == nxB L C T R F W U t) = false ∧
                ((nxB L C T R F W U t == nxB L C T R F W U t) = false ∧
                ((nxB L C T R F W U t == nxB L C T R F W U t) = false ∧
                (K (AV.bool false)
  { nx := (13 : Nat),
    m :=
      [((12 : Nat),
          AObj.cells (23 : Nat)
            [AV.int IntKind.i64 (g (0 : Nat)), AV.int IntKind.i64 (g (1 : Nat)), AV.int IntKind.i64 (g (2 : Nat)),
              AV.int IntKind.i64 (g (3 : Nat)), AV.int IntKind.i64 (g (4 : Nat)), AV.int IntKind.i64 (g (5 : Nat)),
              AV.int IntKind.i64 (g (6 : Nat))]),
        ((11 : Nat), AObj.opn (5 : Nat) (1 : Nat) cs),
        ((10 : Nat),
          AObj.cells (23 : Nat)
            [AV.int IntKind.i64 (g (0 : Nat)), AV.int IntKind.i64 (g (1 : Nat)), AV.int IntKind.i64 (g (2 : Nat)),
              AV.int IntKind.i64 (g (3 : Nat)), AV.int IntKind.i64 (g (4 : Nat)), AV.int IntKind.i64 (g (5 : Nat)),
              AV.int IntKind.i64 (g (6 : Nat))]),
        ((9 : Nat), AObj.opn (5 : Nat) (1 : Nat) cs),
        ((8 : Nat), AObj.opn (5 : Nat) (1 : Nat) (List.take (n * (1 : Nat)) (List.drop (0 : Nat) cs))),
        ((7 : Nat), AObj.cells (5 : Nat) []), ((6 : Nat), AObj.opn (5 : Nat) (1 : Nat) ds),
        ((5 : Nat), AObj.opn (5 : Nat) (1 : Nat) ds),
        ((4 : Nat),
          AObj.cells (30 : Nat)
            [AV.int IntKind.i64 (spF L C T R F W U t), AV.int IntKind.i64 (spL L C T R F W U t),
              AV.int IntKind.i64 (spC L C T R F W U t)]),
        ((3 : Nat),
          AObj.cells (30 : Nat)
            [AV.int IntKind.i64 (spF L C T R F W U t), AV.int IntKind.i64 (spL L C T R F W U t),
              AV.int IntKind.i64 (spC L C T R F W U t)]),
        ((2 : Nat), AObj.cells (30 : Nat) [AV.int IntKind.i64 f, AV.int IntKind.i64 l, AV.int IntKind.i64 c]),
        ((1 : Nat),
          AObj.cells (23 : Nat)
            [AV.int IntKind.i64 L, AV.int IntKind.i64 C, AV.int IntKind.i64 T, AV.int IntKind.i64 R,
              AV.int IntKind.i64 F, AV.int IntKind.i64 W, AV.int IntKind.i64 U]),
        ((0 : Nat), AObj.ro cs)] })))))))))) ∧
            ((decide (nxV L C T R F W U t = nxV L C T R F W U t)) = false →
              (decide (nxV L C T R F W U t = nxV L C T R F W U t)) = false ∧
              ((decide (nxV L C T R F W U t = nxV L C T R F W U t)) = false ∧
              ((decide (nxV L C T R F W U t = nxV L C T R F W U t)) = false ∧
              (K (AV.bool false)
  { nx := (13 : Nat),
    m :=
      [((12 : Nat),
          AObj.cells (23 : Nat)
            [AV.int IntKind.i64 (g (0 : Nat)), AV.int IntKind.i64 (g (1 : Nat)), AV.int IntKind.i64 (g (2 : Nat)),
              AV.int IntKind.i64 (g (3 : Nat)), AV.int IntKind.i64 (g (4 : Nat)), AV.int IntKind.i64 (g (5 : Nat)),
              AV.int IntKind.i64 (g (6 : Nat))]),
        ((11 : Nat), AObj.opn (5 : Nat) (1 : Nat) cs),
        ((10 : Nat),
          AObj.cells (23 : Nat)
            [AV.int IntKind.i64 (g (0 : Nat)), AV.int IntKind.i64 (g (1 : Nat)), AV.int IntKind.i64 (g (2 : Nat)),
              AV.int IntKind.i64 (g (3 : Nat)), AV.int IntKind.i64 (g (4 : Nat)), AV.int IntKind.i64 (g (5 : Nat)),
              AV.int IntKind.i64 (g (6 : Nat))]),
        ((9 : Nat), AObj.opn (5 : Nat) (1 : Nat) cs),
        ((8 : Nat), AObj.opn (5 : Nat) (1 : Nat) (List.take (n * (1 : Nat)) (List.drop (0 : Nat) cs))),
        ((7 : Nat), AObj.cells (5 : Nat) []), ((6 : Nat), AObj.opn (5 : Nat) (1 : Nat) ds),
        ((5 : Nat), AObj.opn (5 : Nat) (1 : Nat) ds),
        ((4 : Nat),
          AObj.cells (30 : Nat)
            [AV.int IntKind.i64 (spF L C T R F W U t), AV.int IntKind.i64 (spL L C T R F W U t),
              AV.int IntKind.i64 (spC L C T R F W U t)]),
        ((3 : Nat),
          AObj.cells (30 : Nat)
            [AV.int IntKind.i64 (spF L C T R F W U t), AV.int IntKind.i64 (spL L C T R F W U t),
              AV.int IntKind.i64 (spC L C T R F W U t)]),
        ((2 : Nat), AObj.cells (30 : Nat) [AV.int IntKind.i64 f, AV.int IntKind.i64 l, AV.int IntKind.i64 c]),
        ((1 : Nat),
          AObj.cells (23 : Nat)
            [AV.int IntKind.i64 L, AV.int IntKind.i64 C, AV.int IntKind.i64 T, AV.int IntKind.i64 R,
              AV.int IntKind.i64 F, AV.int IntKind.i64 W, AV.int IntKind.i64 U]),
        ((0 : Nat), AObj.ro cs)] })))))))) ∧
          ((decide (tmE L C T R F W U f l c = tmE L C T R F W U f l c)) = false →
            (decide (tmE L C T R F W U f l c = tmE L C T R F W U f l c)) = false ∧
            ((decide (tmE L C T R F W U f l c = tmE L C T R F W U f l c)) = false ∧
            ((decide (tmE L C T R F W U f l c = tmE L C T R F W U f l c)) = false ∧
            (K (AV.bool false)
  { nx := (13 : Nat),
    m :=
      [((12 : Nat),
          AObj.cells (23 : Nat)
            [AV.int IntKind.i64 (g (0 : Nat)), AV.int IntKind.i64 (g (1 : Nat)), AV.int IntKind.i64 (g (2 : Nat)),
              AV.int IntKind.i64 (g (3 : Nat)), AV.int IntKind.i64 (g (4 : Nat)), AV.int IntKind.i64 (g (5 : Nat)),
              AV.int IntKind.i64 (g (6 : Nat))]),
        ((11 : Nat), AObj.opn (5 : Nat) (1 : Nat) cs),
        ((10 : Nat),
          AObj.cells (23 : Nat)
            [AV.int IntKind.i64 (g (0 : Nat)), AV.int IntKind.i64 (g (1 : Nat)), AV.int IntKind.i64 (g (2 : Nat)),
              AV.int IntKind.i64 (g (3 : Nat)), AV.int IntKind.i64 (g (4 : Nat)), AV.int IntKind.i64 (g (5 : Nat)),
              AV.int IntKind.i64 (g (6 : Nat))]),
        ((9 : Nat), AObj.opn (5 : Nat) (1 : Nat) cs),
        ((8 : Nat), AObj.opn (5 : Nat) (1 : Nat) (List.take (n * (1 : Nat)) (List.drop (0 : Nat) cs))),
        ((7 : Nat), AObj.cells (5 : Nat) []), ((6 : Nat), AObj.opn (5 : Nat) (1 : Nat) ds),
        ((5 : Nat), AObj.opn (5 : Nat) (1 : Nat) ds),
        ((4 : Nat),
          AObj.cells (30 : Nat)
            [AV.int IntKind.i64 (spF L C T R F W U t), AV.int IntKind.i64 (spL L C T R F W U t),
              AV.int IntKind.i64 (spC L C T R F W U t)]),
        ((3 : Nat),
          AObj.cells (30 : Nat)
            [AV.int IntKind.i64 (spF L C T R F W U t), AV.int IntKind.i64 (spL L C T R F W U t),
              AV.int IntKind.i64 (spC L C T R F W U t)]),
        ((2 : Nat), AObj.cells (30 : Nat) [AV.int IntKind.i64 f, AV.int IntKind.i64 l, AV.int IntKind.i64 c]),
        ((1 : Nat),
          AObj.cells (23 : Nat)
            [AV.int IntKind.i64 L, AV.int IntKind.i64 C, AV.int IntKind.i64 T, AV.int IntKind.i64 R,
              AV.int IntKind.i64 F, AV.int IntKind.i64 W, AV.int IntKind.i64 U]),
        ((0 : Nat), AObj.ro cs)] })))))))) ∧
        ((decide (tmT L C T R F W U f l c = tmT L C T R F W U f l c)) = false →
          (decide (tmT L C T R F W U f l c = tmT L C T R F W U f l c)) = false ∧
          ((decide (tmT L C T R F W U f l c = tmT L C T R F W U f l c)) = false ∧
          ((decide (tmT L C T R F W U f l c = tmT L C T R F W U f l c)) = false ∧
          (K (AV.bool false)
  { nx := (13 : Nat),
    m :=
      [((12 : Nat),
          AObj.cells (23 : Nat)
            [AV.int IntKind.i64 (g (0 : Nat)), AV.int IntKind.i64 (g (1 : Nat)), AV.int IntKind.i64 (g (2 : Nat)),
              AV.int IntKind.i64 (g (3 : Nat)), AV.int IntKind.i64 (g (4 : Nat)), AV.int IntKind.i64 (g (5 : Nat)),
              AV.int IntKind.i64 (g (6 : Nat))]),
        ((11 : Nat), AObj.opn (5 : Nat) (1 : Nat) cs),
        ((10 : Nat),
          AObj.cells (23 : Nat)
            [AV.int IntKind.i64 (g (0 : Nat)), AV.int IntKind.i64 (g (1 : Nat)), AV.int IntKind.i64 (g (2 : Nat)),
              AV.int IntKind.i64 (g (3 : Nat)), AV.int IntKind.i64 (g (4 : Nat)), AV.int IntKind.i64 (g (5 : Nat)),
              AV.int IntKind.i64 (g (6 : Nat))]),
        ((9 : Nat), AObj.opn (5 : Nat) (1 : Nat) cs),
        ((8 : Nat), AObj.opn (5 : Nat) (1 : Nat) (List.take (n * (1 : Nat)) (List.drop (0 : Nat) cs))),
        ((7 : Nat), AObj.cells (5 : Nat) []), ((6 : Nat), AObj.opn (5 : Nat) (1 : Nat) ds),
        ((5 : Nat), AObj.opn (5 : Nat) (1 : Nat) ds),
        ((4 : Nat),
          AObj.cells (30 : Nat)
            [AV.int IntKind.i64 (spF L C T R F W U t), AV.int IntKind.i64 (spL L C T R F W U t),
              AV.int IntKind.i64 (spC L C T R F W U t)]),
        ((3 : Nat),
          AObj.cells (30 : Nat)
            [AV.int IntKind.i64 (spF L C T R F W U t), AV.int IntKind.i64 (spL L C T R F W U t),
              AV.int IntKind.i64 (spC L C T R F W U t)]),
        ((2 : Nat), AObj.cells (30 : Nat) [AV.int IntKind.i64 f, AV.int IntKind.i64 l, AV.int IntKind.i64 c]),
        ((1 : Nat),
          AObj.cells (23 : Nat)
            [AV.int IntKind.i64 L, AV.int IntKind.i64 C, AV.int IntKind.i64 T, AV.int IntKind.i64 R,
              AV.int IntKind.i64 F, AV.int IntKind.i64 W, AV.int IntKind.i64 U]),
        ((0 : Nat), AObj.ro cs)] })))))))) ∧
      ((decide (spE L C T R F W U t = spE L C T R F W U t)) = false →
        (decide (spE L C T R F W U t = spE L C T R F W U t)) = false ∧
        ((decide (spE L C T R F W U t = spE L C T R F W U t)) = false ∧
        ((decide (spE L C T R F W U t = spE L C T R F W U t)) = false ∧
        (K (AV.bool false)
  { nx := (13 : Nat),
    m :=
      [((12 : Nat),
          AObj.cells (23 : Nat)
            [AV.int IntKind.i64 (g (0 : Nat)), AV.int IntKind.i64 (g (1 : Nat)), AV.int IntKind.i64 (g (2 : Nat)),
              AV.int IntKind.i64 (g (3 : Nat)), AV.int IntKind.i64 (g (4 : Nat)), AV.int IntKind.i64 (g (5 : Nat)),
              AV.int IntKind.i64 (g (6 : Nat))]),
        ((11 : Nat), AObj.opn (5 : Nat) (1 : Nat) cs),
        ((10 : Nat),
          AObj.cells (23 : Nat)
            [AV.int IntKind.i64 (g (0 : Nat)), AV.int IntKind.i64 (g (1 : Nat)), AV.int IntKind.i64 (g (2 : Nat)),
              AV.int IntKind.i64 (g (3 : Nat)), AV.int IntKind.i64 (g (4 : Nat)), AV.int IntKind.i64 (g (5 : Nat)),
              AV.int IntKind.i64 (g (6 : Nat))]),
        ((9 : Nat), AObj.opn (5 : Nat) (1 : Nat) cs),
        ((8 : Nat), AObj.opn (5 : Nat) (1 : Nat) (List.take (n * (1 : Nat)) (List.drop (0 : Nat) cs))),
        ((7 : Nat), AObj.cells (5 : Nat) []), ((6 : Nat), AObj.opn (5 : Nat) (1 : Nat) ds),
        ((5 : Nat), AObj.opn (5 : Nat) (1 : Nat) ds),
        ((4 : Nat),
          AObj.cells (30 : Nat)
            [AV.int IntKind.i64 (spF L C T R F W U t), AV.int IntKind.i64 (spL L C T R F W U t),
              AV.int IntKind.i64 (spC L C T R F W U t)]),
        ((3 : Nat),
          AObj.cells (30 : Nat)
            [AV.int IntKind.i64 (spF L C T R F W U t), AV.int IntKind.i64 (spL L C T R F W U t),
              AV.int IntKind.i64 (spC L C T R F W U t)]),
        ((2 : Nat), AObj.cells (30 : Nat) [AV.int IntKind.i64 f, AV.int IntKind.i64 l, AV.int IntKind.i64 c]),
        ((1 : Nat),
          AObj.cells (23 : Nat)
            [AV.int IntKind.i64 L, AV.int IntKind.i64 C, AV.int IntKind.i64 T, AV.int IntKind.i64 R,
              AV.int IntKind.i64 F, AV.int IntKind.i64 W, AV.int IntKind.i64 U]),
        ((0 : Nat), AObj.ro cs)] })))))))) ∧
    ((spF L C T R F W U t == spF L C T R F W U t &&
  (spL L C T R F W U t == spL L C T R F W U t && (spC L C T R F W U t == spC L C T R F W U t && true))) = false →
      (spF L C T R F W U t == spF L C T R F W U t &&
  (spL L C T R F W U t == spL L C T R F W U t && (spC L C T R F W U t == spC L C T R F W U t && true))) = false ∧
      ((spF L C T R F W U t == spF L C T R F W U t &&
  (spL L C T R F W U t == spL L C T R F W U t && (spC L C T R F W U t == spC L C T R F W U t && true))) = false ∧
      ((spF L C T R F W U t == spF L C T R F W U t &&
  (spL L C T R F W U t == spL L C T R F W U t && (spC L C T R F W U t == spC L C T R F W U t && true))) = false ∧
      (K (AV.bool false)
  { nx := (13 : Nat),
    m :=
      [((12 : Nat),
          AObj.cells (23 : Nat)
            [AV.int IntKind.i64 (g (0 : Nat)), AV.int IntKind.i64 (g (1 : Nat)), AV.int IntKind.i64 (g (2 : Nat)),
              AV.int IntKind.i64 (g (3 : Nat)), AV.int IntKind.i64 (g (4 : Nat)), AV.int IntKind.i64 (g (5 : Nat)),
              AV.int IntKind.i64 (g (6 : Nat))]),
        ((11 : Nat), AObj.opn (5 : Nat) (1 : Nat) cs),
        ((10 : Nat),
          AObj.cells (23 : Nat)
            [AV.int IntKind.i64 (g (0 : Nat)), AV.int IntKind.i64 (g (1 : Nat)), AV.int IntKind.i64 (g (2 : Nat)),
              AV.int IntKind.i64 (g (3 : Nat)), AV.int IntKind.i64 (g (4 : Nat)), AV.int IntKind.i64 (g (5 : Nat)),
              AV.int IntKind.i64 (g (6 : Nat))]),
        ((9 : Nat), AObj.opn (5 : Nat) (1 : Nat) cs),
        ((8 : Nat), AObj.opn (5 : Nat) (1 : Nat) (List.take (n * (1 : Nat)) (List.drop (0 : Nat) cs))),
        ((7 : Nat), AObj.cells (5 : Nat) []), ((6 : Nat), AObj.opn (5 : Nat) (1 : Nat) ds),
        ((5 : Nat), AObj.opn (5 : Nat) (1 : Nat) ds),
        ((4 : Nat),
          AObj.cells (30 : Nat)
            [AV.int IntKind.i64 (spF L C T R F W U t), AV.int IntKind.i64 (spL L C T R F W U t),
              AV.int IntKind.i64 (spC L C T R F W U t)]),
        ((3 : Nat),
          AObj.cells (30 : Nat)
            [AV.int IntKind.i64 (spF L C T R F W U t), AV.int IntKind.i64 (spL L C T R F W U t),
              AV.int IntKind.i64 (spC L C T R F W U t)]),
        ((2 : Nat), AObj.cells (30 : Nat) [AV.int IntKind.i64 f, AV.int IntKind.i64 l, AV.int IntKind.i64 c]),
        ((1 : Nat),
          AObj.cells (23 : Nat)
            [AV.int IntKind.i64 L, AV.int IntKind.i64 C, AV.int IntKind.i64 T, AV.int IntKind.i64 R,
              AV.int IntKind.i64 F, AV.int IntKind.i64 W, AV.int IntKind.i64 U]),
        ((0 : Nat), AObj.ro cs)] })))))))))))))))
def tcYS_scr : Plan := .k (.b (.z) (.t (.t (.t (.t (.b (.t (.t (.t (.b (.t (.t (.t (.b (.t (.t (.t (.b (.t (.t (.t (.b (.t (.t (.t (.b (.t (.t (.t (.t (.t (.t (.t (.t (.t (.t (.t (.b (.t (.t (.t (.k (.k (.k (.k (.b (.t (.t (.t (.b (.t (.t (.t (.t (.t (.b (.t (.t (.t (.t (.t (.b (.t (.t (.t (.t (.t (.t (.t (.b (.t (.t (.t (.t (.t (.t (.t (.t (.t (.z)))))))))) (.f (.f (.f (.f (.f (.f (.f (.f (.f (.z)))))))))))))))))) (.f (.f (.f (.f (.f (.f (.f (.z)))))))))))))) (.f (.f (.f (.f (.f (.z)))))))))))) (.f (.f (.f (.f (.f (.z)))))))))) (.f (.f (.f (.z)))))))))))) (.f (.f (.f (.z)))))))))))))))) (.f (.f (.f (.f (.f (.z)))))))))) (.f (.f (.f (.z)))))))) (.f (.f (.f (.z)))))))) (.f (.f (.f (.z)))))))) (.f (.f (.f (.z)))))))) (.f (.f (.f (.z))))))))))
theorem tcYS_vc (L C T R F W U t u f l c : Int) (m : Nat) (ds : List AV) (bz g : Nat → Int) (er : Int) (n k : Nat) (cs : List AV) (K : AV → AH → Prop) : (funP (XLw (trR bz g er n cs (trY L C T R F W U m ds)) okOw) 16 [.agg [.int .i64 L, .int .i64 C, .int .i64 T, .int .i64 R, .int .i64 F, .int .i64 W, .int .i64 U], .int .i64 t, .int .i64 u, .agg [.int .i64 f, .int .i64 l, .int .i64 c], .slice 0 0 n (some k)] ⟨1, [(0, .ro cs)]⟩ tcYS_scr (fun v σ _ => K v σ)) = tcYS_VC L C T R F W U t u f l c m ds bz g er n k cs K := by kernel_rfl
def tcZS_VC (L C T R F W U t u f l c : Int)  (bz g : Nat → Int) (er : Int) (n k : Nat) (cs : List AV) (K : AV → AH → Prop) : Prop :=
  ((decide ((↑n : Int) > (300 : Int))) = true →
    K (AV.bool true)
  { nx := (3 : Nat),
    m :=
      [((2 : Nat), AObj.cells (30 : Nat) [AV.int IntKind.i64 f, AV.int IntKind.i64 l, AV.int IntKind.i64 c]),
        ((1 : Nat),
          AObj.cells (23 : Nat)
            [AV.int IntKind.i64 L, AV.int IntKind.i64 C, AV.int IntKind.i64 T, AV.int IntKind.i64 R,
              AV.int IntKind.i64 F, AV.int IntKind.i64 W, AV.int IntKind.i64 U]),
        ((0 : Nat), AObj.ro cs)] }) ∧
  ((decide ((↑n : Int) > (300 : Int))) = false →
    (!okF L C T R F W U) = true ∧
    ((!okF L C T R F W U) = true ∧
    ((decide ((0 : Nat) < n)) = true ∧
    ((decide ((0 : Nat) + n * (1 : Nat) ≤ List.length cs)) = true ∧
    ((decide (n * (1 : Nat) ≤ (140737488355328 : Nat))) = true ∧
    ((decide (n ≤ (140737488355328 : Nat))) = true ∧
    (need (n = n ∧ List.take (n * (1 : Nat)) (List.drop (0 : Nat) cs) = cs ∧ (6 : Nat) < (7 : Nat) ∧ rdPre bz g er n cs) ∧
    (need (n = n ∧ cs = cs ∧ (0 : Nat) < (9 : Nat) ∧ rdPre bz g er n cs) ∧
    (((spF L C T R F W U t == spF L C T R F W U t &&
  (spL L C T R F W U t == spL L C T R F W U t && (spC L C T R F W U t == spC L C T R F W U t && true))) = true →
      (spF L C T R F W U t == spF L C T R F W U t &&
  (spL L C T R F W U t == spL L C T R F W U t && (spC L C T R F W U t == spC L C T R F W U t && true))) = true ∧
      ((spF L C T R F W U t == spF L C T R F W U t &&
  (spL L C T R F W U t == spL L C T R F W U t && (spC L C T R F W U t == spC L C T R F W U t && true))) = true ∧
      ((spF L C T R F W U t == spF L C T R F W U t &&
  (spL L C T R F W U t == spL L C T R F W U t && (spC L C T R F W U t == spC L C T R F W U t && true))) = true ∧
      (((decide (spE L C T R F W U t = spE L C T R F W U t)) = true →
        (decide (spE L C T R F W U t = spE L C T R F W U t)) = true ∧
        ((decide (spE L C T R F W U t = spE L C T R F W U t)) = true ∧
        ((decide (spE L C T R F W U t = spE L C T R F W U t)) = true ∧
        (((decide (tmT L C T R F W U f l c = tmT L C T R F W U f l c)) = true →
          (decide (tmT L C T R F W U f l c = tmT L C T R F W U f l c)) = true ∧
          ((decide (tmT L C T R F W U f l c = tmT L C T R F W U f l c)) = true ∧
          ((decide (tmT L C T R F W U f l c = tmT L C T R F W U f l c)) = true ∧
          (((decide (tmE L C T R F W U f l c = tmE L C T R F W U f l c)) = true →
            (decide (tmE L C T R F W U f l c = tmE L C T R F W U f l c)) = true ∧
            ((decide (tmE L C T R F W U f l c = tmE L C T R F W U f l c)) = true ∧
            ((decide (tmE L C T R F W U f l c = tmE L C T R F W U f l c)) = true ∧
            (((decide (nxV L C T R F W U t = nxV L C T R F W U t)) = true →
              (decide (nxV L C T R F W U t = nxV L C T R F W U t)) = true ∧
              ((decide (nxV L C T R F W U t = nxV L C T R F W U t)) = true ∧
              ((decide (nxV L C T R F W U t = nxV L C T R F W U t)) = true ∧
              (((nxB L C T R F W U t == nxB L C T R F W U t) = true →
                (nxB L C T R F W U t == nxB L C T R F W U t) = true ∧
                ((nxB L C T R F W U t == nxB L C T R F W U t) = true ∧
                ((nxB L C T R F W U t == nxB L C T R F W U t) = true ∧
                ((nxB L C T R F W U t == nxB L C T R F W U t) = true ∧
                ((nxB L C T R F W U t == nxB L C T R F W U t) = true ∧
                (((g (0 : Nat) == g (0 : Nat) &&
  (g (1 : Nat) == g (1 : Nat) &&
    (g (2 : Nat) == g (2 : Nat) &&
      (g (3 : Nat) == g (3 : Nat) &&
        (g (4 : Nat) == g (4 : Nat) && (g (5 : Nat) == g (5 : Nat) && (g (6 : Nat) == g (6 : Nat) && true))))))) = true →
                  (g (0 : Nat) == g (0 : Nat) &&
  (g (1 : Nat) == g (1 : Nat) &&
    (g (2 : Nat) == g (2 : Nat) &&
      (g (3 : Nat) == g (3 : Nat) &&
        (g (4 : Nat) == g (4 : Nat) && (g (5 : Nat) == g (5 : Nat) && (g (6 : Nat) == g (6 : Nat) && true))))))) = true ∧
                  ((g (0 : Nat) == g (0 : Nat) &&
  (g (1 : Nat) == g (1 : Nat) &&
    (g (2 : Nat) == g (2 : Nat) &&
      (g (3 : Nat) == g (3 : Nat) &&
        (g (4 : Nat) == g (4 : Nat) && (g (5 : Nat) == g (5 : Nat) && (g (6 : Nat) == g (6 : Nat) && true))))))) = true ∧
                  ((g (0 : Nat) == g (0 : Nat) &&
  (g (1 : Nat) == g (1 : Nat) &&
    (g (2 : Nat) == g (2 : Nat) &&
      (g (3 : Nat) == g (3 : Nat) &&
        (g (4 : Nat) == g (4 : Nat) && (g (5 : Nat) == g (5 : Nat) && (g (6 : Nat) == g (6 : Nat) && true))))))) = true ∧
                  (((decide (er = er)) = true →
                    (decide (er = er)) = true ∧
                    ((decide (er = er)) = true ∧
                    ((decide (er = er)) = true ∧
                    ((decide (er = er)) = true ∧
                    ((decide (er = er)) = true ∧
                    (((decide
  ((if okF L C T R F W U = true then (0 : Int) else (2 : Int)) =
    if okF L C T R F W U = true then (0 : Int) else (2 : Int))) = true →
                      (decide
  ((if okF L C T R F W U = true then (0 : Int) else (2 : Int)) =
    if okF L C T R F W U = true then (0 : Int) else (2 : Int))) = true ∧
                      ((decide
  ((if okF L C T R F W U = true then (0 : Int) else (2 : Int)) =
    if okF L C T R F W U = true then (0 : Int) else (2 : Int))) = true ∧
                      ((decide
  ((if okF L C T R F W U = true then (0 : Int) else (2 : Int)) =
    if okF L C T R F W U = true then (0 : Int) else (2 : Int))) = true ∧
                      ((decide
  ((if okF L C T R F W U = true then (0 : Int) else (2 : Int)) =
    if okF L C T R F W U = true then (0 : Int) else (2 : Int))) = true ∧
                      ((decide
  ((if okF L C T R F W U = true then (0 : Int) else (2 : Int)) =
    if okF L C T R F W U = true then (0 : Int) else (2 : Int))) = true ∧
                      (((decide (lenF L C T R F W U = lenF L C T R F W U)) = true →
                        (decide (lenF L C T R F W U = lenF L C T R F W U)) = true ∧
                        ((decide (lenF L C T R F W U = lenF L C T R F W U)) = true ∧
                        ((decide (lenF L C T R F W U = lenF L C T R F W U)) = true ∧
                        ((decide (lenF L C T R F W U = lenF L C T R F W U)) = true ∧
                        ((decide (lenF L C T R F W U = lenF L C T R F W U)) = true ∧
                        ((decide (lenF L C T R F W U = lenF L C T R F W U)) = true ∧
                        ((decide (lenF L C T R F W U = lenF L C T R F W U)) = true ∧
                        (((pulseB L C T R F W U t == pulseB L C T R F W U t) = true →
                          (pulseB L C T R F W U t == pulseB L C T R F W U t) = true ∧
                          ((pulseB L C T R F W U t == pulseB L C T R F W U t) = true ∧
                          ((pulseB L C T R F W U t == pulseB L C T R F W U t) = true ∧
                          ((pulseB L C T R F W U t == pulseB L C T R F W U t) = true ∧
                          ((pulseB L C T R F W U t == pulseB L C T R F W U t) = true ∧
                          ((pulseB L C T R F W U t == pulseB L C T R F W U t) = true ∧
                          ((pulseB L C T R F W U t == pulseB L C T R F W U t) = true ∧
                          ((pulseB L C T R F W U t == pulseB L C T R F W U t) = true ∧
                          ((pulseB L C T R F W U t == pulseB L C T R F W U t) = true ∧
                          (K (AV.bool (decide (pulsesN L C T R F W U t u = pulsesN L C T R F W U t u)))
  { nx := (11 : Nat),
    m :=
      [((10 : Nat),
          AObj.cells (23 : Nat)
            [AV.int IntKind.i64 (g (0 : Nat)), AV.int IntKind.i64 (g (1 : Nat)), AV.int IntKind.i64 (g (2 : Nat)),
              AV.int IntKind.i64 (g (3 : Nat)), AV.int IntKind.i64 (g (4 : Nat)), AV.int IntKind.i64 (g (5 : Nat)),
              AV.int IntKind.i64 (g (6 : Nat))]),
        ((9 : Nat), AObj.opn (5 : Nat) (1 : Nat) cs),
        ((8 : Nat),
          AObj.cells (23 : Nat)
            [AV.int IntKind.i64 (g (0 : Nat)), AV.int IntKind.i64 (g (1 : Nat)), AV.int IntKind.i64 (g (2 : Nat)),
              AV.int IntKind.i64 (g (3 : Nat)), AV.int IntKind.i64 (g (4 : Nat)), AV.int IntKind.i64 (g (5 : Nat)),
              AV.int IntKind.i64 (g (6 : Nat))]),
        ((7 : Nat), AObj.opn (5 : Nat) (1 : Nat) cs),
        ((6 : Nat), AObj.opn (5 : Nat) (1 : Nat) (List.take (n * (1 : Nat)) (List.drop (0 : Nat) cs))),
        ((5 : Nat), AObj.cells (5 : Nat) []),
        ((4 : Nat),
          AObj.cells (30 : Nat)
            [AV.int IntKind.i64 (spF L C T R F W U t), AV.int IntKind.i64 (spL L C T R F W U t),
              AV.int IntKind.i64 (spC L C T R F W U t)]),
        ((3 : Nat),
          AObj.cells (30 : Nat)
            [AV.int IntKind.i64 (spF L C T R F W U t), AV.int IntKind.i64 (spL L C T R F W U t),
              AV.int IntKind.i64 (spC L C T R F W U t)]),
        ((2 : Nat), AObj.cells (30 : Nat) [AV.int IntKind.i64 f, AV.int IntKind.i64 l, AV.int IntKind.i64 c]),
        ((1 : Nat),
          AObj.cells (23 : Nat)
            [AV.int IntKind.i64 L, AV.int IntKind.i64 C, AV.int IntKind.i64 T, AV.int IntKind.i64 R,
              AV.int IntKind.i64 F, AV.int IntKind.i64 W, AV.int IntKind.i64 U]),
        ((0 : Nat), AObj.ro cs)] })))))))))) ∧
                        ((pulseB L C T R F W U t == pulseB L C T R F W U t) = false →
                          (pulseB L C T R F W U t == pulseB L C T R F W U t) = false ∧
                          ((pulseB L C T R F W U t == pulseB L C T R F W U t) = false ∧
                          ((pulseB L C T R F W U t == pulseB L C T R F W U t) = false ∧
                          ((pulseB L C T R F W U t == pulseB L C T R F W U t) = false ∧
                          ((pulseB L C T R F W U t == pulseB L C T R F W U t) = false ∧
                          ((pulseB L C T R F W U t == pulseB L C T R F W U t) = false ∧
                          ((pulseB L C T R F W U t == pulseB L C T R F W U t) = false ∧
                          ((pulseB L C T R F W U t == pulseB L C T R F W U t) = false ∧
                          ((pulseB L C T R F W U t == pulseB L C T R F W U t) = false ∧
                          (K (AV.bool false)
  { nx := (11 : Nat),
    m :=
      [((10 : Nat),
          AObj.cells (23 : Nat)
            [AV.int IntKind.i64 (g (0 : Nat)), AV.int IntKind.i64 (g (1 : Nat)), AV.int IntKind.i64 (g (2 : Nat)),
              AV.int IntKind.i64 (g (3 : Nat)), AV.int IntKind.i64 (g (4 : Nat)), AV.int IntKind.i64 (g (5 : Nat)),
              AV.int IntKind.i64 (g (6 : Nat))]),
        ((9 : Nat), AObj.opn (5 : Nat) (1 : Nat) cs),
        ((8 : Nat),
          AObj.cells (23 : Nat)
            [AV.int IntKind.i64 (g (0 : Nat)), AV.int IntKind.i64 (g (1 : Nat)), AV.int IntKind.i64 (g (2 : Nat)),
              AV.int IntKind.i64 (g (3 : Nat)), AV.int IntKind.i64 (g (4 : Nat)), AV.int IntKind.i64 (g (5 : Nat)),
              AV.int IntKind.i64 (g (6 : Nat))]),
        ((7 : Nat), AObj.opn (5 : Nat) (1 : Nat) cs),
        ((6 : Nat), AObj.opn (5 : Nat) (1 : Nat) (List.take (n * (1 : Nat)) (List.drop (0 : Nat) cs))),
        ((5 : Nat), AObj.cells (5 : Nat) []),
        ((4 : Nat),
          AObj.cells (30 : Nat)
            [AV.int IntKind.i64 (spF L C T R F W U t), AV.int IntKind.i64 (spL L C T R F W U t),
              AV.int IntKind.i64 (spC L C T R F W U t)]),
        ((3 : Nat),
          AObj.cells (30 : Nat)
            [AV.int IntKind.i64 (spF L C T R F W U t), AV.int IntKind.i64 (spL L C T R F W U t),
              AV.int IntKind.i64 (spC L C T R F W U t)]),
        ((2 : Nat), AObj.cells (30 : Nat) [AV.int IntKind.i64 f, AV.int IntKind.i64 l, AV.int IntKind.i64 c]),
        ((1 : Nat),
          AObj.cells (23 : Nat)
            [AV.int IntKind.i64 L, AV.int IntKind.i64 C, AV.int IntKind.i64 T, AV.int IntKind.i64 R,
              AV.int IntKind.i64 F, AV.int IntKind.i64 W, AV.int IntKind.i64 U]),
        ((0 : Nat), AObj.ro cs)] })))))))))))))))))) ∧
                      ((decide (lenF L C T R F W U = lenF L C T R F W U)) = false →
                        (decide (lenF L C T R F W U = lenF L C T R F W U)) = false ∧
                        ((decide (lenF L C T R F W U = lenF L C T R F W U)) = false ∧
                        ((decide (lenF L C T R F W U = lenF L C T R F W U)) = false ∧
                        ((decide (lenF L C T R F W U = lenF L C T R F W U)) = false ∧
                        ((decide (lenF L C T R F W U = lenF L C T R F W U)) = false ∧
                        ((decide (lenF L C T R F W U = lenF L C T R F W U)) = false ∧
                        ((decide (lenF L C T R F W U = lenF L C T R F W U)) = false ∧
                        (K (AV.bool false)
  { nx := (11 : Nat),
    m :=
      [((10 : Nat),
          AObj.cells (23 : Nat)
            [AV.int IntKind.i64 (g (0 : Nat)), AV.int IntKind.i64 (g (1 : Nat)), AV.int IntKind.i64 (g (2 : Nat)),
              AV.int IntKind.i64 (g (3 : Nat)), AV.int IntKind.i64 (g (4 : Nat)), AV.int IntKind.i64 (g (5 : Nat)),
              AV.int IntKind.i64 (g (6 : Nat))]),
        ((9 : Nat), AObj.opn (5 : Nat) (1 : Nat) cs),
        ((8 : Nat),
          AObj.cells (23 : Nat)
            [AV.int IntKind.i64 (g (0 : Nat)), AV.int IntKind.i64 (g (1 : Nat)), AV.int IntKind.i64 (g (2 : Nat)),
              AV.int IntKind.i64 (g (3 : Nat)), AV.int IntKind.i64 (g (4 : Nat)), AV.int IntKind.i64 (g (5 : Nat)),
              AV.int IntKind.i64 (g (6 : Nat))]),
        ((7 : Nat), AObj.opn (5 : Nat) (1 : Nat) cs),
        ((6 : Nat), AObj.opn (5 : Nat) (1 : Nat) (List.take (n * (1 : Nat)) (List.drop (0 : Nat) cs))),
        ((5 : Nat), AObj.cells (5 : Nat) []),
        ((4 : Nat),
          AObj.cells (30 : Nat)
            [AV.int IntKind.i64 (spF L C T R F W U t), AV.int IntKind.i64 (spL L C T R F W U t),
              AV.int IntKind.i64 (spC L C T R F W U t)]),
        ((3 : Nat),
          AObj.cells (30 : Nat)
            [AV.int IntKind.i64 (spF L C T R F W U t), AV.int IntKind.i64 (spL L C T R F W U t),
              AV.int IntKind.i64 (spC L C T R F W U t)]),
        ((2 : Nat), AObj.cells (30 : Nat) [AV.int IntKind.i64 f, AV.int IntKind.i64 l, AV.int IntKind.i64 c]),
        ((1 : Nat),
          AObj.cells (23 : Nat)
            [AV.int IntKind.i64 L, AV.int IntKind.i64 C, AV.int IntKind.i64 T, AV.int IntKind.i64 R,
              AV.int IntKind.i64 F, AV.int IntKind.i64 W, AV.int IntKind.i64 U]),
        ((0 : Nat), AObj.ro cs)] })))))))))))))) ∧
                    ((decide
  ((if okF L C T R F W U = true then (0 : Int) else (2 : Int)) =
    if okF L C T R F W U = true then (0 : Int) else (2 : Int))) = false →
                      (decide
  ((if okF L C T R F W U = true then (0 : Int) else (2 : Int)) =
    if okF L C T R F W U = true then (0 : Int) else (2 : Int))) = false ∧
                      ((decide
  ((if okF L C T R F W U = true then (0 : Int) else (2 : Int)) =
    if okF L C T R F W U = true then (0 : Int) else (2 : Int))) = false ∧
                      ((decide
  ((if okF L C T R F W U = true then (0 : Int) else (2 : Int)) =
    if okF L C T R F W U = true then (0 : Int) else (2 : Int))) = false ∧
                      ((decide
  ((if okF L C T R F W U = true then (0 : Int) else (2 : Int)) =
    if okF L C T R F W U = true then (0 : Int) else (2 : Int))) = false ∧
                      ((decide
  ((if okF L C T R F W U = true then (0 : Int) else (2 : Int)) =
    if okF L C T R F W U = true then (0 : Int) else (2 : Int))) = false ∧
                      (K (AV.bool false)
  { nx := (11 : Nat),
    m :=
      [((10 : Nat),
          AObj.cells (23 : Nat)
            [AV.int IntKind.i64 (g (0 : Nat)), AV.int IntKind.i64 (g (1 : Nat)), AV.int IntKind.i64 (g (2 : Nat)),
              AV.int IntKind.i64 (g (3 : Nat)), AV.int IntKind.i64 (g (4 : Nat)), AV.int IntKind.i64 (g (5 : Nat)),
              AV.int IntKind.i64 (g (6 : Nat))]),
        ((9 : Nat), AObj.opn (5 : Nat) (1 : Nat) cs),
        ((8 : Nat),
          AObj.cells (23 : Nat)
            [AV.int IntKind.i64 (g (0 : Nat)), AV.int IntKind.i64 (g (1 : Nat)), AV.int IntKind.i64 (g (2 : Nat)),
              AV.int IntKind.i64 (g (3 : Nat)), AV.int IntKind.i64 (g (4 : Nat)), AV.int IntKind.i64 (g (5 : Nat)),
              AV.int IntKind.i64 (g (6 : Nat))]),
        ((7 : Nat), AObj.opn (5 : Nat) (1 : Nat) cs),
        ((6 : Nat), AObj.opn (5 : Nat) (1 : Nat) (List.take (n * (1 : Nat)) (List.drop (0 : Nat) cs))),
        ((5 : Nat), AObj.cells (5 : Nat) []),
        ((4 : Nat),
          AObj.cells (30 : Nat)
            [AV.int IntKind.i64 (spF L C T R F W U t), AV.int IntKind.i64 (spL L C T R F W U t),
              AV.int IntKind.i64 (spC L C T R F W U t)]),
        ((3 : Nat),
          AObj.cells (30 : Nat)
            [AV.int IntKind.i64 (spF L C T R F W U t), AV.int IntKind.i64 (spL L C T R F W U t),
              AV.int IntKind.i64 (spC L C T R F W U t)]),
        ((2 : Nat), AObj.cells (30 : Nat) [AV.int IntKind.i64 f, AV.int IntKind.i64 l, AV.int IntKind.i64 c]),
        ((1 : Nat),
          AObj.cells (23 : Nat)
            [AV.int IntKind.i64 L, AV.int IntKind.i64 C, AV.int IntKind.i64 T, AV.int IntKind.i64 R,
              AV.int IntKind.i64 F, AV.int IntKind.i64 W, AV.int IntKind.i64 U]),
        ((0 : Nat), AObj.ro cs)] })))))))))))) ∧
                  ((decide (er = er)) = false →
                    (decide (er = er)) = false ∧
                    ((decide (er = er)) = false ∧
                    ((decide (er = er)) = false ∧
                    ((decide (er = er)) = false ∧
                    ((decide (er = er)) = false ∧
                    (K (AV.bool false)
  { nx := (11 : Nat),
    m :=
      [((10 : Nat),
          AObj.cells (23 : Nat)
            [AV.int IntKind.i64 (g (0 : Nat)), AV.int IntKind.i64 (g (1 : Nat)), AV.int IntKind.i64 (g (2 : Nat)),
              AV.int IntKind.i64 (g (3 : Nat)), AV.int IntKind.i64 (g (4 : Nat)), AV.int IntKind.i64 (g (5 : Nat)),
              AV.int IntKind.i64 (g (6 : Nat))]),
        ((9 : Nat), AObj.opn (5 : Nat) (1 : Nat) cs),
        ((8 : Nat),
          AObj.cells (23 : Nat)
            [AV.int IntKind.i64 (g (0 : Nat)), AV.int IntKind.i64 (g (1 : Nat)), AV.int IntKind.i64 (g (2 : Nat)),
              AV.int IntKind.i64 (g (3 : Nat)), AV.int IntKind.i64 (g (4 : Nat)), AV.int IntKind.i64 (g (5 : Nat)),
              AV.int IntKind.i64 (g (6 : Nat))]),
        ((7 : Nat), AObj.opn (5 : Nat) (1 : Nat) cs),
        ((6 : Nat), AObj.opn (5 : Nat) (1 : Nat) (List.take (n * (1 : Nat)) (List.drop (0 : Nat) cs))),
        ((5 : Nat), AObj.cells (5 : Nat) []),
        ((4 : Nat),
          AObj.cells (30 : Nat)
            [AV.int IntKind.i64 (spF L C T R F W U t), AV.int IntKind.i64 (spL L C T R F W U t),
              AV.int IntKind.i64 (spC L C T R F W U t)]),
        ((3 : Nat),
          AObj.cells (30 : Nat)
            [AV.int IntKind.i64 (spF L C T R F W U t), AV.int IntKind.i64 (spL L C T R F W U t),
              AV.int IntKind.i64 (spC L C T R F W U t)]),
        ((2 : Nat), AObj.cells (30 : Nat) [AV.int IntKind.i64 f, AV.int IntKind.i64 l, AV.int IntKind.i64 c]),
        ((1 : Nat),
          AObj.cells (23 : Nat)
            [AV.int IntKind.i64 L, AV.int IntKind.i64 C, AV.int IntKind.i64 T, AV.int IntKind.i64 R,
              AV.int IntKind.i64 F, AV.int IntKind.i64 W, AV.int IntKind.i64 U]),
        ((0 : Nat), AObj.ro cs)] })))))))))) ∧
                ((g (0 : Nat) == g (0 : Nat) &&
  (g (1 : Nat) == g (1 : Nat) &&
    (g (2 : Nat) == g (2 : Nat) &&
      (g (3 : Nat) == g (3 : Nat) &&
        (g (4 : Nat) == g (4 : Nat) && (g (5 : Nat) == g (5 : Nat) && (g (6 : Nat) == g (6 : Nat) && true))))))) = false →
                  (g (0 : Nat) == g (0 : Nat) &&
  (g (1 : Nat) == g (1 : Nat) &&
    (g (2 : Nat) == g (2 : Nat) &&
      (g (3 : Nat) == g (3 : Nat) &&
        (g (4 : Nat) == g (4 : Nat) && (g (5 : Nat) == g (5 : Nat) && (g (6 : Nat) == g (6 : Nat) && true))))))) = false ∧
                  ((g (0 : Nat) == g (0 : Nat) &&
  (g (1 : Nat) == g (1 : Nat) &&
    (g (2 : Nat) == g (2 : Nat) &&
      (g (3 : Nat) == g (3 : Nat) &&
        (g (4 : Nat) == g (4 : Nat) && (g (5 : Nat) == g (5 : Nat) && (g (6 : Nat) == g (6 : Nat) && true))))))) = false ∧
                  ((g (0 : Nat) == g (0 : Nat) &&
  (g (1 : Nat) == g (1 : Nat) &&
    (g (2 : Nat) == g (2 : Nat) &&
      (g (3 : Nat) == g (3 : Nat) &&
        (g (4 : Nat) == g (4 : Nat) && (g (5 : Nat) == g (5 : Nat) && (g (6 : Nat) == g (6 : Nat) && true))))))) = false ∧
                  (K (AV.bool false)
  { nx := (11 : Nat),
    m :=
      [((10 : Nat),
          AObj.cells (23 : Nat)
            [AV.int IntKind.i64 (g (0 : Nat)), AV.int IntKind.i64 (g (1 : Nat)), AV.int IntKind.i64 (g (2 : Nat)),
              AV.int IntKind.i64 (g (3 : Nat)), AV.int IntKind.i64 (g (4 : Nat)), AV.int IntKind.i64 (g (5 : Nat)),
              AV.int IntKind.i64 (g (6 : Nat))]),
        ((9 : Nat), AObj.opn (5 : Nat) (1 : Nat) cs),
        ((8 : Nat),
          AObj.cells (23 : Nat)
            [AV.int IntKind.i64 (g (0 : Nat)), AV.int IntKind.i64 (g (1 : Nat)), AV.int IntKind.i64 (g (2 : Nat)),
              AV.int IntKind.i64 (g (3 : Nat)), AV.int IntKind.i64 (g (4 : Nat)), AV.int IntKind.i64 (g (5 : Nat)),
              AV.int IntKind.i64 (g (6 : Nat))]),
        ((7 : Nat), AObj.opn (5 : Nat) (1 : Nat) cs),
        ((6 : Nat), AObj.opn (5 : Nat) (1 : Nat) (List.take (n * (1 : Nat)) (List.drop (0 : Nat) cs))),
        ((5 : Nat), AObj.cells (5 : Nat) []),
        ((4 : Nat),
          AObj.cells (30 : Nat)
            [AV.int IntKind.i64 (spF L C T R F W U t), AV.int IntKind.i64 (spL L C T R F W U t),
              AV.int IntKind.i64 (spC L C T R F W U t)]),
        ((3 : Nat),
          AObj.cells (30 : Nat)
            [AV.int IntKind.i64 (spF L C T R F W U t), AV.int IntKind.i64 (spL L C T R F W U t),
              AV.int IntKind.i64 (spC L C T R F W U t)]),
        ((2 : Nat), AObj.cells (30 : Nat) [AV.int IntKind.i64 f, AV.int IntKind.i64 l, AV.int IntKind.i64 c]),
        ((1 : Nat),
          AObj.cells (23 : Nat)
            [AV.int IntKind.i64 L, AV.int IntKind.i64 C, AV.int IntKind.i64 T, AV.int IntKind.i64 R,
              AV.int IntKind.i64 F, AV.int IntKind.i64 W, AV.int IntKind.i64 U]),
        ((0 : Nat), AObj.ro cs)] })))))))))) ∧
              ((nxB L C T R F W U t == nxB L C T R F W U t) = false →
                (nxB L C T R F W U t == nxB L C T R F W U t) = false ∧
                ((nxB L C T R F W U t == nxB L C T R F W U t) = false ∧
                ((nxB L C T R F W U t == nxB L C T R F W U t) = false ∧
                ((nxB L C T R F W U t == nxB L C T R F W U t) = false ∧
                ((nxB L C T R F W U t == nxB L C T R F W U t) = false ∧
                (K (AV.bool false)
  { nx := (11 : Nat),
    m :=
      [((10 : Nat),
          AObj.cells (23 : Nat)
            [AV.int IntKind.i64 (g (0 : Nat)), AV.int IntKind.i64 (g (1 : Nat)), AV.int IntKind.i64 (g (2 : Nat)),
              AV.int IntKind.i64 (g (3 : Nat)), AV.int IntKind.i64 (g (4 : Nat)), AV.int IntKind.i64 (g (5 : Nat)),
              AV.int IntKind.i64 (g (6 : Nat))]),
        ((9 : Nat), AObj.opn (5 : Nat) (1 : Nat) cs),
        ((8 : Nat),
          AObj.cells (23 : Nat)
            [AV.int IntKind.i64 (g (0 : Nat)), AV.int IntKind.i64 (g (1 : Nat)), AV.int IntKind.i64 (g (2 : Nat)),
              AV.int IntKind.i64 (g (3 : Nat)), AV.int IntKind.i64 (g (4 : Nat)), AV.int IntKind.i64 (g (5 : Nat)),
              AV.int IntKind.i64 (g (6 : Nat))]),
        ((7 : Nat), AObj.opn (5 : Nat) (1 : Nat) cs),
        ((6 : Nat), AObj.opn (5 : Nat) (1 : Nat) (List.take (n * (1 : Nat)) (List.drop (0 : Nat) cs))),
        ((5 : Nat), AObj.cells (5 : Nat) []),
        ((4 : Nat),
          AObj.cells (30 : Nat)
            [AV.int IntKind.i64 (spF L C T R F W U t), AV.int IntKind.i64 (spL L C T R F W U t),
              AV.int IntKind.i64 (spC L C T R F W U t)]),
        ((3 : Nat),
          AObj.cells (30 : Nat)
            [AV.int IntKind.i64 (spF L C T R F W U t), AV.int IntKind.i64 (spL L C T R F W U t),
              AV.int IntKind.i64 (spC L C T R F W U t)]),
        ((2 : Nat), AObj.cells (30 : Nat) [AV.int IntKind.i64 f, AV.int IntKind.i64 l, AV.int IntKind.i64 c]),
        ((1 : Nat),
          AObj.cells (23 : Nat)
            [AV.int IntKind.i64 L, AV.int IntKind.i64 C, AV.int IntKind.i64 T, AV.int IntKind.i64 R,
              AV.int IntKind.i64 F, AV.int IntKind.i64 W, AV.int IntKind.i64 U]),
        ((0 : Nat), AObj.ro cs)] })))))))))) ∧
            ((decide (nxV L C T R F W U t = nxV L C T R F W U t)) = false →
              (decide (nxV L C T R F W U t = nxV L C T R F W U t)) = false ∧
              ((decide (nxV L C T R F W U t = nxV L C T R F W U t)) = false ∧
              ((decide (nxV L C T R F W U t = nxV L C T R F W U t)) = false ∧
              (K (AV.bool false)
  { nx := (11 : Nat),
    m :=
      [((10 : Nat),
          AObj.cells (23 : Nat)
            [AV.int IntKind.i64 (g (0 : Nat)), AV.int IntKind.i64 (g (1 : Nat)), AV.int IntKind.i64 (g (2 : Nat)),
              AV.int IntKind.i64 (g (3 : Nat)), AV.int IntKind.i64 (g (4 : Nat)), AV.int IntKind.i64 (g (5 : Nat)),
              AV.int IntKind.i64 (g (6 : Nat))]),
        ((9 : Nat), AObj.opn (5 : Nat) (1 : Nat) cs),
        ((8 : Nat),
          AObj.cells (23 : Nat)
            [AV.int IntKind.i64 (g (0 : Nat)), AV.int IntKind.i64 (g (1 : Nat)), AV.int IntKind.i64 (g (2 : Nat)),
              AV.int IntKind.i64 (g (3 : Nat)), AV.int IntKind.i64 (g (4 : Nat)), AV.int IntKind.i64 (g (5 : Nat)),
              AV.int IntKind.i64 (g (6 : Nat))]),
        ((7 : Nat), AObj.opn (5 : Nat) (1 : Nat) cs),
        ((6 : Nat), AObj.opn (5 : Nat) (1 : Nat) (List.take (n * (1 : Nat)) (List.drop (0 : Nat) cs))),
        ((5 : Nat), AObj.cells (5 : Nat) []),
        ((4 : Nat),
          AObj.cells (30 : Nat)
            [AV.int IntKind.i64 (spF L C T R F W U t), AV.int IntKind.i64 (spL L C T R F W U t),
              AV.int IntKind.i64 (spC L C T R F W U t)]),
        ((3 : Nat),
          AObj.cells (30 : Nat)
            [AV.int IntKind.i64 (spF L C T R F W U t), AV.int IntKind.i64 (spL L C T R F W U t),
              AV.int IntKind.i64 (spC L C T R F W U t)]),
        ((2 : Nat), AObj.cells (30 : Nat) [AV.int IntKind.i64 f, AV.int IntKind.i64 l, AV.int IntKind.i64 c]),
        ((1 : Nat),
          AObj.cells (23 : Nat)
            [AV.int IntKind.i64 L, AV.int IntKind.i64 C, AV.int IntKind.i64 T, AV.int IntKind.i64 R,
              AV.int IntKind.i64 F, AV.int IntKind.i64 W, AV.int IntKind.i64 U]),
        ((0 : Nat), AObj.ro cs)] })))))))) ∧
          ((decide (tmE L C T R F W U f l c = tmE L C T R F W U f l c)) = false →
            (decide (tmE L C T R F W U f l c = tmE L C T R F W U f l c)) = false ∧
            ((decide (tmE L C T R F W U f l c = tmE L C T R F W U f l c)) = false ∧
            ((decide (tmE L C T R F W U f l c = tmE L C T R F W U f l c)) = false ∧
            (K (AV.bool false)
  { nx := (11 : Nat),
    m :=
      [((10 : Nat),
          AObj.cells (23 : Nat)
            [AV.int IntKind.i64 (g (0 : Nat)), AV.int IntKind.i64 (g (1 : Nat)), AV.int IntKind.i64 (g (2 : Nat)),
              AV.int IntKind.i64 (g (3 : Nat)), AV.int IntKind.i64 (g (4 : Nat)), AV.int IntKind.i64 (g (5 : Nat)),
              AV.int IntKind.i64 (g (6 : Nat))]),
        ((9 : Nat), AObj.opn (5 : Nat) (1 : Nat) cs),
        ((8 : Nat),
          AObj.cells (23 : Nat)
            [AV.int IntKind.i64 (g (0 : Nat)), AV.int IntKind.i64 (g (1 : Nat)), AV.int IntKind.i64 (g (2 : Nat)),
              AV.int IntKind.i64 (g (3 : Nat)), AV.int IntKind.i64 (g (4 : Nat)), AV.int IntKind.i64 (g (5 : Nat)),
              AV.int IntKind.i64 (g (6 : Nat))]),
        ((7 : Nat), AObj.opn (5 : Nat) (1 : Nat) cs),
        ((6 : Nat), AObj.opn (5 : Nat) (1 : Nat) (List.take (n * (1 : Nat)) (List.drop (0 : Nat) cs))),
        ((5 : Nat), AObj.cells (5 : Nat) []),
        ((4 : Nat),
          AObj.cells (30 : Nat)
            [AV.int IntKind.i64 (spF L C T R F W U t), AV.int IntKind.i64 (spL L C T R F W U t),
              AV.int IntKind.i64 (spC L C T R F W U t)]),
        ((3 : Nat),
          AObj.cells (30 : Nat)
            [AV.int IntKind.i64 (spF L C T R F W U t), AV.int IntKind.i64 (spL L C T R F W U t),
              AV.int IntKind.i64 (spC L C T R F W U t)]),
        ((2 : Nat), AObj.cells (30 : Nat) [AV.int IntKind.i64 f, AV.int IntKind.i64 l, AV.int IntKind.i64 c]),
        ((1 : Nat),
          AObj.cells (23 : Nat)
            [AV.int IntKind.i64 L, AV.int IntKind.i64 C, AV.int IntKind.i64 T, AV.int IntKind.i64 R,
              AV.int IntKind.i64 F, AV.int IntKind.i64 W, AV.int IntKind.i64 U]),
        ((0 : Nat), AObj.ro cs)] })))))))) ∧
        ((decide (tmT L C T R F W U f l c = tmT L C T R F W U f l c)) = false →
          (decide (tmT L C T R F W U f l c = tmT L C T R F W U f l c)) = false ∧
          ((decide (tmT L C T R F W U f l c = tmT L C T R F W U f l c)) = false ∧
          ((decide (tmT L C T R F W U f l c = tmT L C T R F W U f l c)) = false ∧
          (K (AV.bool false)
  { nx := (11 : Nat),
    m :=
      [((10 : Nat),
          AObj.cells (23 : Nat)
            [AV.int IntKind.i64 (g (0 : Nat)), AV.int IntKind.i64 (g (1 : Nat)), AV.int IntKind.i64 (g (2 : Nat)),
              AV.int IntKind.i64 (g (3 : Nat)), AV.int IntKind.i64 (g (4 : Nat)), AV.int IntKind.i64 (g (5 : Nat)),
              AV.int IntKind.i64 (g (6 : Nat))]),
        ((9 : Nat), AObj.opn (5 : Nat) (1 : Nat) cs),
        ((8 : Nat),
          AObj.cells (23 : Nat)
            [AV.int IntKind.i64 (g (0 : Nat)), AV.int IntKind.i64 (g (1 : Nat)), AV.int IntKind.i64 (g (2 : Nat)),
              AV.int IntKind.i64 (g (3 : Nat)), AV.int IntKind.i64 (g (4 : Nat)), AV.int IntKind.i64 (g (5 : Nat)),
              AV.int IntKind.i64 (g (6 : Nat))]),
        ((7 : Nat), AObj.opn (5 : Nat) (1 : Nat) cs),
        ((6 : Nat), AObj.opn (5 : Nat) (1 : Nat) (List.take (n * (1 : Nat)) (List.drop (0 : Nat) cs))),
        ((5 : Nat), AObj.cells (5 : Nat) []),
        ((4 : Nat),
          AObj.cells (30 : Nat)
            [AV.int IntKind.i64 (spF L C T R F W U t), AV.int IntKind.i64 (spL L C T R F W U t),
              AV.int IntKind.i64 (spC L C T R F W U t)]),
        ((3 : Nat),
          AObj.cells (30 : Nat)
            [AV.int IntKind.i64 (spF L C T R F W U t), AV.int IntKind.i64 (spL L C T R F W U t),
              AV.int IntKind.i64 (spC L C T R F W U t)]),
        ((2 : Nat), AObj.cells (30 : Nat) [AV.int IntKind.i64 f, AV.int IntKind.i64 l, AV.int IntKind.i64 c]),
        ((1 : Nat),
          AObj.cells (23 : Nat)
            [AV.int IntKind.i64 L, AV.int IntKind.i64 C, AV.int IntKind.i64 T, AV.int IntKind.i64 R,
              AV.int IntKind.i64 F, AV.int IntKind.i64 W, AV.int IntKind.i64 U]),
        ((0 : Nat), AObj.ro cs)] })))))))) ∧
      ((decide (spE L C T R F W U t = spE L C T R F W U t)) = false →
        (decide (spE L C T R F W U t = spE L C T R F W U t)) = false ∧
        ((decide (spE L C T R F W U t = spE L C T R F W U t)) = false ∧
        ((decide (spE L C T R F W U t = spE L C T R F W U t)) = false ∧
        (K (AV.bool false)
  { nx := (11 : Nat),
    m :=
      [((10 : Nat),
          AObj.cells (23 : Nat)
            [AV.int IntKind.i64 (g (0 : Nat)), AV.int IntKind.i64 (g (1 : Nat)), AV.int IntKind.i64 (g (2 : Nat)),
              AV.int IntKind.i64 (g (3 : Nat)), AV.int IntKind.i64 (g (4 : Nat)), AV.int IntKind.i64 (g (5 : Nat)),
              AV.int IntKind.i64 (g (6 : Nat))]),
        ((9 : Nat), AObj.opn (5 : Nat) (1 : Nat) cs),
        ((8 : Nat),
          AObj.cells (23 : Nat)
            [AV.int IntKind.i64 (g (0 : Nat)), AV.int IntKind.i64 (g (1 : Nat)), AV.int IntKind.i64 (g (2 : Nat)),
              AV.int IntKind.i64 (g (3 : Nat)), AV.int IntKind.i64 (g (4 : Nat)), AV.int IntKind.i64 (g (5 : Nat)),
              AV.int IntKind.i64 (g (6 : Nat))]),
        ((7 : Nat), AObj.opn (5 : Nat) (1 : Nat) cs),
        ((6 : Nat), AObj.opn (5 : Nat) (1 : Nat) (List.take (n * (1 : Nat)) (List.drop (0 : Nat) cs))),
        ((5 : Nat), AObj.cells (5 : Nat) []),
        ((4 : Nat),
          AObj.cells (30 : Nat)
            [AV.int IntKind.i64 (spF L C T R F W U t), AV.int IntKind.i64 (spL L C T R F W U t),
              AV.int IntKind.i64 (spC L C T R F W U t)]),
        ((3 : Nat),
          AObj.cells (30 : Nat)
            [AV.int IntKind.i64 (spF L C T R F W U t), AV.int IntKind.i64 (spL L C T R F W U t),
              AV.int IntKind.i64 (spC L C T R F W U t)]),
        ((2 : Nat), AObj.cells (30 : Nat) [AV.int IntKind.i64 f, AV.int IntKind.i64 l, AV.int IntKind.i64 c]),
        ((1 : Nat),
          AObj.cells (23 : Nat)
            [AV.int IntKind.i64 L, AV.int IntKind.i64 C, AV.int IntKind.i64 T, AV.int IntKind.i64 R,
              AV.int IntKind.i64 F, AV.int IntKind.i64 W, AV.int IntKind.i64 U]),
        ((0 : Nat), AObj.ro cs)] })))))))) ∧
    ((spF L C T R F W U t == spF L C T R F W U t &&
  (spL L C T R F W U t == spL L C T R F W U t && (spC L C T R F W U t == spC L C T R F W U t && true))) = false →
      (spF L C T R F W U t == spF L C T R F W U t &&
  (spL L C T R F W U t == spL L C T R F W U t && (spC L C T R F W U t == spC L C T R F W U t && true))) = false ∧
      ((spF L C T R F W U t == spF L C T R F W U t &&
  (spL L C T R F W U t == spL L C T R F W U t && (spC L C T R F W U t == spC L C T R F W U t && true))) = false ∧
      ((spF L C T R F W U t == spF L C T R F W U t &&
  (spL L C T R F W U t == spL L C T R F W U t && (spC L C T R F W U t == spC L C T R F W U t && true))) = false ∧
      (K (AV.bool false)
  { nx := (11 : Nat),
    m :=
      [((10 : Nat),
          AObj.cells (23 : Nat)
            [AV.int IntKind.i64 (g (0 : Nat)), AV.int IntKind.i64 (g (1 : Nat)), AV.int IntKind.i64 (g (2 : Nat)),
              AV.int IntKind.i64 (g (3 : Nat)), AV.int IntKind.i64 (g (4 : Nat)), AV.int IntKind.i64 (g (5 : Nat)),
              AV.int IntKind.i64 (g (6 : Nat))]),
        ((9 : Nat), AObj.opn (5 : Nat) (1 : Nat) cs),
        ((8 : Nat),
          AObj.cells (23 : Nat)
            [AV.int IntKind.i64 (g (0 : Nat)), AV.int IntKind.i64 (g (1 : Nat)), AV.int IntKind.i64 (g (2 : Nat)),
              AV.int IntKind.i64 (g (3 : Nat)), AV.int IntKind.i64 (g (4 : Nat)), AV.int IntKind.i64 (g (5 : Nat)),
              AV.int IntKind.i64 (g (6 : Nat))]),
        ((7 : Nat), AObj.opn (5 : Nat) (1 : Nat) cs),
        ((6 : Nat), AObj.opn (5 : Nat) (1 : Nat) (List.take (n * (1 : Nat)) (List.drop (0 : Nat) cs))),
        ((5 : Nat), AObj.cells (5 : Nat) []),
        ((4 : Nat),
          AObj.cells (30 : Nat)
            [AV.int IntKind.i64 (spF L C T R F W U t), AV.int IntKind.i64 (spL L C T R F W U t),
              AV.int IntKind.i64 (spC L C T R F W U t)]),
        ((3 : Nat),
          AObj.cells (30 : Nat)
            [AV.int IntKind.i64 (spF L C T R F W U t), AV.int IntKind.i64 (spL L C T R F W U t),
              AV.int IntKind.i64 (spC L C T R F W U t)]),
        ((2 : Nat), AObj.cells (30 : Nat) [AV.int IntKind.i64 f, AV.int IntKind.i64 l, AV.int IntKind.i64 c]),
        ((1 : Nat),
          AObj.cells (23 : Nat)
            [AV.int IntKind.i64 L, AV.int IntKind.i64 C, AV.int IntKind.i64 T, AV.int IntKind.i64 R,
              AV.int IntKind.i64 F, AV.int IntKind.i64 W, AV.int IntKind.i64 U]),
        ((0 : Nat), AObj.ro cs)] })))))))))))))
def tcZS_scr : Plan := .k (.b (.z) (.t (.t (.t (.t (.t (.t (.b (.t (.t (.t (.b (.t (.t (.t (.b (.t (.t (.t (.b (.t (.t (.t (.b (.t (.t (.t (.b (.t (.t (.t (.t (.t (.k (.k (.k (.k (.k (.k (.k (.k (.b (.t (.t (.t (.b (.t (.t (.t (.t (.t (.b (.t (.t (.t (.t (.t (.b (.t (.t (.t (.t (.t (.t (.t (.b (.t (.t (.t (.t (.t (.t (.t (.t (.t (.z)))))))))) (.f (.f (.f (.f (.f (.f (.f (.f (.f (.z)))))))))))))))))) (.f (.f (.f (.f (.f (.f (.f (.z)))))))))))))) (.f (.f (.f (.f (.f (.z)))))))))))) (.f (.f (.f (.f (.f (.z)))))))))) (.f (.f (.f (.z)))))))))))))))))) (.f (.f (.f (.f (.f (.z)))))))))) (.f (.f (.f (.z)))))))) (.f (.f (.f (.z)))))))) (.f (.f (.f (.z)))))))) (.f (.f (.f (.z)))))))) (.f (.f (.f (.z))))))))))))
theorem tcZS_vc (L C T R F W U t u f l c : Int)  (bz g : Nat → Int) (er : Int) (n k : Nat) (cs : List AV) (K : AV → AH → Prop) : (funP (XLw (trR bz g er n cs (trZ)) okOw) 16 [.agg [.int .i64 L, .int .i64 C, .int .i64 T, .int .i64 R, .int .i64 F, .int .i64 W, .int .i64 U], .int .i64 t, .int .i64 u, .agg [.int .i64 f, .int .i64 l, .int .i64 c], .slice 0 0 n (some k)] ⟨1, [(0, .ro cs)]⟩ tcZS_scr (fun v σ _ => K v σ)) = tcZS_VC L C T R F W U t u f l c bz g er n k cs K := by kernel_rfl
end Go.Proofs.Ytnfelncgeihihaa.V
namespace Go.Proofs.Ytnfelncgeihihaa.V
open Go Go.Proofs
set_option maxRecDepth 100000
set_option maxHeartbeats 4000000
set_option linter.unusedSimpArgs false
set_option linter.unusedVariables false
theorem toInts_enc : ∀ l : List Int, toInts (encI .u8 l) = some l
  | [] => rfl
  | z :: r => by
    have := toInts_enc r
    simp only [encI, List.map_cons] at this ⊢
    simp only [toInts, this]
theorem bts_pos (x : Nat → Int) : 0 < (bts x 7).length := by
  obtain ⟨r, hr⟩ := bts_split x (show 0 < 7 by omega)
  have := numB_len (x 0)
  rw [hr]; simp; omega
theorem byt_enc {zs : List Int} (h : ∀ z ∈ zs, (Lit.int .u8 z).wf = true) : Byt (encI .u8 zs) (fun j => zs.getD j 0) := by
  refine ⟨pfs_enc, fun j hj => ?_⟩
  rw [enc_len] at hj
  have e : (encI .u8 zs).getD j (.tup []) = .int .u8 (zs.getD j 0) := by
    rw [List.getD_eq_getElem?_getD]
    unfold encI
    rw [List.getElem?_map, List.getElem?_eq_getElem hj]
    simp [List.getD, hj]
  have m := h _ (List.getElem_mem hj)
  have e2 : zs.getD j 0 = zs[j] := by simp [List.getD, hj]
  refine ⟨e, ?_⟩
  show 0 ≤ zs.getD j 0 ∧ zs.getD j 0 ≤ 255
  rw [e2]
  have e0 : IntKind.u8.min = 0 := by decide +kernel
  have e1 : IntKind.u8.max = 255 := by decide +kernel
  simp [Lit.wf, e0, e1] at m
  omega
theorem tcN_law (L C T R F W U t u f l c : Int) : SC Try.prog 16 [.agg [.int .i64 L, .int .i64 C, .int .i64 T, .int .i64 R, .int .i64 F, .int .i64 W, .int .i64 U], .int .i64 t, .int .i64 u, .agg [.int .i64 f, .int .i64 l, .int .i64 c], .nilslice] h0 (fun u _ => u = .bool true) := by
  by_cases hk : okF L C T R F W U = true
  · have hp := bts_pos (scX L C T R F W U)
    have ht : toInts (List.take (bts (scX L C T R F W U) 7).length (List.drop 0 (encI .u8 (bts (scX L C T R F W U) 7)))) = some (bts (scX L C T R F W U) 7) := by
      have e : (bts (scX L C T R F W U) 7).length = (encI .u8 (bts (scX L C T R F W U) 7)).length := enc_len.symm
      rw [List.drop_zero, e, List.take_length, toInts_enc]
    refine sc_of_vcT (XLw_ok (trC_ok (trY_ok L C T R F W U (bts (scX L C T R F W U) 7).length (encI .u8 (bts (scX L C T R F W U) 7)))) okRn_ok) (by kernel_rfl) (fun p _ L hL => by cases hL) (tcYN_vc L C T R F W U t u f l c (bts (scX L C T R F W U) 7).length (encI .u8 (bts (scX L C T R F W U) 7)) (fun v => v = .bool true)) ?_
    unfold tcYN_VC
    refine ⟨rfl, ⟨hk, rfl, rfl⟩, rfl, ⟨hk, rfl, rfl⟩, ?_⟩
    have hl : (encI IntKind.u8 (bts (scX L C T R F W U) 7)).length = (bts (scX L C T R F W U) 7).length := enc_len
    rw [ht, hl]
    have h0 : ¬ (bts (scX L C T R F W U) 7).length = 0 := by omega
    generalize (bts (scX L C T R F W U) 7).length = m at h0 ⊢
    simp [h0]
  · have hk : okF L C T R F W U = false := by simpa using hk
    refine sc_of_vcT (XLw_ok (trC_ok trZ_ok) okRn_ok) (by kernel_rfl) (fun p _ L hL => by cases hL) (tcZN_vc L C T R F W U t u f l c (fun v => v = .bool true)) ?_
    unfold tcZN_VC
    simp [hk]
theorem tcE_law (L C T R F W U t u f l c : Int) : SC Try.prog 16 [.agg [.int .i64 L, .int .i64 C, .int .i64 T, .int .i64 R, .int .i64 F, .int .i64 W, .int .i64 U], .int .i64 t, .int .i64 u, .agg [.int .i64 f, .int .i64 l, .int .i64 c], .slice 1000 0 0 none] h0 (fun u _ => u = .bool true) := by
  by_cases hk : okF L C T R F W U = true
  · have hp := bts_pos (scX L C T R F W U)
    have ht : toInts (List.take (bts (scX L C T R F W U) 7).length (List.drop 0 (encI .u8 (bts (scX L C T R F W U) 7)))) = some (bts (scX L C T R F W U) 7) := by
      have e : (bts (scX L C T R F W U) 7).length = (encI .u8 (bts (scX L C T R F W U) 7)).length := enc_len.symm
      rw [List.drop_zero, e, List.take_length, toInts_enc]
    refine sc_of_vcT (XLw_ok (trC_ok (trY_ok L C T R F W U (bts (scX L C T R F W U) 7).length (encI .u8 (bts (scX L C T R F W U) 7)))) okRn_ok) (by kernel_rfl) (fun p _ L hL => by cases hL) (tcYE_vc L C T R F W U t u f l c (bts (scX L C T R F W U) 7).length (encI .u8 (bts (scX L C T R F W U) 7)) (fun v => v = .bool true)) ?_
    unfold tcYE_VC
    refine ⟨rfl, ⟨hk, rfl, rfl⟩, rfl, ⟨hk, rfl, rfl⟩, ?_⟩
    have hl : (encI IntKind.u8 (bts (scX L C T R F W U) 7)).length = (bts (scX L C T R F W U) 7).length := enc_len
    rw [ht, hl]
    have h0 : ¬ (bts (scX L C T R F W U) 7).length = 0 := by omega
    generalize (bts (scX L C T R F W U) 7).length = m at h0 ⊢
    simp [h0]
  · have hk : okF L C T R F W U = false := by simpa using hk
    refine sc_of_vcT (XLw_ok (trC_ok trZ_ok) okRn_ok) (by kernel_rfl) (fun p _ L hL => by cases hL) (tcZE_vc L C T R F W U t u f l c (fun v => v = .bool true)) ?_
    unfold tcZE_VC
    simp [hk]
theorem tcS_law (L C T R F W U t u f l c : Int) {zs : List Int} (k : Nat) (hz : 0 < zs.length) (hw : ∀ z ∈ zs, (Lit.int .u8 z).wf = true) : SC Try.prog 16 [.agg [.int .i64 L, .int .i64 C, .int .i64 T, .int .i64 R, .int .i64 F, .int .i64 W, .int .i64 U], .int .i64 t, .int .i64 u, .agg [.int .i64 f, .int .i64 l, .int .i64 c], .slice 0 0 zs.length (some k)] ⟨1, [(0, .ro (encI .u8 zs))]⟩ (fun u _ => u = .bool true) := by
  have hB := byt_enc hw
  have hn : zs.length = (encI .u8 zs).length := enc_len.symm
  have htk : List.take (zs.length * 1) (List.drop 0 (encI .u8 zs)) = encI .u8 zs := by rw [Nat.mul_one, hn]; simp
  by_cases h3 : (zs.length : Int) > 300
  case pos =>
    by_cases hk : okF L C T R F W U = true
    · refine sc_of_vcT (XLw_ok (trR_ok (fun j => zs.getD j 0) (gO (fun j => zs.getD j 0) zs.length) (gE (fun j => zs.getD j 0) zs.length) zs.length (encI .u8 zs) (trY_ok L C T R F W U (bts (scX L C T R F W U) 7).length (encI .u8 (bts (scX L C T R F W U) 7)))) okOw_ok) (by kernel_rfl) (fun p _ L hL => by cases hL) (tcYS_vc L C T R F W U t u f l c (bts (scX L C T R F W U) 7).length (encI .u8 (bts (scX L C T R F W U) 7)) (fun j => zs.getD j 0) (gO (fun j => zs.getD j 0) zs.length) (gE (fun j => zs.getD j 0) zs.length) zs.length k (encI .u8 zs) (fun v _ => v = .bool true)) ?_
      exact bothT (by simpa using h3) rfl
    · refine sc_of_vcT (XLw_ok (trR_ok (fun j => zs.getD j 0) (gO (fun j => zs.getD j 0) zs.length) (gE (fun j => zs.getD j 0) zs.length) zs.length (encI .u8 zs) trZ_ok) okOw_ok) (by kernel_rfl) (fun p _ L hL => by cases hL) (tcZS_vc L C T R F W U t u f l c (fun j => zs.getD j 0) (gO (fun j => zs.getD j 0) zs.length) (gE (fun j => zs.getD j 0) zs.length) zs.length k (encI .u8 zs) (fun v _ => v = .bool true)) ?_
      exact bothT (by simpa using h3) rfl
  have hpre : rdPre (fun j => zs.getD j 0) (gO (fun j => zs.getD j 0) zs.length) (gE (fun j => zs.getD j 0) zs.length) zs.length (encI .u8 zs) := ⟨hz, by omega, hn, hB, rfl, rfl⟩
  have h3n : zs.length ≤ 300 := by omega
  have gl : (encI IntKind.u8 zs).length = zs.length := enc_len
  by_cases hk : okF L C T R F W U = true
  · have hp := bts_pos (scX L C T R F W U)
    have ht : toInts (List.take (bts (scX L C T R F W U) 7).length (List.drop 0 (encI .u8 (bts (scX L C T R F W U) 7)))) = some (bts (scX L C T R F W U) 7) := by
      have e : (bts (scX L C T R F W U) 7).length = (encI .u8 (bts (scX L C T R F W U) 7)).length := enc_len.symm
      rw [List.drop_zero, e, List.take_length, toInts_enc]
    refine sc_of_vcT (XLw_ok (trR_ok (fun j => zs.getD j 0) (gO (fun j => zs.getD j 0) zs.length) (gE (fun j => zs.getD j 0) zs.length) zs.length (encI .u8 zs) (trY_ok L C T R F W U (bts (scX L C T R F W U) 7).length (encI .u8 (bts (scX L C T R F W U) 7)))) okOw_ok) (by kernel_rfl) (fun p _ L hL => by cases hL) (tcYS_vc L C T R F W U t u f l c (bts (scX L C T R F W U) 7).length (encI .u8 (bts (scX L C T R F W U) 7)) (fun j => zs.getD j 0) (gO (fun j => zs.getD j 0) zs.length) (gE (fun j => zs.getD j 0) zs.length) zs.length k (encI .u8 zs) (fun v _ => v = .bool true)) ?_
    unfold tcYS_VC
    refine bothF (by simpa using h3) ⟨rfl, ⟨hk, rfl, rfl⟩, rfl, ⟨hk, rfl, rfl⟩, by simpa using hz, by rw [gl]; simp, by simp; omega, by simp; omega, ⟨rfl, htk, by omega, hpre⟩, ⟨rfl, rfl, by omega, hpre⟩, ?_⟩
    have hl : (encI IntKind.u8 (bts (scX L C T R F W U) 7)).length = (bts (scX L C T R F W U) 7).length := enc_len
    rw [ht, hl]
    have h0 : ¬ (bts (scX L C T R F W U) 7).length = 0 := by omega
    generalize (bts (scX L C T R F W U) 7).length = m at h0 ⊢
    simp [h0]
  · have hk : okF L C T R F W U = false := by simpa using hk
    refine sc_of_vcT (XLw_ok (trR_ok (fun j => zs.getD j 0) (gO (fun j => zs.getD j 0) zs.length) (gE (fun j => zs.getD j 0) zs.length) zs.length (encI .u8 zs) trZ_ok) okOw_ok) (by kernel_rfl) (fun p _ L hL => by cases hL) (tcZS_vc L C T R F W U t u f l c (fun j => zs.getD j 0) (gO (fun j => zs.getD j 0) zs.length) (gE (fun j => zs.getD j 0) zs.length) zs.length k (encI .u8 zs) (fun v _ => v = .bool true)) ?_
    unfold tcZS_VC
    refine bothF (by simpa using h3) ⟨by rw [hk]; rfl, by rw [hk]; rfl, by simpa using hz, by rw [gl]; simp, by simp; omega, by simp; omega, ⟨rfl, htk, by omega, hpre⟩, ⟨rfl, rfl, by omega, hpre⟩, ?_⟩
    simp [hk]
end Go.Proofs.Ytnfelncgeihihaa.V
