/- Printed by vc.py: what must hold for functions' ways (BkW). -/
import Derived.Test.YtndjipgpnhhggaaRBkB
namespace Go.Proofs.YtndjipgpnhhggaaR.V
open Go Go.Proofs
set_option maxRecDepth 100000
set_option linter.unusedVariables false
def slotsR_VC (a b : Int) (i n c : Nat) (ns : List Int) (N : NS) (Q : QS) (K : Unit) : Prop :=
  ((decide ((↑i : Int) < (↑n : Int))) = true →
    ((!decide (s0 a b < (0 : Int))) = true →
      (!decide (s0 a b < (0 : Int))) = true ∧
      ((!decide (s0 a b < (0 : Int))) = true ∧
      ((!decide (s0 a b < (0 : Int))) = true ∧
      ((decide (s0 a b < (0 : Int))) = false ∧
      (((!decide (s0 a b > (11 : Int))) = true →
        (!decide (s0 a b > (11 : Int))) = true ∧
        ((!decide (s0 a b > (11 : Int))) = true ∧
        ((!decide (s0 a b > (11 : Int))) = true ∧
        ((decide (s0 a b > (11 : Int))) = false ∧
        (((!decide (s1 b < (0 : Int))) = true →
          (!decide (s1 b < (0 : Int))) = true ∧
          ((!decide (s1 b < (0 : Int))) = true ∧
          ((!decide (s1 b < (0 : Int))) = true ∧
          ((decide (s1 b < (0 : Int))) = false ∧
          (((!decide (s1 b > (11 : Int))) = true →
            (!decide (s1 b > (11 : Int))) = true ∧
            ((!decide (s1 b > (11 : Int))) = true ∧
            ((!decide (s1 b > (11 : Int))) = true ∧
            ((decide (s1 b > (11 : Int))) = false ∧
            (((decide (s1 b > (7 : Int))) = true →
              Q Exit.ret (127 : Nat)
  [some (AV.slice (0 : Nat) (0 : Nat) n (some c)), some (AV.ptr (1 : Nat) (0 : Nat)),
    some (AV.int IntKind.i64 (↑i : Int)), some (AV.bool false)]
  { nx := (3 : Nat),
    m :=
      [((2 : Nat),
          AObj.cells (26 : Nat)
            [AV.int IntKind.i64 (s0 a b), AV.int IntKind.i64 (s1 b), AV.int IntKind.i64 (s2 b),
              AV.int IntKind.i64 (s3 a b)]),
        ((1 : Nat), AObj.cells (23 : Nat) [AV.int IntKind.u8 a, AV.int IntKind.u8 b]), ((0 : Nat), AObj.ro (enc8 ns))] }) ∧
            ((decide (s1 b > (7 : Int))) = false →
              ((!decide (s2 b < (0 : Int))) = true →
                (!decide (s2 b < (0 : Int))) = true ∧
                ((!decide (s2 b < (0 : Int))) = true ∧
                ((!decide (s2 b < (0 : Int))) = true ∧
                ((decide (s2 b < (0 : Int))) = false ∧
                (((!decide (s2 b > (11 : Int))) = true →
                  (!decide (s2 b > (11 : Int))) = true ∧
                  ((!decide (s2 b > (11 : Int))) = true ∧
                  ((!decide (s2 b > (11 : Int))) = true ∧
                  ((decide (s2 b > (11 : Int))) = false ∧
                  (((decide (s2 b > (7 : Int))) = true →
                    Q Exit.ret (127 : Nat)
  [some (AV.slice (0 : Nat) (0 : Nat) n (some c)), some (AV.ptr (1 : Nat) (0 : Nat)),
    some (AV.int IntKind.i64 (↑i : Int)), some (AV.bool false)]
  { nx := (3 : Nat),
    m :=
      [((2 : Nat),
          AObj.cells (26 : Nat)
            [AV.int IntKind.i64 (s0 a b), AV.int IntKind.i64 (s1 b), AV.int IntKind.i64 (s2 b),
              AV.int IntKind.i64 (s3 a b)]),
        ((1 : Nat), AObj.cells (23 : Nat) [AV.int IntKind.u8 a, AV.int IntKind.u8 b]), ((0 : Nat), AObj.ro (enc8 ns))] }) ∧
                  ((decide (s2 b > (7 : Int))) = false →
                    ((!decide (s3 a b < (0 : Int))) = true →
                      (!decide (s3 a b < (0 : Int))) = true ∧
                      ((!decide (s3 a b < (0 : Int))) = true ∧
                      ((!decide (s3 a b < (0 : Int))) = true ∧
                      ((decide (s3 a b < (0 : Int))) = false ∧
                      (((!decide (s3 a b > (11 : Int))) = true →
                        (!decide (s3 a b > (11 : Int))) = true ∧
                        ((!decide (s3 a b > (11 : Int))) = true ∧
                        ((!decide (s3 a b > (11 : Int))) = true ∧
                        ((decide (s3 a b > (11 : Int))) = false ∧
                        (((decide (s3 a b > (7 : Int))) = true →
                          Q Exit.ret (127 : Nat)
  [some (AV.slice (0 : Nat) (0 : Nat) n (some c)), some (AV.ptr (1 : Nat) (0 : Nat)),
    some (AV.int IntKind.i64 (↑i : Int)), some (AV.bool false)]
  { nx := (3 : Nat),
    m :=
      [((2 : Nat),
          AObj.cells (26 : Nat)
            [AV.int IntKind.i64 (s0 a b), AV.int IntKind.i64 (s1 b), AV.int IntKind.i64 (s2 b),
              AV.int IntKind.i64 (s3 a b)]),
        ((1 : Nat), AObj.cells (23 : Nat) [AV.int IntKind.u8 a, AV.int IntKind.u8 b]), ((0 : Nat), AObj.ro (enc8 ns))] }) ∧
                        ((decide (s3 a b > (7 : Int))) = false →
                          ((decide (Int.tmod b (2 : Int) = (0 : Int))) = true →
                            (decide (Int.tmod b (2 : Int) = (0 : Int))) = true ∧
                            ((decide (Int.tmod b (2 : Int) = (0 : Int))) = true ∧
                            ((decide (Int.tmod b (2 : Int) = (0 : Int))) = true ∧
                            (((!decide (s0 a b < (8 : Int))) = true →
                              (!decide (s0 a b < (8 : Int))) = true ∧
                              ((!decide (s0 a b < (8 : Int))) = true ∧
                              ((decide (Int.tmod b (2 : Int) = (0 : Int))) = true ∧
                              ((decide (s0 a b < (8 : Int))) = false ∧
                              ((decide (Int.tmod b (2 : Int) = (0 : Int))) = true ∧
                              (((!!decide (s1 b = (5 : Int))) = true →
                                (!!decide (s1 b = (5 : Int))) = true ∧
                                ((!!decide (s1 b = (5 : Int))) = true ∧
                                ((decide (Int.tmod b (2 : Int) = (0 : Int))) = true ∧
                                ((!decide (s1 b = (5 : Int))) = false ∧
                                ((decide (Int.tmod b (2 : Int) = (0 : Int))) = true ∧
                                (((!!decide (s2 b = (2 : Int))) = true →
                                  (!!decide (s2 b = (2 : Int))) = true ∧
                                  ((!!decide (s2 b = (2 : Int))) = true ∧
                                  ((!!decide (s2 b = (2 : Int))) = true ∧
                                  ((!!decide (s2 b = (2 : Int))) = true ∧
                                  ((!!decide (s2 b = (2 : Int))) = true ∧
                                  ((!!decide (s2 b = (2 : Int))) = true ∧
                                  ((decide (Int.tmod b (2 : Int) = (0 : Int))) = true ∧
                                  ((!decide (s2 b = (2 : Int))) = false ∧
                                  ((decide (Int.tmod b (2 : Int) = (0 : Int))) = true ∧
                                  (((!!decide (s3 a b = IntKind.wrap IntKind.i64 (Int.tmod a (8 : Int)))) = true →
                                    (!!decide (s3 a b = IntKind.wrap IntKind.i64 (Int.tmod a (8 : Int)))) = true ∧
                                    ((!!decide (s3 a b = IntKind.wrap IntKind.i64 (Int.tmod a (8 : Int)))) = true ∧
                                    ((!!decide (s3 a b = IntKind.wrap IntKind.i64 (Int.tmod a (8 : Int)))) = true ∧
                                    ((!!decide (s3 a b = IntKind.wrap IntKind.i64 (Int.tmod a (8 : Int)))) = true ∧
                                    (((decide (Int.tmod b (2 : Int) = (1 : Int))) = true →
                                      (decide (Int.tmod b (2 : Int) = (1 : Int))) = true ∧
                                      ((decide (Int.tmod b (2 : Int) = (1 : Int))) = true ∧
                                      ((!!decide (s3 a b = IntKind.wrap IntKind.i64 (Int.tmod a (8 : Int)))) = true ∧
                                      ((decide (Int.tmod b (2 : Int) = (1 : Int))) = true ∧
                                      ((!decide (s3 a b = IntKind.wrap IntKind.i64 (Int.tmod a (8 : Int)))) = false ∧
                                      (((!decide (s0 a b > (7 : Int))) = true →
                                        (!decide (s0 a b > (7 : Int))) = true ∧
                                        ((!decide (s0 a b > (7 : Int))) = true ∧
                                        ((!decide (s0 a b > (7 : Int))) = true ∧
                                        (((!decide ((if bits BinOp.and IntKind.u8 a (8 : Int) = (0 : Int) then (5 : Int) else (7 : Int)) = (5 : Int))) = true →
                                          (!decide ((if bits BinOp.and IntKind.u8 a (8 : Int) = (0 : Int) then (5 : Int) else (7 : Int)) = (5 : Int))) = true ∧
                                          ((!decide ((if bits BinOp.and IntKind.u8 a (8 : Int) = (0 : Int) then (5 : Int) else (7 : Int)) = (5 : Int))) = true ∧
                                          ((!decide (s0 a b > (7 : Int))) = true ∧
                                          ((!decide ((if bits BinOp.and IntKind.u8 a (8 : Int) = (0 : Int) then (5 : Int) else (7 : Int)) = (5 : Int))) = true ∧
                                          ((decide (s0 a b > (7 : Int))) = false ∧
                                          (((!decide ((if bits BinOp.and IntKind.u8 a (8 : Int) = (0 : Int) then (5 : Int) else (7 : Int)) = (7 : Int))) = true →
                                            Q Exit.ret (127 : Nat)
  [some (AV.slice (0 : Nat) (0 : Nat) n (some c)), some (AV.ptr (1 : Nat) (0 : Nat)),
    some (AV.int IntKind.i64 (↑i : Int)), some (AV.bool false)]
  { nx := (3 : Nat),
    m :=
      [((2 : Nat),
          AObj.cells (26 : Nat)
            [AV.int IntKind.i64 (s0 a b), AV.int IntKind.i64 (s1 b), AV.int IntKind.i64 (s2 b),
              AV.int IntKind.i64 (s3 a b)]),
        ((1 : Nat), AObj.cells (23 : Nat) [AV.int IntKind.u8 a, AV.int IntKind.u8 b]), ((0 : Nat), AObj.ro (enc8 ns))] }) ∧
                                          ((!decide ((if bits BinOp.and IntKind.u8 a (8 : Int) = (0 : Int) then (5 : Int) else (7 : Int)) = (7 : Int))) = false →
                                            (decide ((0 : Int) ≤ (↑i : Int) ∧ (↑i : Int) < (↑n : Int))) = true ∧
                                            ((decide ((0 : Nat) + Int.toNat (↑i : Int) * (1 : Nat) < List.length (enc8 ns))) = true ∧
                                            ((AV.isI IntKind.u8 (List.getD (enc8 ns) ((0 : Nat) + Int.toNat (↑i : Int) * (1 : Nat)) (AV.tup []))) = true ∧
                                            (((!!decide (toldE a = (10 : Int)) == !decide (bits BinOp.and IntKind.u8 a (32 : Int) = (0 : Int))) = true →
                                              (!!decide (toldE a = (10 : Int)) == !decide (bits BinOp.and IntKind.u8 a (32 : Int) = (0 : Int))) = true ∧
                                              ((!!decide (toldE a = (10 : Int)) == !decide (bits BinOp.and IntKind.u8 a (32 : Int) = (0 : Int))) = true ∧
                                              (((!decide (toldE a = (0 : Int))) = true →
                                                (!decide (toldE a = (0 : Int))) = true ∧
                                                ((!decide (toldE a = (0 : Int))) = true ∧
                                                ((!!decide (toldE a = (10 : Int)) == !decide (bits BinOp.and IntKind.u8 a (32 : Int) = (0 : Int))) = true ∧
                                                ((!decide (toldE a = (0 : Int))) = true ∧
                                                ((!decide (toldE a = (10 : Int)) == !decide (bits BinOp.and IntKind.u8 a (32 : Int) = (0 : Int))) = false ∧
                                                (((!(tdA a (AV.toI (List.getD (enc8 ns) ((0 : Nat) + Int.toNat (↑i : Int) * (1 : Nat)) (AV.tup [])))
        (decide (Int.tmod (↑i : Int) (2 : Int) = (1 : Int))) ==
      (0 : Int) &&
    (tdB a b (AV.toI (List.getD (enc8 ns) ((0 : Nat) + Int.toNat (↑i : Int) * (1 : Nat)) (AV.tup [])))
          (decide (Int.tmod (↑i : Int) (2 : Int) = (1 : Int))) ==
        (0 : Int) &&
      true))) = true →
                                                  Q Exit.ret (127 : Nat)
  [some (AV.slice (0 : Nat) (0 : Nat) n (some c)), some (AV.ptr (1 : Nat) (0 : Nat)),
    some (AV.int IntKind.i64 (↑i : Int)), some (AV.bool false)]
  { nx := (4 : Nat),
    m :=
      [((3 : Nat),
          AObj.cells (23 : Nat)
            [AV.int IntKind.u8
                (tdA a (AV.toI (List.getD (enc8 ns) ((0 : Nat) + Int.toNat (↑i : Int) * (1 : Nat)) (AV.tup [])))
                  (decide (Int.tmod (↑i : Int) (2 : Int) = (1 : Int)))),
              AV.int IntKind.u8
                (tdB a b (AV.toI (List.getD (enc8 ns) ((0 : Nat) + Int.toNat (↑i : Int) * (1 : Nat)) (AV.tup [])))
                  (decide (Int.tmod (↑i : Int) (2 : Int) = (1 : Int))))]),
        ((2 : Nat),
          AObj.cells (26 : Nat)
            [AV.int IntKind.i64 (s0 a b), AV.int IntKind.i64 (s1 b), AV.int IntKind.i64 (s2 b),
              AV.int IntKind.i64 (s3 a b)]),
        ((1 : Nat), AObj.cells (23 : Nat) [AV.int IntKind.u8 a, AV.int IntKind.u8 b]), ((0 : Nat), AObj.ro (enc8 ns))] }) ∧
                                                ((!(tdA a (AV.toI (List.getD (enc8 ns) ((0 : Nat) + Int.toNat (↑i : Int) * (1 : Nat)) (AV.tup [])))
        (decide (Int.tmod (↑i : Int) (2 : Int) = (1 : Int))) ==
      (0 : Int) &&
    (tdB a b (AV.toI (List.getD (enc8 ns) ((0 : Nat) + Int.toNat (↑i : Int) * (1 : Nat)) (AV.tup [])))
          (decide (Int.tmod (↑i : Int) (2 : Int) = (1 : Int))) ==
        (0 : Int) &&
      true))) = false →
                                                  (decide (toldE a = (0 : Int))) = false ∧
                                                  (N (127 : Nat)
  [some (AV.slice (0 : Nat) (0 : Nat) n (some c)), some (AV.ptr (1 : Nat) (0 : Nat)),
    some (AV.int IntKind.i64 (IntKind.wrap IntKind.i64 ((↑i : Int) + (1 : Int)))), none]
  { nx := (4 : Nat),
    m :=
      [((3 : Nat),
          AObj.cells (23 : Nat)
            [AV.int IntKind.u8
                (tdA a (AV.toI (List.getD (enc8 ns) ((0 : Nat) + Int.toNat (↑i : Int) * (1 : Nat)) (AV.tup [])))
                  (decide (Int.tmod (↑i : Int) (2 : Int) = (1 : Int)))),
              AV.int IntKind.u8
                (tdB a b (AV.toI (List.getD (enc8 ns) ((0 : Nat) + Int.toNat (↑i : Int) * (1 : Nat)) (AV.tup [])))
                  (decide (Int.tmod (↑i : Int) (2 : Int) = (1 : Int))))]),
        ((2 : Nat),
          AObj.cells (26 : Nat)
            [AV.int IntKind.i64 (s0 a b), AV.int IntKind.i64 (s1 b), AV.int IntKind.i64 (s2 b),
              AV.int IntKind.i64 (s3 a b)]),
        ((1 : Nat), AObj.cells (23 : Nat) [AV.int IntKind.u8 a, AV.int IntKind.u8 b]), ((0 : Nat), AObj.ro (enc8 ns))] })))))))) ∧
                                              ((!decide (toldE a = (0 : Int))) = false →
                                                (!decide (toldE a = (0 : Int))) = false ∧
                                                ((!decide (toldE a = (0 : Int))) = false ∧
                                                ((!!decide (toldE a = (10 : Int)) == !decide (bits BinOp.and IntKind.u8 a (32 : Int) = (0 : Int))) = true ∧
                                                ((!decide (toldE a = (0 : Int))) = false ∧
                                                ((!decide (toldE a = (10 : Int)) == !decide (bits BinOp.and IntKind.u8 a (32 : Int) = (0 : Int))) = false ∧
                                                ((decide (toldE a = (0 : Int))) = true ∧
                                                (N (127 : Nat)
  [some (AV.slice (0 : Nat) (0 : Nat) n (some c)), some (AV.ptr (1 : Nat) (0 : Nat)),
    some (AV.int IntKind.i64 (IntKind.wrap IntKind.i64 ((↑i : Int) + (1 : Int)))), none]
  { nx := (4 : Nat),
    m :=
      [((3 : Nat),
          AObj.cells (23 : Nat)
            [AV.int IntKind.u8
                (tdA a (AV.toI (List.getD (enc8 ns) ((0 : Nat) + Int.toNat (↑i : Int) * (1 : Nat)) (AV.tup [])))
                  (decide (Int.tmod (↑i : Int) (2 : Int) = (1 : Int)))),
              AV.int IntKind.u8
                (tdB a b (AV.toI (List.getD (enc8 ns) ((0 : Nat) + Int.toNat (↑i : Int) * (1 : Nat)) (AV.tup [])))
                  (decide (Int.tmod (↑i : Int) (2 : Int) = (1 : Int))))]),
        ((2 : Nat),
          AObj.cells (26 : Nat)
            [AV.int IntKind.i64 (s0 a b), AV.int IntKind.i64 (s1 b), AV.int IntKind.i64 (s2 b),
              AV.int IntKind.i64 (s3 a b)]),
        ((1 : Nat),
          AObj.cells (23 : Nat)
            [AV.int IntKind.u8
                (tdA a (AV.toI (List.getD (enc8 ns) ((0 : Nat) + Int.toNat (↑i : Int) * (1 : Nat)) (AV.tup [])))
                  (decide (Int.tmod (↑i : Int) (2 : Int) = (1 : Int)))),
              AV.int IntKind.u8
                (tdB a b (AV.toI (List.getD (enc8 ns) ((0 : Nat) + Int.toNat (↑i : Int) * (1 : Nat)) (AV.tup [])))
                  (decide (Int.tmod (↑i : Int) (2 : Int) = (1 : Int))))]),
        ((0 : Nat), AObj.ro (enc8 ns))] })))))))))) ∧
                                            ((!!decide (toldE a = (10 : Int)) == !decide (bits BinOp.and IntKind.u8 a (32 : Int) = (0 : Int))) = false →
                                              (!!decide (toldE a = (10 : Int)) == !decide (bits BinOp.and IntKind.u8 a (32 : Int) = (0 : Int))) = false ∧
                                              ((!!decide (toldE a = (10 : Int)) == !decide (bits BinOp.and IntKind.u8 a (32 : Int) = (0 : Int))) = false ∧
                                              ((!!decide (toldE a = (10 : Int)) == !decide (bits BinOp.and IntKind.u8 a (32 : Int) = (0 : Int))) = false ∧
                                              ((!decide (toldE a = (10 : Int)) == !decide (bits BinOp.and IntKind.u8 a (32 : Int) = (0 : Int))) = true ∧
                                              (Q Exit.ret (127 : Nat)
  [some (AV.slice (0 : Nat) (0 : Nat) n (some c)), some (AV.ptr (1 : Nat) (0 : Nat)),
    some (AV.int IntKind.i64 (↑i : Int)), some (AV.bool false)]
  { nx := (4 : Nat),
    m :=
      [((3 : Nat),
          AObj.cells (23 : Nat)
            [AV.int IntKind.u8
                (tdA a (AV.toI (List.getD (enc8 ns) ((0 : Nat) + Int.toNat (↑i : Int) * (1 : Nat)) (AV.tup [])))
                  (decide (Int.tmod (↑i : Int) (2 : Int) = (1 : Int)))),
              AV.int IntKind.u8
                (tdB a b (AV.toI (List.getD (enc8 ns) ((0 : Nat) + Int.toNat (↑i : Int) * (1 : Nat)) (AV.tup [])))
                  (decide (Int.tmod (↑i : Int) (2 : Int) = (1 : Int))))]),
        ((2 : Nat),
          AObj.cells (26 : Nat)
            [AV.int IntKind.i64 (s0 a b), AV.int IntKind.i64 (s1 b), AV.int IntKind.i64 (s2 b),
              AV.int IntKind.i64 (s3 a b)]),
        ((1 : Nat), AObj.cells (23 : Nat) [AV.int IntKind.u8 a, AV.int IntKind.u8 b]), ((0 : Nat), AObj.ro (enc8 ns))] }))))))))))))))) ∧
                                        ((!decide ((if bits BinOp.and IntKind.u8 a (8 : Int) = (0 : Int) then (5 : Int) else (7 : Int)) = (5 : Int))) = false →
                                          (!decide ((if bits BinOp.and IntKind.u8 a (8 : Int) = (0 : Int) then (5 : Int) else (7 : Int)) = (5 : Int))) = false ∧
                                          ((!decide ((if bits BinOp.and IntKind.u8 a (8 : Int) = (0 : Int) then (5 : Int) else (7 : Int)) = (5 : Int))) = false ∧
                                          ((!decide (s0 a b > (7 : Int))) = true ∧
                                          ((!decide ((if bits BinOp.and IntKind.u8 a (8 : Int) = (0 : Int) then (5 : Int) else (7 : Int)) = (5 : Int))) = false ∧
                                          ((decide (s0 a b > (7 : Int))) = false ∧
                                          ((decide ((0 : Int) ≤ (↑i : Int) ∧ (↑i : Int) < (↑n : Int))) = true ∧
                                          ((decide ((0 : Nat) + Int.toNat (↑i : Int) * (1 : Nat) < List.length (enc8 ns))) = true ∧
                                          ((AV.isI IntKind.u8 (List.getD (enc8 ns) ((0 : Nat) + Int.toNat (↑i : Int) * (1 : Nat)) (AV.tup []))) = true ∧
                                          (((!!decide (toldE a = (10 : Int)) == !decide (bits BinOp.and IntKind.u8 a (32 : Int) = (0 : Int))) = true →
                                            (!!decide (toldE a = (10 : Int)) == !decide (bits BinOp.and IntKind.u8 a (32 : Int) = (0 : Int))) = true ∧
                                            ((!!decide (toldE a = (10 : Int)) == !decide (bits BinOp.and IntKind.u8 a (32 : Int) = (0 : Int))) = true ∧
                                            (((!decide (toldE a = (0 : Int))) = true →
                                              (!decide (toldE a = (0 : Int))) = true ∧
                                              ((!decide (toldE a = (0 : Int))) = true ∧
                                              ((!!decide (toldE a = (10 : Int)) == !decide (bits BinOp.and IntKind.u8 a (32 : Int) = (0 : Int))) = true ∧
                                              ((!decide (toldE a = (0 : Int))) = true ∧
                                              ((!decide (toldE a = (10 : Int)) == !decide (bits BinOp.and IntKind.u8 a (32 : Int) = (0 : Int))) = false ∧
                                              (((!(tdA a (AV.toI (List.getD (enc8 ns) ((0 : Nat) + Int.toNat (↑i : Int) * (1 : Nat)) (AV.tup [])))
        (decide (Int.tmod (↑i : Int) (2 : Int) = (1 : Int))) ==
      (0 : Int) &&
    (tdB a b (AV.toI (List.getD (enc8 ns) ((0 : Nat) + Int.toNat (↑i : Int) * (1 : Nat)) (AV.tup [])))
          (decide (Int.tmod (↑i : Int) (2 : Int) = (1 : Int))) ==
        (0 : Int) &&
      true))) = true →
                                                Q Exit.ret (127 : Nat)
  [some (AV.slice (0 : Nat) (0 : Nat) n (some c)), some (AV.ptr (1 : Nat) (0 : Nat)),
    some (AV.int IntKind.i64 (↑i : Int)), some (AV.bool false)]
  { nx := (4 : Nat),
    m :=
      [((3 : Nat),
          AObj.cells (23 : Nat)
            [AV.int IntKind.u8
                (tdA a (AV.toI (List.getD (enc8 ns) ((0 : Nat) + Int.toNat (↑i : Int) * (1 : Nat)) (AV.tup [])))
                  (decide (Int.tmod (↑i : Int) (2 : Int) = (1 : Int)))),
              AV.int IntKind.u8
                (tdB a b (AV.toI (List.getD (enc8 ns) ((0 : Nat) + Int.toNat (↑i : Int) * (1 : Nat)) (AV.tup [])))
                  (decide (Int.tmod (↑i : Int) (2 : Int) = (1 : Int))))]),
        ((2 : Nat),
          AObj.cells (26 : Nat)
            [AV.int IntKind.i64 (s0 a b), AV.int IntKind.i64 (s1 b), AV.int IntKind.i64 (s2 b),
              AV.int IntKind.i64 (s3 a b)]),
        ((1 : Nat), AObj.cells (23 : Nat) [AV.int IntKind.u8 a, AV.int IntKind.u8 b]), ((0 : Nat), AObj.ro (enc8 ns))] }) ∧
                                              ((!(tdA a (AV.toI (List.getD (enc8 ns) ((0 : Nat) + Int.toNat (↑i : Int) * (1 : Nat)) (AV.tup [])))
        (decide (Int.tmod (↑i : Int) (2 : Int) = (1 : Int))) ==
      (0 : Int) &&
    (tdB a b (AV.toI (List.getD (enc8 ns) ((0 : Nat) + Int.toNat (↑i : Int) * (1 : Nat)) (AV.tup [])))
          (decide (Int.tmod (↑i : Int) (2 : Int) = (1 : Int))) ==
        (0 : Int) &&
      true))) = false →
                                                (decide (toldE a = (0 : Int))) = false ∧
                                                (N (127 : Nat)
  [some (AV.slice (0 : Nat) (0 : Nat) n (some c)), some (AV.ptr (1 : Nat) (0 : Nat)),
    some (AV.int IntKind.i64 (IntKind.wrap IntKind.i64 ((↑i : Int) + (1 : Int)))), none]
  { nx := (4 : Nat),
    m :=
      [((3 : Nat),
          AObj.cells (23 : Nat)
            [AV.int IntKind.u8
                (tdA a (AV.toI (List.getD (enc8 ns) ((0 : Nat) + Int.toNat (↑i : Int) * (1 : Nat)) (AV.tup [])))
                  (decide (Int.tmod (↑i : Int) (2 : Int) = (1 : Int)))),
              AV.int IntKind.u8
                (tdB a b (AV.toI (List.getD (enc8 ns) ((0 : Nat) + Int.toNat (↑i : Int) * (1 : Nat)) (AV.tup [])))
                  (decide (Int.tmod (↑i : Int) (2 : Int) = (1 : Int))))]),
        ((2 : Nat),
          AObj.cells (26 : Nat)
            [AV.int IntKind.i64 (s0 a b), AV.int IntKind.i64 (s1 b), AV.int IntKind.i64 (s2 b),
              AV.int IntKind.i64 (s3 a b)]),
        ((1 : Nat), AObj.cells (23 : Nat) [AV.int IntKind.u8 a, AV.int IntKind.u8 b]), ((0 : Nat), AObj.ro (enc8 ns))] })))))))) ∧
                                            ((!decide (toldE a = (0 : Int))) = false →
                                              (!decide (toldE a = (0 : Int))) = false ∧
                                              ((!decide (toldE a = (0 : Int))) = false ∧
                                              ((!!decide (toldE a = (10 : Int)) == !decide (bits BinOp.and IntKind.u8 a (32 : Int) = (0 : Int))) = true ∧
                                              ((!decide (toldE a = (0 : Int))) = false ∧
                                              ((!decide (toldE a = (10 : Int)) == !decide (bits BinOp.and IntKind.u8 a (32 : Int) = (0 : Int))) = false ∧
                                              ((decide (toldE a = (0 : Int))) = true ∧
                                              (N (127 : Nat)
  [some (AV.slice (0 : Nat) (0 : Nat) n (some c)), some (AV.ptr (1 : Nat) (0 : Nat)),
    some (AV.int IntKind.i64 (IntKind.wrap IntKind.i64 ((↑i : Int) + (1 : Int)))), none]
  { nx := (4 : Nat),
    m :=
      [((3 : Nat),
          AObj.cells (23 : Nat)
            [AV.int IntKind.u8
                (tdA a (AV.toI (List.getD (enc8 ns) ((0 : Nat) + Int.toNat (↑i : Int) * (1 : Nat)) (AV.tup [])))
                  (decide (Int.tmod (↑i : Int) (2 : Int) = (1 : Int)))),
              AV.int IntKind.u8
                (tdB a b (AV.toI (List.getD (enc8 ns) ((0 : Nat) + Int.toNat (↑i : Int) * (1 : Nat)) (AV.tup [])))
                  (decide (Int.tmod (↑i : Int) (2 : Int) = (1 : Int))))]),
        ((2 : Nat),
          AObj.cells (26 : Nat)
            [AV.int IntKind.i64 (s0 a b), AV.int IntKind.i64 (s1 b), AV.int IntKind.i64 (s2 b),
              AV.int IntKind.i64 (s3 a b)]),
        ((1 : Nat),
          AObj.cells (23 : Nat)
            [AV.int IntKind.u8
                (tdA a (AV.toI (List.getD (enc8 ns) ((0 : Nat) + Int.toNat (↑i : Int) * (1 : Nat)) (AV.tup [])))
                  (decide (Int.tmod (↑i : Int) (2 : Int) = (1 : Int)))),
              AV.int IntKind.u8
                (tdB a b (AV.toI (List.getD (enc8 ns) ((0 : Nat) + Int.toNat (↑i : Int) * (1 : Nat)) (AV.tup [])))
                  (decide (Int.tmod (↑i : Int) (2 : Int) = (1 : Int))))]),
        ((0 : Nat), AObj.ro (enc8 ns))] })))))))))) ∧
                                          ((!!decide (toldE a = (10 : Int)) == !decide (bits BinOp.and IntKind.u8 a (32 : Int) = (0 : Int))) = false →
                                            (!!decide (toldE a = (10 : Int)) == !decide (bits BinOp.and IntKind.u8 a (32 : Int) = (0 : Int))) = false ∧
                                            ((!!decide (toldE a = (10 : Int)) == !decide (bits BinOp.and IntKind.u8 a (32 : Int) = (0 : Int))) = false ∧
                                            ((!!decide (toldE a = (10 : Int)) == !decide (bits BinOp.and IntKind.u8 a (32 : Int) = (0 : Int))) = false ∧
                                            ((!decide (toldE a = (10 : Int)) == !decide (bits BinOp.and IntKind.u8 a (32 : Int) = (0 : Int))) = true ∧
                                            (Q Exit.ret (127 : Nat)
  [some (AV.slice (0 : Nat) (0 : Nat) n (some c)), some (AV.ptr (1 : Nat) (0 : Nat)),
    some (AV.int IntKind.i64 (↑i : Int)), some (AV.bool false)]
  { nx := (4 : Nat),
    m :=
      [((3 : Nat),
          AObj.cells (23 : Nat)
            [AV.int IntKind.u8
                (tdA a (AV.toI (List.getD (enc8 ns) ((0 : Nat) + Int.toNat (↑i : Int) * (1 : Nat)) (AV.tup [])))
                  (decide (Int.tmod (↑i : Int) (2 : Int) = (1 : Int)))),
              AV.int IntKind.u8
                (tdB a b (AV.toI (List.getD (enc8 ns) ((0 : Nat) + Int.toNat (↑i : Int) * (1 : Nat)) (AV.tup [])))
                  (decide (Int.tmod (↑i : Int) (2 : Int) = (1 : Int))))]),
        ((2 : Nat),
          AObj.cells (26 : Nat)
            [AV.int IntKind.i64 (s0 a b), AV.int IntKind.i64 (s1 b), AV.int IntKind.i64 (s2 b),
              AV.int IntKind.i64 (s3 a b)]),
        ((1 : Nat), AObj.cells (23 : Nat) [AV.int IntKind.u8 a, AV.int IntKind.u8 b]), ((0 : Nat), AObj.ro (enc8 ns))] })))))))))))))))))) ∧
                                      ((!decide (s0 a b > (7 : Int))) = false →
                                        (!decide (s0 a b > (7 : Int))) = false ∧
                                        ((!decide (s0 a b > (7 : Int))) = false ∧
                                        ((!decide (s0 a b > (7 : Int))) = false ∧
                                        ((!decide (s0 a b > (7 : Int))) = false ∧
                                        ((decide (s0 a b > (7 : Int))) = true ∧
                                        (Q Exit.ret (127 : Nat)
  [some (AV.slice (0 : Nat) (0 : Nat) n (some c)), some (AV.ptr (1 : Nat) (0 : Nat)),
    some (AV.int IntKind.i64 (↑i : Int)), some (AV.bool false)]
  { nx := (3 : Nat),
    m :=
      [((2 : Nat),
          AObj.cells (26 : Nat)
            [AV.int IntKind.i64 (s0 a b), AV.int IntKind.i64 (s1 b), AV.int IntKind.i64 (s2 b),
              AV.int IntKind.i64 (s3 a b)]),
        ((1 : Nat), AObj.cells (23 : Nat) [AV.int IntKind.u8 a, AV.int IntKind.u8 b]), ((0 : Nat), AObj.ro (enc8 ns))] })))))))))))) ∧
                                    ((decide (Int.tmod b (2 : Int) = (1 : Int))) = false →
                                      (decide (Int.tmod b (2 : Int) = (1 : Int))) = false ∧
                                      ((decide (Int.tmod b (2 : Int) = (1 : Int))) = false ∧
                                      ((!!decide (s3 a b = IntKind.wrap IntKind.i64 (Int.tmod a (8 : Int)))) = true ∧
                                      ((decide (Int.tmod b (2 : Int) = (1 : Int))) = false ∧
                                      ((!decide (s3 a b = IntKind.wrap IntKind.i64 (Int.tmod a (8 : Int)))) = false ∧
                                      (((!decide ((if bits BinOp.and IntKind.u8 a (8 : Int) = (0 : Int) then (5 : Int) else (7 : Int)) = (5 : Int))) = true →
                                        (!decide ((if bits BinOp.and IntKind.u8 a (8 : Int) = (0 : Int) then (5 : Int) else (7 : Int)) = (5 : Int))) = true ∧
                                        ((!decide ((if bits BinOp.and IntKind.u8 a (8 : Int) = (0 : Int) then (5 : Int) else (7 : Int)) = (5 : Int))) = true ∧
                                        ((!decide ((if bits BinOp.and IntKind.u8 a (8 : Int) = (0 : Int) then (5 : Int) else (7 : Int)) = (5 : Int))) = true ∧
                                        (((!decide ((if bits BinOp.and IntKind.u8 a (8 : Int) = (0 : Int) then (5 : Int) else (7 : Int)) = (7 : Int))) = true →
                                          Q Exit.ret (127 : Nat)
  [some (AV.slice (0 : Nat) (0 : Nat) n (some c)), some (AV.ptr (1 : Nat) (0 : Nat)),
    some (AV.int IntKind.i64 (↑i : Int)), some (AV.bool false)]
  { nx := (3 : Nat),
    m :=
      [((2 : Nat),
          AObj.cells (26 : Nat)
            [AV.int IntKind.i64 (s0 a b), AV.int IntKind.i64 (s1 b), AV.int IntKind.i64 (s2 b),
              AV.int IntKind.i64 (s3 a b)]),
        ((1 : Nat), AObj.cells (23 : Nat) [AV.int IntKind.u8 a, AV.int IntKind.u8 b]), ((0 : Nat), AObj.ro (enc8 ns))] }) ∧
                                        ((!decide ((if bits BinOp.and IntKind.u8 a (8 : Int) = (0 : Int) then (5 : Int) else (7 : Int)) = (7 : Int))) = false →
                                          (decide ((0 : Int) ≤ (↑i : Int) ∧ (↑i : Int) < (↑n : Int))) = true ∧
                                          ((decide ((0 : Nat) + Int.toNat (↑i : Int) * (1 : Nat) < List.length (enc8 ns))) = true ∧
                                          ((AV.isI IntKind.u8 (List.getD (enc8 ns) ((0 : Nat) + Int.toNat (↑i : Int) * (1 : Nat)) (AV.tup []))) = true ∧
                                          (((!!decide (toldE a = (10 : Int)) == !decide (bits BinOp.and IntKind.u8 a (32 : Int) = (0 : Int))) = true →
                                            (!!decide (toldE a = (10 : Int)) == !decide (bits BinOp.and IntKind.u8 a (32 : Int) = (0 : Int))) = true ∧
                                            ((!!decide (toldE a = (10 : Int)) == !decide (bits BinOp.and IntKind.u8 a (32 : Int) = (0 : Int))) = true ∧
                                            (((!decide (toldE a = (0 : Int))) = true →
                                              (!decide (toldE a = (0 : Int))) = true ∧
                                              ((!decide (toldE a = (0 : Int))) = true ∧
                                              ((!!decide (toldE a = (10 : Int)) == !decide (bits BinOp.and IntKind.u8 a (32 : Int) = (0 : Int))) = true ∧
                                              ((!decide (toldE a = (0 : Int))) = true ∧
                                              ((!decide (toldE a = (10 : Int)) == !decide (bits BinOp.and IntKind.u8 a (32 : Int) = (0 : Int))) = false ∧
                                              (((!(tdA a (AV.toI (List.getD (enc8 ns) ((0 : Nat) + Int.toNat (↑i : Int) * (1 : Nat)) (AV.tup [])))
        (decide (Int.tmod (↑i : Int) (2 : Int) = (1 : Int))) ==
      (0 : Int) &&
    (tdB a b (AV.toI (List.getD (enc8 ns) ((0 : Nat) + Int.toNat (↑i : Int) * (1 : Nat)) (AV.tup [])))
          (decide (Int.tmod (↑i : Int) (2 : Int) = (1 : Int))) ==
        (0 : Int) &&
      true))) = true →
                                                Q Exit.ret (127 : Nat)
  [some (AV.slice (0 : Nat) (0 : Nat) n (some c)), some (AV.ptr (1 : Nat) (0 : Nat)),
    some (AV.int IntKind.i64 (↑i : Int)), some (AV.bool false)]
  { nx := (4 : Nat),
    m :=
      [((3 : Nat),
          AObj.cells (23 : Nat)
            [AV.int IntKind.u8
                (tdA a (AV.toI (List.getD (enc8 ns) ((0 : Nat) + Int.toNat (↑i : Int) * (1 : Nat)) (AV.tup [])))
                  (decide (Int.tmod (↑i : Int) (2 : Int) = (1 : Int)))),
              AV.int IntKind.u8
                (tdB a b (AV.toI (List.getD (enc8 ns) ((0 : Nat) + Int.toNat (↑i : Int) * (1 : Nat)) (AV.tup [])))
                  (decide (Int.tmod (↑i : Int) (2 : Int) = (1 : Int))))]),
        ((2 : Nat),
          AObj.cells (26 : Nat)
            [AV.int IntKind.i64 (s0 a b), AV.int IntKind.i64 (s1 b), AV.int IntKind.i64 (s2 b),
              AV.int IntKind.i64 (s3 a b)]),
        ((1 : Nat), AObj.cells (23 : Nat) [AV.int IntKind.u8 a, AV.int IntKind.u8 b]), ((0 : Nat), AObj.ro (enc8 ns))] }) ∧
                                              ((!(tdA a (AV.toI (List.getD (enc8 ns) ((0 : Nat) + Int.toNat (↑i : Int) * (1 : Nat)) (AV.tup [])))
        (decide (Int.tmod (↑i : Int) (2 : Int) = (1 : Int))) ==
      (0 : Int) &&
    (tdB a b (AV.toI (List.getD (enc8 ns) ((0 : Nat) + Int.toNat (↑i : Int) * (1 : Nat)) (AV.tup [])))
          (decide (Int.tmod (↑i : Int) (2 : Int) = (1 : Int))) ==
        (0 : Int) &&
      true))) = false →
                                                (decide (toldE a = (0 : Int))) = false ∧
                                                (N (127 : Nat)
  [some (AV.slice (0 : Nat) (0 : Nat) n (some c)), some (AV.ptr (1 : Nat) (0 : Nat)),
    some (AV.int IntKind.i64 (IntKind.wrap IntKind.i64 ((↑i : Int) + (1 : Int)))), none]
  { nx := (4 : Nat),
    m :=
      [((3 : Nat),
          AObj.cells (23 : Nat)
            [AV.int IntKind.u8
                (tdA a (AV.toI (List.getD (enc8 ns) ((0 : Nat) + Int.toNat (↑i : Int) * (1 : Nat)) (AV.tup [])))
                  (decide (Int.tmod (↑i : Int) (2 : Int) = (1 : Int)))),
              AV.int IntKind.u8
                (tdB a b (AV.toI (List.getD (enc8 ns) ((0 : Nat) + Int.toNat (↑i : Int) * (1 : Nat)) (AV.tup [])))
                  (decide (Int.tmod (↑i : Int) (2 : Int) = (1 : Int))))]),
        ((2 : Nat),
          AObj.cells (26 : Nat)
            [AV.int IntKind.i64 (s0 a b), AV.int IntKind.i64 (s1 b), AV.int IntKind.i64 (s2 b),
              AV.int IntKind.i64 (s3 a b)]),
        ((1 : Nat), AObj.cells (23 : Nat) [AV.int IntKind.u8 a, AV.int IntKind.u8 b]), ((0 : Nat), AObj.ro (enc8 ns))] })))))))) ∧
                                            ((!decide (toldE a = (0 : Int))) = false →
                                              (!decide (toldE a = (0 : Int))) = false ∧
                                              ((!decide (toldE a = (0 : Int))) = false ∧
                                              ((!!decide (toldE a = (10 : Int)) == !decide (bits BinOp.and IntKind.u8 a (32 : Int) = (0 : Int))) = true ∧
                                              ((!decide (toldE a = (0 : Int))) = false ∧
                                              ((!decide (toldE a = (10 : Int)) == !decide (bits BinOp.and IntKind.u8 a (32 : Int) = (0 : Int))) = false ∧
                                              ((decide (toldE a = (0 : Int))) = true ∧
                                              (N (127 : Nat)
  [some (AV.slice (0 : Nat) (0 : Nat) n (some c)), some (AV.ptr (1 : Nat) (0 : Nat)),
    some (AV.int IntKind.i64 (IntKind.wrap IntKind.i64 ((↑i : Int) + (1 : Int)))), none]
  { nx := (4 : Nat),
    m :=
      [((3 : Nat),
          AObj.cells (23 : Nat)
            [AV.int IntKind.u8
                (tdA a (AV.toI (List.getD (enc8 ns) ((0 : Nat) + Int.toNat (↑i : Int) * (1 : Nat)) (AV.tup [])))
                  (decide (Int.tmod (↑i : Int) (2 : Int) = (1 : Int)))),
              AV.int IntKind.u8
                (tdB a b (AV.toI (List.getD (enc8 ns) ((0 : Nat) + Int.toNat (↑i : Int) * (1 : Nat)) (AV.tup [])))
                  (decide (Int.tmod (↑i : Int) (2 : Int) = (1 : Int))))]),
        ((2 : Nat),
          AObj.cells (26 : Nat)
            [AV.int IntKind.i64 (s0 a b), AV.int IntKind.i64 (s1 b), AV.int IntKind.i64 (s2 b),
              AV.int IntKind.i64 (s3 a b)]),
        ((1 : Nat),
          AObj.cells (23 : Nat)
            [AV.int IntKind.u8
                (tdA a (AV.toI (List.getD (enc8 ns) ((0 : Nat) + Int.toNat (↑i : Int) * (1 : Nat)) (AV.tup [])))
                  (decide (Int.tmod (↑i : Int) (2 : Int) = (1 : Int)))),
              AV.int IntKind.u8
                (tdB a b (AV.toI (List.getD (enc8 ns) ((0 : Nat) + Int.toNat (↑i : Int) * (1 : Nat)) (AV.tup [])))
                  (decide (Int.tmod (↑i : Int) (2 : Int) = (1 : Int))))]),
        ((0 : Nat), AObj.ro (enc8 ns))] })))))))))) ∧
                                          ((!!decide (toldE a = (10 : Int)) == !decide (bits BinOp.and IntKind.u8 a (32 : Int) = (0 : Int))) = false →
                                            (!!decide (toldE a = (10 : Int)) == !decide (bits BinOp.and IntKind.u8 a (32 : Int) = (0 : Int))) = false ∧
                                            ((!!decide (toldE a = (10 : Int)) == !decide (bits BinOp.and IntKind.u8 a (32 : Int) = (0 : Int))) = false ∧
                                            ((!!decide (toldE a = (10 : Int)) == !decide (bits BinOp.and IntKind.u8 a (32 : Int) = (0 : Int))) = false ∧
                                            ((!decide (toldE a = (10 : Int)) == !decide (bits BinOp.and IntKind.u8 a (32 : Int) = (0 : Int))) = true ∧
                                            (Q Exit.ret (127 : Nat)
  [some (AV.slice (0 : Nat) (0 : Nat) n (some c)), some (AV.ptr (1 : Nat) (0 : Nat)),
    some (AV.int IntKind.i64 (↑i : Int)), some (AV.bool false)]
  { nx := (4 : Nat),
    m :=
      [((3 : Nat),
          AObj.cells (23 : Nat)
            [AV.int IntKind.u8
                (tdA a (AV.toI (List.getD (enc8 ns) ((0 : Nat) + Int.toNat (↑i : Int) * (1 : Nat)) (AV.tup [])))
                  (decide (Int.tmod (↑i : Int) (2 : Int) = (1 : Int)))),
              AV.int IntKind.u8
                (tdB a b (AV.toI (List.getD (enc8 ns) ((0 : Nat) + Int.toNat (↑i : Int) * (1 : Nat)) (AV.tup [])))
                  (decide (Int.tmod (↑i : Int) (2 : Int) = (1 : Int))))]),
        ((2 : Nat),
          AObj.cells (26 : Nat)
            [AV.int IntKind.i64 (s0 a b), AV.int IntKind.i64 (s1 b), AV.int IntKind.i64 (s2 b),
              AV.int IntKind.i64 (s3 a b)]),
        ((1 : Nat), AObj.cells (23 : Nat) [AV.int IntKind.u8 a, AV.int IntKind.u8 b]), ((0 : Nat), AObj.ro (enc8 ns))] }))))))))))))) ∧
                                      ((!decide ((if bits BinOp.and IntKind.u8 a (8 : Int) = (0 : Int) then (5 : Int) else (7 : Int)) = (5 : Int))) = false →
                                        (!decide ((if bits BinOp.and IntKind.u8 a (8 : Int) = (0 : Int) then (5 : Int) else (7 : Int)) = (5 : Int))) = false ∧
                                        ((!decide ((if bits BinOp.and IntKind.u8 a (8 : Int) = (0 : Int) then (5 : Int) else (7 : Int)) = (5 : Int))) = false ∧
                                        ((!decide ((if bits BinOp.and IntKind.u8 a (8 : Int) = (0 : Int) then (5 : Int) else (7 : Int)) = (5 : Int))) = false ∧
                                        ((decide ((0 : Int) ≤ (↑i : Int) ∧ (↑i : Int) < (↑n : Int))) = true ∧
                                        ((decide ((0 : Nat) + Int.toNat (↑i : Int) * (1 : Nat) < List.length (enc8 ns))) = true ∧
                                        ((AV.isI IntKind.u8 (List.getD (enc8 ns) ((0 : Nat) + Int.toNat (↑i : Int) * (1 : Nat)) (AV.tup []))) = true ∧
                                        (((!!decide (toldE a = (10 : Int)) == !decide (bits BinOp.and IntKind.u8 a (32 : Int) = (0 : Int))) = true →
                                          (!!decide (toldE a = (10 : Int)) == !decide (bits BinOp.and IntKind.u8 a (32 : Int) = (0 : Int))) = true ∧
                                          ((!!decide (toldE a = (10 : Int)) == !decide (bits BinOp.and IntKind.u8 a (32 : Int) = (0 : Int))) = true ∧
                                          (((!decide (toldE a = (0 : Int))) = true →
                                            (!decide (toldE a = (0 : Int))) = true ∧
                                            ((!decide (toldE a = (0 : Int))) = true ∧
                                            ((!!decide (toldE a = (10 : Int)) == !decide (bits BinOp.and IntKind.u8 a (32 : Int) = (0 : Int))) = true ∧
                                            ((!decide (toldE a = (0 : Int))) = true ∧
                                            ((!decide (toldE a = (10 : Int)) == !decide (bits BinOp.and IntKind.u8 a (32 : Int) = (0 : Int))) = false ∧
                                            (((!(tdA a (AV.toI (List.getD (enc8 ns) ((0 : Nat) + Int.toNat (↑i : Int) * (1 : Nat)) (AV.tup [])))
        (decide (Int.tmod (↑i : Int) (2 : Int) = (1 : Int))) ==
      (0 : Int) &&
    (tdB a b (AV.toI (List.getD (enc8 ns) ((0 : Nat) + Int.toNat (↑i : Int) * (1 : Nat)) (AV.tup [])))
          (decide (Int.tmod (↑i : Int) (2 : Int) = (1 : Int))) ==
        (0 : Int) &&
      true))) = true →
                                              Q Exit.ret (127 : Nat)
  [some (AV.slice (0 : Nat) (0 : Nat) n (some c)), some (AV.ptr (1 : Nat) (0 : Nat)),
    some (AV.int IntKind.i64 (↑i : Int)), some (AV.bool false)]
  { nx := (4 : Nat),
    m :=
      [((3 : Nat),
          AObj.cells (23 : Nat)
            [AV.int IntKind.u8
                (tdA a (AV.toI (List.getD (enc8 ns) ((0 : Nat) + Int.toNat (↑i : Int) * (1 : Nat)) (AV.tup [])))
                  (decide (Int.tmod (↑i : Int) (2 : Int) = (1 : Int)))),
              AV.int IntKind.u8
                (tdB a b (AV.toI (List.getD (enc8 ns) ((0 : Nat) + Int.toNat (↑i : Int) * (1 : Nat)) (AV.tup [])))
                  (decide (Int.tmod (↑i : Int) (2 : Int) = (1 : Int))))]),
        ((2 : Nat),
          AObj.cells (26 : Nat)
            [AV.int IntKind.i64 (s0 a b), AV.int IntKind.i64 (s1 b), AV.int IntKind.i64 (s2 b),
              AV.int IntKind.i64 (s3 a b)]),
        ((1 : Nat), AObj.cells (23 : Nat) [AV.int IntKind.u8 a, AV.int IntKind.u8 b]), ((0 : Nat), AObj.ro (enc8 ns))] }) ∧
                                            ((!(tdA a (AV.toI (List.getD (enc8 ns) ((0 : Nat) + Int.toNat (↑i : Int) * (1 : Nat)) (AV.tup [])))
        (decide (Int.tmod (↑i : Int) (2 : Int) = (1 : Int))) ==
      (0 : Int) &&
    (tdB a b (AV.toI (List.getD (enc8 ns) ((0 : Nat) + Int.toNat (↑i : Int) * (1 : Nat)) (AV.tup [])))
          (decide (Int.tmod (↑i : Int) (2 : Int) = (1 : Int))) ==
        (0 : Int) &&
      true))) = false →
                                              (decide (toldE a = (0 : Int))) = false ∧
                                              (N (127 : Nat)
  [some (AV.slice (0 : Nat) (0 : Nat) n (some c)), some (AV.ptr (1 : Nat) (0 : Nat)),
    some (AV.int IntKind.i64 (IntKind.wrap IntKind.i64 ((↑i : Int) + (1 : Int)))), none]
  { nx := (4 : Nat),
    m :=
      [((3 : Nat),
          AObj.cells (23 : Nat)
            [AV.int IntKind.u8
                (tdA a (AV.toI (List.getD (enc8 ns) ((0 : Nat) + Int.toNat (↑i : Int) * (1 : Nat)) (AV.tup [])))
                  (decide (Int.tmod (↑i : Int) (2 : Int) = (1 : Int)))),
              AV.int IntKind.u8
                (tdB a b (AV.toI (List.getD (enc8 ns) ((0 : Nat) + Int.toNat (↑i : Int) * (1 : Nat)) (AV.tup [])))
                  (decide (Int.tmod (↑i : Int) (2 : Int) = (1 : Int))))]),
        ((2 : Nat),
          AObj.cells (26 : Nat)
            [AV.int IntKind.i64 (s0 a b), AV.int IntKind.i64 (s1 b), AV.int IntKind.i64 (s2 b),
              AV.int IntKind.i64 (s3 a b)]),
        ((1 : Nat), AObj.cells (23 : Nat) [AV.int IntKind.u8 a, AV.int IntKind.u8 b]), ((0 : Nat), AObj.ro (enc8 ns))] })))))))) ∧
                                          ((!decide (toldE a = (0 : Int))) = false →
                                            (!decide (toldE a = (0 : Int))) = false ∧
                                            ((!decide (toldE a = (0 : Int))) = false ∧
                                            ((!!decide (toldE a = (10 : Int)) == !decide (bits BinOp.and IntKind.u8 a (32 : Int) = (0 : Int))) = true ∧
                                            ((!decide (toldE a = (0 : Int))) = false ∧
                                            ((!decide (toldE a = (10 : Int)) == !decide (bits BinOp.and IntKind.u8 a (32 : Int) = (0 : Int))) = false ∧
                                            ((decide (toldE a = (0 : Int))) = true ∧
                                            (N (127 : Nat)
  [some (AV.slice (0 : Nat) (0 : Nat) n (some c)), some (AV.ptr (1 : Nat) (0 : Nat)),
    some (AV.int IntKind.i64 (IntKind.wrap IntKind.i64 ((↑i : Int) + (1 : Int)))), none]
  { nx := (4 : Nat),
    m :=
      [((3 : Nat),
          AObj.cells (23 : Nat)
            [AV.int IntKind.u8
                (tdA a (AV.toI (List.getD (enc8 ns) ((0 : Nat) + Int.toNat (↑i : Int) * (1 : Nat)) (AV.tup [])))
                  (decide (Int.tmod (↑i : Int) (2 : Int) = (1 : Int)))),
              AV.int IntKind.u8
                (tdB a b (AV.toI (List.getD (enc8 ns) ((0 : Nat) + Int.toNat (↑i : Int) * (1 : Nat)) (AV.tup [])))
                  (decide (Int.tmod (↑i : Int) (2 : Int) = (1 : Int))))]),
        ((2 : Nat),
          AObj.cells (26 : Nat)
            [AV.int IntKind.i64 (s0 a b), AV.int IntKind.i64 (s1 b), AV.int IntKind.i64 (s2 b),
              AV.int IntKind.i64 (s3 a b)]),
        ((1 : Nat),
          AObj.cells (23 : Nat)
            [AV.int IntKind.u8
                (tdA a (AV.toI (List.getD (enc8 ns) ((0 : Nat) + Int.toNat (↑i : Int) * (1 : Nat)) (AV.tup [])))
                  (decide (Int.tmod (↑i : Int) (2 : Int) = (1 : Int)))),
              AV.int IntKind.u8
                (tdB a b (AV.toI (List.getD (enc8 ns) ((0 : Nat) + Int.toNat (↑i : Int) * (1 : Nat)) (AV.tup [])))
                  (decide (Int.tmod (↑i : Int) (2 : Int) = (1 : Int))))]),
        ((0 : Nat), AObj.ro (enc8 ns))] })))))))))) ∧
                                        ((!!decide (toldE a = (10 : Int)) == !decide (bits BinOp.and IntKind.u8 a (32 : Int) = (0 : Int))) = false →
                                          (!!decide (toldE a = (10 : Int)) == !decide (bits BinOp.and IntKind.u8 a (32 : Int) = (0 : Int))) = false ∧
                                          ((!!decide (toldE a = (10 : Int)) == !decide (bits BinOp.and IntKind.u8 a (32 : Int) = (0 : Int))) = false ∧
                                          ((!!decide (toldE a = (10 : Int)) == !decide (bits BinOp.and IntKind.u8 a (32 : Int) = (0 : Int))) = false ∧
                                          ((!decide (toldE a = (10 : Int)) == !decide (bits BinOp.and IntKind.u8 a (32 : Int) = (0 : Int))) = true ∧
                                          (Q Exit.ret (127 : Nat)
  [some (AV.slice (0 : Nat) (0 : Nat) n (some c)), some (AV.ptr (1 : Nat) (0 : Nat)),
    some (AV.int IntKind.i64 (↑i : Int)), some (AV.bool false)]
  { nx := (4 : Nat),
    m :=
      [((3 : Nat),
          AObj.cells (23 : Nat)
            [AV.int IntKind.u8
                (tdA a (AV.toI (List.getD (enc8 ns) ((0 : Nat) + Int.toNat (↑i : Int) * (1 : Nat)) (AV.tup [])))
                  (decide (Int.tmod (↑i : Int) (2 : Int) = (1 : Int)))),
              AV.int IntKind.u8
                (tdB a b (AV.toI (List.getD (enc8 ns) ((0 : Nat) + Int.toNat (↑i : Int) * (1 : Nat)) (AV.tup [])))
                  (decide (Int.tmod (↑i : Int) (2 : Int) = (1 : Int))))]),
        ((2 : Nat),
          AObj.cells (26 : Nat)
            [AV.int IntKind.i64 (s0 a b), AV.int IntKind.i64 (s1 b), AV.int IntKind.i64 (s2 b),
              AV.int IntKind.i64 (s3 a b)]),
        ((1 : Nat), AObj.cells (23 : Nat) [AV.int IntKind.u8 a, AV.int IntKind.u8 b]), ((0 : Nat), AObj.ro (enc8 ns))] }))))))))))))))))))))))) ∧
                                  ((!!decide (s3 a b = IntKind.wrap IntKind.i64 (Int.tmod a (8 : Int)))) = false →
                                    (!!decide (s3 a b = IntKind.wrap IntKind.i64 (Int.tmod a (8 : Int)))) = false ∧
                                    ((!!decide (s3 a b = IntKind.wrap IntKind.i64 (Int.tmod a (8 : Int)))) = false ∧
                                    ((!!decide (s3 a b = IntKind.wrap IntKind.i64 (Int.tmod a (8 : Int)))) = false ∧
                                    ((!!decide (s3 a b = IntKind.wrap IntKind.i64 (Int.tmod a (8 : Int)))) = false ∧
                                    ((!!decide (s3 a b = IntKind.wrap IntKind.i64 (Int.tmod a (8 : Int)))) = false ∧
                                    ((!decide (s3 a b = IntKind.wrap IntKind.i64 (Int.tmod a (8 : Int)))) = true ∧
                                    (Q Exit.ret (127 : Nat)
  [some (AV.slice (0 : Nat) (0 : Nat) n (some c)), some (AV.ptr (1 : Nat) (0 : Nat)),
    some (AV.int IntKind.i64 (↑i : Int)), some (AV.bool false)]
  { nx := (3 : Nat),
    m :=
      [((2 : Nat),
          AObj.cells (26 : Nat)
            [AV.int IntKind.i64 (s0 a b), AV.int IntKind.i64 (s1 b), AV.int IntKind.i64 (s2 b),
              AV.int IntKind.i64 (s3 a b)]),
        ((1 : Nat), AObj.cells (23 : Nat) [AV.int IntKind.u8 a, AV.int IntKind.u8 b]), ((0 : Nat), AObj.ro (enc8 ns))] }))))))))))))))))) ∧
                                ((!!decide (s2 b = (2 : Int))) = false →
                                  (!!decide (s2 b = (2 : Int))) = false ∧
                                  ((!!decide (s2 b = (2 : Int))) = false ∧
                                  ((!!decide (s2 b = (2 : Int))) = false ∧
                                  ((!!decide (s2 b = (2 : Int))) = false ∧
                                  ((!!decide (s2 b = (2 : Int))) = false ∧
                                  ((!!decide (s2 b = (2 : Int))) = false ∧
                                  ((decide (Int.tmod b (2 : Int) = (0 : Int))) = true ∧
                                  ((!decide (s2 b = (2 : Int))) = true ∧
                                  ((decide (Int.tmod b (2 : Int) = (0 : Int))) = true ∧
                                  (Q Exit.ret (127 : Nat)
  [some (AV.slice (0 : Nat) (0 : Nat) n (some c)), some (AV.ptr (1 : Nat) (0 : Nat)),
    some (AV.int IntKind.i64 (↑i : Int)), some (AV.bool false)]
  { nx := (3 : Nat),
    m :=
      [((2 : Nat),
          AObj.cells (26 : Nat)
            [AV.int IntKind.i64 (s0 a b), AV.int IntKind.i64 (s1 b), AV.int IntKind.i64 (s2 b),
              AV.int IntKind.i64 (s3 a b)]),
        ((1 : Nat), AObj.cells (23 : Nat) [AV.int IntKind.u8 a, AV.int IntKind.u8 b]), ((0 : Nat), AObj.ro (enc8 ns))] })))))))))))))))) ∧
                              ((!!decide (s1 b = (5 : Int))) = false →
                                (!!decide (s1 b = (5 : Int))) = false ∧
                                ((!!decide (s1 b = (5 : Int))) = false ∧
                                ((decide (Int.tmod b (2 : Int) = (0 : Int))) = true ∧
                                ((!decide (s1 b = (5 : Int))) = true ∧
                                ((decide (Int.tmod b (2 : Int) = (0 : Int))) = true ∧
                                ((decide (Int.tmod b (2 : Int) = (0 : Int))) = true ∧
                                ((decide (Int.tmod b (2 : Int) = (0 : Int))) = true ∧
                                (Q Exit.ret (127 : Nat)
  [some (AV.slice (0 : Nat) (0 : Nat) n (some c)), some (AV.ptr (1 : Nat) (0 : Nat)),
    some (AV.int IntKind.i64 (↑i : Int)), some (AV.bool false)]
  { nx := (3 : Nat),
    m :=
      [((2 : Nat),
          AObj.cells (26 : Nat)
            [AV.int IntKind.i64 (s0 a b), AV.int IntKind.i64 (s1 b), AV.int IntKind.i64 (s2 b),
              AV.int IntKind.i64 (s3 a b)]),
        ((1 : Nat), AObj.cells (23 : Nat) [AV.int IntKind.u8 a, AV.int IntKind.u8 b]), ((0 : Nat), AObj.ro (enc8 ns))] })))))))))))))) ∧
                            ((!decide (s0 a b < (8 : Int))) = false →
                              (!decide (s0 a b < (8 : Int))) = false ∧
                              ((!decide (s0 a b < (8 : Int))) = false ∧
                              ((decide (Int.tmod b (2 : Int) = (0 : Int))) = true ∧
                              ((decide (s0 a b < (8 : Int))) = true ∧
                              ((decide (Int.tmod b (2 : Int) = (0 : Int))) = true ∧
                              ((decide (Int.tmod b (2 : Int) = (0 : Int))) = true ∧
                              ((decide (Int.tmod b (2 : Int) = (0 : Int))) = true ∧
                              ((decide (Int.tmod b (2 : Int) = (0 : Int))) = true ∧
                              ((decide (Int.tmod b (2 : Int) = (0 : Int))) = true ∧
                              (Q Exit.ret (127 : Nat)
  [some (AV.slice (0 : Nat) (0 : Nat) n (some c)), some (AV.ptr (1 : Nat) (0 : Nat)),
    some (AV.int IntKind.i64 (↑i : Int)), some (AV.bool false)]
  { nx := (3 : Nat),
    m :=
      [((2 : Nat),
          AObj.cells (26 : Nat)
            [AV.int IntKind.i64 (s0 a b), AV.int IntKind.i64 (s1 b), AV.int IntKind.i64 (s2 b),
              AV.int IntKind.i64 (s3 a b)]),
        ((1 : Nat), AObj.cells (23 : Nat) [AV.int IntKind.u8 a, AV.int IntKind.u8 b]), ((0 : Nat), AObj.ro (enc8 ns))] })))))))))))))) ∧
                          ((decide (Int.tmod b (2 : Int) = (0 : Int))) = false →
                            (decide (Int.tmod b (2 : Int) = (0 : Int))) = false ∧
                            ((decide (Int.tmod b (2 : Int) = (0 : Int))) = false ∧
                            ((decide (Int.tmod b (2 : Int) = (0 : Int))) = false ∧
                            ((decide (Int.tmod b (2 : Int) = (0 : Int))) = false ∧
                            ((decide (Int.tmod b (2 : Int) = (0 : Int))) = false ∧
                            ((decide (Int.tmod b (2 : Int) = (0 : Int))) = false ∧
                            ((decide (Int.tmod b (2 : Int) = (0 : Int))) = false ∧
                            ((decide (Int.tmod b (2 : Int) = (0 : Int))) = false ∧
                            ((decide (Int.tmod b (2 : Int) = (0 : Int))) = false ∧
                            (((decide (Int.tmod b (2 : Int) = (1 : Int))) = true →
                              (decide (Int.tmod b (2 : Int) = (1 : Int))) = true ∧
                              ((decide (Int.tmod b (2 : Int) = (1 : Int))) = true ∧
                              ((decide (Int.tmod b (2 : Int) = (1 : Int))) = true ∧
                              (((!decide (s0 a b > (7 : Int))) = true →
                                (!decide (s0 a b > (7 : Int))) = true ∧
                                ((!decide (s0 a b > (7 : Int))) = true ∧
                                ((!decide (s0 a b > (7 : Int))) = true ∧
                                (((!decide ((if bits BinOp.and IntKind.u8 a (8 : Int) = (0 : Int) then (5 : Int) else (7 : Int)) = (5 : Int))) = true →
                                  (!decide ((if bits BinOp.and IntKind.u8 a (8 : Int) = (0 : Int) then (5 : Int) else (7 : Int)) = (5 : Int))) = true ∧
                                  ((!decide ((if bits BinOp.and IntKind.u8 a (8 : Int) = (0 : Int) then (5 : Int) else (7 : Int)) = (5 : Int))) = true ∧
                                  ((!decide (s0 a b > (7 : Int))) = true ∧
                                  ((!decide ((if bits BinOp.and IntKind.u8 a (8 : Int) = (0 : Int) then (5 : Int) else (7 : Int)) = (5 : Int))) = true ∧
                                  ((decide (s0 a b > (7 : Int))) = false ∧
                                  (((!decide ((if bits BinOp.and IntKind.u8 a (8 : Int) = (0 : Int) then (5 : Int) else (7 : Int)) = (7 : Int))) = true →
                                    Q Exit.ret (127 : Nat)
  [some (AV.slice (0 : Nat) (0 : Nat) n (some c)), some (AV.ptr (1 : Nat) (0 : Nat)),
    some (AV.int IntKind.i64 (↑i : Int)), some (AV.bool false)]
  { nx := (3 : Nat),
    m :=
      [((2 : Nat),
          AObj.cells (26 : Nat)
            [AV.int IntKind.i64 (s0 a b), AV.int IntKind.i64 (s1 b), AV.int IntKind.i64 (s2 b),
              AV.int IntKind.i64 (s3 a b)]),
        ((1 : Nat), AObj.cells (23 : Nat) [AV.int IntKind.u8 a, AV.int IntKind.u8 b]), ((0 : Nat), AObj.ro (enc8 ns))] }) ∧
                                  ((!decide ((if bits BinOp.and IntKind.u8 a (8 : Int) = (0 : Int) then (5 : Int) else (7 : Int)) = (7 : Int))) = false →
                                    (decide ((0 : Int) ≤ (↑i : Int) ∧ (↑i : Int) < (↑n : Int))) = true ∧
                                    ((decide ((0 : Nat) + Int.toNat (↑i : Int) * (1 : Nat) < List.length (enc8 ns))) = true ∧
                                    ((AV.isI IntKind.u8 (List.getD (enc8 ns) ((0 : Nat) + Int.toNat (↑i : Int) * (1 : Nat)) (AV.tup []))) = true ∧
                                    (((!!decide (toldE a = (10 : Int)) == !decide (bits BinOp.and IntKind.u8 a (32 : Int) = (0 : Int))) = true →
                                      (!!decide (toldE a = (10 : Int)) == !decide (bits BinOp.and IntKind.u8 a (32 : Int) = (0 : Int))) = true ∧
                                      ((!!decide (toldE a = (10 : Int)) == !decide (bits BinOp.and IntKind.u8 a (32 : Int) = (0 : Int))) = true ∧
                                      (((!decide (toldE a = (0 : Int))) = true →
                                        (!decide (toldE a = (0 : Int))) = true ∧
                                        ((!decide (toldE a = (0 : Int))) = true ∧
                                        ((!!decide (toldE a = (10 : Int)) == !decide (bits BinOp.and IntKind.u8 a (32 : Int) = (0 : Int))) = true ∧
                                        ((!decide (toldE a = (0 : Int))) = true ∧
                                        ((!decide (toldE a = (10 : Int)) == !decide (bits BinOp.and IntKind.u8 a (32 : Int) = (0 : Int))) = false ∧
                                        (((!(tdA a (AV.toI (List.getD (enc8 ns) ((0 : Nat) + Int.toNat (↑i : Int) * (1 : Nat)) (AV.tup [])))
        (decide (Int.tmod (↑i : Int) (2 : Int) = (1 : Int))) ==
      (0 : Int) &&
    (tdB a b (AV.toI (List.getD (enc8 ns) ((0 : Nat) + Int.toNat (↑i : Int) * (1 : Nat)) (AV.tup [])))
          (decide (Int.tmod (↑i : Int) (2 : Int) = (1 : Int))) ==
        (0 : Int) &&
      true))) = true →
                                          Q Exit.ret (127 : Nat)
  [some (AV.slice (0 : Nat) (0 : Nat) n (some c)), some (AV.ptr (1 : Nat) (0 : Nat)),
    some (AV.int IntKind.i64 (↑i : Int)), some (AV.bool false)]
  { nx := (4 : Nat),
    m :=
      [((3 : Nat),
          AObj.cells (23 : Nat)
            [AV.int IntKind.u8
                (tdA a (AV.toI (List.getD (enc8 ns) ((0 : Nat) + Int.toNat (↑i : Int) * (1 : Nat)) (AV.tup [])))
                  (decide (Int.tmod (↑i : Int) (2 : Int) = (1 : Int)))),
              AV.int IntKind.u8
                (tdB a b (AV.toI (List.getD (enc8 ns) ((0 : Nat) + Int.toNat (↑i : Int) * (1 : Nat)) (AV.tup [])))
                  (decide (Int.tmod (↑i : Int) (2 : Int) = (1 : Int))))]),
        ((2 : Nat),
          AObj.cells (26 : Nat)
            [AV.int IntKind.i64 (s0 a b), AV.int IntKind.i64 (s1 b), AV.int IntKind.i64 (s2 b),
              AV.int IntKind.i64 (s3 a b)]),
        ((1 : Nat), AObj.cells (23 : Nat) [AV.int IntKind.u8 a, AV.int IntKind.u8 b]), ((0 : Nat), AObj.ro (enc8 ns))] }) ∧
                                        ((!(tdA a (AV.toI (List.getD (enc8 ns) ((0 : Nat) + Int.toNat (↑i : Int) * (1 : Nat)) (AV.tup [])))
        (decide (Int.tmod (↑i : Int) (2 : Int) = (1 : Int))) ==
      (0 : Int) &&
    (tdB a b (AV.toI (List.getD (enc8 ns) ((0 : Nat) + Int.toNat (↑i : Int) * (1 : Nat)) (AV.tup [])))
          (decide (Int.tmod (↑i : Int) (2 : Int) = (1 : Int))) ==
        (0 : Int) &&
      true))) = false →
                                          (decide (toldE a = (0 : Int))) = false ∧
                                          (N (127 : Nat)
  [some (AV.slice (0 : Nat) (0 : Nat) n (some c)), some (AV.ptr (1 : Nat) (0 : Nat)),
    some (AV.int IntKind.i64 (IntKind.wrap IntKind.i64 ((↑i : Int) + (1 : Int)))), none]
  { nx := (4 : Nat),
    m :=
      [((3 : Nat),
          AObj.cells (23 : Nat)
            [AV.int IntKind.u8
                (tdA a (AV.toI (List.getD (enc8 ns) ((0 : Nat) + Int.toNat (↑i : Int) * (1 : Nat)) (AV.tup [])))
                  (decide (Int.tmod (↑i : Int) (2 : Int) = (1 : Int)))),
              AV.int IntKind.u8
                (tdB a b (AV.toI (List.getD (enc8 ns) ((0 : Nat) + Int.toNat (↑i : Int) * (1 : Nat)) (AV.tup [])))
                  (decide (Int.tmod (↑i : Int) (2 : Int) = (1 : Int))))]),
        ((2 : Nat),
          AObj.cells (26 : Nat)
            [AV.int IntKind.i64 (s0 a b), AV.int IntKind.i64 (s1 b), AV.int IntKind.i64 (s2 b),
              AV.int IntKind.i64 (s3 a b)]),
        ((1 : Nat), AObj.cells (23 : Nat) [AV.int IntKind.u8 a, AV.int IntKind.u8 b]), ((0 : Nat), AObj.ro (enc8 ns))] })))))))) ∧
                                      ((!decide (toldE a = (0 : Int))) = false →
                                        (!decide (toldE a = (0 : Int))) = false ∧
                                        ((!decide (toldE a = (0 : Int))) = false ∧
                                        ((!!decide (toldE a = (10 : Int)) == !decide (bits BinOp.and IntKind.u8 a (32 : Int) = (0 : Int))) = true ∧
                                        ((!decide (toldE a = (0 : Int))) = false ∧
                                        ((!decide (toldE a = (10 : Int)) == !decide (bits BinOp.and IntKind.u8 a (32 : Int) = (0 : Int))) = false ∧
                                        ((decide (toldE a = (0 : Int))) = true ∧
                                        (N (127 : Nat)
  [some (AV.slice (0 : Nat) (0 : Nat) n (some c)), some (AV.ptr (1 : Nat) (0 : Nat)),
    some (AV.int IntKind.i64 (IntKind.wrap IntKind.i64 ((↑i : Int) + (1 : Int)))), none]
  { nx := (4 : Nat),
    m :=
      [((3 : Nat),
          AObj.cells (23 : Nat)
            [AV.int IntKind.u8
                (tdA a (AV.toI (List.getD (enc8 ns) ((0 : Nat) + Int.toNat (↑i : Int) * (1 : Nat)) (AV.tup [])))
                  (decide (Int.tmod (↑i : Int) (2 : Int) = (1 : Int)))),
              AV.int IntKind.u8
                (tdB a b (AV.toI (List.getD (enc8 ns) ((0 : Nat) + Int.toNat (↑i : Int) * (1 : Nat)) (AV.tup [])))
                  (decide (Int.tmod (↑i : Int) (2 : Int) = (1 : Int))))]),
        ((2 : Nat),
          AObj.cells (26 : Nat)
            [AV.int IntKind.i64 (s0 a b), AV.int IntKind.i64 (s1 b), AV.int IntKind.i64 (s2 b),
              AV.int IntKind.i64 (s3 a b)]),
        ((1 : Nat),
          AObj.cells (23 : Nat)
            [AV.int IntKind.u8
                (tdA a (AV.toI (List.getD (enc8 ns) ((0 : Nat) + Int.toNat (↑i : Int) * (1 : Nat)) (AV.tup [])))
                  (decide (Int.tmod (↑i : Int) (2 : Int) = (1 : Int)))),
              AV.int IntKind.u8
                (tdB a b (AV.toI (List.getD (enc8 ns) ((0 : Nat) + Int.toNat (↑i : Int) * (1 : Nat)) (AV.tup [])))
                  (decide (Int.tmod (↑i : Int) (2 : Int) = (1 : Int))))]),
        ((0 : Nat), AObj.ro (enc8 ns))] })))))))))) ∧
                                    ((!!decide (toldE a = (10 : Int)) == !decide (bits BinOp.and IntKind.u8 a (32 : Int) = (0 : Int))) = false →
                                      (!!decide (toldE a = (10 : Int)) == !decide (bits BinOp.and IntKind.u8 a (32 : Int) = (0 : Int))) = false ∧
                                      ((!!decide (toldE a = (10 : Int)) == !decide (bits BinOp.and IntKind.u8 a (32 : Int) = (0 : Int))) = false ∧
                                      ((!!decide (toldE a = (10 : Int)) == !decide (bits BinOp.and IntKind.u8 a (32 : Int) = (0 : Int))) = false ∧
                                      ((!decide (toldE a = (10 : Int)) == !decide (bits BinOp.and IntKind.u8 a (32 : Int) = (0 : Int))) = true ∧
                                      (Q Exit.ret (127 : Nat)
  [some (AV.slice (0 : Nat) (0 : Nat) n (some c)), some (AV.ptr (1 : Nat) (0 : Nat)),
    some (AV.int IntKind.i64 (↑i : Int)), some (AV.bool false)]
  { nx := (4 : Nat),
    m :=
      [((3 : Nat),
          AObj.cells (23 : Nat)
            [AV.int IntKind.u8
                (tdA a (AV.toI (List.getD (enc8 ns) ((0 : Nat) + Int.toNat (↑i : Int) * (1 : Nat)) (AV.tup [])))
                  (decide (Int.tmod (↑i : Int) (2 : Int) = (1 : Int)))),
              AV.int IntKind.u8
                (tdB a b (AV.toI (List.getD (enc8 ns) ((0 : Nat) + Int.toNat (↑i : Int) * (1 : Nat)) (AV.tup [])))
                  (decide (Int.tmod (↑i : Int) (2 : Int) = (1 : Int))))]),
        ((2 : Nat),
          AObj.cells (26 : Nat)
            [AV.int IntKind.i64 (s0 a b), AV.int IntKind.i64 (s1 b), AV.int IntKind.i64 (s2 b),
              AV.int IntKind.i64 (s3 a b)]),
        ((1 : Nat), AObj.cells (23 : Nat) [AV.int IntKind.u8 a, AV.int IntKind.u8 b]), ((0 : Nat), AObj.ro (enc8 ns))] }))))))))))))))) ∧
                                ((!decide ((if bits BinOp.and IntKind.u8 a (8 : Int) = (0 : Int) then (5 : Int) else (7 : Int)) = (5 : Int))) = false →
                                  (!decide ((if bits BinOp.and IntKind.u8 a (8 : Int) = (0 : Int) then (5 : Int) else (7 : Int)) = (5 : Int))) = false ∧
                                  ((!decide ((if bits BinOp.and IntKind.u8 a (8 : Int) = (0 : Int) then (5 : Int) else (7 : Int)) = (5 : Int))) = false ∧
                                  ((!decide (s0 a b > (7 : Int))) = true ∧
                                  ((!decide ((if bits BinOp.and IntKind.u8 a (8 : Int) = (0 : Int) then (5 : Int) else (7 : Int)) = (5 : Int))) = false ∧
                                  ((decide (s0 a b > (7 : Int))) = false ∧
                                  ((decide ((0 : Int) ≤ (↑i : Int) ∧ (↑i : Int) < (↑n : Int))) = true ∧
                                  ((decide ((0 : Nat) + Int.toNat (↑i : Int) * (1 : Nat) < List.length (enc8 ns))) = true ∧
                                  ((AV.isI IntKind.u8 (List.getD (enc8 ns) ((0 : Nat) + Int.toNat (↑i : Int) * (1 : Nat)) (AV.tup []))) = true ∧
                                  (((!!decide (toldE a = (10 : Int)) == !decide (bits BinOp.and IntKind.u8 a (32 : Int) = (0 : Int))) = true →
                                    (!!decide (toldE a = (10 : Int)) == !decide (bits BinOp.and IntKind.u8 a (32 : Int) = (0 : Int))) = true ∧
                                    ((!!decide (toldE a = (10 : Int)) == !decide (bits BinOp.and IntKind.u8 a (32 : Int) = (0 : Int))) = true ∧
                                    (((!decide (toldE a = (0 : Int))) = true →
                                      (!decide (toldE a = (0 : Int))) = true ∧
                                      ((!decide (toldE a = (0 : Int))) = true ∧
                                      ((!!decide (toldE a = (10 : Int)) == !decide (bits BinOp.and IntKind.u8 a (32 : Int) = (0 : Int))) = true ∧
                                      ((!decide (toldE a = (0 : Int))) = true ∧
                                      ((!decide (toldE a = (10 : Int)) == !decide (bits BinOp.and IntKind.u8 a (32 : Int) = (0 : Int))) = false ∧
                                      (((!(tdA a (AV.toI (List.getD (enc8 ns) ((0 : Nat) + Int.toNat (↑i : Int) * (1 : Nat)) (AV.tup [])))
        (decide (Int.tmod (↑i : Int) (2 : Int) = (1 : Int))) ==
      (0 : Int) &&
    (tdB a b (AV.toI (List.getD (enc8 ns) ((0 : Nat) + Int.toNat (↑i : Int) * (1 : Nat)) (AV.tup [])))
          (decide (Int.tmod (↑i : Int) (2 : Int) = (1 : Int))) ==
        (0 : Int) &&
      true))) = true →
                                        Q Exit.ret (127 : Nat)
  [some (AV.slice (0 : Nat) (0 : Nat) n (some c)), some (AV.ptr (1 : Nat) (0 : Nat)),
    some (AV.int IntKind.i64 (↑i : Int)), some (AV.bool false)]
  { nx := (4 : Nat),
    m :=
      [((3 : Nat),
          AObj.cells (23 : Nat)
            [AV.int IntKind.u8
                (tdA a (AV.toI (List.getD (enc8 ns) ((0 : Nat) + Int.toNat (↑i : Int) * (1 : Nat)) (AV.tup [])))
                  (decide (Int.tmod (↑i : Int) (2 : Int) = (1 : Int)))),
              AV.int IntKind.u8
                (tdB a b (AV.toI (List.getD (enc8 ns) ((0 : Nat) + Int.toNat (↑i : Int) * (1 : Nat)) (AV.tup [])))
                  (decide (Int.tmod (↑i : Int) (2 : Int) = (1 : Int))))]),
        ((2 : Nat),
          AObj.cells (26 : Nat)
            [AV.int IntKind.i64 (s0 a b), AV.int IntKind.i64 (s1 b), AV.int IntKind.i64 (s2 b),
              AV.int IntKind.i64 (s3 a b)]),
        ((1 : Nat), AObj.cells (23 : Nat) [AV.int IntKind.u8 a, AV.int IntKind.u8 b]), ((0 : Nat), AObj.ro (enc8 ns))] }) ∧
                                      ((!(tdA a (AV.toI (List.getD (enc8 ns) ((0 : Nat) + Int.toNat (↑i : Int) * (1 : Nat)) (AV.tup [])))
        (decide (Int.tmod (↑i : Int) (2 : Int) = (1 : Int))) ==
      (0 : Int) &&
    (tdB a b (AV.toI (List.getD (enc8 ns) ((0 : Nat) + Int.toNat (↑i : Int) * (1 : Nat)) (AV.tup [])))
          (decide (Int.tmod (↑i : Int) (2 : Int) = (1 : Int))) ==
        (0 : Int) &&
      true))) = false →
                                        (decide (toldE a = (0 : Int))) = false ∧
                                        (N (127 : Nat)
  [some (AV.slice (0 : Nat) (0 : Nat) n (some c)), some (AV.ptr (1 : Nat) (0 : Nat)),
    some (AV.int IntKind.i64 (IntKind.wrap IntKind.i64 ((↑i : Int) + (1 : Int)))), none]
  { nx := (4 : Nat),
    m :=
      [((3 : Nat),
          AObj.cells (23 : Nat)
            [AV.int IntKind.u8
                (tdA a (AV.toI (List.getD (enc8 ns) ((0 : Nat) + Int.toNat (↑i : Int) * (1 : Nat)) (AV.tup [])))
                  (decide (Int.tmod (↑i : Int) (2 : Int) = (1 : Int)))),
              AV.int IntKind.u8
                (tdB a b (AV.toI (List.getD (enc8 ns) ((0 : Nat) + Int.toNat (↑i : Int) * (1 : Nat)) (AV.tup [])))
                  (decide (Int.tmod (↑i : Int) (2 : Int) = (1 : Int))))]),
        ((2 : Nat),
          AObj.cells (26 : Nat)
            [AV.int IntKind.i64 (s0 a b), AV.int IntKind.i64 (s1 b), AV.int IntKind.i64 (s2 b),
              AV.int IntKind.i64 (s3 a b)]),
        ((1 : Nat), AObj.cells (23 : Nat) [AV.int IntKind.u8 a, AV.int IntKind.u8 b]), ((0 : Nat), AObj.ro (enc8 ns))] })))))))) ∧
                                    ((!decide (toldE a = (0 : Int))) = false →
                                      (!decide (toldE a = (0 : Int))) = false ∧
                                      ((!decide (toldE a = (0 : Int))) = false ∧
                                      ((!!decide (toldE a = (10 : Int)) == !decide (bits BinOp.and IntKind.u8 a (32 : Int) = (0 : Int))) = true ∧
                                      ((!decide (toldE a = (0 : Int))) = false ∧
                                      ((!decide (toldE a = (10 : Int)) == !decide (bits BinOp.and IntKind.u8 a (32 : Int) = (0 : Int))) = false ∧
                                      ((decide (toldE a = (0 : Int))) = true ∧
                                      (N (127 : Nat)
  [some (AV.slice (0 : Nat) (0 : Nat) n (some c)), some (AV.ptr (1 : Nat) (0 : Nat)),
    some (AV.int IntKind.i64 (IntKind.wrap IntKind.i64 ((↑i : Int) + (1 : Int)))), none]
  { nx := (4 : Nat),
    m :=
      [((3 : Nat),
          AObj.cells (23 : Nat)
            [AV.int IntKind.u8
                (tdA a (AV.toI (List.getD (enc8 ns) ((0 : Nat) + Int.toNat (↑i : Int) * (1 : Nat)) (AV.tup [])))
                  (decide (Int.tmod (↑i : Int) (2 : Int) = (1 : Int)))),
              AV.int IntKind.u8
                (tdB a b (AV.toI (List.getD (enc8 ns) ((0 : Nat) + Int.toNat (↑i : Int) * (1 : Nat)) (AV.tup [])))
                  (decide (Int.tmod (↑i : Int) (2 : Int) = (1 : Int))))]),
        ((2 : Nat),
          AObj.cells (26 : Nat)
            [AV.int IntKind.i64 (s0 a b), AV.int IntKind.i64 (s1 b), AV.int IntKind.i64 (s2 b),
              AV.int IntKind.i64 (s3 a b)]),
        ((1 : Nat),
          AObj.cells (23 : Nat)
            [AV.int IntKind.u8
                (tdA a (AV.toI (List.getD (enc8 ns) ((0 : Nat) + Int.toNat (↑i : Int) * (1 : Nat)) (AV.tup [])))
                  (decide (Int.tmod (↑i : Int) (2 : Int) = (1 : Int)))),
              AV.int IntKind.u8
                (tdB a b (AV.toI (List.getD (enc8 ns) ((0 : Nat) + Int.toNat (↑i : Int) * (1 : Nat)) (AV.tup [])))
                  (decide (Int.tmod (↑i : Int) (2 : Int) = (1 : Int))))]),
        ((0 : Nat), AObj.ro (enc8 ns))] })))))))))) ∧
                                  ((!!decide (toldE a = (10 : Int)) == !decide (bits BinOp.and IntKind.u8 a (32 : Int) = (0 : Int))) = false →
                                    (!!decide (toldE a = (10 : Int)) == !decide (bits BinOp.and IntKind.u8 a (32 : Int) = (0 : Int))) = false ∧
                                    ((!!decide (toldE a = (10 : Int)) == !decide (bits BinOp.and IntKind.u8 a (32 : Int) = (0 : Int))) = false ∧
                                    ((!!decide (toldE a = (10 : Int)) == !decide (bits BinOp.and IntKind.u8 a (32 : Int) = (0 : Int))) = false ∧
                                    ((!decide (toldE a = (10 : Int)) == !decide (bits BinOp.and IntKind.u8 a (32 : Int) = (0 : Int))) = true ∧
                                    (Q Exit.ret (127 : Nat)
  [some (AV.slice (0 : Nat) (0 : Nat) n (some c)), some (AV.ptr (1 : Nat) (0 : Nat)),
    some (AV.int IntKind.i64 (↑i : Int)), some (AV.bool false)]
  { nx := (4 : Nat),
    m :=
      [((3 : Nat),
          AObj.cells (23 : Nat)
            [AV.int IntKind.u8
                (tdA a (AV.toI (List.getD (enc8 ns) ((0 : Nat) + Int.toNat (↑i : Int) * (1 : Nat)) (AV.tup [])))
                  (decide (Int.tmod (↑i : Int) (2 : Int) = (1 : Int)))),
              AV.int IntKind.u8
                (tdB a b (AV.toI (List.getD (enc8 ns) ((0 : Nat) + Int.toNat (↑i : Int) * (1 : Nat)) (AV.tup [])))
                  (decide (Int.tmod (↑i : Int) (2 : Int) = (1 : Int))))]),
        ((2 : Nat),
          AObj.cells (26 : Nat)
            [AV.int IntKind.i64 (s0 a b), AV.int IntKind.i64 (s1 b), AV.int IntKind.i64 (s2 b),
              AV.int IntKind.i64 (s3 a b)]),
        ((1 : Nat), AObj.cells (23 : Nat) [AV.int IntKind.u8 a, AV.int IntKind.u8 b]), ((0 : Nat), AObj.ro (enc8 ns))] })))))))))))))))))) ∧
                              ((!decide (s0 a b > (7 : Int))) = false →
                                (!decide (s0 a b > (7 : Int))) = false ∧
                                ((!decide (s0 a b > (7 : Int))) = false ∧
                                ((!decide (s0 a b > (7 : Int))) = false ∧
                                ((!decide (s0 a b > (7 : Int))) = false ∧
                                ((decide (s0 a b > (7 : Int))) = true ∧
                                (Q Exit.ret (127 : Nat)
  [some (AV.slice (0 : Nat) (0 : Nat) n (some c)), some (AV.ptr (1 : Nat) (0 : Nat)),
    some (AV.int IntKind.i64 (↑i : Int)), some (AV.bool false)]
  { nx := (3 : Nat),
    m :=
      [((2 : Nat),
          AObj.cells (26 : Nat)
            [AV.int IntKind.i64 (s0 a b), AV.int IntKind.i64 (s1 b), AV.int IntKind.i64 (s2 b),
              AV.int IntKind.i64 (s3 a b)]),
        ((1 : Nat), AObj.cells (23 : Nat) [AV.int IntKind.u8 a, AV.int IntKind.u8 b]), ((0 : Nat), AObj.ro (enc8 ns))] })))))))))) ∧
                            ((decide (Int.tmod b (2 : Int) = (1 : Int))) = false →
                              (decide (Int.tmod b (2 : Int) = (1 : Int))) = false ∧
                              ((decide (Int.tmod b (2 : Int) = (1 : Int))) = false ∧
                              ((decide (Int.tmod b (2 : Int) = (1 : Int))) = false ∧
                              (((!decide ((if bits BinOp.and IntKind.u8 a (8 : Int) = (0 : Int) then (5 : Int) else (7 : Int)) = (5 : Int))) = true →
                                (!decide ((if bits BinOp.and IntKind.u8 a (8 : Int) = (0 : Int) then (5 : Int) else (7 : Int)) = (5 : Int))) = true ∧
                                ((!decide ((if bits BinOp.and IntKind.u8 a (8 : Int) = (0 : Int) then (5 : Int) else (7 : Int)) = (5 : Int))) = true ∧
                                ((!decide ((if bits BinOp.and IntKind.u8 a (8 : Int) = (0 : Int) then (5 : Int) else (7 : Int)) = (5 : Int))) = true ∧
                                (((!decide ((if bits BinOp.and IntKind.u8 a (8 : Int) = (0 : Int) then (5 : Int) else (7 : Int)) = (7 : Int))) = true →
                                  Q Exit.ret (127 : Nat)
  [some (AV.slice (0 : Nat) (0 : Nat) n (some c)), some (AV.ptr (1 : Nat) (0 : Nat)),
    some (AV.int IntKind.i64 (↑i : Int)), some (AV.bool false)]
  { nx := (3 : Nat),
    m :=
      [((2 : Nat),
          AObj.cells (26 : Nat)
            [AV.int IntKind.i64 (s0 a b), AV.int IntKind.i64 (s1 b), AV.int IntKind.i64 (s2 b),
              AV.int IntKind.i64 (s3 a b)]),
        ((1 : Nat), AObj.cells (23 : Nat) [AV.int IntKind.u8 a, AV.int IntKind.u8 b]), ((0 : Nat), AObj.ro (enc8 ns))] }) ∧
                                ((!decide ((if bits BinOp.and IntKind.u8 a (8 : Int) = (0 : Int) then (5 : Int) else (7 : Int)) = (7 : Int))) = false →
                                  (decide ((0 : Int) ≤ (↑i : Int) ∧ (↑i : Int) < (↑n : Int))) = true ∧
                                  ((decide ((0 : Nat) + Int.toNat (↑i : Int) * (1 : Nat) < List.length (enc8 ns))) = true ∧
                                  ((AV.isI IntKind.u8 (List.getD (enc8 ns) ((0 : Nat) + Int.toNat (↑i : Int) * (1 : Nat)) (AV.tup []))) = true ∧
                                  (((!!decide (toldE a = (10 : Int)) == !decide (bits BinOp.and IntKind.u8 a (32 : Int) = (0 : Int))) = true →
                                    (!!decide (toldE a = (10 : Int)) == !decide (bits BinOp.and IntKind.u8 a (32 : Int) = (0 : Int))) = true ∧
                                    ((!!decide (toldE a = (10 : Int)) == !decide (bits BinOp.and IntKind.u8 a (32 : Int) = (0 : Int))) = true ∧
                                    (((!decide (toldE a = (0 : Int))) = true →
                                      (!decide (toldE a = (0 : Int))) = true ∧
                                      ((!decide (toldE a = (0 : Int))) = true ∧
                                      ((!!decide (toldE a = (10 : Int)) == !decide (bits BinOp.and IntKind.u8 a (32 : Int) = (0 : Int))) = true ∧
                                      ((!decide (toldE a = (0 : Int))) = true ∧
                                      ((!decide (toldE a = (10 : Int)) == !decide (bits BinOp.and IntKind.u8 a (32 : Int) = (0 : Int))) = false ∧
                                      (((!(tdA a (AV.toI (List.getD (enc8 ns) ((0 : Nat) + Int.toNat (↑i : Int) * (1 : Nat)) (AV.tup [])))
        (decide (Int.tmod (↑i : Int) (2 : Int) = (1 : Int))) ==
      (0 : Int) &&
    (tdB a b (AV.toI (List.getD (enc8 ns) ((0 : Nat) + Int.toNat (↑i : Int) * (1 : Nat)) (AV.tup [])))
          (decide (Int.tmod (↑i : Int) (2 : Int) = (1 : Int))) ==
        (0 : Int) &&
      true))) = true →
                                        Q Exit.ret (127 : Nat)
  [some (AV.slice (0 : Nat) (0 : Nat) n (some c)), some (AV.ptr (1 : Nat) (0 : Nat)),
    some (AV.int IntKind.i64 (↑i : Int)), some (AV.bool false)]
  { nx := (4 : Nat),
    m :=
      [((3 : Nat),
          AObj.cells (23 : Nat)
            [AV.int IntKind.u8
                (tdA a (AV.toI (List.getD (enc8 ns) ((0 : Nat) + Int.toNat (↑i : Int) * (1 : Nat)) (AV.tup [])))
                  (decide (Int.tmod (↑i : Int) (2 : Int) = (1 : Int)))),
              AV.int IntKind.u8
                (tdB a b (AV.toI (List.getD (enc8 ns) ((0 : Nat) + Int.toNat (↑i : Int) * (1 : Nat)) (AV.tup [])))
                  (decide (Int.tmod (↑i : Int) (2 : Int) = (1 : Int))))]),
        ((2 : Nat),
          AObj.cells (26 : Nat)
            [AV.int IntKind.i64 (s0 a b), AV.int IntKind.i64 (s1 b), AV.int IntKind.i64 (s2 b),
              AV.int IntKind.i64 (s3 a b)]),
        ((1 : Nat), AObj.cells (23 : Nat) [AV.int IntKind.u8 a, AV.int IntKind.u8 b]), ((0 : Nat), AObj.ro (enc8 ns))] }) ∧
                                      ((!(tdA a (AV.toI (List.getD (enc8 ns) ((0 : Nat) + Int.toNat (↑i : Int) * (1 : Nat)) (AV.tup [])))
        (decide (Int.tmod (↑i : Int) (2 : Int) = (1 : Int))) ==
      (0 : Int) &&
    (tdB a b (AV.toI (List.getD (enc8 ns) ((0 : Nat) + Int.toNat (↑i : Int) * (1 : Nat)) (AV.tup [])))
          (decide (Int.tmod (↑i : Int) (2 : Int) = (1 : Int))) ==
        (0 : Int) &&
      true))) = false →
                                        (decide (toldE a = (0 : Int))) = false ∧
                                        (N (127 : Nat)
  [some (AV.slice (0 : Nat) (0 : Nat) n (some c)), some (AV.ptr (1 : Nat) (0 : Nat)),
    some (AV.int IntKind.i64 (IntKind.wrap IntKind.i64 ((↑i : Int) + (1 : Int)))), none]
  { nx := (4 : Nat),
    m :=
      [((3 : Nat),
          AObj.cells (23 : Nat)
            [AV.int IntKind.u8
                (tdA a (AV.toI (List.getD (enc8 ns) ((0 : Nat) + Int.toNat (↑i : Int) * (1 : Nat)) (AV.tup [])))
                  (decide (Int.tmod (↑i : Int) (2 : Int) = (1 : Int)))),
              AV.int IntKind.u8
                (tdB a b (AV.toI (List.getD (enc8 ns) ((0 : Nat) + Int.toNat (↑i : Int) * (1 : Nat)) (AV.tup [])))
                  (decide (Int.tmod (↑i : Int) (2 : Int) = (1 : Int))))]),
        ((2 : Nat),
          AObj.cells (26 : Nat)
            [AV.int IntKind.i64 (s0 a b), AV.int IntKind.i64 (s1 b), AV.int IntKind.i64 (s2 b),
              AV.int IntKind.i64 (s3 a b)]),
        ((1 : Nat), AObj.cells (23 : Nat) [AV.int IntKind.u8 a, AV.int IntKind.u8 b]), ((0 : Nat), AObj.ro (enc8 ns))] })))))))) ∧
                                    ((!decide (toldE a = (0 : Int))) = false →
                                      (!decide (toldE a = (0 : Int))) = false ∧
                                      ((!decide (toldE a = (0 : Int))) = false ∧
                                      ((!!decide (toldE a = (10 : Int)) == !decide (bits BinOp.and IntKind.u8 a (32 : Int) = (0 : Int))) = true ∧
                                      ((!decide (toldE a = (0 : Int))) = false ∧
                                      ((!decide (toldE a = (10 : Int)) == !decide (bits BinOp.and IntKind.u8 a (32 : Int) = (0 : Int))) = false ∧
                                      ((decide (toldE a = (0 : Int))) = true ∧
                                      (N (127 : Nat)
  [some (AV.slice (0 : Nat) (0 : Nat) n (some c)), some (AV.ptr (1 : Nat) (0 : Nat)),
    some (AV.int IntKind.i64 (IntKind.wrap IntKind.i64 ((↑i : Int) + (1 : Int)))), none]
  { nx := (4 : Nat),
    m :=
      [((3 : Nat),
          AObj.cells (23 : Nat)
            [AV.int IntKind.u8
                (tdA a (AV.toI (List.getD (enc8 ns) ((0 : Nat) + Int.toNat (↑i : Int) * (1 : Nat)) (AV.tup [])))
                  (decide (Int.tmod (↑i : Int) (2 : Int) = (1 : Int)))),
              AV.int IntKind.u8
                (tdB a b (AV.toI (List.getD (enc8 ns) ((0 : Nat) + Int.toNat (↑i : Int) * (1 : Nat)) (AV.tup [])))
                  (decide (Int.tmod (↑i : Int) (2 : Int) = (1 : Int))))]),
        ((2 : Nat),
          AObj.cells (26 : Nat)
            [AV.int IntKind.i64 (s0 a b), AV.int IntKind.i64 (s1 b), AV.int IntKind.i64 (s2 b),
              AV.int IntKind.i64 (s3 a b)]),
        ((1 : Nat),
          AObj.cells (23 : Nat)
            [AV.int IntKind.u8
                (tdA a (AV.toI (List.getD (enc8 ns) ((0 : Nat) + Int.toNat (↑i : Int) * (1 : Nat)) (AV.tup [])))
                  (decide (Int.tmod (↑i : Int) (2 : Int) = (1 : Int)))),
              AV.int IntKind.u8
                (tdB a b (AV.toI (List.getD (enc8 ns) ((0 : Nat) + Int.toNat (↑i : Int) * (1 : Nat)) (AV.tup [])))
                  (decide (Int.tmod (↑i : Int) (2 : Int) = (1 : Int))))]),
        ((0 : Nat), AObj.ro (enc8 ns))] })))))))))) ∧
                                  ((!!decide (toldE a = (10 : Int)) == !decide (bits BinOp.and IntKind.u8 a (32 : Int) = (0 : Int))) = false →
                                    (!!decide (toldE a = (10 : Int)) == !decide (bits BinOp.and IntKind.u8 a (32 : Int) = (0 : Int))) = false ∧
                                    ((!!decide (toldE a = (10 : Int)) == !decide (bits BinOp.and IntKind.u8 a (32 : Int) = (0 : Int))) = false ∧
                                    ((!!decide (toldE a = (10 : Int)) == !decide (bits BinOp.and IntKind.u8 a (32 : Int) = (0 : Int))) = false ∧
                                    ((!decide (toldE a = (10 : Int)) == !decide (bits BinOp.and IntKind.u8 a (32 : Int) = (0 : Int))) = true ∧
                                    (Q Exit.ret (127 : Nat)
  [some (AV.slice (0 : Nat) (0 : Nat) n (some c)), some (AV.ptr (1 : Nat) (0 : Nat)),
    some (AV.int IntKind.i64 (↑i : Int)), some (AV.bool false)]
  { nx := (4 : Nat),
    m :=
      [((3 : Nat),
          AObj.cells (23 : Nat)
            [AV.int IntKind.u8
                (tdA a (AV.toI (List.getD (enc8 ns) ((0 : Nat) + Int.toNat (↑i : Int) * (1 : Nat)) (AV.tup [])))
                  (decide (Int.tmod (↑i : Int) (2 : Int) = (1 : Int)))),
              AV.int IntKind.u8
                (tdB a b (AV.toI (List.getD (enc8 ns) ((0 : Nat) + Int.toNat (↑i : Int) * (1 : Nat)) (AV.tup [])))
                  (decide (Int.tmod (↑i : Int) (2 : Int) = (1 : Int))))]),
        ((2 : Nat),
          AObj.cells (26 : Nat)
            [AV.int IntKind.i64 (s0 a b), AV.int IntKind.i64 (s1 b), AV.int IntKind.i64 (s2 b),
              AV.int IntKind.i64 (s3 a b)]),
        ((1 : Nat), AObj.cells (23 : Nat) [AV.int IntKind.u8 a, AV.int IntKind.u8 b]), ((0 : Nat), AObj.ro (enc8 ns))] }))))))))))))) ∧
                              ((!decide ((if bits BinOp.and IntKind.u8 a (8 : Int) = (0 : Int) then (5 : Int) else (7 : Int)) = (5 : Int))) = false →
                                (!decide ((if bits BinOp.and IntKind.u8 a (8 : Int) = (0 : Int) then (5 : Int) else (7 : Int)) = (5 : Int))) = false ∧
                                ((!decide ((if bits BinOp.and IntKind.u8 a (8 : Int) = (0 : Int) then (5 : Int) else (7 : Int)) = (5 : Int))) = false ∧
                                ((!decide ((if bits BinOp.and IntKind.u8 a (8 : Int) = (0 : Int) then (5 : Int) else (7 : Int)) = (5 : Int))) = false ∧
                                ((decide ((0 : Int) ≤ (↑i : Int) ∧ (↑i : Int) < (↑n : Int))) = true ∧
                                ((decide ((0 : Nat) + Int.toNat (↑i : Int) * (1 : Nat) < List.length (enc8 ns))) = true ∧
                                ((AV.isI IntKind.u8 (List.getD (enc8 ns) ((0 : Nat) + Int.toNat (↑i : Int) * (1 : Nat)) (AV.tup []))) = true ∧
                                (((!!decide (toldE a = (10 : Int)) == !decide (bits BinOp.and IntKind.u8 a (32 : Int) = (0 : Int))) = true →
                                  (!!decide (toldE a = (10 : Int)) == !decide (bits BinOp.and IntKind.u8 a (32 : Int) = (0 : Int))) = true ∧
                                  ((!!decide (toldE a = (10 : Int)) == !decide (bits BinOp.and IntKind.u8 a (32 : Int) = (0 : Int))) = true ∧
                                  (((!decide (toldE a = (0 : Int))) = true →
                                    (!decide (toldE a = (0 : Int))) = true ∧
                                    ((!decide (toldE a = (0 : Int))) = true ∧
                                    ((!!decide (toldE a = (10 : Int)) == !decide (bits BinOp.and IntKind.u8 a (32 : Int) = (0 : Int))) = true ∧
                                    ((!decide (toldE a = (0 : Int))) = true ∧
                                    ((!decide (toldE a = (10 : Int)) == !decide (bits BinOp.and IntKind.u8 a (32 : Int) = (0 : Int))) = false ∧
                                    (((!(tdA a (AV.toI (List.getD (enc8 ns) ((0 : Nat) + Int.toNat (↑i : Int) * (1 : Nat)) (AV.tup [])))
        (decide (Int.tmod (↑i : Int) (2 : Int) = (1 : Int))) ==
      (0 : Int) &&
    (tdB a b (AV.toI (List.getD (enc8 ns) ((0 : Nat) + Int.toNat (↑i : Int) * (1 : Nat)) (AV.tup [])))
          (decide (Int.tmod (↑i : Int) (2 : Int) = (1 : Int))) ==
        (0 : Int) &&
      true))) = true →
                                      Q Exit.ret (127 : Nat)
  [some (AV.slice (0 : Nat) (0 : Nat) n (some c)), some (AV.ptr (1 : Nat) (0 : Nat)),
    some (AV.int IntKind.i64 (↑i : Int)), some (AV.bool false)]
  { nx := (4 : Nat),
    m :=
      [((3 : Nat),
          AObj.cells (23 : Nat)
            [AV.int IntKind.u8
                (tdA a (AV.toI (List.getD (enc8 ns) ((0 : Nat) + Int.toNat (↑i : Int) * (1 : Nat)) (AV.tup [])))
                  (decide (Int.tmod (↑i : Int) (2 : Int) = (1 : Int)))),
              AV.int IntKind.u8
                (tdB a b (AV.toI (List.getD (enc8 ns) ((0 : Nat) + Int.toNat (↑i : Int) * (1 : Nat)) (AV.tup [])))
                  (decide (Int.tmod (↑i : Int) (2 : Int) = (1 : Int))))]),
        ((2 : Nat),
          AObj.cells (26 : Nat)
            [AV.int IntKind.i64 (s0 a b), AV.int IntKind.i64 (s1 b), AV.int IntKind.i64 (s2 b),
              AV.int IntKind.i64 (s3 a b)]),
        ((1 : Nat), AObj.cells (23 : Nat) [AV.int IntKind.u8 a, AV.int IntKind.u8 b]), ((0 : Nat), AObj.ro (enc8 ns))] }) ∧
                                    ((!(tdA a (AV.toI (List.getD (enc8 ns) ((0 : Nat) + Int.toNat (↑i : Int) * (1 : Nat)) (AV.tup [])))
        (decide (Int.tmod (↑i : Int) (2 : Int) = (1 : Int))) ==
      (0 : Int) &&
    (tdB a b (AV.toI (List.getD (enc8 ns) ((0 : Nat) + Int.toNat (↑i : Int) * (1 : Nat)) (AV.tup [])))
          (decide (Int.tmod (↑i : Int) (2 : Int) = (1 : Int))) ==
        (0 : Int) &&
      true))) = false →
                                      (decide (toldE a = (0 : Int))) = false ∧
                                      (N (127 : Nat)
  [some (AV.slice (0 : Nat) (0 : Nat) n (some c)), some (AV.ptr (1 : Nat) (0 : Nat)),
    some (AV.int IntKind.i64 (IntKind.wrap IntKind.i64 ((↑i : Int) + (1 : Int)))), none]
  { nx := (4 : Nat),
    m :=
      [((3 : Nat),
          AObj.cells (23 : Nat)
            [AV.int IntKind.u8
                (tdA a (AV.toI (List.getD (enc8 ns) ((0 : Nat) + Int.toNat (↑i : Int) * (1 : Nat)) (AV.tup [])))
                  (decide (Int.tmod (↑i : Int) (2 : Int) = (1 : Int)))),
              AV.int IntKind.u8
                (tdB a b (AV.toI (List.getD (enc8 ns) ((0 : Nat) + Int.toNat (↑i : Int) * (1 : Nat)) (AV.tup [])))
                  (decide (Int.tmod (↑i : Int) (2 : Int) = (1 : Int))))]),
        ((2 : Nat),
          AObj.cells (26 : Nat)
            [AV.int IntKind.i64 (s0 a b), AV.int IntKind.i64 (s1 b), AV.int IntKind.i64 (s2 b),
              AV.int IntKind.i64 (s3 a b)]),
        ((1 : Nat), AObj.cells (23 : Nat) [AV.int IntKind.u8 a, AV.int IntKind.u8 b]), ((0 : Nat), AObj.ro (enc8 ns))] })))))))) ∧
                                  ((!decide (toldE a = (0 : Int))) = false →
                                    (!decide (toldE a = (0 : Int))) = false ∧
                                    ((!decide (toldE a = (0 : Int))) = false ∧
                                    ((!!decide (toldE a = (10 : Int)) == !decide (bits BinOp.and IntKind.u8 a (32 : Int) = (0 : Int))) = true ∧
                                    ((!decide (toldE a = (0 : Int))) = false ∧
                                    ((!decide (toldE a = (10 : Int)) == !decide (bits BinOp.and IntKind.u8 a (32 : Int) = (0 : Int))) = false ∧
                                    ((decide (toldE a = (0 : Int))) = true ∧
                                    (N (127 : Nat)
  [some (AV.slice (0 : Nat) (0 : Nat) n (some c)), some (AV.ptr (1 : Nat) (0 : Nat)),
    some (AV.int IntKind.i64 (IntKind.wrap IntKind.i64 ((↑i : Int) + (1 : Int)))), none]
  { nx := (4 : Nat),
    m :=
      [((3 : Nat),
          AObj.cells (23 : Nat)
            [AV.int IntKind.u8
                (tdA a (AV.toI (List.getD (enc8 ns) ((0 : Nat) + Int.toNat (↑i : Int) * (1 : Nat)) (AV.tup [])))
                  (decide (Int.tmod (↑i : Int) (2 : Int) = (1 : Int)))),
              AV.int IntKind.u8
                (tdB a b (AV.toI (List.getD (enc8 ns) ((0 : Nat) + Int.toNat (↑i : Int) * (1 : Nat)) (AV.tup [])))
                  (decide (Int.tmod (↑i : Int) (2 : Int) = (1 : Int))))]),
        ((2 : Nat),
          AObj.cells (26 : Nat)
            [AV.int IntKind.i64 (s0 a b), AV.int IntKind.i64 (s1 b), AV.int IntKind.i64 (s2 b),
              AV.int IntKind.i64 (s3 a b)]),
        ((1 : Nat),
          AObj.cells (23 : Nat)
            [AV.int IntKind.u8
                (tdA a (AV.toI (List.getD (enc8 ns) ((0 : Nat) + Int.toNat (↑i : Int) * (1 : Nat)) (AV.tup [])))
                  (decide (Int.tmod (↑i : Int) (2 : Int) = (1 : Int)))),
              AV.int IntKind.u8
                (tdB a b (AV.toI (List.getD (enc8 ns) ((0 : Nat) + Int.toNat (↑i : Int) * (1 : Nat)) (AV.tup [])))
                  (decide (Int.tmod (↑i : Int) (2 : Int) = (1 : Int))))]),
        ((0 : Nat), AObj.ro (enc8 ns))] })))))))))) ∧
                                ((!!decide (toldE a = (10 : Int)) == !decide (bits BinOp.and IntKind.u8 a (32 : Int) = (0 : Int))) = false →
                                  (!!decide (toldE a = (10 : Int)) == !decide (bits BinOp.and IntKind.u8 a (32 : Int) = (0 : Int))) = false ∧
                                  ((!!decide (toldE a = (10 : Int)) == !decide (bits BinOp.and IntKind.u8 a (32 : Int) = (0 : Int))) = false ∧
                                  ((!!decide (toldE a = (10 : Int)) == !decide (bits BinOp.and IntKind.u8 a (32 : Int) = (0 : Int))) = false ∧
                                  ((!decide (toldE a = (10 : Int)) == !decide (bits BinOp.and IntKind.u8 a (32 : Int) = (0 : Int))) = true ∧
                                  (Q Exit.ret (127 : Nat)
  [some (AV.slice (0 : Nat) (0 : Nat) n (some c)), some (AV.ptr (1 : Nat) (0 : Nat)),
    some (AV.int IntKind.i64 (↑i : Int)), some (AV.bool false)]
  { nx := (4 : Nat),
    m :=
      [((3 : Nat),
          AObj.cells (23 : Nat)
            [AV.int IntKind.u8
                (tdA a (AV.toI (List.getD (enc8 ns) ((0 : Nat) + Int.toNat (↑i : Int) * (1 : Nat)) (AV.tup [])))
                  (decide (Int.tmod (↑i : Int) (2 : Int) = (1 : Int)))),
              AV.int IntKind.u8
                (tdB a b (AV.toI (List.getD (enc8 ns) ((0 : Nat) + Int.toNat (↑i : Int) * (1 : Nat)) (AV.tup [])))
                  (decide (Int.tmod (↑i : Int) (2 : Int) = (1 : Int))))]),
        ((2 : Nat),
          AObj.cells (26 : Nat)
            [AV.int IntKind.i64 (s0 a b), AV.int IntKind.i64 (s1 b), AV.int IntKind.i64 (s2 b),
              AV.int IntKind.i64 (s3 a b)]),
        ((1 : Nat), AObj.cells (23 : Nat) [AV.int IntKind.u8 a, AV.int IntKind.u8 b]), ((0 : Nat), AObj.ro (enc8 ns))] })))))))))))))))))))))))))))))))) ∧
                      ((!decide (s3 a b > (11 : Int))) = false →
                        (!decide (s3 a b > (11 : Int))) = false ∧
                        ((!decide (s3 a b > (11 : Int))) = false ∧
                        ((!decide (s3 a b > (11 : Int))) = false ∧
                        ((decide (s3 a b > (11 : Int))) = true ∧
                        (Q Exit.ret (127 : Nat)
  [some (AV.slice (0 : Nat) (0 : Nat) n (some c)), some (AV.ptr (1 : Nat) (0 : Nat)),
    some (AV.int IntKind.i64 (↑i : Int)), some (AV.bool false)]
  { nx := (3 : Nat),
    m :=
      [((2 : Nat),
          AObj.cells (26 : Nat)
            [AV.int IntKind.i64 (s0 a b), AV.int IntKind.i64 (s1 b), AV.int IntKind.i64 (s2 b),
              AV.int IntKind.i64 (s3 a b)]),
        ((1 : Nat), AObj.cells (23 : Nat) [AV.int IntKind.u8 a, AV.int IntKind.u8 b]), ((0 : Nat), AObj.ro (enc8 ns))] })))))))))) ∧
                    ((!decide (s3 a b < (0 : Int))) = false →
                      (!decide (s3 a b < (0 : Int))) = false ∧
                      ((!decide (s3 a b < (0 : Int))) = false ∧
                      ((!decide (s3 a b < (0 : Int))) = false ∧
                      ((decide (s3 a b < (0 : Int))) = true ∧
                      (Q Exit.ret (127 : Nat)
  [some (AV.slice (0 : Nat) (0 : Nat) n (some c)), some (AV.ptr (1 : Nat) (0 : Nat)),
    some (AV.int IntKind.i64 (↑i : Int)), some (AV.bool false)]
  { nx := (3 : Nat),
    m :=
      [((2 : Nat),
          AObj.cells (26 : Nat)
            [AV.int IntKind.i64 (s0 a b), AV.int IntKind.i64 (s1 b), AV.int IntKind.i64 (s2 b),
              AV.int IntKind.i64 (s3 a b)]),
        ((1 : Nat), AObj.cells (23 : Nat) [AV.int IntKind.u8 a, AV.int IntKind.u8 b]), ((0 : Nat), AObj.ro (enc8 ns))] }))))))))))) ∧
                ((!decide (s2 b > (11 : Int))) = false →
                  (!decide (s2 b > (11 : Int))) = false ∧
                  ((!decide (s2 b > (11 : Int))) = false ∧
                  ((!decide (s2 b > (11 : Int))) = false ∧
                  ((decide (s2 b > (11 : Int))) = true ∧
                  (Q Exit.ret (127 : Nat)
  [some (AV.slice (0 : Nat) (0 : Nat) n (some c)), some (AV.ptr (1 : Nat) (0 : Nat)),
    some (AV.int IntKind.i64 (↑i : Int)), some (AV.bool false)]
  { nx := (3 : Nat),
    m :=
      [((2 : Nat),
          AObj.cells (26 : Nat)
            [AV.int IntKind.i64 (s0 a b), AV.int IntKind.i64 (s1 b), AV.int IntKind.i64 (s2 b),
              AV.int IntKind.i64 (s3 a b)]),
        ((1 : Nat), AObj.cells (23 : Nat) [AV.int IntKind.u8 a, AV.int IntKind.u8 b]), ((0 : Nat), AObj.ro (enc8 ns))] })))))))))) ∧
              ((!decide (s2 b < (0 : Int))) = false →
                (!decide (s2 b < (0 : Int))) = false ∧
                ((!decide (s2 b < (0 : Int))) = false ∧
                ((!decide (s2 b < (0 : Int))) = false ∧
                ((decide (s2 b < (0 : Int))) = true ∧
                (Q Exit.ret (127 : Nat)
  [some (AV.slice (0 : Nat) (0 : Nat) n (some c)), some (AV.ptr (1 : Nat) (0 : Nat)),
    some (AV.int IntKind.i64 (↑i : Int)), some (AV.bool false)]
  { nx := (3 : Nat),
    m :=
      [((2 : Nat),
          AObj.cells (26 : Nat)
            [AV.int IntKind.i64 (s0 a b), AV.int IntKind.i64 (s1 b), AV.int IntKind.i64 (s2 b),
              AV.int IntKind.i64 (s3 a b)]),
        ((1 : Nat), AObj.cells (23 : Nat) [AV.int IntKind.u8 a, AV.int IntKind.u8 b]), ((0 : Nat), AObj.ro (enc8 ns))] }))))))))))) ∧
          ((!decide (s1 b > (11 : Int))) = false →
            (!decide (s1 b > (11 : Int))) = false ∧
            ((!decide (s1 b > (11 : Int))) = false ∧
            ((!decide (s1 b > (11 : Int))) = false ∧
            ((decide (s1 b > (11 : Int))) = true ∧
            (Q Exit.ret (127 : Nat)
  [some (AV.slice (0 : Nat) (0 : Nat) n (some c)), some (AV.ptr (1 : Nat) (0 : Nat)),
    some (AV.int IntKind.i64 (↑i : Int)), some (AV.bool false)]
  { nx := (3 : Nat),
    m :=
      [((2 : Nat),
          AObj.cells (26 : Nat)
            [AV.int IntKind.i64 (s0 a b), AV.int IntKind.i64 (s1 b), AV.int IntKind.i64 (s2 b),
              AV.int IntKind.i64 (s3 a b)]),
        ((1 : Nat), AObj.cells (23 : Nat) [AV.int IntKind.u8 a, AV.int IntKind.u8 b]), ((0 : Nat), AObj.ro (enc8 ns))] })))))))))) ∧
        ((!decide (s1 b < (0 : Int))) = false →
          (!decide (s1 b < (0 : Int))) = false ∧
          ((!decide (s1 b < (0 : Int))) = false ∧
          ((!decide (s1 b < (0 : Int))) = false ∧
          ((decide (s1 b < (0 : Int))) = true ∧
          (Q Exit.ret (127 : Nat)
  [some (AV.slice (0 : Nat) (0 : Nat) n (some c)), some (AV.ptr (1 : Nat) (0 : Nat)),
    some (AV.int IntKind.i64 (↑i : Int)), some (AV.bool false)]
  { nx := (3 : Nat),
    m :=
      [((2 : Nat),
          AObj.cells (26 : Nat)
            [AV.int IntKind.i64 (s0 a b), AV.int IntKind.i64 (s1 b), AV.int IntKind.i64 (s2 b),
              AV.int IntKind.i64 (s3 a b)]),
        ((1 : Nat), AObj.cells (23 : Nat) [AV.int IntKind.u8 a, AV.int IntKind.u8 b]), ((0 : Nat), AObj.ro (enc8 ns))] })))))))))) ∧
      ((!decide (s0 a b > (11 : Int))) = false →
        (!decide (s0 a b > (11 : Int))) = false ∧
        ((!decide (s0 a b > (11 : Int))) = false ∧
        ((!decide (s0 a b > (11 : Int))) = false ∧
        ((decide (s0 a b > (11 : Int))) = true ∧
        (Q Exit.ret (127 : Nat)
  [some (AV.slice (0 : Nat) (0 : Nat) n (some c)), some (AV.ptr (1 : Nat) (0 : Nat)),
    some (AV.int IntKind.i64 (↑i : Int)), some (AV.bool false)]
  { nx := (3 : Nat),
    m :=
      [((2 : Nat),
          AObj.cells (26 : Nat)
            [AV.int IntKind.i64 (s0 a b), AV.int IntKind.i64 (s1 b), AV.int IntKind.i64 (s2 b),
              AV.int IntKind.i64 (s3 a b)]),
        ((1 : Nat), AObj.cells (23 : Nat) [AV.int IntKind.u8 a, AV.int IntKind.u8 b]), ((0 : Nat), AObj.ro (enc8 ns))] })))))))))) ∧
    ((!decide (s0 a b < (0 : Int))) = false →
      (!decide (s0 a b < (0 : Int))) = false ∧
      ((!decide (s0 a b < (0 : Int))) = false ∧
      ((!decide (s0 a b < (0 : Int))) = false ∧
      ((decide (s0 a b < (0 : Int))) = true ∧
      (Q Exit.ret (127 : Nat)
  [some (AV.slice (0 : Nat) (0 : Nat) n (some c)), some (AV.ptr (1 : Nat) (0 : Nat)),
    some (AV.int IntKind.i64 (↑i : Int)), some (AV.bool false)]
  { nx := (3 : Nat),
    m :=
      [((2 : Nat),
          AObj.cells (26 : Nat)
            [AV.int IntKind.i64 (s0 a b), AV.int IntKind.i64 (s1 b), AV.int IntKind.i64 (s2 b),
              AV.int IntKind.i64 (s3 a b)]),
        ((1 : Nat), AObj.cells (23 : Nat) [AV.int IntKind.u8 a, AV.int IntKind.u8 b]), ((0 : Nat), AObj.ro (enc8 ns))] })))))) ∧
  ((decide ((↑i : Int) < (↑n : Int))) = false →
    Q (Exit.exit (0 : Nat)) (127 : Nat)
  [some (AV.slice (0 : Nat) (0 : Nat) n (some c)), some (AV.ptr (1 : Nat) (0 : Nat)),
    some (AV.int IntKind.i64 (↑i : Int)), none]
  { nx := (2 : Nat),
    m :=
      [((1 : Nat), AObj.cells (23 : Nat) [AV.int IntKind.u8 a, AV.int IntKind.u8 b]), ((0 : Nat), AObj.ro (enc8 ns))] })
def slotsR_scr : Plan := .b (.k (.k (.k (.k (.b (.t (.k (.t (.k (.k (.t (.f (.b (.t (.t (.k (.k (.k (.k (.t (.k (.f (.k (.k (.k (.k (.k (.b (.t (.k (.t (.k (.k (.t (.f (.b (.t (.t (.k (.k (.k (.k (.k (.k (.k (.t (.k (.f (.b (.z) (.k (.k (.k (.k (.b (.t (.k (.t (.k (.k (.t (.f (.b (.t (.t (.k (.k (.k (.k (.k (.k (.k (.t (.k (.f (.b (.z) (.k (.k (.k (.k (.b (.t (.k (.t (.k (.k (.t (.f (.b (.t (.t (.k (.k (.k (.k (.k (.k (.k (.t (.k (.f (.b (.z) (.k (.b (.t (.t (.t (.b (.t (.t (.t (.f (.t (.b (.t (.t (.t (.f (.t (.b (.t (.t (.t (.t (.t (.t (.t (.f (.t (.b (.t (.t (.t (.t (.b (.t (.t (.t (.t (.f (.b (.t (.t (.t (.b (.t (.t (.t (.t (.f (.b (.z) (.t (.t (.t (.b (.t (.t (.b (.t (.t (.t (.t (.f (.b (.z) (.f (.z)))))))) (.f (.f (.t (.f (.f (.k (.t (.z))))))))))) (.f (.f (.k (.k (.k (.f (.t (.z)))))))))))))))))) (.f (.f (.t (.f (.f (.k (.t (.t (.t (.b (.t (.t (.b (.t (.t (.t (.t (.f (.b (.z) (.f (.z)))))))) (.f (.f (.t (.f (.f (.k (.t (.z))))))))))) (.f (.f (.k (.k (.k (.f (.t (.z)))))))))))))))))))))) (.f (.f (.f (.k (.k (.k (.f (.t (.z))))))))))))))) (.f (.f (.t (.f (.f (.k (.k (.k (.k (.b (.t (.t (.k (.t (.k (.b (.z) (.t (.t (.t (.b (.t (.t (.b (.t (.t (.t (.t (.f (.b (.z) (.f (.z)))))))) (.f (.f (.t (.f (.f (.k (.t (.z))))))))))) (.f (.f (.k (.k (.k (.f (.t (.z)))))))))))))))))) (.f (.f (.k (.f (.k (.k (.t (.t (.t (.b (.t (.t (.b (.t (.t (.t (.t (.f (.b (.z) (.f (.z)))))))) (.f (.f (.t (.f (.f (.k (.t (.z))))))))))) (.f (.f (.k (.k (.k (.f (.t (.z))))))))))))))))))))))))))))))))) (.f (.f (.f (.f (.k (.k (.k (.f (.t (.z)))))))))))))))))))) (.f (.f (.f (.f (.f (.f (.t (.t (.t (.z)))))))))))))))) (.f (.f (.t (.t (.t (.k (.k (.k (.k (.k (.k (.k (.t (.k (.t (.z)))))))))))))))))))))) (.f (.f (.t (.t (.t (.k (.k (.k (.t (.k (.t (.k (.k (.k (.k (.k (.k (.k (.t (.k (.t (.z)))))))))))))))))))))))))) (.f (.f (.f (.k (.k (.k (.f (.f (.k (.k (.k (.f (.f (.k (.k (.k (.k (.k (.k (.k (.f (.f (.k (.k (.k (.k (.k (.b (.t (.t (.k (.t (.k (.b (.t (.t (.t (.b (.t (.t (.t (.t (.f (.b (.z) (.t (.t (.t (.b (.t (.t (.b (.t (.t (.t (.t (.f (.b (.z) (.f (.z)))))))) (.f (.f (.t (.f (.f (.k (.t (.z))))))))))) (.f (.f (.k (.k (.k (.f (.t (.z)))))))))))))))))) (.f (.f (.t (.f (.f (.k (.t (.t (.t (.b (.t (.t (.b (.t (.t (.t (.t (.f (.b (.z) (.f (.z)))))))) (.f (.f (.t (.f (.f (.k (.t (.z))))))))))) (.f (.f (.k (.k (.k (.f (.t (.z)))))))))))))))))))))) (.f (.f (.f (.k (.k (.k (.f (.t (.z))))))))))))))) (.f (.f (.k (.f (.k (.k (.k (.k (.k (.b (.t (.t (.k (.t (.k (.b (.z) (.t (.t (.t (.b (.t (.t (.b (.t (.t (.t (.t (.f (.b (.z) (.f (.z)))))))) (.f (.f (.t (.f (.f (.k (.t (.z))))))))))) (.f (.f (.k (.k (.k (.f (.t (.z)))))))))))))))))) (.f (.f (.k (.f (.k (.k (.t (.t (.t (.b (.t (.t (.b (.t (.t (.t (.t (.f (.b (.z) (.f (.z)))))))) (.f (.f (.t (.f (.f (.k (.t (.z))))))))))) (.f (.f (.k (.k (.k (.f (.t (.z))))))))))))))))))))))))))))))))))))))))))))))))))))))))))))))))))))))) (.f (.f (.k (.k (.k (.k (.f (.t (.z))))))))))))))))) (.f (.f (.f (.t (.z))))))))))))))))))))))) (.f (.f (.k (.k (.k (.k (.f (.t (.z))))))))))))))))) (.f (.f (.f (.t (.z))))))))))))))))))))))) (.f (.f (.k (.k (.k (.k (.f (.t (.z))))))))))))))))) (.f (.f (.f (.t (.z)))))))))))))))))))) (.f (.f (.k (.k (.k (.k (.f (.t (.z))))))))))))))))) (.f (.f (.f (.t (.z)))))))))) (.z)
theorem slotsR_vc (a b : Int) (i n c : Nat) (ns : List Int) (N : NS) (Q : QS) (K : Unit) : (wpP XBk2 (symC Try.prog (bodyOf Try.prog 3) []) 1 (loopAt Try.prog 3 0) 0 (rndS [1, 2, 5, 4] N Q) ⟨127, [(1, .slice 0 0 n (some c)), (2, .ptr 1 0), (5, .int .i64 i)]⟩ ⟨2, [(1, .cells 23 [.int .u8 a, .int .u8 b]), (0, .ro (enc8 ns))]⟩ slotsR_scr) = slotsR_VC a b i n c ns N Q K := by kernel_rfl
end Go.Proofs.YtndjipgpnhhggaaR.V
