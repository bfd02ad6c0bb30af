/- Printed by vc.py: what must hold for functions' ways (TbX). -/
import Derived.Test.YtnfelncgeihihaaTbD
namespace Go.Proofs.Ytnfelncgeihihaa.V
open Go Go.Proofs
set_option maxRecDepth 100000
set_option linter.unusedVariables false
def rd0_VC (x : Nat → Int) (o n o' n' : Nat) (cs : List AV) (N : NS) (Q : QS) (K : Unit) : Prop :=
  need ([AV.ptr (3 : Nat) (0 : Nat), AV.int IntKind.i64 (1000 : Int)] =
  [AV.ptr (3 : Nat) (0 : Nat), AV.int IntKind.i64 (1000 : Int)]) ∧
  (need (AH.get (Prod.snd (rdS x o n cs (0 : Nat))) (3 : Nat) =
  AObj.cells (105 : Nat) [AV.slice (2 : Nat) o n none, AV.int IntKind.i64 (0 : Int), AV.bool true]) ∧
  (need (AH.get (Prod.snd (rdS x o n cs (0 : Nat))) (2 : Nat) = AObj.opn (5 : Nat) (1 : Nat) cs) ∧
  (need (rdOk cs o n (x (0 : Nat)) ∧ o' = o + List.length (numB (x (0 : Nat))) ∧ n' = n - List.length (numB (x (0 : Nat)))) ∧
  (N (38 : Nat)
  [some (AV.ptr (1 : Nat) (0 : Nat)), some (AV.ptr (3 : Nat) (0 : Nat)), some (AV.ptr (4 : Nat) (0 : Nat)),
    some (AV.slice (5 : Nat) (0 : Nat) (7 : Nat) (some (7 : Nat))), some (AV.int IntKind.i64 (7 : Int)),
    some (AV.int IntKind.i64 (1 : Int))]
  { nx := (6 : Nat),
    m :=
      [((5 : Nat),
          AObj.cells (95 : Nat)
            [AV.ptr (4 : Nat) (0 : Nat), AV.ptr (4 : Nat) (1 : Nat), AV.ptr (4 : Nat) (2 : Nat),
              AV.ptr (4 : Nat) (3 : Nat), AV.ptr (4 : Nat) (4 : Nat), AV.ptr (4 : Nat) (5 : Nat),
              AV.ptr (4 : Nat) (6 : Nat)]),
        ((4 : Nat),
          AObj.cells (23 : Nat)
            [AV.int IntKind.i64 (x (0 : Nat)), AV.int IntKind.i64 (0 : Int), AV.int IntKind.i64 (0 : Int),
              AV.int IntKind.i64 (0 : Int), AV.int IntKind.i64 (0 : Int), AV.int IntKind.i64 (0 : Int),
              AV.int IntKind.i64 (0 : Int)]),
        ((3 : Nat), AObj.cells (105 : Nat) [AV.slice (2 : Nat) o' n' none, AV.int IntKind.i64 (0 : Int), AV.bool true]),
        ((2 : Nat), AObj.opn (5 : Nat) (1 : Nat) cs),
        ((1 : Nat),
          AObj.cells (23 : Nat)
            [AV.int IntKind.i64 (0 : Int), AV.int IntKind.i64 (0 : Int), AV.int IntKind.i64 (0 : Int),
              AV.int IntKind.i64 (0 : Int), AV.int IntKind.i64 (0 : Int), AV.int IntKind.i64 (0 : Int),
              AV.int IntKind.i64 (0 : Int)]),
        ((0 : Nat), AObj.ro cs)] }))))
def rd0_scr : Plan := .z
theorem rd0_vc (x : Nat → Int) (o n o' n' : Nat) (cs : List AV) (N : NS) (Q : QS) (K : Unit) : (wpP (XCt cs o n o' n' (x 0)) (symC Try.prog (bodyOf Try.prog 47) []) 1 (loopAt Try.prog 47 0) 0 (rndS [2, 4, 5, 17, 18, 19] N Q) (rdS x o n cs 0).1 (rdS x o n cs 0).2 rd0_scr) = rd0_VC x o n o' n' cs N Q K := by kernel_rfl
def rd1_VC (x : Nat → Int) (o n o' n' : Nat) (cs : List AV) (N : NS) (Q : QS) (K : Unit) : Prop :=
  need ([AV.ptr (3 : Nat) (0 : Nat), AV.int IntKind.i64 (1000 : Int)] =
  [AV.ptr (3 : Nat) (0 : Nat), AV.int IntKind.i64 (1000 : Int)]) ∧
  (need (AH.get (Prod.snd (rdS x o n cs (1 : Nat))) (3 : Nat) =
  AObj.cells (105 : Nat) [AV.slice (2 : Nat) o n none, AV.int IntKind.i64 (0 : Int), AV.bool true]) ∧
  (need (AH.get (Prod.snd (rdS x o n cs (1 : Nat))) (2 : Nat) = AObj.opn (5 : Nat) (1 : Nat) cs) ∧
  (need (rdOk cs o n (x (1 : Nat)) ∧ o' = o + List.length (numB (x (1 : Nat))) ∧ n' = n - List.length (numB (x (1 : Nat)))) ∧
  (N (38 : Nat)
  [some (AV.ptr (1 : Nat) (0 : Nat)), some (AV.ptr (3 : Nat) (0 : Nat)), some (AV.ptr (4 : Nat) (0 : Nat)),
    some (AV.slice (5 : Nat) (0 : Nat) (7 : Nat) (some (7 : Nat))), some (AV.int IntKind.i64 (7 : Int)),
    some (AV.int IntKind.i64 (2 : Int))]
  { nx := (6 : Nat),
    m :=
      [((5 : Nat),
          AObj.cells (95 : Nat)
            [AV.ptr (4 : Nat) (0 : Nat), AV.ptr (4 : Nat) (1 : Nat), AV.ptr (4 : Nat) (2 : Nat),
              AV.ptr (4 : Nat) (3 : Nat), AV.ptr (4 : Nat) (4 : Nat), AV.ptr (4 : Nat) (5 : Nat),
              AV.ptr (4 : Nat) (6 : Nat)]),
        ((4 : Nat),
          AObj.cells (23 : Nat)
            [AV.int IntKind.i64 (x (0 : Nat)), AV.int IntKind.i64 (x (1 : Nat)), AV.int IntKind.i64 (0 : Int),
              AV.int IntKind.i64 (0 : Int), AV.int IntKind.i64 (0 : Int), AV.int IntKind.i64 (0 : Int),
              AV.int IntKind.i64 (0 : Int)]),
        ((3 : Nat), AObj.cells (105 : Nat) [AV.slice (2 : Nat) o' n' none, AV.int IntKind.i64 (0 : Int), AV.bool true]),
        ((2 : Nat), AObj.opn (5 : Nat) (1 : Nat) cs),
        ((1 : Nat),
          AObj.cells (23 : Nat)
            [AV.int IntKind.i64 (0 : Int), AV.int IntKind.i64 (0 : Int), AV.int IntKind.i64 (0 : Int),
              AV.int IntKind.i64 (0 : Int), AV.int IntKind.i64 (0 : Int), AV.int IntKind.i64 (0 : Int),
              AV.int IntKind.i64 (0 : Int)]),
        ((0 : Nat), AObj.ro cs)] }))))
def rd1_scr : Plan := .z
theorem rd1_vc (x : Nat → Int) (o n o' n' : Nat) (cs : List AV) (N : NS) (Q : QS) (K : Unit) : (wpP (XCt cs o n o' n' (x 1)) (symC Try.prog (bodyOf Try.prog 47) []) 1 (loopAt Try.prog 47 0) 0 (rndS [2, 4, 5, 17, 18, 19] N Q) (rdS x o n cs 1).1 (rdS x o n cs 1).2 rd1_scr) = rd1_VC x o n o' n' cs N Q K := by kernel_rfl
def rd2_VC (x : Nat → Int) (o n o' n' : Nat) (cs : List AV) (N : NS) (Q : QS) (K : Unit) : Prop :=
  need ([AV.ptr (3 : Nat) (0 : Nat), AV.int IntKind.i64 (1000 : Int)] =
  [AV.ptr (3 : Nat) (0 : Nat), AV.int IntKind.i64 (1000 : Int)]) ∧
  (need (AH.get (Prod.snd (rdS x o n cs (2 : Nat))) (3 : Nat) =
  AObj.cells (105 : Nat) [AV.slice (2 : Nat) o n none, AV.int IntKind.i64 (0 : Int), AV.bool true]) ∧
  (need (AH.get (Prod.snd (rdS x o n cs (2 : Nat))) (2 : Nat) = AObj.opn (5 : Nat) (1 : Nat) cs) ∧
  (need (rdOk cs o n (x (2 : Nat)) ∧ o' = o + List.length (numB (x (2 : Nat))) ∧ n' = n - List.length (numB (x (2 : Nat)))) ∧
  (N (38 : Nat)
  [some (AV.ptr (1 : Nat) (0 : Nat)), some (AV.ptr (3 : Nat) (0 : Nat)), some (AV.ptr (4 : Nat) (0 : Nat)),
    some (AV.slice (5 : Nat) (0 : Nat) (7 : Nat) (some (7 : Nat))), some (AV.int IntKind.i64 (7 : Int)),
    some (AV.int IntKind.i64 (3 : Int))]
  { nx := (6 : Nat),
    m :=
      [((5 : Nat),
          AObj.cells (95 : Nat)
            [AV.ptr (4 : Nat) (0 : Nat), AV.ptr (4 : Nat) (1 : Nat), AV.ptr (4 : Nat) (2 : Nat),
              AV.ptr (4 : Nat) (3 : Nat), AV.ptr (4 : Nat) (4 : Nat), AV.ptr (4 : Nat) (5 : Nat),
              AV.ptr (4 : Nat) (6 : Nat)]),
        ((4 : Nat),
          AObj.cells (23 : Nat)
            [AV.int IntKind.i64 (x (0 : Nat)), AV.int IntKind.i64 (x (1 : Nat)), AV.int IntKind.i64 (x (2 : Nat)),
              AV.int IntKind.i64 (0 : Int), AV.int IntKind.i64 (0 : Int), AV.int IntKind.i64 (0 : Int),
              AV.int IntKind.i64 (0 : Int)]),
        ((3 : Nat), AObj.cells (105 : Nat) [AV.slice (2 : Nat) o' n' none, AV.int IntKind.i64 (0 : Int), AV.bool true]),
        ((2 : Nat), AObj.opn (5 : Nat) (1 : Nat) cs),
        ((1 : Nat),
          AObj.cells (23 : Nat)
            [AV.int IntKind.i64 (0 : Int), AV.int IntKind.i64 (0 : Int), AV.int IntKind.i64 (0 : Int),
              AV.int IntKind.i64 (0 : Int), AV.int IntKind.i64 (0 : Int), AV.int IntKind.i64 (0 : Int),
              AV.int IntKind.i64 (0 : Int)]),
        ((0 : Nat), AObj.ro cs)] }))))
def rd2_scr : Plan := .z
theorem rd2_vc (x : Nat → Int) (o n o' n' : Nat) (cs : List AV) (N : NS) (Q : QS) (K : Unit) : (wpP (XCt cs o n o' n' (x 2)) (symC Try.prog (bodyOf Try.prog 47) []) 1 (loopAt Try.prog 47 0) 0 (rndS [2, 4, 5, 17, 18, 19] N Q) (rdS x o n cs 2).1 (rdS x o n cs 2).2 rd2_scr) = rd2_VC x o n o' n' cs N Q K := by kernel_rfl
def rd3_VC (x : Nat → Int) (o n o' n' : Nat) (cs : List AV) (N : NS) (Q : QS) (K : Unit) : Prop :=
  need ([AV.ptr (3 : Nat) (0 : Nat), AV.int IntKind.i64 (1000 : Int)] =
  [AV.ptr (3 : Nat) (0 : Nat), AV.int IntKind.i64 (1000 : Int)]) ∧
  (need (AH.get (Prod.snd (rdS x o n cs (3 : Nat))) (3 : Nat) =
  AObj.cells (105 : Nat) [AV.slice (2 : Nat) o n none, AV.int IntKind.i64 (0 : Int), AV.bool true]) ∧
  (need (AH.get (Prod.snd (rdS x o n cs (3 : Nat))) (2 : Nat) = AObj.opn (5 : Nat) (1 : Nat) cs) ∧
  (need (rdOk cs o n (x (3 : Nat)) ∧ o' = o + List.length (numB (x (3 : Nat))) ∧ n' = n - List.length (numB (x (3 : Nat)))) ∧
  (N (38 : Nat)
  [some (AV.ptr (1 : Nat) (0 : Nat)), some (AV.ptr (3 : Nat) (0 : Nat)), some (AV.ptr (4 : Nat) (0 : Nat)),
    some (AV.slice (5 : Nat) (0 : Nat) (7 : Nat) (some (7 : Nat))), some (AV.int IntKind.i64 (7 : Int)),
    some (AV.int IntKind.i64 (4 : Int))]
  { nx := (6 : Nat),
    m :=
      [((5 : Nat),
          AObj.cells (95 : Nat)
            [AV.ptr (4 : Nat) (0 : Nat), AV.ptr (4 : Nat) (1 : Nat), AV.ptr (4 : Nat) (2 : Nat),
              AV.ptr (4 : Nat) (3 : Nat), AV.ptr (4 : Nat) (4 : Nat), AV.ptr (4 : Nat) (5 : Nat),
              AV.ptr (4 : Nat) (6 : Nat)]),
        ((4 : Nat),
          AObj.cells (23 : Nat)
            [AV.int IntKind.i64 (x (0 : Nat)), AV.int IntKind.i64 (x (1 : Nat)), AV.int IntKind.i64 (x (2 : Nat)),
              AV.int IntKind.i64 (x (3 : Nat)), AV.int IntKind.i64 (0 : Int), AV.int IntKind.i64 (0 : Int),
              AV.int IntKind.i64 (0 : Int)]),
        ((3 : Nat), AObj.cells (105 : Nat) [AV.slice (2 : Nat) o' n' none, AV.int IntKind.i64 (0 : Int), AV.bool true]),
        ((2 : Nat), AObj.opn (5 : Nat) (1 : Nat) cs),
        ((1 : Nat),
          AObj.cells (23 : Nat)
            [AV.int IntKind.i64 (0 : Int), AV.int IntKind.i64 (0 : Int), AV.int IntKind.i64 (0 : Int),
              AV.int IntKind.i64 (0 : Int), AV.int IntKind.i64 (0 : Int), AV.int IntKind.i64 (0 : Int),
              AV.int IntKind.i64 (0 : Int)]),
        ((0 : Nat), AObj.ro cs)] }))))
def rd3_scr : Plan := .z
theorem rd3_vc (x : Nat → Int) (o n o' n' : Nat) (cs : List AV) (N : NS) (Q : QS) (K : Unit) : (wpP (XCt cs o n o' n' (x 3)) (symC Try.prog (bodyOf Try.prog 47) []) 1 (loopAt Try.prog 47 0) 0 (rndS [2, 4, 5, 17, 18, 19] N Q) (rdS x o n cs 3).1 (rdS x o n cs 3).2 rd3_scr) = rd3_VC x o n o' n' cs N Q K := by kernel_rfl
def rd4_VC (x : Nat → Int) (o n o' n' : Nat) (cs : List AV) (N : NS) (Q : QS) (K : Unit) : Prop :=
  need ([AV.ptr (3 : Nat) (0 : Nat), AV.int IntKind.i64 (1000 : Int)] =
  [AV.ptr (3 : Nat) (0 : Nat), AV.int IntKind.i64 (1000 : Int)]) ∧
  (need (AH.get (Prod.snd (rdS x o n cs (4 : Nat))) (3 : Nat) =
  AObj.cells (105 : Nat) [AV.slice (2 : Nat) o n none, AV.int IntKind.i64 (0 : Int), AV.bool true]) ∧
  (need (AH.get (Prod.snd (rdS x o n cs (4 : Nat))) (2 : Nat) = AObj.opn (5 : Nat) (1 : Nat) cs) ∧
  (need (rdOk cs o n (x (4 : Nat)) ∧ o' = o + List.length (numB (x (4 : Nat))) ∧ n' = n - List.length (numB (x (4 : Nat)))) ∧
  (N (38 : Nat)
  [some (AV.ptr (1 : Nat) (0 : Nat)), some (AV.ptr (3 : Nat) (0 : Nat)), some (AV.ptr (4 : Nat) (0 : Nat)),
    some (AV.slice (5 : Nat) (0 : Nat) (7 : Nat) (some (7 : Nat))), some (AV.int IntKind.i64 (7 : Int)),
    some (AV.int IntKind.i64 (5 : Int))]
  { nx := (6 : Nat),
    m :=
      [((5 : Nat),
          AObj.cells (95 : Nat)
            [AV.ptr (4 : Nat) (0 : Nat), AV.ptr (4 : Nat) (1 : Nat), AV.ptr (4 : Nat) (2 : Nat),
              AV.ptr (4 : Nat) (3 : Nat), AV.ptr (4 : Nat) (4 : Nat), AV.ptr (4 : Nat) (5 : Nat),
              AV.ptr (4 : Nat) (6 : Nat)]),
        ((4 : Nat),
          AObj.cells (23 : Nat)
            [AV.int IntKind.i64 (x (0 : Nat)), AV.int IntKind.i64 (x (1 : Nat)), AV.int IntKind.i64 (x (2 : Nat)),
              AV.int IntKind.i64 (x (3 : Nat)), AV.int IntKind.i64 (x (4 : Nat)), AV.int IntKind.i64 (0 : Int),
              AV.int IntKind.i64 (0 : Int)]),
        ((3 : Nat), AObj.cells (105 : Nat) [AV.slice (2 : Nat) o' n' none, AV.int IntKind.i64 (0 : Int), AV.bool true]),
        ((2 : Nat), AObj.opn (5 : Nat) (1 : Nat) cs),
        ((1 : Nat),
          AObj.cells (23 : Nat)
            [AV.int IntKind.i64 (0 : Int), AV.int IntKind.i64 (0 : Int), AV.int IntKind.i64 (0 : Int),
              AV.int IntKind.i64 (0 : Int), AV.int IntKind.i64 (0 : Int), AV.int IntKind.i64 (0 : Int),
              AV.int IntKind.i64 (0 : Int)]),
        ((0 : Nat), AObj.ro cs)] }))))
def rd4_scr : Plan := .z
theorem rd4_vc (x : Nat → Int) (o n o' n' : Nat) (cs : List AV) (N : NS) (Q : QS) (K : Unit) : (wpP (XCt cs o n o' n' (x 4)) (symC Try.prog (bodyOf Try.prog 47) []) 1 (loopAt Try.prog 47 0) 0 (rndS [2, 4, 5, 17, 18, 19] N Q) (rdS x o n cs 4).1 (rdS x o n cs 4).2 rd4_scr) = rd4_VC x o n o' n' cs N Q K := by kernel_rfl
def rd5_VC (x : Nat → Int) (o n o' n' : Nat) (cs : List AV) (N : NS) (Q : QS) (K : Unit) : Prop :=
  need ([AV.ptr (3 : Nat) (0 : Nat), AV.int IntKind.i64 (1000 : Int)] =
  [AV.ptr (3 : Nat) (0 : Nat), AV.int IntKind.i64 (1000 : Int)]) ∧
  (need (AH.get (Prod.snd (rdS x o n cs (5 : Nat))) (3 : Nat) =
  AObj.cells (105 : Nat) [AV.slice (2 : Nat) o n none, AV.int IntKind.i64 (0 : Int), AV.bool true]) ∧
  (need (AH.get (Prod.snd (rdS x o n cs (5 : Nat))) (2 : Nat) = AObj.opn (5 : Nat) (1 : Nat) cs) ∧
  (need (rdOk cs o n (x (5 : Nat)) ∧ o' = o + List.length (numB (x (5 : Nat))) ∧ n' = n - List.length (numB (x (5 : Nat)))) ∧
  (N (38 : Nat)
  [some (AV.ptr (1 : Nat) (0 : Nat)), some (AV.ptr (3 : Nat) (0 : Nat)), some (AV.ptr (4 : Nat) (0 : Nat)),
    some (AV.slice (5 : Nat) (0 : Nat) (7 : Nat) (some (7 : Nat))), some (AV.int IntKind.i64 (7 : Int)),
    some (AV.int IntKind.i64 (6 : Int))]
  { nx := (6 : Nat),
    m :=
      [((5 : Nat),
          AObj.cells (95 : Nat)
            [AV.ptr (4 : Nat) (0 : Nat), AV.ptr (4 : Nat) (1 : Nat), AV.ptr (4 : Nat) (2 : Nat),
              AV.ptr (4 : Nat) (3 : Nat), AV.ptr (4 : Nat) (4 : Nat), AV.ptr (4 : Nat) (5 : Nat),
              AV.ptr (4 : Nat) (6 : Nat)]),
        ((4 : Nat),
          AObj.cells (23 : Nat)
            [AV.int IntKind.i64 (x (0 : Nat)), AV.int IntKind.i64 (x (1 : Nat)), AV.int IntKind.i64 (x (2 : Nat)),
              AV.int IntKind.i64 (x (3 : Nat)), AV.int IntKind.i64 (x (4 : Nat)), AV.int IntKind.i64 (x (5 : Nat)),
              AV.int IntKind.i64 (0 : Int)]),
        ((3 : Nat), AObj.cells (105 : Nat) [AV.slice (2 : Nat) o' n' none, AV.int IntKind.i64 (0 : Int), AV.bool true]),
        ((2 : Nat), AObj.opn (5 : Nat) (1 : Nat) cs),
        ((1 : Nat),
          AObj.cells (23 : Nat)
            [AV.int IntKind.i64 (0 : Int), AV.int IntKind.i64 (0 : Int), AV.int IntKind.i64 (0 : Int),
              AV.int IntKind.i64 (0 : Int), AV.int IntKind.i64 (0 : Int), AV.int IntKind.i64 (0 : Int),
              AV.int IntKind.i64 (0 : Int)]),
        ((0 : Nat), AObj.ro cs)] }))))
def rd5_scr : Plan := .z
theorem rd5_vc (x : Nat → Int) (o n o' n' : Nat) (cs : List AV) (N : NS) (Q : QS) (K : Unit) : (wpP (XCt cs o n o' n' (x 5)) (symC Try.prog (bodyOf Try.prog 47) []) 1 (loopAt Try.prog 47 0) 0 (rndS [2, 4, 5, 17, 18, 19] N Q) (rdS x o n cs 5).1 (rdS x o n cs 5).2 rd5_scr) = rd5_VC x o n o' n' cs N Q K := by kernel_rfl
def rd6_VC (x : Nat → Int) (o n o' n' : Nat) (cs : List AV) (N : NS) (Q : QS) (K : Unit) : Prop :=
  need ([AV.ptr (3 : Nat) (0 : Nat), AV.int IntKind.i64 (1000 : Int)] =
  [AV.ptr (3 : Nat) (0 : Nat), AV.int IntKind.i64 (1000 : Int)]) ∧
  (need (AH.get (Prod.snd (rdS x o n cs (6 : Nat))) (3 : Nat) =
  AObj.cells (105 : Nat) [AV.slice (2 : Nat) o n none, AV.int IntKind.i64 (0 : Int), AV.bool true]) ∧
  (need (AH.get (Prod.snd (rdS x o n cs (6 : Nat))) (2 : Nat) = AObj.opn (5 : Nat) (1 : Nat) cs) ∧
  (need (rdOk cs o n (x (6 : Nat)) ∧ o' = o + List.length (numB (x (6 : Nat))) ∧ n' = n - List.length (numB (x (6 : Nat)))) ∧
  (N (38 : Nat)
  [some (AV.ptr (1 : Nat) (0 : Nat)), some (AV.ptr (3 : Nat) (0 : Nat)), some (AV.ptr (4 : Nat) (0 : Nat)),
    some (AV.slice (5 : Nat) (0 : Nat) (7 : Nat) (some (7 : Nat))), some (AV.int IntKind.i64 (7 : Int)),
    some (AV.int IntKind.i64 (7 : Int))]
  { nx := (6 : Nat),
    m :=
      [((5 : Nat),
          AObj.cells (95 : Nat)
            [AV.ptr (4 : Nat) (0 : Nat), AV.ptr (4 : Nat) (1 : Nat), AV.ptr (4 : Nat) (2 : Nat),
              AV.ptr (4 : Nat) (3 : Nat), AV.ptr (4 : Nat) (4 : Nat), AV.ptr (4 : Nat) (5 : Nat),
              AV.ptr (4 : Nat) (6 : Nat)]),
        ((4 : Nat),
          AObj.cells (23 : Nat)
            [AV.int IntKind.i64 (x (0 : Nat)), AV.int IntKind.i64 (x (1 : Nat)), AV.int IntKind.i64 (x (2 : Nat)),
              AV.int IntKind.i64 (x (3 : Nat)), AV.int IntKind.i64 (x (4 : Nat)), AV.int IntKind.i64 (x (5 : Nat)),
              AV.int IntKind.i64 (x (6 : Nat))]),
        ((3 : Nat), AObj.cells (105 : Nat) [AV.slice (2 : Nat) o' n' none, AV.int IntKind.i64 (0 : Int), AV.bool true]),
        ((2 : Nat), AObj.opn (5 : Nat) (1 : Nat) cs),
        ((1 : Nat),
          AObj.cells (23 : Nat)
            [AV.int IntKind.i64 (0 : Int), AV.int IntKind.i64 (0 : Int), AV.int IntKind.i64 (0 : Int),
              AV.int IntKind.i64 (0 : Int), AV.int IntKind.i64 (0 : Int), AV.int IntKind.i64 (0 : Int),
              AV.int IntKind.i64 (0 : Int)]),
        ((0 : Nat), AObj.ro cs)] }))))
def rd6_scr : Plan := .z
theorem rd6_vc (x : Nat → Int) (o n o' n' : Nat) (cs : List AV) (N : NS) (Q : QS) (K : Unit) : (wpP (XCt cs o n o' n' (x 6)) (symC Try.prog (bodyOf Try.prog 47) []) 1 (loopAt Try.prog 47 0) 0 (rndS [2, 4, 5, 17, 18, 19] N Q) (rdS x o n cs 6).1 (rdS x o n cs 6).2 rd6_scr) = rd6_VC x o n o' n' cs N Q K := by kernel_rfl
def rd7_VC (x : Nat → Int) (o n o' n' : Nat) (cs : List AV) (N : NS) (Q : QS) (K : Unit) : Prop :=
  Q (Exit.exit (0 : Nat)) (38 : Nat)
  [some (AV.ptr (1 : Nat) (0 : Nat)), some (AV.ptr (3 : Nat) (0 : Nat)), some (AV.ptr (4 : Nat) (0 : Nat)),
    some (AV.slice (5 : Nat) (0 : Nat) (7 : Nat) (some (7 : Nat))), some (AV.int IntKind.i64 (7 : Int)),
    some (AV.int IntKind.i64 (7 : Int))]
  { nx := (6 : Nat),
    m :=
      [((5 : Nat),
          AObj.cells (95 : Nat)
            [AV.ptr (4 : Nat) (0 : Nat), AV.ptr (4 : Nat) (1 : Nat), AV.ptr (4 : Nat) (2 : Nat),
              AV.ptr (4 : Nat) (3 : Nat), AV.ptr (4 : Nat) (4 : Nat), AV.ptr (4 : Nat) (5 : Nat),
              AV.ptr (4 : Nat) (6 : Nat)]),
        ((4 : Nat),
          AObj.cells (23 : Nat)
            [AV.int IntKind.i64 (x (0 : Nat)), AV.int IntKind.i64 (x (1 : Nat)), AV.int IntKind.i64 (x (2 : Nat)),
              AV.int IntKind.i64 (x (3 : Nat)), AV.int IntKind.i64 (x (4 : Nat)), AV.int IntKind.i64 (x (5 : Nat)),
              AV.int IntKind.i64 (x (6 : Nat))]),
        ((3 : Nat), AObj.cells (105 : Nat) [AV.slice (2 : Nat) o n none, AV.int IntKind.i64 (0 : Int), AV.bool true]),
        ((2 : Nat), AObj.opn (5 : Nat) (1 : Nat) cs),
        ((1 : Nat),
          AObj.cells (23 : Nat)
            [AV.int IntKind.i64 (0 : Int), AV.int IntKind.i64 (0 : Int), AV.int IntKind.i64 (0 : Int),
              AV.int IntKind.i64 (0 : Int), AV.int IntKind.i64 (0 : Int), AV.int IntKind.i64 (0 : Int),
              AV.int IntKind.i64 (0 : Int)]),
        ((0 : Nat), AObj.ro cs)] }
def rd7_scr : Plan := .z
theorem rd7_vc (x : Nat → Int) (o n o' n' : Nat) (cs : List AV) (N : NS) (Q : QS) (K : Unit) : (wpP (XCt cs o n o' n' (x 7)) (symC Try.prog (bodyOf Try.prog 47) []) 1 (loopAt Try.prog 47 0) 0 (rndS [2, 4, 5, 17, 18, 19] N Q) (rdS x o n cs 7).1 (rdS x o n cs 7).2 rd7_scr) = rd7_VC x o n o' n' cs N Q K := by kernel_rfl
end Go.Proofs.Ytnfelncgeihihaa.V
