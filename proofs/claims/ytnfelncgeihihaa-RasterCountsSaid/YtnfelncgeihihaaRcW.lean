/- Printed by vc.py: what must hold for functions' ways (RcW). -/
import Derived.Test.YtnfelncgeihihaaRcC
namespace Go.Proofs.Ytnfelncgeihihaa.V
open Go Go.Proofs
set_option maxRecDepth 100000
set_option linter.unusedVariables false
def rin_VC (L C T R F W U n i p a b j : Int) (N : NS) (Q : QS) (K : Unit) : Prop :=
  ((decide (j < C)) = true →
    ((decide (bmD L C T R F W U i j = (1 : Int))) = true →
      N (43 : Nat)
  [some (AV.ptr (0 : Nat) (0 : Nat)), some (AV.int IntKind.i64 (IntKind.wrap IntKind.i64 (p + (1 : Int)))),
    some (AV.int IntKind.i64 a), some (AV.int IntKind.i64 b), some (AV.int IntKind.i64 i), some (AV.int IntKind.i64 n),
    some (AV.int IntKind.i64 i), some (AV.int IntKind.i64 C),
    some (AV.int IntKind.i64 (IntKind.wrap IntKind.i64 (j + (1 : Int))))]
  { nx := (1 : Nat),
    m :=
      [((0 : Nat),
          AObj.cells (23 : Nat)
            [AV.int IntKind.i64 L, AV.int IntKind.i64 C, AV.int IntKind.i64 T, AV.int IntKind.i64 R,
              AV.int IntKind.i64 F, AV.int IntKind.i64 W, AV.int IntKind.i64 U])] }) ∧
    ((decide (bmD L C T R F W U i j = (1 : Int))) = false →
      ((decide (bmD L C T R F W U i j = (2 : Int))) = true →
        N (43 : Nat)
  [some (AV.ptr (0 : Nat) (0 : Nat)), some (AV.int IntKind.i64 p),
    some (AV.int IntKind.i64 (IntKind.wrap IntKind.i64 (a + (1 : Int)))), some (AV.int IntKind.i64 b),
    some (AV.int IntKind.i64 i), some (AV.int IntKind.i64 n), some (AV.int IntKind.i64 i), some (AV.int IntKind.i64 C),
    some (AV.int IntKind.i64 (IntKind.wrap IntKind.i64 (j + (1 : Int))))]
  { nx := (1 : Nat),
    m :=
      [((0 : Nat),
          AObj.cells (23 : Nat)
            [AV.int IntKind.i64 L, AV.int IntKind.i64 C, AV.int IntKind.i64 T, AV.int IntKind.i64 R,
              AV.int IntKind.i64 F, AV.int IntKind.i64 W, AV.int IntKind.i64 U])] }) ∧
      ((decide (bmD L C T R F W U i j = (2 : Int))) = false →
        ((decide (bmD L C T R F W U i j = (3 : Int))) = true →
          N (43 : Nat)
  [some (AV.ptr (0 : Nat) (0 : Nat)), some (AV.int IntKind.i64 p), some (AV.int IntKind.i64 a),
    some (AV.int IntKind.i64 (IntKind.wrap IntKind.i64 (b + (1 : Int)))), some (AV.int IntKind.i64 i),
    some (AV.int IntKind.i64 n), some (AV.int IntKind.i64 i), some (AV.int IntKind.i64 C),
    some (AV.int IntKind.i64 (IntKind.wrap IntKind.i64 (j + (1 : Int))))]
  { nx := (1 : Nat),
    m :=
      [((0 : Nat),
          AObj.cells (23 : Nat)
            [AV.int IntKind.i64 L, AV.int IntKind.i64 C, AV.int IntKind.i64 T, AV.int IntKind.i64 R,
              AV.int IntKind.i64 F, AV.int IntKind.i64 W, AV.int IntKind.i64 U])] }) ∧
        ((decide (bmD L C T R F W U i j = (3 : Int))) = false →
          N (43 : Nat)
  [some (AV.ptr (0 : Nat) (0 : Nat)), some (AV.int IntKind.i64 p), some (AV.int IntKind.i64 a),
    some (AV.int IntKind.i64 b), some (AV.int IntKind.i64 i), some (AV.int IntKind.i64 n), some (AV.int IntKind.i64 i),
    some (AV.int IntKind.i64 C), some (AV.int IntKind.i64 (IntKind.wrap IntKind.i64 (j + (1 : Int))))]
  { nx := (1 : Nat),
    m :=
      [((0 : Nat),
          AObj.cells (23 : Nat)
            [AV.int IntKind.i64 L, AV.int IntKind.i64 C, AV.int IntKind.i64 T, AV.int IntKind.i64 R,
              AV.int IntKind.i64 F, AV.int IntKind.i64 W, AV.int IntKind.i64 U])] })))) ∧
  ((decide (j < C)) = false →
    Q (Exit.exit (2 : Nat)) (43 : Nat)
  [some (AV.ptr (0 : Nat) (0 : Nat)), some (AV.int IntKind.i64 p), some (AV.int IntKind.i64 a),
    some (AV.int IntKind.i64 b), some (AV.int IntKind.i64 i), some (AV.int IntKind.i64 n), some (AV.int IntKind.i64 i),
    some (AV.int IntKind.i64 C), some (AV.int IntKind.i64 j)]
  { nx := (1 : Nat),
    m :=
      [((0 : Nat),
          AObj.cells (23 : Nat)
            [AV.int IntKind.i64 L, AV.int IntKind.i64 C, AV.int IntKind.i64 T, AV.int IntKind.i64 R,
              AV.int IntKind.i64 F, AV.int IntKind.i64 W, AV.int IntKind.i64 U])] })
def rin_scr : Plan := .b (.b (.z) (.b (.z) (.b (.z) (.z)))) (.z)
theorem rin_vc (L C T R F W U n i p a b j : Int) (N : NS) (Q : QS) (K : Unit) : (wpP XRc2 (symC Try.prog (bodyOf Try.prog 32) []) 0 (loopAt Try.prog 32 1) 2 (rndS [1, 2, 3, 4, 5, 12, 13, 17, 18] N Q) (inT L C T R F W U n i p a b j).1 (inT L C T R F W U n i p a b j).2 rin_scr) = rin_VC L C T R F W U n i p a b j N Q K := by kernel_rfl
def rou_VC (L C T R F W U n i p a b : Int) (N : NS) (Q : QS) (K : Unit) : Prop :=
  ((decide (i < n)) = true →
    need ((0 : Nat) = (0 : Nat)) ∧
    (need (Fits (0 : Nat) [((0 : Nat), (0 : Nat))]
  { n := (43 : Nat),
    l :=
      [((18 : Nat), AV.int IntKind.i64 (0 : Int)), ((17 : Nat), AV.int IntKind.i64 C),
        ((16 : Nat), AV.ptr (0 : Nat) (1 : Nat)), ((5 : Nat), AV.int IntKind.i64 i), ((15 : Nat), AV.int IntKind.i64 i),
        ((14 : Nat), AV.bool (decide (i < n))), ((1 : Nat), AV.ptr (0 : Nat) (0 : Nat)),
        ((2 : Nat), AV.int IntKind.i64 p), ((3 : Nat), AV.int IntKind.i64 a), ((4 : Nat), AV.int IntKind.i64 b),
        ((12 : Nat), AV.int IntKind.i64 n), ((13 : Nat), AV.int IntKind.i64 i)] }
  { nx := (1 : Nat),
    m :=
      [((0 : Nat),
          AObj.cells (23 : Nat)
            [AV.int IntKind.i64 L, AV.int IntKind.i64 C, AV.int IntKind.i64 T, AV.int IntKind.i64 R,
              AV.int IntKind.i64 F, AV.int IntKind.i64 W, AV.int IntKind.i64 U])] }
  { n := (43 : Nat),
    l :=
      [((1 : Nat), AV.ptr (0 : Nat) (0 : Nat)), ((2 : Nat), AV.int IntKind.i64 p), ((3 : Nat), AV.int IntKind.i64 a),
        ((4 : Nat), AV.int IntKind.i64 b), ((5 : Nat), AV.int IntKind.i64 i), ((12 : Nat), AV.int IntKind.i64 n),
        ((13 : Nat), AV.int IntKind.i64 i), ((17 : Nat), AV.int IntKind.i64 C),
        ((18 : Nat), AV.int IntKind.i64 (0 : Int))] }
  { nx := (1 : Nat),
    m :=
      [((0 : Nat),
          AObj.cells (23 : Nat)
            [AV.int IntKind.i64 L, AV.int IntKind.i64 C, AV.int IntKind.i64 T, AV.int IntKind.i64 R,
              AV.int IntKind.i64 F, AV.int IntKind.i64 W, AV.int IntKind.i64 U])] }) ∧
    (need (inPre L C T R F W U i p a b = true) ∧
    (N (43 : Nat)
  [some (AV.ptr (0 : Nat) (0 : Nat)), some (AV.int IntKind.i64 (p + row L C T R F W U (1 : Int) i)),
    some (AV.int IntKind.i64 (a + row L C T R F W U (2 : Int) i)),
    some (AV.int IntKind.i64 (b + row L C T R F W U (3 : Int) i)), some (AV.int IntKind.i64 n),
    some (AV.int IntKind.i64 (IntKind.wrap IntKind.i64 (i + (1 : Int))))]
  { nx := (1 : Nat),
    m :=
      [((0 : Nat),
          AObj.cells (23 : Nat)
            [AV.int IntKind.i64 L, AV.int IntKind.i64 C, AV.int IntKind.i64 T, AV.int IntKind.i64 R,
              AV.int IntKind.i64 F, AV.int IntKind.i64 W, AV.int IntKind.i64 U])] })))) ∧
  ((decide (i < n)) = false →
    Q (Exit.exit (0 : Nat)) (43 : Nat)
  [some (AV.ptr (0 : Nat) (0 : Nat)), some (AV.int IntKind.i64 p), some (AV.int IntKind.i64 a),
    some (AV.int IntKind.i64 b), some (AV.int IntKind.i64 n), some (AV.int IntKind.i64 i)]
  { nx := (1 : Nat),
    m :=
      [((0 : Nat),
          AObj.cells (23 : Nat)
            [AV.int IntKind.i64 L, AV.int IntKind.i64 C, AV.int IntKind.i64 T, AV.int IntKind.i64 R,
              AV.int IntKind.i64 F, AV.int IntKind.i64 W, AV.int IntKind.i64 U])] })
def rou_scr : Plan := .b (.z) (.z)
theorem rou_vc (L C T R F W U n i p a b : Int) (N : NS) (Q : QS) (K : Unit) : (wpP (XRcI L C T R F W U) (symC Try.prog (bodyOf Try.prog 32) []) 0 (loopAt Try.prog 32 0) 1 (rndS [1, 2, 3, 4, 12, 13] N Q) (ouT L C T R F W U n i p a b).1 (ouT L C T R F W U n i p a b).2 rou_scr) = rou_VC L C T R F W U n i p a b N Q K := by kernel_rfl
def rdc_VC (L C T R F W U p a b t : Int) (N : NS) (Q : QS) (K : Unit) : Prop :=
  ((decide (t < lenF L C T R F W U)) = true →
    ((decide (raD L C T R F W U t = (1 : Int))) = true →
      N (40 : Nat)
  [some (AV.ptr (0 : Nat) (0 : Nat)), some (AV.int IntKind.i64 (IntKind.wrap IntKind.i64 (p + (1 : Int)))),
    some (AV.int IntKind.i64 a), some (AV.int IntKind.i64 b),
    some (AV.int IntKind.i64 (IntKind.wrap IntKind.i64 (t + (1 : Int))))]
  { nx := (2 : Nat),
    m :=
      [((1 : Nat),
          AObj.cells (41 : Nat)
            [AV.int IntKind.i64 (raD L C T R F W U t), AV.int IntKind.i64 (raX L C T R F W U t),
              AV.int IntKind.i64 (raY L C T R F W U t)]),
        ((0 : Nat),
          AObj.cells (23 : Nat)
            [AV.int IntKind.i64 L, AV.int IntKind.i64 C, AV.int IntKind.i64 T, AV.int IntKind.i64 R,
              AV.int IntKind.i64 F, AV.int IntKind.i64 W, AV.int IntKind.i64 U])] }) ∧
    ((decide (raD L C T R F W U t = (1 : Int))) = false →
      ((decide (raD L C T R F W U t = (2 : Int))) = true →
        N (40 : Nat)
  [some (AV.ptr (0 : Nat) (0 : Nat)), some (AV.int IntKind.i64 p),
    some (AV.int IntKind.i64 (IntKind.wrap IntKind.i64 (a + (1 : Int)))), some (AV.int IntKind.i64 b),
    some (AV.int IntKind.i64 (IntKind.wrap IntKind.i64 (t + (1 : Int))))]
  { nx := (2 : Nat),
    m :=
      [((1 : Nat),
          AObj.cells (41 : Nat)
            [AV.int IntKind.i64 (raD L C T R F W U t), AV.int IntKind.i64 (raX L C T R F W U t),
              AV.int IntKind.i64 (raY L C T R F W U t)]),
        ((0 : Nat),
          AObj.cells (23 : Nat)
            [AV.int IntKind.i64 L, AV.int IntKind.i64 C, AV.int IntKind.i64 T, AV.int IntKind.i64 R,
              AV.int IntKind.i64 F, AV.int IntKind.i64 W, AV.int IntKind.i64 U])] }) ∧
      ((decide (raD L C T R F W U t = (2 : Int))) = false →
        ((decide (raD L C T R F W U t = (3 : Int))) = true →
          N (40 : Nat)
  [some (AV.ptr (0 : Nat) (0 : Nat)), some (AV.int IntKind.i64 p), some (AV.int IntKind.i64 a),
    some (AV.int IntKind.i64 (IntKind.wrap IntKind.i64 (b + (1 : Int)))),
    some (AV.int IntKind.i64 (IntKind.wrap IntKind.i64 (t + (1 : Int))))]
  { nx := (2 : Nat),
    m :=
      [((1 : Nat),
          AObj.cells (41 : Nat)
            [AV.int IntKind.i64 (raD L C T R F W U t), AV.int IntKind.i64 (raX L C T R F W U t),
              AV.int IntKind.i64 (raY L C T R F W U t)]),
        ((0 : Nat),
          AObj.cells (23 : Nat)
            [AV.int IntKind.i64 L, AV.int IntKind.i64 C, AV.int IntKind.i64 T, AV.int IntKind.i64 R,
              AV.int IntKind.i64 F, AV.int IntKind.i64 W, AV.int IntKind.i64 U])] }) ∧
        ((decide (raD L C T R F W U t = (3 : Int))) = false →
          N (40 : Nat)
  [some (AV.ptr (0 : Nat) (0 : Nat)), some (AV.int IntKind.i64 p), some (AV.int IntKind.i64 a),
    some (AV.int IntKind.i64 b), some (AV.int IntKind.i64 (IntKind.wrap IntKind.i64 (t + (1 : Int))))]
  { nx := (2 : Nat),
    m :=
      [((1 : Nat),
          AObj.cells (41 : Nat)
            [AV.int IntKind.i64 (raD L C T R F W U t), AV.int IntKind.i64 (raX L C T R F W U t),
              AV.int IntKind.i64 (raY L C T R F W U t)]),
        ((0 : Nat),
          AObj.cells (23 : Nat)
            [AV.int IntKind.i64 L, AV.int IntKind.i64 C, AV.int IntKind.i64 T, AV.int IntKind.i64 R,
              AV.int IntKind.i64 F, AV.int IntKind.i64 W, AV.int IntKind.i64 U])] })))) ∧
  ((decide (t < lenF L C T R F W U)) = false →
    Q (Exit.exit (0 : Nat)) (40 : Nat)
  [some (AV.ptr (0 : Nat) (0 : Nat)), some (AV.int IntKind.i64 p), some (AV.int IntKind.i64 a),
    some (AV.int IntKind.i64 b), some (AV.int IntKind.i64 t)]
  { nx := (1 : Nat),
    m :=
      [((0 : Nat),
          AObj.cells (23 : Nat)
            [AV.int IntKind.i64 L, AV.int IntKind.i64 C, AV.int IntKind.i64 T, AV.int IntKind.i64 R,
              AV.int IntKind.i64 F, AV.int IntKind.i64 W, AV.int IntKind.i64 U])] })
def rdc_scr : Plan := .b (.b (.z) (.b (.z) (.b (.z) (.z)))) (.z)
theorem rdc_vc (L C T R F W U p a b t : Int) (N : NS) (Q : QS) (K : Unit) : (wpP XRc2 (symC Try.prog (bodyOf Try.prog 33) []) 0 (loopAt Try.prog 33 0) 1 (rndS [1, 5, 6, 7, 8] N Q) (dcT L C T R F W U p a b t).1 (dcT L C T R F W U p a b t).2 rdc_scr) = rdc_VC L C T R F W U p a b t N Q K := by kernel_rfl
def fct_VC (L C T R F W U : Int) (K : AV → Prop) : Prop :=
  (!decide ((if C > (1 : Int) then C else (1 : Int)) = (0 : Int))) = true ∧
  (need ((0 : Nat) = (0 : Nat)) ∧
  (need (Fits (0 : Nat) [((0 : Nat), (0 : Nat))]
  { n := (43 : Nat),
    l :=
      [((13 : Nat), AV.int IntKind.i64 (0 : Int)),
        ((12 : Nat),
          AV.int IntKind.i64
            (IntKind.wrap IntKind.i64 (Int.tdiv (lenF L C T R F W U) (if C > (1 : Int) then C else (1 : Int))))),
        ((11 : Nat), AV.int IntKind.i64 (if C > (1 : Int) then C else (1 : Int))), ((10 : Nat), AV.int IntKind.i64 C),
        ((9 : Nat), AV.ptr (0 : Nat) (1 : Nat)), ((8 : Nat), AV.int IntKind.i64 (lenF L C T R F W U)),
        ((7 : Nat),
          AV.agg
            [AV.int IntKind.i64 L, AV.int IntKind.i64 C, AV.int IntKind.i64 T, AV.int IntKind.i64 R,
              AV.int IntKind.i64 F, AV.int IntKind.i64 W, AV.int IntKind.i64 U]),
        ((4 : Nat), AV.int IntKind.i64 (0 : Int)), ((3 : Nat), AV.int IntKind.i64 (0 : Int)),
        ((2 : Nat), AV.int IntKind.i64 (0 : Int)), ((1 : Nat), AV.ptr (0 : Nat) (0 : Nat)),
        ((0 : Nat),
          AV.agg
            [AV.int IntKind.i64 L, AV.int IntKind.i64 C, AV.int IntKind.i64 T, AV.int IntKind.i64 R,
              AV.int IntKind.i64 F, AV.int IntKind.i64 W, AV.int IntKind.i64 U])] }
  { nx := (1 : Nat),
    m :=
      [((0 : Nat),
          AObj.cells (23 : Nat)
            [AV.int IntKind.i64 L, AV.int IntKind.i64 C, AV.int IntKind.i64 T, AV.int IntKind.i64 R,
              AV.int IntKind.i64 F, AV.int IntKind.i64 W, AV.int IntKind.i64 U])] }
  { n := (43 : Nat),
    l :=
      [((1 : Nat), AV.ptr (0 : Nat) (0 : Nat)), ((2 : Nat), AV.int IntKind.i64 (0 : Int)),
        ((3 : Nat), AV.int IntKind.i64 (0 : Int)), ((4 : Nat), AV.int IntKind.i64 (0 : Int)),
        ((12 : Nat),
          AV.int IntKind.i64
            (IntKind.wrap IntKind.i64 (Int.tdiv (lenF L C T R F W U) (if C > (1 : Int) then C else (1 : Int))))),
        ((13 : Nat), AV.int IntKind.i64 (0 : Int))] }
  { nx := (1 : Nat),
    m :=
      [((0 : Nat),
          AObj.cells (23 : Nat)
            [AV.int IntKind.i64 L, AV.int IntKind.i64 C, AV.int IntKind.i64 T, AV.int IntKind.i64 R,
              AV.int IntKind.i64 F, AV.int IntKind.i64 W, AV.int IntKind.i64 U])] }) ∧
  (need (ouPre L C T R F W U
    (IntKind.wrap IntKind.i64 (Int.tdiv (lenF L C T R F W U) (if C > (1 : Int) then C else (1 : Int)))) =
  true) ∧
  (K
  (AV.tup
    [AV.int IntKind.i64
        (sumB L C T R F W U (1 : Int)
          (IntKind.wrap IntKind.i64 (Int.tdiv (lenF L C T R F W U) (if C > (1 : Int) then C else (1 : Int))))),
      AV.int IntKind.i64
        (sumB L C T R F W U (2 : Int)
          (IntKind.wrap IntKind.i64 (Int.tdiv (lenF L C T R F W U) (if C > (1 : Int) then C else (1 : Int))))),
      AV.int IntKind.i64
        (sumB L C T R F W U (3 : Int)
          (IntKind.wrap IntKind.i64 (Int.tdiv (lenF L C T R F W U) (if C > (1 : Int) then C else (1 : Int)))))])))))
def fct_scr : Plan := .t (.z)
theorem fct_vc (L C T R F W U : Int) (K : AV → Prop) : (funP (XRcO L C T R F W U) 32 [.agg [.int .i64 L, .int .i64 C, .int .i64 T, .int .i64 R, .int .i64 F, .int .i64 W, .int .i64 U]] h0 fct_scr (fun v _ _ => K v)) = fct_VC L C T R F W U K := by kernel_rfl
def fdc_VC (L C T R F W U : Int) (K : AV → Prop) : Prop :=
  need ((0 : Nat) = (0 : Nat)) ∧
  (need (Fits (0 : Nat) [((0 : Nat), (0 : Nat))]
  { n := (40 : Nat),
    l :=
      [((8 : Nat), AV.int IntKind.i64 (0 : Int)), ((7 : Nat), AV.int IntKind.i64 (0 : Int)),
        ((6 : Nat), AV.int IntKind.i64 (0 : Int)), ((5 : Nat), AV.int IntKind.i64 (0 : Int)),
        ((4 : Nat), AV.int IntKind.i64 (0 : Int)), ((3 : Nat), AV.int IntKind.i64 (0 : Int)),
        ((2 : Nat), AV.int IntKind.i64 (0 : Int)), ((1 : Nat), AV.ptr (0 : Nat) (0 : Nat)),
        ((0 : Nat),
          AV.agg
            [AV.int IntKind.i64 L, AV.int IntKind.i64 C, AV.int IntKind.i64 T, AV.int IntKind.i64 R,
              AV.int IntKind.i64 F, AV.int IntKind.i64 W, AV.int IntKind.i64 U])] }
  { nx := (1 : Nat),
    m :=
      [((0 : Nat),
          AObj.cells (23 : Nat)
            [AV.int IntKind.i64 L, AV.int IntKind.i64 C, AV.int IntKind.i64 T, AV.int IntKind.i64 R,
              AV.int IntKind.i64 F, AV.int IntKind.i64 W, AV.int IntKind.i64 U])] }
  { n := (40 : Nat),
    l :=
      [((1 : Nat), AV.ptr (0 : Nat) (0 : Nat)), ((5 : Nat), AV.int IntKind.i64 (0 : Int)),
        ((6 : Nat), AV.int IntKind.i64 (0 : Int)), ((7 : Nat), AV.int IntKind.i64 (0 : Int)),
        ((8 : Nat), AV.int IntKind.i64 (0 : Int))] }
  { nx := (1 : Nat),
    m :=
      [((0 : Nat),
          AObj.cells (23 : Nat)
            [AV.int IntKind.i64 L, AV.int IntKind.i64 C, AV.int IntKind.i64 T, AV.int IntKind.i64 R,
              AV.int IntKind.i64 F, AV.int IntKind.i64 W, AV.int IntKind.i64 U])] }) ∧
  (K
  (AV.tup
    [AV.int IntKind.i64 (sumR L C T R F W U (1 : Int) (lenF L C T R F W U)),
      AV.int IntKind.i64 (sumR L C T R F W U (2 : Int) (lenF L C T R F W U)),
      AV.int IntKind.i64 (sumR L C T R F W U (3 : Int) (lenF L C T R F W U))])))
def fdc_scr : Plan := .z
theorem fdc_vc (L C T R F W U : Int) (K : AV → Prop) : (funP (XRcD L C T R F W U) 33 [.agg [.int .i64 L, .int .i64 C, .int .i64 T, .int .i64 R, .int .i64 F, .int .i64 W, .int .i64 U]] h0 fdc_scr (fun v _ _ => K v)) = fdc_VC L C T R F W U K := by kernel_rfl
end Go.Proofs.Ytnfelncgeihihaa.V
