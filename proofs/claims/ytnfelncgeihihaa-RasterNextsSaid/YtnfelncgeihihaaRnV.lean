/- Printed by vc.py: what must hold for functions' ways (RnV). -/
import Derived.Test.YtnfelncgeihihaaRnA
namespace Go.Proofs.Ytnfelncgeihihaa.V
open Go Go.Proofs
set_option maxRecDepth 100000
set_option linter.unusedVariables false
def nxR_VC (L C T R F W U t : Int) (N : NS) (Q : QS) (K : Unit) : Prop :=
  ((decide (t ≤ (1099511627776 : Int))) = true →
    ((!decide (atE L C T R F W U t = (0 : Int))) = true →
      Q Exit.ret (30 : Nat)
  [some (AV.int IntKind.i64 t), some (AV.ptr (0 : Nat) (0 : Nat)), some (AV.int IntKind.i64 (0 : Int)),
    some (AV.ptr (1 : Nat) (0 : Nat)), some (AV.bool false)]
  { nx := (3 : Nat),
    m :=
      [((2 : Nat),
          AObj.cells (41 : Nat)
            [AV.int IntKind.i64 (atD L C T R F W U t), AV.int IntKind.i64 (atX L C T R F W U t),
              AV.int IntKind.i64 (atY L C T R F W U t)]),
        ((1 : Nat),
          AObj.cells (41 : Nat)
            [AV.int IntKind.i64 (0 : Int), AV.int IntKind.i64 (0 : Int), AV.int IntKind.i64 (0 : Int)]),
        ((0 : Nat),
          AObj.cells (23 : Nat)
            [AV.int IntKind.i64 L, AV.int IntKind.i64 C, AV.int IntKind.i64 T, AV.int IntKind.i64 R,
              AV.int IntKind.i64 F, AV.int IntKind.i64 W, AV.int IntKind.i64 U])] }) ∧
    ((!decide (atE L C T R F W U t = (0 : Int))) = false →
      ((!decide (atD L C T R F W U t = (0 : Int))) = true →
        Q Exit.ret (30 : Nat)
  [some (AV.int IntKind.i64 t), some (AV.ptr (0 : Nat) (0 : Nat)), some (AV.int IntKind.i64 t),
    some (AV.ptr (1 : Nat) (0 : Nat)), some (AV.bool true)]
  { nx := (3 : Nat),
    m :=
      [((1 : Nat),
          AObj.cells (41 : Nat)
            [AV.int IntKind.i64 (atD L C T R F W U t), AV.int IntKind.i64 (atX L C T R F W U t),
              AV.int IntKind.i64 (atY L C T R F W U t)]),
        ((2 : Nat),
          AObj.cells (41 : Nat)
            [AV.int IntKind.i64 (atD L C T R F W U t), AV.int IntKind.i64 (atX L C T R F W U t),
              AV.int IntKind.i64 (atY L C T R F W U t)]),
        ((0 : Nat),
          AObj.cells (23 : Nat)
            [AV.int IntKind.i64 L, AV.int IntKind.i64 C, AV.int IntKind.i64 T, AV.int IntKind.i64 R,
              AV.int IntKind.i64 F, AV.int IntKind.i64 W, AV.int IntKind.i64 U])] }) ∧
      ((!decide (atD L C T R F W U t = (0 : Int))) = false →
        N (30 : Nat)
  [some (AV.int IntKind.i64 (IntKind.wrap IntKind.i64 (t + (1 : Int)))), some (AV.ptr (0 : Nat) (0 : Nat)), none,
    some (AV.ptr (1 : Nat) (0 : Nat)), none]
  { nx := (3 : Nat),
    m :=
      [((2 : Nat),
          AObj.cells (41 : Nat)
            [AV.int IntKind.i64 (atD L C T R F W U t), AV.int IntKind.i64 (atX L C T R F W U t),
              AV.int IntKind.i64 (atY L C T R F W U t)]),
        ((1 : Nat),
          AObj.cells (41 : Nat)
            [AV.int IntKind.i64 (0 : Int), AV.int IntKind.i64 (0 : Int), AV.int IntKind.i64 (0 : Int)]),
        ((0 : Nat),
          AObj.cells (23 : Nat)
            [AV.int IntKind.i64 L, AV.int IntKind.i64 C, AV.int IntKind.i64 T, AV.int IntKind.i64 R,
              AV.int IntKind.i64 F, AV.int IntKind.i64 W, AV.int IntKind.i64 U])] }))) ∧
  ((decide (t ≤ (1099511627776 : Int))) = false →
    Q (Exit.exit (0 : Nat)) (30 : Nat)
  [some (AV.int IntKind.i64 t), some (AV.ptr (0 : Nat) (0 : Nat)), none, some (AV.ptr (1 : Nat) (0 : Nat)), none]
  { nx := (2 : Nat),
    m :=
      [((1 : Nat),
          AObj.cells (41 : Nat)
            [AV.int IntKind.i64 (0 : Int), AV.int IntKind.i64 (0 : Int), AV.int IntKind.i64 (0 : Int)]),
        ((0 : Nat),
          AObj.cells (23 : Nat)
            [AV.int IntKind.i64 L, AV.int IntKind.i64 C, AV.int IntKind.i64 T, AV.int IntKind.i64 R,
              AV.int IntKind.i64 F, AV.int IntKind.i64 W, AV.int IntKind.i64 U])] })
def nxR_scr : Plan := .b (.b (.z) (.b (.z) (.z))) (.z)
theorem nxR_vc (L C T R F W U t : Int) (N : NS) (Q : QS) (K : Unit) : (wpP XRn (symC Try.prog (bodyOf Try.prog 31) []) 0 (loopAt Try.prog 31 0) 0 (rndS [1, 2, 4, 5, 6] N Q) (nxT L C T R F W U t).1 (nxT L C T R F W U t).2 nxR_scr) = nxR_VC L C T R F W U t N Q K := by kernel_rfl
def nx_VC (L C T R F W U t u : Int) (K : AV → Prop) : Prop :=
  need ((0 : Nat) = (0 : Nat)) ∧
  (need (Fits (0 : Nat) [((0 : Nat), (0 : Nat)), ((1 : Nat), (1 : Nat))]
  { n := (30 : Nat),
    l :=
      [((1 : Nat), AV.int IntKind.i64 (if t > (0 : Int) then t else (0 : Int))),
        ((10 : Nat), AV.int IntKind.i64 (if t > (0 : Int) then t else (0 : Int))), ((9 : Nat), AV.int IntKind.i64 t),
        ((6 : Nat), AV.bool false), ((5 : Nat), AV.ptr (1 : Nat) (0 : Nat)), ((4 : Nat), AV.int IntKind.i64 (0 : Int)),
        ((2 : Nat), AV.ptr (0 : Nat) (0 : Nat)),
        ((0 : Nat),
          AV.agg
            [AV.int IntKind.i64 L, AV.int IntKind.i64 C, AV.int IntKind.i64 T, AV.int IntKind.i64 R,
              AV.int IntKind.i64 F, AV.int IntKind.i64 W, AV.int IntKind.i64 U]),
        ((1 : Nat), AV.int IntKind.i64 t)] }
  { nx := (2 : Nat),
    m :=
      [((1 : Nat),
          AObj.cells (41 : Nat)
            [AV.int IntKind.i64 (0 : Int), AV.int IntKind.i64 (0 : Int), AV.int IntKind.i64 (0 : Int)]),
        ((0 : Nat),
          AObj.cells (23 : Nat)
            [AV.int IntKind.i64 L, AV.int IntKind.i64 C, AV.int IntKind.i64 T, AV.int IntKind.i64 R,
              AV.int IntKind.i64 F, AV.int IntKind.i64 W, AV.int IntKind.i64 U])] }
  { n := (30 : Nat),
    l :=
      [((1 : Nat), AV.int IntKind.i64 u), ((2 : Nat), AV.ptr (0 : Nat) (0 : Nat)),
        ((5 : Nat), AV.ptr (1 : Nat) (0 : Nat))] }
  { nx := (2 : Nat),
    m :=
      [((1 : Nat),
          AObj.cells (41 : Nat)
            [AV.int IntKind.i64 (0 : Int), AV.int IntKind.i64 (0 : Int), AV.int IntKind.i64 (0 : Int)]),
        ((0 : Nat),
          AObj.cells (23 : Nat)
            [AV.int IntKind.i64 L, AV.int IntKind.i64 C, AV.int IntKind.i64 T, AV.int IntKind.i64 R,
              AV.int IntKind.i64 F, AV.int IntKind.i64 W, AV.int IntKind.i64 U])] }) ∧
  (need (nxPre L C T R F W U u = true) ∧
  (K
  (AV.tup
    [AV.int IntKind.i64 (nxtN L C T R F W U u),
      AV.agg
        [AV.int IntKind.i64 (atD L C T R F W U (nxtN L C T R F W U u)),
          AV.int IntKind.i64 (atX L C T R F W U (nxtN L C T R F W U u)),
          AV.int IntKind.i64 (atY L C T R F W U (nxtN L C T R F W U u))],
      AV.bool true]))))
def nx_scr : Plan := .z
theorem nx_vc (L C T R F W U t u : Int) (K : AV → Prop) : (funP (XNx L C T R F W U u) 31 [.agg [.int .i64 L, .int .i64 C, .int .i64 T, .int .i64 R, .int .i64 F, .int .i64 W, .int .i64 U], .int .i64 t] h0 nx_scr (fun v _ _ => K v)) = nx_VC L C T R F W U t u K := by kernel_rfl
end Go.Proofs.Ytnfelncgeihihaa.V
