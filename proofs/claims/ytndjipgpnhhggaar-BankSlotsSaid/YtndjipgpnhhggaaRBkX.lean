/- Printed by vc.py: what must hold for functions' ways (BkX). -/
import Derived.Test.YtndjipgpnhhggaaRBkC
namespace Go.Proofs.YtndjipgpnhhggaaR.V
open Go Go.Proofs
set_option maxRecDepth 100000
set_option linter.unusedVariables false
def bsN_VC (a b : Int) (K : AV → Prop) : Prop :=
  K (AV.bool true)
def bsN_scr : Plan := .z
theorem bsN_vc (a b : Int) (K : AV → Prop) : (funP (XBk2) 3 [.agg [.int .u8 a, .int .u8 b], .nilslice] h0 bsN_scr (fun v _ _ => K v)) = bsN_VC a b K := by kernel_rfl
def bsE_VC (a b : Int) (K : AV → Prop) : Prop :=
  K (AV.bool true)
def bsE_scr : Plan := .z
theorem bsE_vc (a b : Int) (K : AV → Prop) : (funP (XBk2) 3 [.agg [.int .u8 a, .int .u8 b], .slice 0 0 0 none] h0 bsE_scr (fun v _ _ => K v)) = bsE_VC a b K := by kernel_rfl
def bs_VC (a b : Int) (n c : Nat) (ns : List Int) (K : AV → AH → Prop) : Prop :=
  ((decide ((↑n : Int) > (60 : Int))) = true →
    K (AV.bool true)
  { nx := (2 : Nat),
    m :=
      [((1 : Nat), AObj.cells (23 : Nat) [AV.int IntKind.u8 a, AV.int IntKind.u8 b]), ((0 : Nat), AObj.ro (enc8 ns))] }) ∧
  ((decide ((↑n : Int) > (60 : Int))) = false →
    need ((1 : Nat) = (1 : Nat)) ∧
    (need (Fits (1 : Nat) [((0 : Nat), (0 : Nat)), ((1 : Nat), (1 : Nat))]
  { n := (127 : Nat),
    l :=
      [((5 : Nat), AV.int IntKind.i64 (0 : Int)), ((14 : Nat), AV.bool (decide ((↑n : Int) > (60 : Int)))),
        ((13 : Nat), AV.int IntKind.i64 (↑n : Int)), ((12 : Nat), AV.slice (0 : Nat) (0 : Nat) n (some c)),
        ((11 : Nat), AV.bool false), ((10 : Nat), AV.bool true), ((4 : Nat), AV.bool false),
        ((2 : Nat), AV.ptr (1 : Nat) (0 : Nat)), ((0 : Nat), AV.agg [AV.int IntKind.u8 a, AV.int IntKind.u8 b]),
        ((1 : Nat), AV.slice (0 : Nat) (0 : Nat) n (some c))] }
  { nx := (2 : Nat),
    m :=
      [((1 : Nat), AObj.cells (23 : Nat) [AV.int IntKind.u8 a, AV.int IntKind.u8 b]), ((0 : Nat), AObj.ro (enc8 ns))] }
  { n := (127 : Nat),
    l :=
      [((1 : Nat), AV.slice (0 : Nat) (0 : Nat) n (some c)), ((2 : Nat), AV.ptr (1 : Nat) (0 : Nat)),
        ((5 : Nat), AV.int IntKind.i64 (0 : Int))] }
  { nx := (2 : Nat),
    m :=
      [((1 : Nat), AObj.cells (23 : Nat) [AV.int IntKind.u8 a, AV.int IntKind.u8 b]), ((0 : Nat), AObj.ro (enc8 ns))] }) ∧
    (need (bkPre a b n ns = true) ∧
    (K (AV.bool true) { nx := (1 : Nat), m := [((0 : Nat), AObj.ro (enc8 ns))] }))))
def bs_scr : Plan := .k (.b (.z) (.z))
theorem bs_vc (a b : Int) (n c : Nat) (ns : List Int) (K : AV → AH → Prop) : (funP (XBs a b n c ns) 3 [.agg [.int .u8 a, .int .u8 b], .slice 0 0 n (some c)] ⟨1, [(0, .ro (enc8 ns))]⟩ bs_scr (fun v σ _ => K v σ)) = bs_VC a b n c ns K := by kernel_rfl
end Go.Proofs.YtndjipgpnhhggaaR.V
