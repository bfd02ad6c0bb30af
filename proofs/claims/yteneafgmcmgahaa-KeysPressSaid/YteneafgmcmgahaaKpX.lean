/- Printed by vc.py: what must hold for functions' ways (KpX). -/
import Derived.Test.YteneafgmcmgahaaKpB
namespace Go.Proofs.Yteneafgmcmgahaa.V
open Go Go.Proofs
set_option maxRecDepth 100000
set_option linter.unusedVariables false
def ck_VC (l : List Tc) (K : AV → AH → Prop) : Prop :=
  ((decide ((↑(List.length l) : Int) > (65536 : Int))) = true →
    K (AV.int IntKind.i64 (3 : Int)) { nx := (1 : Nat), m := [((0 : Nat), AObj.ro (tcs l))] }) ∧
  ((decide ((↑(List.length l) : Int) > (65536 : Int))) = false →
    need ((1 : Nat) = (1 : Nat)) ∧
    (need (Fits (1 : Nat) [((0 : Nat), (0 : Nat))]
  { n := (34 : Nat),
    l :=
      [((10 : Nat), AV.int IntKind.i64 (0 : Int)), ((9 : Nat), AV.int IntKind.i64 (↑(List.length l) : Int)),
        ((8 : Nat), AV.slice (0 : Nat) (0 : Nat) (List.length l) none),
        ((7 : Nat), AV.bool (decide ((↑(List.length l) : Int) > (65536 : Int)))),
        ((6 : Nat), AV.int IntKind.i64 (↑(List.length l) : Int)),
        ((5 : Nat), AV.slice (0 : Nat) (0 : Nat) (List.length l) none), ((2 : Nat), AV.int IntKind.i64 (0 : Int)),
        ((0 : Nat), AV.slice (0 : Nat) (0 : Nat) (List.length l) none)] }
  { nx := (1 : Nat), m := [((0 : Nat), AObj.ro (tcs l))] }
  { n := (34 : Nat),
    l :=
      [((0 : Nat), AV.slice (0 : Nat) (0 : Nat) (List.length l) none),
        ((8 : Nat), AV.slice (0 : Nat) (0 : Nat) (List.length l) none),
        ((9 : Nat), AV.int IntKind.i64 (↑(List.length l) : Int)), ((10 : Nat), AV.int IntKind.i64 (0 : Int))] }
  { nx := (1 : Nat), m := [((0 : Nat), AObj.ro (tcs l))] }) ∧
    (need (List.length l ≤ (1000 : Nat)) ∧
    (((okTo l (List.length l)) = true →
      K (AV.int IntKind.i64 (0 : Int)) { nx := (1 : Nat), m := [((0 : Nat), AObj.ro (tcs l))] }) ∧
    ((okTo l (List.length l)) = false →
      K (AV.int IntKind.i64 (2 : Int)) { nx := (1 : Nat), m := [((0 : Nat), AObj.ro (tcs l))] })))))
def ck_scr : Plan := .b (.z) (.b (.z) (.z))
theorem ck_vc (l : List Tc) (K : AV → AH → Prop) : (funP (XC l) 16 [.slice 0 0 l.length none] (hT l) ck_scr (fun v σ _ => K v σ)) = ck_VC l K := by kernel_rfl
def rk_VC (l : List Tc) (K : AV → AH → Prop) : Prop :=
  ((decide ((↑(List.length l) : Int) > (65536 : Int))) = true →
    K (AV.int IntKind.i64 (3 : Int)) { nx := (1 : Nat), m := [((0 : Nat), AObj.ro (tcs l))] }) ∧
  ((decide ((↑(List.length l) : Int) > (65536 : Int))) = false →
    need ((1 : Nat) = (1 : Nat)) ∧
    (need (Fits (1 : Nat) [((0 : Nat), (0 : Nat))]
  { n := (65 : Nat),
    l :=
      [((3 : Nat), AV.int IntKind.i64 (0 : Int)),
        ((8 : Nat), AV.bool (decide ((↑(List.length l) : Int) > (65536 : Int)))),
        ((7 : Nat), AV.int IntKind.i64 (↑(List.length l) : Int)),
        ((6 : Nat), AV.slice (0 : Nat) (0 : Nat) (List.length l) none), ((2 : Nat), AV.int IntKind.i64 (0 : Int)),
        ((0 : Nat), AV.slice (0 : Nat) (0 : Nat) (List.length l) none)] }
  { nx := (1 : Nat), m := [((0 : Nat), AObj.ro (tcs l))] }
  { n := (65 : Nat),
    l := [((0 : Nat), AV.slice (0 : Nat) (0 : Nat) (List.length l) none), ((3 : Nat), AV.int IntKind.i64 (0 : Int))] }
  { nx := (1 : Nat), m := [((0 : Nat), AObj.ro (tcs l))] }) ∧
    (need (List.length l ≤ (1000 : Nat)) ∧
    (((okTo l (List.length l)) = true →
      K (AV.int IntKind.i64 (0 : Int)) { nx := (1 : Nat), m := [((0 : Nat), AObj.ro (tcs l))] }) ∧
    ((okTo l (List.length l)) = false →
      K (AV.int IntKind.i64 (2 : Int)) { nx := (1 : Nat), m := [((0 : Nat), AObj.ro (tcs l))] })))))
def rk_scr : Plan := .b (.z) (.b (.z) (.z))
theorem rk_vc (l : List Tc) (K : AV → AH → Prop) : (funP (XR l) 17 [.slice 0 0 l.length none] (hT l) rk_scr (fun v σ _ => K v σ)) = rk_VC l K := by kernel_rfl
end Go.Proofs.Yteneafgmcmgahaa.V
