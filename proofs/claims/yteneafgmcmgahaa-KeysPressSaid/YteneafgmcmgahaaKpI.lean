/- Printed by vc.py: what must hold for functions' ways (KpI). -/
import Derived.Test.YteneafgmcmgahaaKpH
namespace Go.Proofs.Yteneafgmcmgahaa.V
open Go Go.Proofs
set_option maxRecDepth 100000
set_option linter.unusedVariables false
def ts_VC (l : List Tc) (K : AV → AH → Prop) : Prop :=
  ((!decide ((↑(List.length l) : Int) = (↑(List.length l) : Int))) = true →
    K (AV.bool false) { nx := (2 : Nat), m := [((1 : Nat), AObj.ro (tcs l)), ((0 : Nat), AObj.ro (tcs l))] }) ∧
  ((!decide ((↑(List.length l) : Int) = (↑(List.length l) : Int))) = false →
    need ((2 : Nat) = (2 : Nat)) ∧
    (need (Fits (2 : Nat) [((0 : Nat), (0 : Nat)), ((1 : Nat), (1 : Nat))]
  { n := (26 : Nat),
    l :=
      [((5 : Nat), AV.int IntKind.i64 (0 : Int)),
        ((10 : Nat), AV.bool !decide ((↑(List.length l) : Int) = (↑(List.length l) : Int))),
        ((9 : Nat), AV.int IntKind.i64 (↑(List.length l) : Int)),
        ((8 : Nat), AV.slice (1 : Nat) (0 : Nat) (List.length l) none),
        ((7 : Nat), AV.int IntKind.i64 (↑(List.length l) : Int)),
        ((6 : Nat), AV.slice (0 : Nat) (0 : Nat) (List.length l) none), ((4 : Nat), AV.bool false),
        ((0 : Nat), AV.slice (0 : Nat) (0 : Nat) (List.length l) none),
        ((1 : Nat), AV.slice (1 : Nat) (0 : Nat) (List.length l) none)] }
  { nx := (2 : Nat), m := [((1 : Nat), AObj.ro (tcs l)), ((0 : Nat), AObj.ro (tcs l))] }
  { n := (26 : Nat),
    l :=
      [((0 : Nat), AV.slice (0 : Nat) (0 : Nat) (List.length l) none),
        ((1 : Nat), AV.slice (1 : Nat) (0 : Nat) (List.length l) none), ((5 : Nat), AV.int IntKind.i64 (0 : Int))] }
  { nx := (2 : Nat), m := [((1 : Nat), AObj.ro (tcs l)), ((0 : Nat), AObj.ro (tcs l))] }) ∧
    (need (List.length l ≤ (1000 : Nat)) ∧
    (K (AV.bool true) { nx := (2 : Nat), m := [((1 : Nat), AObj.ro (tcs l)), ((0 : Nat), AObj.ro (tcs l))] }))))
def ts_scr : Plan := .b (.z) (.z)
theorem ts_vc (l : List Tc) (K : AV → AH → Prop) : (funP (XTt l) 8 [.slice 0 0 l.length none, .slice 1 0 l.length none] (tHp (tcs l)) ts_scr (fun v σ _ => K v σ)) = ts_VC l K := by kernel_rfl
def ts0_VC (u : Unit) (K : AV → AH → Prop) : Prop :=
  K (AV.bool true) { nx := (0 : Nat), m := [] }
def ts0_scr : Plan := .z
theorem ts0_vc (u : Unit) (K : AV → AH → Prop) : (funP (XK1) 8 [.nilslice, .nilslice] h0 ts0_scr (fun v σ _ => K v σ)) = ts0_VC u K := by kernel_rfl
end Go.Proofs.Yteneafgmcmgahaa.V
