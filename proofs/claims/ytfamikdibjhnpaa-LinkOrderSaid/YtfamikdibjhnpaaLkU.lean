/- Printed by vc.py: what must hold for functions' ways (LkU). -/
import Derived.Test.YtfamikdibjhnpaaLkT
namespace Go.Proofs.Ytfamikdibjhnpaa.V
open Go Go.Proofs
set_option maxRecDepth 100000
set_option linter.unusedVariables false
def fa0_VC (n : Nat) (fr mk : Int) (en : Bool) (rc : List AV) (K : AV → AH → Prop) : Prop :=
  ((!decide ((↑n : Int) > (0 : Int))) = true →
    K AV.nilslice
  { nx := (2 : Nat),
    m :=
      [((1 : Nat),
          AObj.ro
            [AV.slice (0 : Nat) (0 : Nat) n (some n), AV.int IntKind.i64 fr, AV.int IntKind.i64 (0 : Int),
              AV.int IntKind.i64 mk, AV.bool en]),
        ((0 : Nat), AObj.ro rc)] }) ∧
  ((!decide ((↑n : Int) > (0 : Int))) = false →
    K AV.nilslice
  { nx := (2 : Nat),
    m :=
      [((1 : Nat),
          AObj.ro
            [AV.slice (0 : Nat) (0 : Nat) n (some n), AV.int IntKind.i64 fr, AV.int IntKind.i64 (0 : Int),
              AV.int IntKind.i64 mk, AV.bool en]),
        ((0 : Nat), AObj.ro rc)] })
def fa0_scr : Plan := .k (.k (.k (.k (.k (.k (.k (.b (.z) (.z))))))))
theorem fa0_vc (n : Nat) (fr mk : Int) (en : Bool) (rc : List AV) (K : AV → AH → Prop) : (funP (XAl []) 13 [.ptr 1 0] (aH0 n fr 0 mk en rc) fa0_scr (fun v σ _ => K v σ)) = fa0_VC n fr mk en rc K := by kernel_rfl
def fa1_VC (n : Nat) (fr mk : Int) (en : Bool) (rc : List AV) (c : Nat) (K : AV → AH → Prop) : Prop :=
  ((!decide ((↑n : Int) > (0 : Int))) = true →
    need ((2 : Nat) = (2 : Nat)) ∧
    (need (Fits (2 : Nat) [((0 : Nat), (0 : Nat)), ((1 : Nat), (1 : Nat))]
  { n := (33 : Nat),
    l :=
      [((7 : Nat), AV.int IntKind.i64 (0 : Int)), ((6 : Nat), AV.int IntKind.i64 (0 : Int)),
        ((5 : Nat), AV.ptr (1 : Nat) (0 : Nat)), ((3 : Nat), AV.nilslice), ((2 : Nat), AV.nilslice),
        ((0 : Nat), AV.ptr (1 : Nat) (0 : Nat))] }
  { nx := (2 : Nat),
    m :=
      [((1 : Nat),
          AObj.ro
            [AV.slice (0 : Nat) (0 : Nat) n (some n), AV.int IntKind.i64 fr, AV.int IntKind.i64 (↑c : Int),
              AV.int IntKind.i64 mk, AV.bool en]),
        ((0 : Nat), AObj.ro rc)] }
  { n := (33 : Nat),
    l :=
      [((0 : Nat), AV.ptr (1 : Nat) (0 : Nat)), ((3 : Nat), AV.nilslice), ((6 : Nat), AV.int IntKind.i64 (↑c : Int)),
        ((7 : Nat), AV.int IntKind.i64 (0 : Int))] }
  { nx := (2 : Nat),
    m :=
      [((1 : Nat),
          AObj.ro
            [AV.slice (0 : Nat) (0 : Nat) n (some n), AV.int IntKind.i64 fr, AV.int IntKind.i64 (↑c : Int),
              AV.int IntKind.i64 mk, AV.bool en]),
        ((0 : Nat), AObj.ro rc)] }) ∧
    (need (lnOk n n fr (↑c : Int) rc ∧ (0 : Nat) < c) ∧
    (K (AV.slice (2 : Nat) (0 : Nat) c none)
  { nx := (3 : Nat),
    m :=
      [((2 : Nat), AObj.opn (33 : Nat) (7 : Nat) (allR n fr rc c)),
        ((1 : Nat),
          AObj.ro
            [AV.slice (0 : Nat) (0 : Nat) n (some n), AV.int IntKind.i64 fr, AV.int IntKind.i64 (↑c : Int),
              AV.int IntKind.i64 mk, AV.bool en]),
        ((0 : Nat), AObj.ro rc)] })))) ∧
  ((!decide ((↑n : Int) > (0 : Int))) = false →
    need ((2 : Nat) = (2 : Nat)) ∧
    (need (Fits (2 : Nat) [((0 : Nat), (0 : Nat)), ((1 : Nat), (1 : Nat))]
  { n := (33 : Nat),
    l :=
      [((7 : Nat), AV.int IntKind.i64 (0 : Int)), ((6 : Nat), AV.int IntKind.i64 (↑c : Int)),
        ((5 : Nat), AV.ptr (1 : Nat) (0 : Nat)), ((3 : Nat), AV.nilslice), ((2 : Nat), AV.nilslice),
        ((0 : Nat), AV.ptr (1 : Nat) (0 : Nat))] }
  { nx := (2 : Nat),
    m :=
      [((1 : Nat),
          AObj.ro
            [AV.slice (0 : Nat) (0 : Nat) n (some n), AV.int IntKind.i64 fr, AV.int IntKind.i64 (↑c : Int),
              AV.int IntKind.i64 mk, AV.bool en]),
        ((0 : Nat), AObj.ro rc)] }
  { n := (33 : Nat),
    l :=
      [((0 : Nat), AV.ptr (1 : Nat) (0 : Nat)), ((3 : Nat), AV.nilslice), ((6 : Nat), AV.int IntKind.i64 (↑c : Int)),
        ((7 : Nat), AV.int IntKind.i64 (0 : Int))] }
  { nx := (2 : Nat),
    m :=
      [((1 : Nat),
          AObj.ro
            [AV.slice (0 : Nat) (0 : Nat) n (some n), AV.int IntKind.i64 fr, AV.int IntKind.i64 (↑c : Int),
              AV.int IntKind.i64 mk, AV.bool en]),
        ((0 : Nat), AObj.ro rc)] }) ∧
    (need (lnOk n n fr (↑c : Int) rc ∧ (0 : Nat) < c) ∧
    (K (AV.slice (2 : Nat) (0 : Nat) c none)
  { nx := (3 : Nat),
    m :=
      [((2 : Nat), AObj.opn (33 : Nat) (7 : Nat) (allR n fr rc c)),
        ((1 : Nat),
          AObj.ro
            [AV.slice (0 : Nat) (0 : Nat) n (some n), AV.int IntKind.i64 fr, AV.int IntKind.i64 (↑c : Int),
              AV.int IntKind.i64 mk, AV.bool en]),
        ((0 : Nat), AObj.ro rc)] }))))
def fa1_scr : Plan := .k (.k (.k (.k (.k (.k (.k (.b (.z) (.z))))))))
theorem fa1_vc (n : Nat) (fr mk : Int) (en : Bool) (rc : List AV) (c : Nat) (K : AV → AH → Prop) : (funP (XAl [(0, LAll n fr mk en rc c)]) 13 [.ptr 1 0] (aH0 n fr (c : Int) mk en rc) fa1_scr (fun v σ _ => K v σ)) = fa1_VC n fr mk en rc c K := by kernel_rfl
def fmN_VC (b : Bool) (K : AV → AH → Prop) : Prop :=
  K (AV.bool true) { nx := (0 : Nat), m := [] }
def fmN_scr : Plan := .z
theorem fmN_vc (b : Bool) (K : AV → AH → Prop) : (funP (XAl []) 12 [.nilslice, .nilslice] h0 fmN_scr (fun v σ _ => K v σ)) = fmN_VC b K := by kernel_rfl
def fmE_VC (o : Nat) (lb : List AV) (K : AV → AH → Prop) : Prop :=
  K (AV.bool true) { nx := (1 : Nat), m := [((0 : Nat), AObj.ro lb)] }
def fmE_scr : Plan := .z
theorem fmE_vc (o : Nat) (lb : List AV) (K : AV → AH → Prop) : (funP (XAl []) 12 [.nilslice, .slice 0 o 0 none] ⟨1, [(0, .ro lb)]⟩ fmE_scr (fun v σ _ => K v σ)) = fmE_VC o lb K := by kernel_rfl
def fmS_VC (la lb : List AV) (m off : Nat) (K : AV → AH → Prop) : Prop :=
  ((!decide ((↑m : Int) = (↑m : Int))) = true →
    K (AV.bool false) { nx := (2 : Nat), m := [((1 : Nat), AObj.ro lb), ((0 : Nat), AObj.ro la)] }) ∧
  ((!decide ((↑m : Int) = (↑m : Int))) = false →
    need ((2 : Nat) = (2 : Nat)) ∧
    (need (Fits (2 : Nat) [((0 : Nat), (0 : Nat)), ((1 : Nat), (1 : Nat))]
  { n := (26 : Nat),
    l :=
      [((5 : Nat), AV.int IntKind.i64 (0 : Int)), ((10 : Nat), AV.bool !decide ((↑m : Int) = (↑m : Int))),
        ((9 : Nat), AV.int IntKind.i64 (↑m : Int)), ((8 : Nat), AV.slice (1 : Nat) off m none),
        ((7 : Nat), AV.int IntKind.i64 (↑m : Int)), ((6 : Nat), AV.slice (0 : Nat) (0 : Nat) m none),
        ((4 : Nat), AV.bool false), ((0 : Nat), AV.slice (0 : Nat) (0 : Nat) m none),
        ((1 : Nat), AV.slice (1 : Nat) off m none)] }
  { nx := (2 : Nat), m := [((1 : Nat), AObj.ro lb), ((0 : Nat), AObj.ro la)] }
  { n := (26 : Nat),
    l :=
      [((0 : Nat), AV.slice (0 : Nat) (0 : Nat) m none), ((1 : Nat), AV.slice (1 : Nat) off m none),
        ((5 : Nat), AV.int IntKind.i64 (0 : Int))] }
  { nx := (2 : Nat), m := [((1 : Nat), AObj.ro lb), ((0 : Nat), AObj.ro la)] }) ∧
    (need (msOk la lb m m off) ∧
    (K (AV.bool true) { nx := (2 : Nat), m := [] }))))
def fmS_scr : Plan := .b (.z) (.z)
theorem fmS_vc (la lb : List AV) (m off : Nat) (K : AV → AH → Prop) : (funP (XAl [(0, LMsgs la lb m off)]) 12 [.slice 0 0 m none, .slice 1 off m none] (mHp la lb) fmS_scr (fun v σ _ => K v σ)) = fmS_VC la lb m off K := by kernel_rfl
end Go.Proofs.Ytfamikdibjhnpaa.V
