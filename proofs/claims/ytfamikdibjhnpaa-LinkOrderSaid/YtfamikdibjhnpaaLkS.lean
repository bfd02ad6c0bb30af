/- Printed by vc.py: what must hold for functions' ways (LkS). -/
import Derived.Test.YtfamikdibjhnpaaLkR
namespace Go.Proofs.Ytfamikdibjhnpaa.V
open Go Go.Proofs
set_option maxRecDepth 100000
set_option linter.unusedVariables false
def tNN_VC (n0 n : Nat) (fr mk : Int) (en : Bool) (rc lc : List AV) (a1 : AObj) (a4 a5 : AObj) (N : NS) (Q : QS) (K : Unit) : Prop :=
  (lnB n n fr rc (0 : Nat)) = true ∧
  (Q Exit.ret (162 : Nat) [some (AV.bool true)]
  { nx := (6 : Nat),
    m :=
      [((3 : Nat),
          AObj.cells (42 : Nat)
            [AV.slice (2 : Nat) (0 : Nat) n (some n), AV.int IntKind.i64 fr, AV.int IntKind.i64 (0 : Int),
              AV.int IntKind.i64 mk, AV.bool en]),
        ((2 : Nat), AObj.cells (33 : Nat) rc), ((0 : Nat), AObj.ro lc), ((1 : Nat), a1), ((4 : Nat), a4),
        ((5 : Nat), a5)] })
def tNN_scr : Plan := .k (.k (.k (.t (.z))))
theorem tNN_vc (n0 n : Nat) (fr mk : Int) (en : Bool) (rc lc : List AV) (a1 : AObj) (a4 a5 : AObj) (N : NS) (Q : QS) (K : Unit) : (wpPQ lkG XTl lkSy n0 lkTail 0 (rndS [6] N Q) (frT .nilslice .nilslice) (hpR n fr (Int.ofNat 0) mk en rc lc a1 a4 a5) tNN_scr) = tNN_VC n0 n fr mk en rc lc a1 a4 a5 N Q K := by kernel_rfl
def tSN_VC (n0 n : Nat) (fr mk : Int) (en : Bool) (rc lc : List AV) (a1 : AObj) (a5 : AObj) (ni c : Nat) (ic : List AV) (N : NS) (Q : QS) (K : Unit) : Prop :=
  (decide ((0 : Nat) < ni)) = true ∧
  ((msE ic (0 : Nat)) = true ∧
  ((lnB n n fr rc (c + (1 : Nat))) = true ∧
  ((decide ((0 : Nat) < ni)) = true ∧
  ((decide (ni ≤ ni)) = true ∧
  ((msB (allR n fr rc (c + (1 : Nat))) ic (c + (1 : Nat)) (ni - (0 : Nat)) (0 : Nat)) = true ∧
  (Q Exit.ret (162 : Nat) [some (AV.bool true)]
  { nx := (7 : Nat),
    m :=
      [((4 : Nat), AObj.opn (33 : Nat) (7 : Nat) ic),
        ((6 : Nat), AObj.opn (33 : Nat) (7 : Nat) (allR n fr rc (c + (1 : Nat)))),
        ((3 : Nat),
          AObj.cells (42 : Nat)
            [AV.slice (2 : Nat) (0 : Nat) n (some n), AV.int IntKind.i64 fr,
              AV.int IntKind.i64 (Int.ofNat (Nat.succ c)), AV.int IntKind.i64 mk, AV.bool en]),
        ((2 : Nat), AObj.cells (33 : Nat) rc), ((0 : Nat), AObj.ro lc), ((1 : Nat), a1), ((5 : Nat), a5)] }))))))
def tSN_scr : Plan := .t (.k (.k (.t (.k (.k (.k (.t (.k (.k (.k (.k (.t (.k (.t (.k (.k (.k (.k (.t (.z))))))))))))))))))))
theorem tSN_vc (n0 n : Nat) (fr mk : Int) (en : Bool) (rc lc : List AV) (a1 : AObj) (a5 : AObj) (ni c : Nat) (ic : List AV) (N : NS) (Q : QS) (K : Unit) : (wpPQ lkG XTl lkSy n0 lkTail 0 (rndS [6] N Q) (frT (.slice 4 0 ni none) .nilslice) (hpR n fr (Int.ofNat (Nat.succ c)) mk en rc lc a1 (.opn 33 7 ic) a5) tSN_scr) = tSN_VC n0 n fr mk en rc lc a1 a5 ni c ic N Q K := by kernel_rfl
def tS0_VC (n0 n : Nat) (fr mk : Int) (en : Bool) (rc lc : List AV) (a1 : AObj) (ni no : Nat) (ic oc : List AV) (N : NS) (Q : QS) (K : Unit) : Prop :=
  (decide ((0 : Nat) < ni)) = true ∧
  ((decide ((0 : Int) ≤ (↑no : Int) ∧ (↑no : Int) ≤ (↑ni : Int))) = true ∧
  ((msB oc ic no (Int.toNat (↑no : Int) - (0 : Nat)) (0 : Nat)) = true ∧
  ((lnB n n fr rc (0 : Nat)) = true ∧
  ((decide ((0 : Nat) < ni)) = true ∧
  ((decide ((0 : Int) ≤ (↑no : Int) ∧ (↑no : Int) ≤ (↑ni : Int))) = true ∧
  ((decide (ni ≤ ni)) = true ∧
  ((msE ic (ni - Int.toNat (↑no : Int))) = true ∧
  (Q Exit.ret (162 : Nat) [some (AV.bool true)]
  { nx := (6 : Nat),
    m :=
      [((4 : Nat), AObj.opn (33 : Nat) (7 : Nat) ic),
        ((3 : Nat),
          AObj.cells (42 : Nat)
            [AV.slice (2 : Nat) (0 : Nat) n (some n), AV.int IntKind.i64 fr, AV.int IntKind.i64 (0 : Int),
              AV.int IntKind.i64 mk, AV.bool en]),
        ((2 : Nat), AObj.cells (33 : Nat) rc), ((0 : Nat), AObj.ro lc), ((1 : Nat), a1),
        ((5 : Nat), AObj.opn (33 : Nat) (7 : Nat) oc)] }))))))))
def tS0_scr : Plan := .t (.t (.k (.k (.k (.t (.k (.k (.k (.t (.k (.k (.k (.k (.t (.t (.t (.k (.k (.t (.z))))))))))))))))))))
theorem tS0_vc (n0 n : Nat) (fr mk : Int) (en : Bool) (rc lc : List AV) (a1 : AObj) (ni no : Nat) (ic oc : List AV) (N : NS) (Q : QS) (K : Unit) : (wpPQ lkG XTl lkSy n0 lkTail 0 (rndS [6] N Q) (frT (.slice 4 0 ni none) (.slice 5 0 no none)) (hpR n fr (Int.ofNat 0) mk en rc lc a1 (.opn 33 7 ic) (.opn 33 7 oc)) tS0_scr) = tS0_VC n0 n fr mk en rc lc a1 ni no ic oc N Q K := by kernel_rfl
def tSS_VC (n0 n : Nat) (fr mk : Int) (en : Bool) (rc lc : List AV) (a1 : AObj) (ni no c : Nat) (ic oc : List AV) (N : NS) (Q : QS) (K : Unit) : Prop :=
  (decide ((0 : Nat) < ni)) = true ∧
  ((decide ((0 : Int) ≤ (↑no : Int) ∧ (↑no : Int) ≤ (↑ni : Int))) = true ∧
  ((msB oc ic no (Int.toNat (↑no : Int) - (0 : Nat)) (0 : Nat)) = true ∧
  ((lnB n n fr rc (c + (1 : Nat))) = true ∧
  ((decide ((0 : Nat) < ni)) = true ∧
  ((decide ((0 : Int) ≤ (↑no : Int) ∧ (↑no : Int) ≤ (↑ni : Int))) = true ∧
  ((decide (ni ≤ ni)) = true ∧
  ((msB (allR n fr rc (c + (1 : Nat))) ic (c + (1 : Nat)) (ni - Int.toNat (↑no : Int))
  ((0 : Nat) + Int.toNat (↑no : Int) * (7 : Nat))) = true ∧
  (Q Exit.ret (162 : Nat) [some (AV.bool true)]
  { nx := (7 : Nat),
    m :=
      [((4 : Nat), AObj.opn (33 : Nat) (7 : Nat) ic),
        ((6 : Nat), AObj.opn (33 : Nat) (7 : Nat) (allR n fr rc (c + (1 : Nat)))),
        ((3 : Nat),
          AObj.cells (42 : Nat)
            [AV.slice (2 : Nat) (0 : Nat) n (some n), AV.int IntKind.i64 fr,
              AV.int IntKind.i64 (Int.ofNat (Nat.succ c)), AV.int IntKind.i64 mk, AV.bool en]),
        ((2 : Nat), AObj.cells (33 : Nat) rc), ((0 : Nat), AObj.ro lc), ((1 : Nat), a1),
        ((5 : Nat), AObj.opn (33 : Nat) (7 : Nat) oc)] }))))))))
def tSS_scr : Plan := .t (.t (.k (.k (.k (.t (.k (.k (.k (.t (.k (.k (.k (.k (.t (.t (.t (.k (.k (.k (.k (.t (.z))))))))))))))))))))))
theorem tSS_vc (n0 n : Nat) (fr mk : Int) (en : Bool) (rc lc : List AV) (a1 : AObj) (ni no c : Nat) (ic oc : List AV) (N : NS) (Q : QS) (K : Unit) : (wpPQ lkG XTl lkSy n0 lkTail 0 (rndS [6] N Q) (frT (.slice 4 0 ni none) (.slice 5 0 no none)) (hpR n fr (Int.ofNat (Nat.succ c)) mk en rc lc a1 (.opn 33 7 ic) (.opn 33 7 oc)) tSS_scr) = tSS_VC n0 n fr mk en rc lc a1 ni no c ic oc N Q K := by kernel_rfl
end Go.Proofs.Ytfamikdibjhnpaa.V
