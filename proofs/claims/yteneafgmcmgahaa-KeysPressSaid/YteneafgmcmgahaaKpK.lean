/- Printed by vc.py: what must hold for functions' ways (KpK). -/
import Derived.Test.YteneafgmcmgahaaKpJ
namespace Go.Proofs.Yteneafgmcmgahaa.V
open Go Go.Proofs
set_option maxRecDepth 100000
set_option linter.unusedVariables false
def lwS_VC (fr to : Int) (ks : List Int) (cap : Nat) (K : AV → AH → Prop) : Prop :=
  ((decide ((↑(List.length ks) : Int) > (60 : Int))) = true →
    K (AV.bool true) { nx := (1 : Nat), m := [((0 : Nat), AObj.ro (encI IntKind.i64 ks))] }) ∧
  ((decide ((↑(List.length ks) : Int) > (60 : Int))) = false →
    (decide ((0 : Nat) < List.length ks)) = true ∧
    ((decide ((0 : Nat) + List.length ks * (1 : Nat) ≤ List.length (encI IntKind.i64 ks))) = true ∧
    ((decide (List.length ks * (8 : Nat) ≤ (140737488355328 : Nat))) = true ∧
    ((decide (List.length ks ≤ (140737488355328 : Nat))) = true ∧
    (need (fr = fr) ∧
    (need (to = to) ∧
    (need (List.take (List.length ks * (1 : Nat)) (List.drop (0 : Nat) (encI IntKind.i64 ks)) = encI IntKind.i64 ks) ∧
    (need ((2 : Nat) < (3 : Nat)) ∧
    (need (List.length ks = List.length ks) ∧
    (need (prOk ks) ∧
    (((chkN (l2 fr to ks) = (0 : Int)) →
      (need (fr = fr) ∧
      (need (to = to) ∧
      (need (encI IntKind.i64 ks = encI IntKind.i64 ks) ∧
      (need ((0 : Nat) < (4 : Nat)) ∧
      (need (List.length ks = List.length ks) ∧
      (need (prOk ks) ∧
      (((chkN (l2 fr to ks) = (0 : Int)) →
        (need (tcs (l2 fr to ks) = tcs (l2 fr to ks)) ∧
        (need (tcs (l2 fr to ks) = tcs (l2 fr to ks)) ∧
        (need ((3 : Nat) < (5 : Nat)) ∧
        (need ((4 : Nat) < (5 : Nat)) ∧
        (need ((3 : Nat) ≠ (4 : Nat)) ∧
        (need (List.length ks + List.length ks = List.length (l2 fr to ks)) ∧
        (need (List.length ks + List.length ks = List.length (l2 fr to ks)) ∧
        (need (List.length (l2 fr to ks) ≤ (1000 : Nat)) ∧
        (K (AV.bool true)
  { nx := (5 : Nat),
    m :=
      [((4 : Nat), AObj.opn (39 : Nat) (4 : Nat) (tcs (l2 fr to ks))),
        ((3 : Nat), AObj.opn (39 : Nat) (4 : Nat) (tcs (l2 fr to ks))),
        ((2 : Nat),
          AObj.opn (3 : Nat) (1 : Nat)
            (List.take (List.length ks * (1 : Nat)) (List.drop (0 : Nat) (encI IntKind.i64 ks)))),
        ((1 : Nat), AObj.cells (3 : Nat) []), ((0 : Nat), AObj.ro (encI IntKind.i64 ks))] })))))))))) ∧
      ((chkN (l2 fr to ks) ≠ (0 : Int)) →
        (False)))))))))) ∧
    ((chkN (l2 fr to ks) ≠ (0 : Int)) →
      (need (fr = fr) ∧
      (need (to = to) ∧
      (need (encI IntKind.i64 ks = encI IntKind.i64 ks) ∧
      (need ((0 : Nat) < (3 : Nat)) ∧
      (need (List.length ks = List.length ks) ∧
      (need (prOk ks) ∧
      (((chkN (l2 fr to ks) = (0 : Int)) →
        (False)) ∧
      ((chkN (l2 fr to ks) ≠ (0 : Int)) →
        (K (AV.bool (decide (chkN (l2 fr to ks) = chkN (l2 fr to ks))))
  { nx := (3 : Nat),
    m :=
      [((2 : Nat),
          AObj.opn (3 : Nat) (1 : Nat)
            (List.take (List.length ks * (1 : Nat)) (List.drop (0 : Nat) (encI IntKind.i64 ks)))),
        ((1 : Nat), AObj.cells (3 : Nat) []), ((0 : Nat), AObj.ro (encI IntKind.i64 ks))] })))))))))))))))))))))
def lwS_scr : Plan := .k (.b (.z) (.t (.t (.t (.t (.b (.b (.z) (.z)) (.b (.z) (.z))))))))
theorem lwS_vc (fr to : Int) (ks : List Int) (cap : Nat) (K : AV → AH → Prop) : (funP (XLw fr to ks) 3 [.int .i64 fr, .int .i64 to, .slice 0 0 ks.length (some cap)] (hK ks) lwS_scr (fun v σ _ => K v σ)) = lwS_VC fr to ks cap K := by kernel_rfl
def lwN_VC (fr to : Int) (K : AV → AH → Prop) : Prop :=
  K (AV.bool true)
  { nx := (2 : Nat),
    m := [((1 : Nat), AObj.cells (4 : Nat) [AV.bool true, AV.bool false]), ((0 : Nat), AObj.cells (3 : Nat) [])] }
def lwN_scr : Plan := .z
theorem lwN_vc (fr to : Int) (K : AV → AH → Prop) : (funP (XLn) 3 [.int .i64 fr, .int .i64 to, .nilslice] h0 lwN_scr (fun v σ _ => K v σ)) = lwN_VC fr to K := by kernel_rfl
def lwE_VC (fr to : Int) (K : AV → AH → Prop) : Prop :=
  K (AV.bool true)
  { nx := (2 : Nat),
    m := [((1 : Nat), AObj.cells (4 : Nat) [AV.bool true, AV.bool false]), ((0 : Nat), AObj.cells (3 : Nat) [])] }
def lwE_scr : Plan := .z
theorem lwE_vc (fr to : Int) (K : AV → AH → Prop) : (funP (XLn) 3 [.int .i64 fr, .int .i64 to, .slice 1000 0 0 none] h0 lwE_scr (fun v σ _ => K v σ)) = lwE_VC fr to K := by kernel_rfl
end Go.Proofs.Yteneafgmcmgahaa.V
