/- Printed by vc.py: what must hold for functions' ways (KpY). -/
import Derived.Test.YteneafgmcmgahaaKpE
namespace Go.Proofs.Yteneafgmcmgahaa.V
open Go Go.Proofs
set_option maxRecDepth 100000
set_option linter.unusedVariables false
def aN_VC (fr to t q i : Int) (n : Nat) (on : Bool) (cs : List AV) (N : NS) (Q : QS) (K : Unit) : Prop :=
  ((decide (i < (↑n : Int))) = true →
    (decide ((0 : Int) ≤ i ∧ i < (↑n : Int))) = true ∧
    ((decide ((0 : Nat) + Int.toNat i * (1 : Nat) < List.length cs)) = true ∧
    ((AV.isI IntKind.i64 (List.getD cs ((0 : Nat) + Int.toNat i * (1 : Nat)) (AV.tup []))) = true ∧
    (N (46 : Nat)
  [some (AV.int IntKind.i64 fr), some (AV.int IntKind.i64 to), some (AV.slice (0 : Nat) (0 : Nat) n none),
    some (AV.slice (4 : Nat) (0 : Nat) (1 : Nat) none), some (AV.bool on), some (AV.int IntKind.i64 t),
    some (AV.slice (1 : Nat) (0 : Nat) (2 : Nat) (some (2 : Nat))), some (AV.int IntKind.i64 (2 : Int)),
    some (AV.int IntKind.i64 q), some (AV.slice (0 : Nat) (0 : Nat) n none), some (AV.int IntKind.i64 (↑n : Int)),
    some (AV.int IntKind.i64 (IntKind.wrap IntKind.i64 (i + (1 : Int))))]
  { nx := (5 : Nat),
    m :=
      [((4 : Nat),
          AObj.opn (39 : Nat) (4 : Nat)
            [AV.int IntKind.i64 t, AV.int IntKind.i64 (1 : Int),
              AV.int IntKind.i64 (AV.toI (List.getD cs ((0 : Nat) + Int.toNat i * (1 : Nat)) (AV.tup []))),
              AV.bool on]),
        ((3 : Nat),
          AObj.cells (39 : Nat)
            [AV.int IntKind.i64 t, AV.int IntKind.i64 (1 : Int),
              AV.int IntKind.i64 (AV.toI (List.getD cs ((0 : Nat) + Int.toNat i * (1 : Nat)) (AV.tup []))),
              AV.bool on]),
        ((2 : Nat), AObj.dead), ((1 : Nat), AObj.cells (4 : Nat) [AV.bool true, AV.bool false]),
        ((0 : Nat), AObj.ro cs)] })))) ∧
  ((decide (i < (↑n : Int))) = false →
    Q (Exit.exit (2 : Nat)) (46 : Nat)
  [some (AV.int IntKind.i64 fr), some (AV.int IntKind.i64 to), some (AV.slice (0 : Nat) (0 : Nat) n none),
    some AV.nilslice, some (AV.bool on), some (AV.int IntKind.i64 t),
    some (AV.slice (1 : Nat) (0 : Nat) (2 : Nat) (some (2 : Nat))), some (AV.int IntKind.i64 (2 : Int)),
    some (AV.int IntKind.i64 q), some (AV.slice (0 : Nat) (0 : Nat) n none), some (AV.int IntKind.i64 (↑n : Int)),
    some (AV.int IntKind.i64 i)]
  { nx := (3 : Nat),
    m :=
      [((2 : Nat), AObj.dead), ((1 : Nat), AObj.cells (4 : Nat) [AV.bool true, AV.bool false]),
        ((0 : Nat), AObj.ro cs)] })
def aN_scr : Plan := .b (.t (.t (.t (.z)))) (.z)
theorem aN_vc (fr to t q i : Int) (n : Nat) (on : Bool) (cs : List AV) (N : NS) (Q : QS) (K : Unit) : (wpP XK1 (symC Try.prog (bodyOf Try.prog 6) []) 1 (loopAt Try.prog 6 1) 0 (rndS slA N Q) (aFr fr to t q i n on .nilslice) (aHp cs .dead) aN_scr) = aN_VC fr to t q i n on cs N Q K := by kernel_rfl
def aS_VC (fr to t q i : Int) (n m : Nat) (on : Bool) (cs ac : List AV) (N : NS) (Q : QS) (K : Unit) : Prop :=
  ((decide (i < (↑n : Int))) = true →
    (decide ((0 : Int) ≤ i ∧ i < (↑n : Int))) = true ∧
    ((decide ((0 : Nat) + Int.toNat i * (1 : Nat) < List.length cs)) = true ∧
    ((AV.isI IntKind.i64 (List.getD cs ((0 : Nat) + Int.toNat i * (1 : Nat)) (AV.tup []))) = true ∧
    ((decide ((0 : Nat) < m)) = true ∧
    ((decide (m * (4 : Nat) = List.length ac)) = true ∧
    ((decide ((m + (1 : Nat)) * (32 : Nat) ≤ (140737488355328 : Nat))) = true ∧
    ((decide (m + (1 : Nat) ≤ (140737488355328 : Nat))) = true ∧
    (N (46 : Nat)
  [some (AV.int IntKind.i64 fr), some (AV.int IntKind.i64 to), some (AV.slice (0 : Nat) (0 : Nat) n none),
    some (AV.slice (4 : Nat) (0 : Nat) (m + (1 : Nat)) none), some (AV.bool on), some (AV.int IntKind.i64 t),
    some (AV.slice (1 : Nat) (0 : Nat) (2 : Nat) (some (2 : Nat))), some (AV.int IntKind.i64 (2 : Int)),
    some (AV.int IntKind.i64 q), some (AV.slice (0 : Nat) (0 : Nat) n none), some (AV.int IntKind.i64 (↑n : Int)),
    some (AV.int IntKind.i64 (IntKind.wrap IntKind.i64 (i + (1 : Int))))]
  { nx := (5 : Nat),
    m :=
      [((4 : Nat),
          AObj.opn (39 : Nat) (4 : Nat)
            (ac ++
              [AV.int IntKind.i64 t, AV.int IntKind.i64 (1 : Int),
                AV.int IntKind.i64 (AV.toI (List.getD cs ((0 : Nat) + Int.toNat i * (1 : Nat)) (AV.tup []))),
                AV.bool on])),
        ((3 : Nat),
          AObj.cells (39 : Nat)
            [AV.int IntKind.i64 t, AV.int IntKind.i64 (1 : Int),
              AV.int IntKind.i64 (AV.toI (List.getD cs ((0 : Nat) + Int.toNat i * (1 : Nat)) (AV.tup []))),
              AV.bool on]),
        ((2 : Nat), AObj.dead), ((1 : Nat), AObj.cells (4 : Nat) [AV.bool true, AV.bool false]),
        ((0 : Nat), AObj.ro cs)] })))))))) ∧
  ((decide (i < (↑n : Int))) = false →
    Q (Exit.exit (2 : Nat)) (46 : Nat)
  [some (AV.int IntKind.i64 fr), some (AV.int IntKind.i64 to), some (AV.slice (0 : Nat) (0 : Nat) n none),
    some (AV.slice (2 : Nat) (0 : Nat) m none), some (AV.bool on), some (AV.int IntKind.i64 t),
    some (AV.slice (1 : Nat) (0 : Nat) (2 : Nat) (some (2 : Nat))), some (AV.int IntKind.i64 (2 : Int)),
    some (AV.int IntKind.i64 q), some (AV.slice (0 : Nat) (0 : Nat) n none), some (AV.int IntKind.i64 (↑n : Int)),
    some (AV.int IntKind.i64 i)]
  { nx := (3 : Nat),
    m :=
      [((2 : Nat), AObj.opn (39 : Nat) (4 : Nat) ac), ((1 : Nat), AObj.cells (4 : Nat) [AV.bool true, AV.bool false]),
        ((0 : Nat), AObj.ro cs)] })
def aS_scr : Plan := .b (.t (.t (.t (.t (.t (.t (.t (.z)))))))) (.z)
theorem aS_vc (fr to t q i : Int) (n m : Nat) (on : Bool) (cs ac : List AV) (N : NS) (Q : QS) (K : Unit) : (wpP XK1 (symC Try.prog (bodyOf Try.prog 6) []) 1 (loopAt Try.prog 6 1) 0 (rndS slA N Q) (aFr fr to t q i n on (.slice 2 0 m none)) (aHp cs (.opn 39 4 ac)) aS_scr) = aS_VC fr to t q i n m on cs ac N Q K := by kernel_rfl
def bN_VC (c : Option Nat) (fr to i : Int) (n : Nat) (cs : List AV) (N : NS) (Q : QS) (K : Unit) : Prop :=
  ((decide (i < (↑n : Int))) = true →
    (decide ((0 : Int) ≤ i ∧ i < (↑n : Int))) = true ∧
    ((decide ((0 : Nat) + Int.toNat i * (1 : Nat) < List.length cs)) = true ∧
    ((AV.isI IntKind.i64 (List.getD cs ((0 : Nat) + Int.toNat i * (1 : Nat)) (AV.tup []))) = true ∧
    (N (48 : Nat)
  [some (AV.int IntKind.i64 fr), some (AV.int IntKind.i64 to), some (AV.slice (0 : Nat) (0 : Nat) n c),
    some (AV.slice (3 : Nat) (0 : Nat) (1 : Nat) none),
    some (AV.int IntKind.i64 (IntKind.wrap IntKind.i64 (i + (1 : Int))))]
  { nx := (4 : Nat),
    m :=
      [((3 : Nat),
          AObj.opn (39 : Nat) (4 : Nat)
            [AV.int IntKind.i64 fr, AV.int IntKind.i64 (1 : Int),
              AV.int IntKind.i64 (AV.toI (List.getD cs ((0 : Nat) + Int.toNat i * (1 : Nat)) (AV.tup []))),
              AV.bool true]),
        ((2 : Nat),
          AObj.cells (39 : Nat)
            [AV.int IntKind.i64 fr, AV.int IntKind.i64 (1 : Int),
              AV.int IntKind.i64 (AV.toI (List.getD cs ((0 : Nat) + Int.toNat i * (1 : Nat)) (AV.tup []))),
              AV.bool true]),
        ((1 : Nat), AObj.dead), ((0 : Nat), AObj.ro cs)] })))) ∧
  ((decide (i < (↑n : Int))) = false →
    Q (Exit.exit (0 : Nat)) (48 : Nat)
  [some (AV.int IntKind.i64 fr), some (AV.int IntKind.i64 to), some (AV.slice (0 : Nat) (0 : Nat) n c),
    some AV.nilslice, some (AV.int IntKind.i64 i)]
  { nx := (2 : Nat), m := [((1 : Nat), AObj.dead), ((0 : Nat), AObj.ro cs)] })
def bN_scr : Plan := .b (.t (.t (.t (.z)))) (.z)
theorem bN_vc (c : Option Nat) (fr to i : Int) (n : Nat) (cs : List AV) (N : NS) (Q : QS) (K : Unit) : (wpP XK1 (symC Try.prog (bodyOf Try.prog 7) []) 1 (loopAt Try.prog 7 0) 0 (rndS [0, 1, 2, 8, 9] N Q) (bFr c fr to i n .nilslice) (bHp cs .dead) bN_scr) = bN_VC c fr to i n cs N Q K := by kernel_rfl
def bS_VC (c : Option Nat) (fr to i : Int) (n m : Nat) (cs ac : List AV) (N : NS) (Q : QS) (K : Unit) : Prop :=
  ((decide (i < (↑n : Int))) = true →
    (decide ((0 : Int) ≤ i ∧ i < (↑n : Int))) = true ∧
    ((decide ((0 : Nat) + Int.toNat i * (1 : Nat) < List.length cs)) = true ∧
    ((AV.isI IntKind.i64 (List.getD cs ((0 : Nat) + Int.toNat i * (1 : Nat)) (AV.tup []))) = true ∧
    ((decide ((0 : Nat) < m)) = true ∧
    ((decide (m * (4 : Nat) = List.length ac)) = true ∧
    ((decide ((m + (1 : Nat)) * (32 : Nat) ≤ (140737488355328 : Nat))) = true ∧
    ((decide (m + (1 : Nat) ≤ (140737488355328 : Nat))) = true ∧
    (N (48 : Nat)
  [some (AV.int IntKind.i64 fr), some (AV.int IntKind.i64 to), some (AV.slice (0 : Nat) (0 : Nat) n c),
    some (AV.slice (3 : Nat) (0 : Nat) (m + (1 : Nat)) none),
    some (AV.int IntKind.i64 (IntKind.wrap IntKind.i64 (i + (1 : Int))))]
  { nx := (4 : Nat),
    m :=
      [((3 : Nat),
          AObj.opn (39 : Nat) (4 : Nat)
            (ac ++
              [AV.int IntKind.i64 fr, AV.int IntKind.i64 (1 : Int),
                AV.int IntKind.i64 (AV.toI (List.getD cs ((0 : Nat) + Int.toNat i * (1 : Nat)) (AV.tup []))),
                AV.bool true])),
        ((2 : Nat),
          AObj.cells (39 : Nat)
            [AV.int IntKind.i64 fr, AV.int IntKind.i64 (1 : Int),
              AV.int IntKind.i64 (AV.toI (List.getD cs ((0 : Nat) + Int.toNat i * (1 : Nat)) (AV.tup []))),
              AV.bool true]),
        ((1 : Nat), AObj.dead), ((0 : Nat), AObj.ro cs)] })))))))) ∧
  ((decide (i < (↑n : Int))) = false →
    Q (Exit.exit (0 : Nat)) (48 : Nat)
  [some (AV.int IntKind.i64 fr), some (AV.int IntKind.i64 to), some (AV.slice (0 : Nat) (0 : Nat) n c),
    some (AV.slice (1 : Nat) (0 : Nat) m none), some (AV.int IntKind.i64 i)]
  { nx := (2 : Nat), m := [((1 : Nat), AObj.opn (39 : Nat) (4 : Nat) ac), ((0 : Nat), AObj.ro cs)] })
def bS_scr : Plan := .b (.t (.t (.t (.t (.t (.t (.t (.z)))))))) (.z)
theorem bS_vc (c : Option Nat) (fr to i : Int) (n m : Nat) (cs ac : List AV) (N : NS) (Q : QS) (K : Unit) : (wpP XK1 (symC Try.prog (bodyOf Try.prog 7) []) 1 (loopAt Try.prog 7 0) 0 (rndS [0, 1, 2, 8, 9] N Q) (bFr c fr to i n (.slice 1 0 m none)) (bHp cs (.opn 39 4 ac)) bS_scr) = bS_VC c fr to i n m cs ac N Q K := by kernel_rfl
def dS_VC (c : Option Nat) (fr to i : Int) (n m : Nat) (cs ac : List AV) (N : NS) (Q : QS) (K : Unit) : Prop :=
  ((decide (i < (↑n : Int))) = true →
    (decide ((0 : Int) ≤ i ∧ i < (↑n : Int))) = true ∧
    ((decide ((0 : Nat) + Int.toNat i * (1 : Nat) < List.length cs)) = true ∧
    ((AV.isI IntKind.i64 (List.getD cs ((0 : Nat) + Int.toNat i * (1 : Nat)) (AV.tup []))) = true ∧
    ((decide ((0 : Nat) < m)) = true ∧
    ((decide (m * (4 : Nat) = List.length ac)) = true ∧
    ((decide ((m + (1 : Nat)) * (32 : Nat) ≤ (140737488355328 : Nat))) = true ∧
    ((decide (m + (1 : Nat) ≤ (140737488355328 : Nat))) = true ∧
    (N (48 : Nat)
  [some (AV.int IntKind.i64 fr), some (AV.int IntKind.i64 to), some (AV.slice (0 : Nat) (0 : Nat) n c),
    some (AV.slice (3 : Nat) (0 : Nat) (m + (1 : Nat)) none),
    some (AV.int IntKind.i64 (IntKind.wrap IntKind.i64 (i + (1 : Int))))]
  { nx := (4 : Nat),
    m :=
      [((3 : Nat),
          AObj.opn (39 : Nat) (4 : Nat)
            (ac ++
              [AV.int IntKind.i64 to, AV.int IntKind.i64 (1 : Int),
                AV.int IntKind.i64 (AV.toI (List.getD cs ((0 : Nat) + Int.toNat i * (1 : Nat)) (AV.tup []))),
                AV.bool false])),
        ((2 : Nat),
          AObj.cells (39 : Nat)
            [AV.int IntKind.i64 to, AV.int IntKind.i64 (1 : Int),
              AV.int IntKind.i64 (AV.toI (List.getD cs ((0 : Nat) + Int.toNat i * (1 : Nat)) (AV.tup []))),
              AV.bool false]),
        ((1 : Nat), AObj.dead), ((0 : Nat), AObj.ro cs)] })))))))) ∧
  ((decide (i < (↑n : Int))) = false →
    Q (Exit.exit (2 : Nat)) (48 : Nat)
  [some (AV.int IntKind.i64 fr), some (AV.int IntKind.i64 to), some (AV.slice (0 : Nat) (0 : Nat) n c),
    some (AV.slice (1 : Nat) (0 : Nat) m none), some (AV.int IntKind.i64 i)]
  { nx := (2 : Nat), m := [((1 : Nat), AObj.opn (39 : Nat) (4 : Nat) ac), ((0 : Nat), AObj.ro cs)] })
def dS_scr : Plan := .b (.t (.t (.t (.t (.t (.t (.t (.z)))))))) (.z)
theorem dS_vc (c : Option Nat) (fr to i : Int) (n m : Nat) (cs ac : List AV) (N : NS) (Q : QS) (K : Unit) : (wpP XK1 (symC Try.prog (bodyOf Try.prog 7) []) 1 (loopAt Try.prog 7 1) 0 (rndS [0, 1, 2, 8, 10] N Q) (dFr c fr to i n (.slice 1 0 m none)) (bHp cs (.opn 39 4 ac)) dS_scr) = dS_VC c fr to i n m cs ac N Q K := by kernel_rfl
end Go.Proofs.Yteneafgmcmgahaa.V
