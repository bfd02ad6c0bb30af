/- Printed by vc.py: what must hold for functions' ways (LkQ). -/
import Derived.Test.YtfamikdibjhnpaaLkP
namespace Go.Proofs.Ytfamikdibjhnpaa.V
open Go Go.Proofs
set_option maxRecDepth 100000
set_option linter.unusedVariables false
def aR0_VC (n0 n : Nat) (fr ct mk : Int) (en : Bool) (rc : List AV) (i : Int) (N : NS) (Q : QS) (K : Unit) : Prop :=
  ((decide (i < ct)) = true →
    (!decide ((↑n : Int) = (0 : Int))) = true ∧
    ((decide
  ((0 : Int) ≤ Int.tmod (IntKind.wrap IntKind.i64 (fr + i)) (↑n : Int) ∧
    Int.tmod (IntKind.wrap IntKind.i64 (fr + i)) (↑n : Int) < (↑n : Int))) = true ∧
    ((decide
  ((0 : Nat) + Int.toNat (Int.tmod (IntKind.wrap IntKind.i64 (fr + i)) (↑n : Int)) * (7 : Nat) + (7 : Nat) ≤
    List.length rc)) = true ∧
    ((AV.isI IntKind.i64
  (List.getD rc ((0 : Nat) + Int.toNat (Int.tmod (IntKind.wrap IntKind.i64 (fr + i)) (↑n : Int)) * (7 : Nat))
    (AV.tup []))) = true ∧
    ((AV.isI IntKind.i64
  (List.getD rc
    ((0 : Nat) + Int.toNat (Int.tmod (IntKind.wrap IntKind.i64 (fr + i)) (↑n : Int)) * (7 : Nat) + (1 : Nat))
    (AV.tup []))) = true ∧
    ((AV.isI IntKind.i64
  (List.getD rc
    ((0 : Nat) + Int.toNat (Int.tmod (IntKind.wrap IntKind.i64 (fr + i)) (↑n : Int)) * (7 : Nat) + (1 : Nat) +
      (1 : Nat))
    (AV.tup []))) = true ∧
    ((AV.isI IntKind.u8
  (List.getD rc
    ((0 : Nat) + Int.toNat (Int.tmod (IntKind.wrap IntKind.i64 (fr + i)) (↑n : Int)) * (7 : Nat) + (1 : Nat) +
        (1 : Nat) +
      (1 : Nat))
    (AV.tup []))) = true ∧
    ((AV.isI IntKind.i64
  (List.getD rc
    ((0 : Nat) + Int.toNat (Int.tmod (IntKind.wrap IntKind.i64 (fr + i)) (↑n : Int)) * (7 : Nat) + (1 : Nat) +
          (1 : Nat) +
        (1 : Nat) +
      (1 : Nat))
    (AV.tup []))) = true ∧
    ((AV.isI IntKind.i64
  (List.getD rc
    ((0 : Nat) + Int.toNat (Int.tmod (IntKind.wrap IntKind.i64 (fr + i)) (↑n : Int)) * (7 : Nat) + (1 : Nat) +
            (1 : Nat) +
          (1 : Nat) +
        (1 : Nat) +
      (1 : Nat))
    (AV.tup []))) = true ∧
    ((AV.isI IntKind.u8
  (List.getD rc
    ((0 : Nat) + Int.toNat (Int.tmod (IntKind.wrap IntKind.i64 (fr + i)) (↑n : Int)) * (7 : Nat) + (1 : Nat) +
              (1 : Nat) +
            (1 : Nat) +
          (1 : Nat) +
        (1 : Nat) +
      (1 : Nat))
    (AV.tup []))) = true ∧
    (N (33 : Nat)
  [some (AV.ptr (1 : Nat) (0 : Nat)), some (AV.slice (3 : Nat) (0 : Nat) (1 : Nat) none), some (AV.int IntKind.i64 ct),
    some (AV.int IntKind.i64 (IntKind.wrap IntKind.i64 (i + (1 : Int))))]
  { nx := (4 : Nat),
    m :=
      [((3 : Nat),
          AObj.opn (33 : Nat) (7 : Nat)
            [AV.int IntKind.i64
                (AV.toI
                  (List.getD rc
                    ((0 : Nat) + Int.toNat (Int.tmod (IntKind.wrap IntKind.i64 (fr + i)) (↑n : Int)) * (7 : Nat))
                    (AV.tup []))),
              AV.int IntKind.i64
                (AV.toI
                  (List.getD rc
                    ((0 : Nat) + Int.toNat (Int.tmod (IntKind.wrap IntKind.i64 (fr + i)) (↑n : Int)) * (7 : Nat) +
                      (1 : Nat))
                    (AV.tup []))),
              AV.int IntKind.i64
                (AV.toI
                  (List.getD rc
                    ((0 : Nat) + Int.toNat (Int.tmod (IntKind.wrap IntKind.i64 (fr + i)) (↑n : Int)) * (7 : Nat) +
                        (1 : Nat) +
                      (1 : Nat))
                    (AV.tup []))),
              AV.int IntKind.u8
                (AV.toI
                  (List.getD rc
                    ((0 : Nat) + Int.toNat (Int.tmod (IntKind.wrap IntKind.i64 (fr + i)) (↑n : Int)) * (7 : Nat) +
                          (1 : Nat) +
                        (1 : Nat) +
                      (1 : Nat))
                    (AV.tup []))),
              AV.int IntKind.i64
                (AV.toI
                  (List.getD rc
                    ((0 : Nat) + Int.toNat (Int.tmod (IntKind.wrap IntKind.i64 (fr + i)) (↑n : Int)) * (7 : Nat) +
                            (1 : Nat) +
                          (1 : Nat) +
                        (1 : Nat) +
                      (1 : Nat))
                    (AV.tup []))),
              AV.int IntKind.i64
                (AV.toI
                  (List.getD rc
                    ((0 : Nat) + Int.toNat (Int.tmod (IntKind.wrap IntKind.i64 (fr + i)) (↑n : Int)) * (7 : Nat) +
                              (1 : Nat) +
                            (1 : Nat) +
                          (1 : Nat) +
                        (1 : Nat) +
                      (1 : Nat))
                    (AV.tup []))),
              AV.int IntKind.u8
                (AV.toI
                  (List.getD rc
                    ((0 : Nat) + Int.toNat (Int.tmod (IntKind.wrap IntKind.i64 (fr + i)) (↑n : Int)) * (7 : Nat) +
                                (1 : Nat) +
                              (1 : Nat) +
                            (1 : Nat) +
                          (1 : Nat) +
                        (1 : Nat) +
                      (1 : Nat))
                    (AV.tup [])))]),
        ((2 : Nat),
          AObj.cells (33 : Nat)
            [AV.int IntKind.i64
                (AV.toI
                  (List.getD rc
                    ((0 : Nat) + Int.toNat (Int.tmod (IntKind.wrap IntKind.i64 (fr + i)) (↑n : Int)) * (7 : Nat))
                    (AV.tup []))),
              AV.int IntKind.i64
                (AV.toI
                  (List.getD rc
                    ((0 : Nat) + Int.toNat (Int.tmod (IntKind.wrap IntKind.i64 (fr + i)) (↑n : Int)) * (7 : Nat) +
                      (1 : Nat))
                    (AV.tup []))),
              AV.int IntKind.i64
                (AV.toI
                  (List.getD rc
                    ((0 : Nat) + Int.toNat (Int.tmod (IntKind.wrap IntKind.i64 (fr + i)) (↑n : Int)) * (7 : Nat) +
                        (1 : Nat) +
                      (1 : Nat))
                    (AV.tup []))),
              AV.int IntKind.u8
                (AV.toI
                  (List.getD rc
                    ((0 : Nat) + Int.toNat (Int.tmod (IntKind.wrap IntKind.i64 (fr + i)) (↑n : Int)) * (7 : Nat) +
                          (1 : Nat) +
                        (1 : Nat) +
                      (1 : Nat))
                    (AV.tup []))),
              AV.int IntKind.i64
                (AV.toI
                  (List.getD rc
                    ((0 : Nat) + Int.toNat (Int.tmod (IntKind.wrap IntKind.i64 (fr + i)) (↑n : Int)) * (7 : Nat) +
                            (1 : Nat) +
                          (1 : Nat) +
                        (1 : Nat) +
                      (1 : Nat))
                    (AV.tup []))),
              AV.int IntKind.i64
                (AV.toI
                  (List.getD rc
                    ((0 : Nat) + Int.toNat (Int.tmod (IntKind.wrap IntKind.i64 (fr + i)) (↑n : Int)) * (7 : Nat) +
                              (1 : Nat) +
                            (1 : Nat) +
                          (1 : Nat) +
                        (1 : Nat) +
                      (1 : Nat))
                    (AV.tup []))),
              AV.int IntKind.u8
                (AV.toI
                  (List.getD rc
                    ((0 : Nat) + Int.toNat (Int.tmod (IntKind.wrap IntKind.i64 (fr + i)) (↑n : Int)) * (7 : Nat) +
                                (1 : Nat) +
                              (1 : Nat) +
                            (1 : Nat) +
                          (1 : Nat) +
                        (1 : Nat) +
                      (1 : Nat))
                    (AV.tup [])))]),
        ((1 : Nat),
          AObj.ro
            [AV.slice (0 : Nat) (0 : Nat) n (some n), AV.int IntKind.i64 fr, AV.int IntKind.i64 ct,
              AV.int IntKind.i64 mk, AV.bool en]),
        ((0 : Nat), AObj.ro rc)] }))))))))))) ∧
  ((decide (i < ct)) = false →
    Q (Exit.exit (0 : Nat)) (33 : Nat)
  [some (AV.ptr (1 : Nat) (0 : Nat)), some AV.nilslice, some (AV.int IntKind.i64 ct), some (AV.int IntKind.i64 i)]
  { nx := (2 : Nat),
    m :=
      [((1 : Nat),
          AObj.ro
            [AV.slice (0 : Nat) (0 : Nat) n (some n), AV.int IntKind.i64 fr, AV.int IntKind.i64 ct,
              AV.int IntKind.i64 mk, AV.bool en]),
        ((0 : Nat), AObj.ro rc)] })
def aR0_scr : Plan := .b (.t (.t (.t (.t (.t (.t (.t (.t (.t (.t (.z))))))))))) (.z)
theorem aR0_vc (n0 n : Nat) (fr ct mk : Int) (en : Bool) (rc : List AV) (i : Int) (N : NS) (Q : QS) (K : Unit) : (wpP (cxP Try.prog [] []) syA n0 AllL 0 (rndS slA N Q) (aF .nilslice ct i) (aH0 n fr ct mk en rc) aR0_scr) = aR0_VC n0 n fr ct mk en rc i N Q K := by kernel_rfl
def aR1_VC (n0 n : Nat) (fr ct mk : Int) (en : Bool) (rc : List AV) (i : Int) (k : Nat) (ac : List AV) (N : NS) (Q : QS) (K : Unit) : Prop :=
  ((decide (i < ct)) = true →
    (!decide ((↑n : Int) = (0 : Int))) = true ∧
    ((decide
  ((0 : Int) ≤ Int.tmod (IntKind.wrap IntKind.i64 (fr + i)) (↑n : Int) ∧
    Int.tmod (IntKind.wrap IntKind.i64 (fr + i)) (↑n : Int) < (↑n : Int))) = true ∧
    ((decide
  ((0 : Nat) + Int.toNat (Int.tmod (IntKind.wrap IntKind.i64 (fr + i)) (↑n : Int)) * (7 : Nat) + (7 : Nat) ≤
    List.length rc)) = true ∧
    ((AV.isI IntKind.i64
  (List.getD rc ((0 : Nat) + Int.toNat (Int.tmod (IntKind.wrap IntKind.i64 (fr + i)) (↑n : Int)) * (7 : Nat))
    (AV.tup []))) = true ∧
    ((AV.isI IntKind.i64
  (List.getD rc
    ((0 : Nat) + Int.toNat (Int.tmod (IntKind.wrap IntKind.i64 (fr + i)) (↑n : Int)) * (7 : Nat) + (1 : Nat))
    (AV.tup []))) = true ∧
    ((AV.isI IntKind.i64
  (List.getD rc
    ((0 : Nat) + Int.toNat (Int.tmod (IntKind.wrap IntKind.i64 (fr + i)) (↑n : Int)) * (7 : Nat) + (1 : Nat) +
      (1 : Nat))
    (AV.tup []))) = true ∧
    ((AV.isI IntKind.u8
  (List.getD rc
    ((0 : Nat) + Int.toNat (Int.tmod (IntKind.wrap IntKind.i64 (fr + i)) (↑n : Int)) * (7 : Nat) + (1 : Nat) +
        (1 : Nat) +
      (1 : Nat))
    (AV.tup []))) = true ∧
    ((AV.isI IntKind.i64
  (List.getD rc
    ((0 : Nat) + Int.toNat (Int.tmod (IntKind.wrap IntKind.i64 (fr + i)) (↑n : Int)) * (7 : Nat) + (1 : Nat) +
          (1 : Nat) +
        (1 : Nat) +
      (1 : Nat))
    (AV.tup []))) = true ∧
    ((AV.isI IntKind.i64
  (List.getD rc
    ((0 : Nat) + Int.toNat (Int.tmod (IntKind.wrap IntKind.i64 (fr + i)) (↑n : Int)) * (7 : Nat) + (1 : Nat) +
            (1 : Nat) +
          (1 : Nat) +
        (1 : Nat) +
      (1 : Nat))
    (AV.tup []))) = true ∧
    ((AV.isI IntKind.u8
  (List.getD rc
    ((0 : Nat) + Int.toNat (Int.tmod (IntKind.wrap IntKind.i64 (fr + i)) (↑n : Int)) * (7 : Nat) + (1 : Nat) +
              (1 : Nat) +
            (1 : Nat) +
          (1 : Nat) +
        (1 : Nat) +
      (1 : Nat))
    (AV.tup []))) = true ∧
    ((decide ((0 : Nat) < k)) = true ∧
    ((decide (k * (7 : Nat) = List.length ac)) = true ∧
    ((decide ((k + (1 : Nat)) * (56 : Nat) ≤ (140737488355328 : Nat))) = true ∧
    ((decide (k + (1 : Nat) ≤ (140737488355328 : Nat))) = true ∧
    (N (33 : Nat)
  [some (AV.ptr (1 : Nat) (0 : Nat)), some (AV.slice (4 : Nat) (0 : Nat) (k + (1 : Nat)) none),
    some (AV.int IntKind.i64 ct), some (AV.int IntKind.i64 (IntKind.wrap IntKind.i64 (i + (1 : Int))))]
  { nx := (5 : Nat),
    m :=
      [((4 : Nat),
          AObj.opn (33 : Nat) (7 : Nat)
            (ac ++
              [AV.int IntKind.i64
                  (AV.toI
                    (List.getD rc
                      ((0 : Nat) + Int.toNat (Int.tmod (IntKind.wrap IntKind.i64 (fr + i)) (↑n : Int)) * (7 : Nat))
                      (AV.tup []))),
                AV.int IntKind.i64
                  (AV.toI
                    (List.getD rc
                      ((0 : Nat) + Int.toNat (Int.tmod (IntKind.wrap IntKind.i64 (fr + i)) (↑n : Int)) * (7 : Nat) +
                        (1 : Nat))
                      (AV.tup []))),
                AV.int IntKind.i64
                  (AV.toI
                    (List.getD rc
                      ((0 : Nat) + Int.toNat (Int.tmod (IntKind.wrap IntKind.i64 (fr + i)) (↑n : Int)) * (7 : Nat) +
                          (1 : Nat) +
                        (1 : Nat))
                      (AV.tup []))),
                AV.int IntKind.u8
                  (AV.toI
                    (List.getD rc
                      ((0 : Nat) + Int.toNat (Int.tmod (IntKind.wrap IntKind.i64 (fr + i)) (↑n : Int)) * (7 : Nat) +
                            (1 : Nat) +
                          (1 : Nat) +
                        (1 : Nat))
                      (AV.tup []))),
                AV.int IntKind.i64
                  (AV.toI
                    (List.getD rc
                      ((0 : Nat) + Int.toNat (Int.tmod (IntKind.wrap IntKind.i64 (fr + i)) (↑n : Int)) * (7 : Nat) +
                              (1 : Nat) +
                            (1 : Nat) +
                          (1 : Nat) +
                        (1 : Nat))
                      (AV.tup []))),
                AV.int IntKind.i64
                  (AV.toI
                    (List.getD rc
                      ((0 : Nat) + Int.toNat (Int.tmod (IntKind.wrap IntKind.i64 (fr + i)) (↑n : Int)) * (7 : Nat) +
                                (1 : Nat) +
                              (1 : Nat) +
                            (1 : Nat) +
                          (1 : Nat) +
                        (1 : Nat))
                      (AV.tup []))),
                AV.int IntKind.u8
                  (AV.toI
                    (List.getD rc
                      ((0 : Nat) + Int.toNat (Int.tmod (IntKind.wrap IntKind.i64 (fr + i)) (↑n : Int)) * (7 : Nat) +
                                  (1 : Nat) +
                                (1 : Nat) +
                              (1 : Nat) +
                            (1 : Nat) +
                          (1 : Nat) +
                        (1 : Nat))
                      (AV.tup [])))])),
        ((2 : Nat), AObj.dead),
        ((3 : Nat),
          AObj.cells (33 : Nat)
            [AV.int IntKind.i64
                (AV.toI
                  (List.getD rc
                    ((0 : Nat) + Int.toNat (Int.tmod (IntKind.wrap IntKind.i64 (fr + i)) (↑n : Int)) * (7 : Nat))
                    (AV.tup []))),
              AV.int IntKind.i64
                (AV.toI
                  (List.getD rc
                    ((0 : Nat) + Int.toNat (Int.tmod (IntKind.wrap IntKind.i64 (fr + i)) (↑n : Int)) * (7 : Nat) +
                      (1 : Nat))
                    (AV.tup []))),
              AV.int IntKind.i64
                (AV.toI
                  (List.getD rc
                    ((0 : Nat) + Int.toNat (Int.tmod (IntKind.wrap IntKind.i64 (fr + i)) (↑n : Int)) * (7 : Nat) +
                        (1 : Nat) +
                      (1 : Nat))
                    (AV.tup []))),
              AV.int IntKind.u8
                (AV.toI
                  (List.getD rc
                    ((0 : Nat) + Int.toNat (Int.tmod (IntKind.wrap IntKind.i64 (fr + i)) (↑n : Int)) * (7 : Nat) +
                          (1 : Nat) +
                        (1 : Nat) +
                      (1 : Nat))
                    (AV.tup []))),
              AV.int IntKind.i64
                (AV.toI
                  (List.getD rc
                    ((0 : Nat) + Int.toNat (Int.tmod (IntKind.wrap IntKind.i64 (fr + i)) (↑n : Int)) * (7 : Nat) +
                            (1 : Nat) +
                          (1 : Nat) +
                        (1 : Nat) +
                      (1 : Nat))
                    (AV.tup []))),
              AV.int IntKind.i64
                (AV.toI
                  (List.getD rc
                    ((0 : Nat) + Int.toNat (Int.tmod (IntKind.wrap IntKind.i64 (fr + i)) (↑n : Int)) * (7 : Nat) +
                              (1 : Nat) +
                            (1 : Nat) +
                          (1 : Nat) +
                        (1 : Nat) +
                      (1 : Nat))
                    (AV.tup []))),
              AV.int IntKind.u8
                (AV.toI
                  (List.getD rc
                    ((0 : Nat) + Int.toNat (Int.tmod (IntKind.wrap IntKind.i64 (fr + i)) (↑n : Int)) * (7 : Nat) +
                                (1 : Nat) +
                              (1 : Nat) +
                            (1 : Nat) +
                          (1 : Nat) +
                        (1 : Nat) +
                      (1 : Nat))
                    (AV.tup [])))]),
        ((1 : Nat),
          AObj.ro
            [AV.slice (0 : Nat) (0 : Nat) n (some n), AV.int IntKind.i64 fr, AV.int IntKind.i64 ct,
              AV.int IntKind.i64 mk, AV.bool en]),
        ((0 : Nat), AObj.ro rc)] }))))))))))))))) ∧
  ((decide (i < ct)) = false →
    Q (Exit.exit (0 : Nat)) (33 : Nat)
  [some (AV.ptr (1 : Nat) (0 : Nat)), some (AV.slice (2 : Nat) (0 : Nat) k none), some (AV.int IntKind.i64 ct),
    some (AV.int IntKind.i64 i)]
  { nx := (3 : Nat),
    m :=
      [((2 : Nat), AObj.opn (33 : Nat) (7 : Nat) ac),
        ((1 : Nat),
          AObj.ro
            [AV.slice (0 : Nat) (0 : Nat) n (some n), AV.int IntKind.i64 fr, AV.int IntKind.i64 ct,
              AV.int IntKind.i64 mk, AV.bool en]),
        ((0 : Nat), AObj.ro rc)] })
def aR1_scr : Plan := .b (.t (.t (.t (.t (.t (.t (.t (.t (.t (.t (.t (.t (.t (.t (.z))))))))))))))) (.z)
theorem aR1_vc (n0 n : Nat) (fr ct mk : Int) (en : Bool) (rc : List AV) (i : Int) (k : Nat) (ac : List AV) (N : NS) (Q : QS) (K : Unit) : (wpP (cxP Try.prog [] []) syA n0 AllL 0 (rndS slA N Q) (aF (.slice 2 0 k none) ct i) (aH1 n fr ct mk en rc ac) aR1_scr) = aR1_VC n0 n fr ct mk en rc i k ac N Q K := by kernel_rfl
def mR_VC (n0 m m' off : Nat) (la lb : List AV) (i : Int) (N : NS) (Q : QS) (K : Unit) : Prop :=
  ((decide (i < (↑m : Int))) = true →
    (decide ((0 : Int) ≤ i ∧ i < (↑m : Int))) = true ∧
    ((decide ((0 : Nat) + Int.toNat i * (7 : Nat) + (7 : Nat) ≤ List.length la)) = true ∧
    ((AV.isI IntKind.i64 (List.getD la ((0 : Nat) + Int.toNat i * (7 : Nat)) (AV.tup []))) = true ∧
    ((AV.isI IntKind.i64 (List.getD la ((0 : Nat) + Int.toNat i * (7 : Nat) + (1 : Nat)) (AV.tup []))) = true ∧
    ((AV.isI IntKind.i64 (List.getD la ((0 : Nat) + Int.toNat i * (7 : Nat) + (1 : Nat) + (1 : Nat)) (AV.tup []))) = true ∧
    ((AV.isI IntKind.u8 (List.getD la ((0 : Nat) + Int.toNat i * (7 : Nat) + (1 : Nat) + (1 : Nat) + (1 : Nat)) (AV.tup []))) = true ∧
    ((AV.isI IntKind.i64
  (List.getD la ((0 : Nat) + Int.toNat i * (7 : Nat) + (1 : Nat) + (1 : Nat) + (1 : Nat) + (1 : Nat)) (AV.tup []))) = true ∧
    ((AV.isI IntKind.i64
  (List.getD la ((0 : Nat) + Int.toNat i * (7 : Nat) + (1 : Nat) + (1 : Nat) + (1 : Nat) + (1 : Nat) + (1 : Nat))
    (AV.tup []))) = true ∧
    ((AV.isI IntKind.u8
  (List.getD la
    ((0 : Nat) + Int.toNat i * (7 : Nat) + (1 : Nat) + (1 : Nat) + (1 : Nat) + (1 : Nat) + (1 : Nat) + (1 : Nat))
    (AV.tup []))) = true ∧
    ((decide ((0 : Int) ≤ i ∧ i < (↑m' : Int))) = true ∧
    ((decide (off + Int.toNat i * (7 : Nat) + (7 : Nat) ≤ List.length lb)) = true ∧
    ((AV.isI IntKind.i64 (List.getD lb (off + Int.toNat i * (7 : Nat)) (AV.tup []))) = true ∧
    ((AV.isI IntKind.i64 (List.getD lb (off + Int.toNat i * (7 : Nat) + (1 : Nat)) (AV.tup []))) = true ∧
    ((AV.isI IntKind.i64 (List.getD lb (off + Int.toNat i * (7 : Nat) + (1 : Nat) + (1 : Nat)) (AV.tup []))) = true ∧
    ((AV.isI IntKind.u8 (List.getD lb (off + Int.toNat i * (7 : Nat) + (1 : Nat) + (1 : Nat) + (1 : Nat)) (AV.tup []))) = true ∧
    ((AV.isI IntKind.i64
  (List.getD lb (off + Int.toNat i * (7 : Nat) + (1 : Nat) + (1 : Nat) + (1 : Nat) + (1 : Nat)) (AV.tup []))) = true ∧
    ((AV.isI IntKind.i64
  (List.getD lb (off + Int.toNat i * (7 : Nat) + (1 : Nat) + (1 : Nat) + (1 : Nat) + (1 : Nat) + (1 : Nat)) (AV.tup []))) = true ∧
    ((AV.isI IntKind.u8
  (List.getD lb (off + Int.toNat i * (7 : Nat) + (1 : Nat) + (1 : Nat) + (1 : Nat) + (1 : Nat) + (1 : Nat) + (1 : Nat))
    (AV.tup []))) = true ∧
    (((!(AV.toI (List.getD la ((0 : Nat) + Int.toNat i * (7 : Nat)) (AV.tup [])) ==
      AV.toI (List.getD lb (off + Int.toNat i * (7 : Nat)) (AV.tup [])) &&
    (AV.toI (List.getD la ((0 : Nat) + Int.toNat i * (7 : Nat) + (1 : Nat)) (AV.tup [])) ==
        AV.toI (List.getD lb (off + Int.toNat i * (7 : Nat) + (1 : Nat)) (AV.tup [])) &&
      (AV.toI (List.getD la ((0 : Nat) + Int.toNat i * (7 : Nat) + (1 : Nat) + (1 : Nat)) (AV.tup [])) ==
          AV.toI (List.getD lb (off + Int.toNat i * (7 : Nat) + (1 : Nat) + (1 : Nat)) (AV.tup [])) &&
        (AV.toI (List.getD la ((0 : Nat) + Int.toNat i * (7 : Nat) + (1 : Nat) + (1 : Nat) + (1 : Nat)) (AV.tup [])) ==
            AV.toI (List.getD lb (off + Int.toNat i * (7 : Nat) + (1 : Nat) + (1 : Nat) + (1 : Nat)) (AV.tup [])) &&
          (AV.toI
                (List.getD la ((0 : Nat) + Int.toNat i * (7 : Nat) + (1 : Nat) + (1 : Nat) + (1 : Nat) + (1 : Nat))
                  (AV.tup [])) ==
              AV.toI
                (List.getD lb (off + Int.toNat i * (7 : Nat) + (1 : Nat) + (1 : Nat) + (1 : Nat) + (1 : Nat))
                  (AV.tup [])) &&
            (AV.toI
                  (List.getD la
                    ((0 : Nat) + Int.toNat i * (7 : Nat) + (1 : Nat) + (1 : Nat) + (1 : Nat) + (1 : Nat) + (1 : Nat))
                    (AV.tup [])) ==
                AV.toI
                  (List.getD lb
                    (off + Int.toNat i * (7 : Nat) + (1 : Nat) + (1 : Nat) + (1 : Nat) + (1 : Nat) + (1 : Nat))
                    (AV.tup [])) &&
              (AV.toI
                    (List.getD la
                      ((0 : Nat) + Int.toNat i * (7 : Nat) + (1 : Nat) + (1 : Nat) + (1 : Nat) + (1 : Nat) + (1 : Nat) +
                        (1 : Nat))
                      (AV.tup [])) ==
                  AV.toI
                    (List.getD lb
                      (off + Int.toNat i * (7 : Nat) + (1 : Nat) + (1 : Nat) + (1 : Nat) + (1 : Nat) + (1 : Nat) +
                        (1 : Nat))
                      (AV.tup [])) &&
                true)))))))) = true →
      Q Exit.ret (26 : Nat)
  [some (AV.slice (0 : Nat) (0 : Nat) m none), some (AV.slice (1 : Nat) off m' none), some (AV.int IntKind.i64 i)]
  { nx := (2 : Nat), m := [((1 : Nat), AObj.ro lb), ((0 : Nat), AObj.ro la)] }) ∧
    ((!(AV.toI (List.getD la ((0 : Nat) + Int.toNat i * (7 : Nat)) (AV.tup [])) ==
      AV.toI (List.getD lb (off + Int.toNat i * (7 : Nat)) (AV.tup [])) &&
    (AV.toI (List.getD la ((0 : Nat) + Int.toNat i * (7 : Nat) + (1 : Nat)) (AV.tup [])) ==
        AV.toI (List.getD lb (off + Int.toNat i * (7 : Nat) + (1 : Nat)) (AV.tup [])) &&
      (AV.toI (List.getD la ((0 : Nat) + Int.toNat i * (7 : Nat) + (1 : Nat) + (1 : Nat)) (AV.tup [])) ==
          AV.toI (List.getD lb (off + Int.toNat i * (7 : Nat) + (1 : Nat) + (1 : Nat)) (AV.tup [])) &&
        (AV.toI (List.getD la ((0 : Nat) + Int.toNat i * (7 : Nat) + (1 : Nat) + (1 : Nat) + (1 : Nat)) (AV.tup [])) ==
            AV.toI (List.getD lb (off + Int.toNat i * (7 : Nat) + (1 : Nat) + (1 : Nat) + (1 : Nat)) (AV.tup [])) &&
          (AV.toI
                (List.getD la ((0 : Nat) + Int.toNat i * (7 : Nat) + (1 : Nat) + (1 : Nat) + (1 : Nat) + (1 : Nat))
                  (AV.tup [])) ==
              AV.toI
                (List.getD lb (off + Int.toNat i * (7 : Nat) + (1 : Nat) + (1 : Nat) + (1 : Nat) + (1 : Nat))
                  (AV.tup [])) &&
            (AV.toI
                  (List.getD la
                    ((0 : Nat) + Int.toNat i * (7 : Nat) + (1 : Nat) + (1 : Nat) + (1 : Nat) + (1 : Nat) + (1 : Nat))
                    (AV.tup [])) ==
                AV.toI
                  (List.getD lb
                    (off + Int.toNat i * (7 : Nat) + (1 : Nat) + (1 : Nat) + (1 : Nat) + (1 : Nat) + (1 : Nat))
                    (AV.tup [])) &&
              (AV.toI
                    (List.getD la
                      ((0 : Nat) + Int.toNat i * (7 : Nat) + (1 : Nat) + (1 : Nat) + (1 : Nat) + (1 : Nat) + (1 : Nat) +
                        (1 : Nat))
                      (AV.tup [])) ==
                  AV.toI
                    (List.getD lb
                      (off + Int.toNat i * (7 : Nat) + (1 : Nat) + (1 : Nat) + (1 : Nat) + (1 : Nat) + (1 : Nat) +
                        (1 : Nat))
                      (AV.tup [])) &&
                true)))))))) = false →
      N (26 : Nat)
  [some (AV.slice (0 : Nat) (0 : Nat) m none), some (AV.slice (1 : Nat) off m' none),
    some (AV.int IntKind.i64 (IntKind.wrap IntKind.i64 (i + (1 : Int))))]
  { nx := (2 : Nat), m := [((1 : Nat), AObj.ro lb), ((0 : Nat), AObj.ro la)] })))))))))))))))))))) ∧
  ((decide (i < (↑m : Int))) = false →
    Q (Exit.exit (0 : Nat)) (26 : Nat)
  [some (AV.slice (0 : Nat) (0 : Nat) m none), some (AV.slice (1 : Nat) off m' none), some (AV.int IntKind.i64 i)]
  { nx := (2 : Nat), m := [((1 : Nat), AObj.ro lb), ((0 : Nat), AObj.ro la)] })
def mR_scr : Plan := .b (.t (.t (.t (.t (.t (.t (.t (.t (.t (.t (.t (.t (.t (.t (.t (.t (.t (.t (.b (.z) (.z)))))))))))))))))))) (.z)
theorem mR_vc (n0 m m' off : Nat) (la lb : List AV) (i : Int) (N : NS) (Q : QS) (K : Unit) : (wpP (cxP Try.prog [] []) syM n0 MsgsL 0 (rndS slM N Q) (mFr m m' off i) (mHp la lb) mR_scr) = mR_VC n0 m m' off la lb i N Q K := by kernel_rfl
end Go.Proofs.Ytfamikdibjhnpaa.V
