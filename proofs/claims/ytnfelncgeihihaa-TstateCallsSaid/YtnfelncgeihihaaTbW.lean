/- Printed by vc.py: what must hold for functions' ways (TbW). -/
import Derived.Test.YtnfelncgeihihaaTbD
namespace Go.Proofs.Ytnfelncgeihihaa.V
open Go Go.Proofs
set_option maxRecDepth 100000
set_option linter.unusedVariables false
def byt_VC (nb : Int → List Int) (L C T R F W U : Int) (K : AV → AH → Prop) : Prop :=
  ((!decide ((if okF L C T R F W U = true then (0 : Int) else (2 : Int)) = (0 : Int))) = true →
    K (AV.tup [AV.nilslice, AV.int IntKind.i64 (if okF L C T R F W U = true then (0 : Int) else (2 : Int))])
  { nx := (1 : Nat),
    m :=
      [((0 : Nat),
          AObj.cells (23 : Nat)
            [AV.int IntKind.i64 L, AV.int IntKind.i64 C, AV.int IntKind.i64 T, AV.int IntKind.i64 R,
              AV.int IntKind.i64 F, AV.int IntKind.i64 W, AV.int IntKind.i64 U])] }) ∧
  ((!decide ((if okF L C T R F W U = true then (0 : Int) else (2 : Int)) = (0 : Int))) = false →
    need ((0 : Int) ≤ IntKind.wrap IntKind.u64 L ∧ IntKind.wrap IntKind.u64 L ≤ (1000 : Int)) ∧
    (need ((0 : Nat) < List.length (apB nb (IntKind.wrap IntKind.u64 L)) ∧
  List.length (apB nb (IntKind.wrap IntKind.u64 L)) =
      List.length (encI IntKind.u8 (apB nb (IntKind.wrap IntKind.u64 L))) ∧
    List.length (apB nb (IntKind.wrap IntKind.u64 L)) ≤ (100 : Nat) ∧
      (1 : Nat) < (2 : Nat) ∧
        pfs (encI IntKind.u8 (apB nb (IntKind.wrap IntKind.u64 L))) = true ∧
          (0 : Int) ≤ IntKind.wrap IntKind.u64 C ∧ IntKind.wrap IntKind.u64 C ≤ (1000 : Int)) ∧
    (need ((0 : Nat) < List.length (apB nb (IntKind.wrap IntKind.u64 L)) + List.length (apB nb (IntKind.wrap IntKind.u64 C)) ∧
  List.length (apB nb (IntKind.wrap IntKind.u64 L)) + List.length (apB nb (IntKind.wrap IntKind.u64 C)) =
      List.length
        (encI IntKind.u8 (apB nb (IntKind.wrap IntKind.u64 L)) ++
          encI IntKind.u8 (apB nb (IntKind.wrap IntKind.u64 C))) ∧
    List.length (apB nb (IntKind.wrap IntKind.u64 L)) + List.length (apB nb (IntKind.wrap IntKind.u64 C)) ≤
        (100 : Nat) ∧
      (2 : Nat) < (3 : Nat) ∧
        pfs
              (encI IntKind.u8 (apB nb (IntKind.wrap IntKind.u64 L)) ++
                encI IntKind.u8 (apB nb (IntKind.wrap IntKind.u64 C))) =
            true ∧
          (0 : Int) ≤ IntKind.wrap IntKind.u64 T ∧ IntKind.wrap IntKind.u64 T ≤ (1000 : Int)) ∧
    (need ((0 : Nat) <
    List.length (apB nb (IntKind.wrap IntKind.u64 L)) + List.length (apB nb (IntKind.wrap IntKind.u64 C)) +
      List.length (apB nb (IntKind.wrap IntKind.u64 T)) ∧
  List.length (apB nb (IntKind.wrap IntKind.u64 L)) + List.length (apB nb (IntKind.wrap IntKind.u64 C)) +
        List.length (apB nb (IntKind.wrap IntKind.u64 T)) =
      List.length
        (encI IntKind.u8 (apB nb (IntKind.wrap IntKind.u64 L)) ++
            encI IntKind.u8 (apB nb (IntKind.wrap IntKind.u64 C)) ++
          encI IntKind.u8 (apB nb (IntKind.wrap IntKind.u64 T))) ∧
    List.length (apB nb (IntKind.wrap IntKind.u64 L)) + List.length (apB nb (IntKind.wrap IntKind.u64 C)) +
          List.length (apB nb (IntKind.wrap IntKind.u64 T)) ≤
        (100 : Nat) ∧
      (3 : Nat) < (4 : Nat) ∧
        pfs
              (encI IntKind.u8 (apB nb (IntKind.wrap IntKind.u64 L)) ++
                  encI IntKind.u8 (apB nb (IntKind.wrap IntKind.u64 C)) ++
                encI IntKind.u8 (apB nb (IntKind.wrap IntKind.u64 T))) =
            true ∧
          (0 : Int) ≤ IntKind.wrap IntKind.u64 R ∧ IntKind.wrap IntKind.u64 R ≤ (1000 : Int)) ∧
    (need ((0 : Nat) <
    List.length (apB nb (IntKind.wrap IntKind.u64 L)) + List.length (apB nb (IntKind.wrap IntKind.u64 C)) +
        List.length (apB nb (IntKind.wrap IntKind.u64 T)) +
      List.length (apB nb (IntKind.wrap IntKind.u64 R)) ∧
  List.length (apB nb (IntKind.wrap IntKind.u64 L)) + List.length (apB nb (IntKind.wrap IntKind.u64 C)) +
          List.length (apB nb (IntKind.wrap IntKind.u64 T)) +
        List.length (apB nb (IntKind.wrap IntKind.u64 R)) =
      List.length
        (encI IntKind.u8 (apB nb (IntKind.wrap IntKind.u64 L)) ++
              encI IntKind.u8 (apB nb (IntKind.wrap IntKind.u64 C)) ++
            encI IntKind.u8 (apB nb (IntKind.wrap IntKind.u64 T)) ++
          encI IntKind.u8 (apB nb (IntKind.wrap IntKind.u64 R))) ∧
    List.length (apB nb (IntKind.wrap IntKind.u64 L)) + List.length (apB nb (IntKind.wrap IntKind.u64 C)) +
            List.length (apB nb (IntKind.wrap IntKind.u64 T)) +
          List.length (apB nb (IntKind.wrap IntKind.u64 R)) ≤
        (100 : Nat) ∧
      (4 : Nat) < (5 : Nat) ∧
        pfs
              (encI IntKind.u8 (apB nb (IntKind.wrap IntKind.u64 L)) ++
                    encI IntKind.u8 (apB nb (IntKind.wrap IntKind.u64 C)) ++
                  encI IntKind.u8 (apB nb (IntKind.wrap IntKind.u64 T)) ++
                encI IntKind.u8 (apB nb (IntKind.wrap IntKind.u64 R))) =
            true ∧
          (0 : Int) ≤ IntKind.wrap IntKind.u64 F ∧ IntKind.wrap IntKind.u64 F ≤ (1000 : Int)) ∧
    (need ((0 : Nat) <
    List.length (apB nb (IntKind.wrap IntKind.u64 L)) + List.length (apB nb (IntKind.wrap IntKind.u64 C)) +
          List.length (apB nb (IntKind.wrap IntKind.u64 T)) +
        List.length (apB nb (IntKind.wrap IntKind.u64 R)) +
      List.length (apB nb (IntKind.wrap IntKind.u64 F)) ∧
  List.length (apB nb (IntKind.wrap IntKind.u64 L)) + List.length (apB nb (IntKind.wrap IntKind.u64 C)) +
            List.length (apB nb (IntKind.wrap IntKind.u64 T)) +
          List.length (apB nb (IntKind.wrap IntKind.u64 R)) +
        List.length (apB nb (IntKind.wrap IntKind.u64 F)) =
      List.length
        (encI IntKind.u8 (apB nb (IntKind.wrap IntKind.u64 L)) ++
                encI IntKind.u8 (apB nb (IntKind.wrap IntKind.u64 C)) ++
              encI IntKind.u8 (apB nb (IntKind.wrap IntKind.u64 T)) ++
            encI IntKind.u8 (apB nb (IntKind.wrap IntKind.u64 R)) ++
          encI IntKind.u8 (apB nb (IntKind.wrap IntKind.u64 F))) ∧
    List.length (apB nb (IntKind.wrap IntKind.u64 L)) + List.length (apB nb (IntKind.wrap IntKind.u64 C)) +
              List.length (apB nb (IntKind.wrap IntKind.u64 T)) +
            List.length (apB nb (IntKind.wrap IntKind.u64 R)) +
          List.length (apB nb (IntKind.wrap IntKind.u64 F)) ≤
        (100 : Nat) ∧
      (5 : Nat) < (6 : Nat) ∧
        pfs
              (encI IntKind.u8 (apB nb (IntKind.wrap IntKind.u64 L)) ++
                      encI IntKind.u8 (apB nb (IntKind.wrap IntKind.u64 C)) ++
                    encI IntKind.u8 (apB nb (IntKind.wrap IntKind.u64 T)) ++
                  encI IntKind.u8 (apB nb (IntKind.wrap IntKind.u64 R)) ++
                encI IntKind.u8 (apB nb (IntKind.wrap IntKind.u64 F))) =
            true ∧
          (0 : Int) ≤ IntKind.wrap IntKind.u64 W ∧ IntKind.wrap IntKind.u64 W ≤ (1000 : Int)) ∧
    (need ((0 : Nat) <
    List.length (apB nb (IntKind.wrap IntKind.u64 L)) + List.length (apB nb (IntKind.wrap IntKind.u64 C)) +
            List.length (apB nb (IntKind.wrap IntKind.u64 T)) +
          List.length (apB nb (IntKind.wrap IntKind.u64 R)) +
        List.length (apB nb (IntKind.wrap IntKind.u64 F)) +
      List.length (apB nb (IntKind.wrap IntKind.u64 W)) ∧
  List.length (apB nb (IntKind.wrap IntKind.u64 L)) + List.length (apB nb (IntKind.wrap IntKind.u64 C)) +
              List.length (apB nb (IntKind.wrap IntKind.u64 T)) +
            List.length (apB nb (IntKind.wrap IntKind.u64 R)) +
          List.length (apB nb (IntKind.wrap IntKind.u64 F)) +
        List.length (apB nb (IntKind.wrap IntKind.u64 W)) =
      List.length
        (encI IntKind.u8 (apB nb (IntKind.wrap IntKind.u64 L)) ++
                  encI IntKind.u8 (apB nb (IntKind.wrap IntKind.u64 C)) ++
                encI IntKind.u8 (apB nb (IntKind.wrap IntKind.u64 T)) ++
              encI IntKind.u8 (apB nb (IntKind.wrap IntKind.u64 R)) ++
            encI IntKind.u8 (apB nb (IntKind.wrap IntKind.u64 F)) ++
          encI IntKind.u8 (apB nb (IntKind.wrap IntKind.u64 W))) ∧
    List.length (apB nb (IntKind.wrap IntKind.u64 L)) + List.length (apB nb (IntKind.wrap IntKind.u64 C)) +
                List.length (apB nb (IntKind.wrap IntKind.u64 T)) +
              List.length (apB nb (IntKind.wrap IntKind.u64 R)) +
            List.length (apB nb (IntKind.wrap IntKind.u64 F)) +
          List.length (apB nb (IntKind.wrap IntKind.u64 W)) ≤
        (100 : Nat) ∧
      (6 : Nat) < (7 : Nat) ∧
        pfs
              (encI IntKind.u8 (apB nb (IntKind.wrap IntKind.u64 L)) ++
                        encI IntKind.u8 (apB nb (IntKind.wrap IntKind.u64 C)) ++
                      encI IntKind.u8 (apB nb (IntKind.wrap IntKind.u64 T)) ++
                    encI IntKind.u8 (apB nb (IntKind.wrap IntKind.u64 R)) ++
                  encI IntKind.u8 (apB nb (IntKind.wrap IntKind.u64 F)) ++
                encI IntKind.u8 (apB nb (IntKind.wrap IntKind.u64 W))) =
            true ∧
          (0 : Int) ≤ IntKind.wrap IntKind.u64 U ∧ IntKind.wrap IntKind.u64 U ≤ (1000 : Int)) ∧
    (K
  (AV.tup
    [AV.slice (7 : Nat) (0 : Nat)
        (List.length (apB nb (IntKind.wrap IntKind.u64 L)) + List.length (apB nb (IntKind.wrap IntKind.u64 C)) +
                  List.length (apB nb (IntKind.wrap IntKind.u64 T)) +
                List.length (apB nb (IntKind.wrap IntKind.u64 R)) +
              List.length (apB nb (IntKind.wrap IntKind.u64 F)) +
            List.length (apB nb (IntKind.wrap IntKind.u64 W)) +
          List.length (apB nb (IntKind.wrap IntKind.u64 U)))
        none,
      AV.int IntKind.i64 (0 : Int)])
  { nx := (8 : Nat),
    m :=
      [((7 : Nat),
          AObj.opn (5 : Nat) (1 : Nat)
            (encI IntKind.u8 (apB nb (IntKind.wrap IntKind.u64 L)) ++
                        encI IntKind.u8 (apB nb (IntKind.wrap IntKind.u64 C)) ++
                      encI IntKind.u8 (apB nb (IntKind.wrap IntKind.u64 T)) ++
                    encI IntKind.u8 (apB nb (IntKind.wrap IntKind.u64 R)) ++
                  encI IntKind.u8 (apB nb (IntKind.wrap IntKind.u64 F)) ++
                encI IntKind.u8 (apB nb (IntKind.wrap IntKind.u64 W)) ++
              encI IntKind.u8 (apB nb (IntKind.wrap IntKind.u64 U)))),
        ((6 : Nat),
          AObj.opn (5 : Nat) (1 : Nat)
            (encI IntKind.u8 (apB nb (IntKind.wrap IntKind.u64 L)) ++
                      encI IntKind.u8 (apB nb (IntKind.wrap IntKind.u64 C)) ++
                    encI IntKind.u8 (apB nb (IntKind.wrap IntKind.u64 T)) ++
                  encI IntKind.u8 (apB nb (IntKind.wrap IntKind.u64 R)) ++
                encI IntKind.u8 (apB nb (IntKind.wrap IntKind.u64 F)) ++
              encI IntKind.u8 (apB nb (IntKind.wrap IntKind.u64 W)))),
        ((5 : Nat),
          AObj.opn (5 : Nat) (1 : Nat)
            (encI IntKind.u8 (apB nb (IntKind.wrap IntKind.u64 L)) ++
                    encI IntKind.u8 (apB nb (IntKind.wrap IntKind.u64 C)) ++
                  encI IntKind.u8 (apB nb (IntKind.wrap IntKind.u64 T)) ++
                encI IntKind.u8 (apB nb (IntKind.wrap IntKind.u64 R)) ++
              encI IntKind.u8 (apB nb (IntKind.wrap IntKind.u64 F)))),
        ((4 : Nat),
          AObj.opn (5 : Nat) (1 : Nat)
            (encI IntKind.u8 (apB nb (IntKind.wrap IntKind.u64 L)) ++
                  encI IntKind.u8 (apB nb (IntKind.wrap IntKind.u64 C)) ++
                encI IntKind.u8 (apB nb (IntKind.wrap IntKind.u64 T)) ++
              encI IntKind.u8 (apB nb (IntKind.wrap IntKind.u64 R)))),
        ((3 : Nat),
          AObj.opn (5 : Nat) (1 : Nat)
            (encI IntKind.u8 (apB nb (IntKind.wrap IntKind.u64 L)) ++
                encI IntKind.u8 (apB nb (IntKind.wrap IntKind.u64 C)) ++
              encI IntKind.u8 (apB nb (IntKind.wrap IntKind.u64 T)))),
        ((2 : Nat),
          AObj.opn (5 : Nat) (1 : Nat)
            (encI IntKind.u8 (apB nb (IntKind.wrap IntKind.u64 L)) ++
              encI IntKind.u8 (apB nb (IntKind.wrap IntKind.u64 C)))),
        ((1 : Nat), AObj.opn (5 : Nat) (1 : Nat) (encI IntKind.u8 (apB nb (IntKind.wrap IntKind.u64 L)))),
        ((0 : Nat),
          AObj.cells (23 : Nat)
            [AV.int IntKind.i64 L, AV.int IntKind.i64 C, AV.int IntKind.i64 T, AV.int IntKind.i64 R,
              AV.int IntKind.i64 F, AV.int IntKind.i64 W, AV.int IntKind.i64 U])] }))))))))
def byt_scr : Plan := .b (.z) (.z)
theorem byt_vc (nb : Int → List Int) (L C T R F W U : Int) (K : AV → AH → Prop) : (funP (XBy nb) 46 [.agg [.int .i64 L, .int .i64 C, .int .i64 T, .int .i64 R, .int .i64 F, .int .i64 W, .int .i64 U]] ⟨0, []⟩ byt_scr (fun v σ _ => K v σ)) = byt_VC nb L C T R F W U K := by kernel_rfl
end Go.Proofs.Ytnfelncgeihihaa.V
