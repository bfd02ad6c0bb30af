/- Printed by vc.py: what must hold for functions' ways (LkY). -/
import Derived.Test.YtfamikdibjhnpaaLkD
namespace Go.Proofs.Ytfamikdibjhnpaa.V
open Go Go.Proofs
set_option maxRecDepth 100000
set_option linter.unusedVariables false
def snd_VC (n : Nat) (fr ct mk : Int) (en : Bool) (rc : List AV) (k t c h b p v : Int) (K : AV → AH → Prop) : Prop :=
  ((!decide ((↑n : Int) > (0 : Int))) = true →
    K (AV.int IntKind.i64 (1 : Int))
  { nx := (3 : Nat),
    m :=
      [((2 : Nat),
          AObj.cells (33 : Nat)
            [AV.int IntKind.i64 k, AV.int IntKind.i64 t, AV.int IntKind.i64 c, AV.int IntKind.u8 h,
              AV.int IntKind.i64 b, AV.int IntKind.i64 p, AV.int IntKind.u8 v]),
        ((1 : Nat),
          AObj.cells (42 : Nat)
            [AV.slice (0 : Nat) (0 : Nat) n (some n), AV.int IntKind.i64 fr, AV.int IntKind.i64 ct,
              AV.int IntKind.i64 mk, AV.bool en]),
        ((0 : Nat), AObj.cells (33 : Nat) rc)] }) ∧
  ((!decide ((↑n : Int) > (0 : Int))) = false →
    (((en) = true →
        K (AV.int IntKind.i64 (10 : Int))
  { nx := (3 : Nat),
    m :=
      [((2 : Nat),
          AObj.cells (33 : Nat)
            [AV.int IntKind.i64 k, AV.int IntKind.i64 t, AV.int IntKind.i64 c, AV.int IntKind.u8 h,
              AV.int IntKind.i64 b, AV.int IntKind.i64 p, AV.int IntKind.u8 v]),
        ((1 : Nat),
          AObj.cells (42 : Nat)
            [AV.slice (0 : Nat) (0 : Nat) n (some n), AV.int IntKind.i64 fr, AV.int IntKind.i64 ct,
              AV.int IntKind.i64 mk, AV.bool en]),
        ((0 : Nat), AObj.cells (33 : Nat) rc)] }) ∧
      ((en) = false →
        ((decide (t < mk)) = true →
          K (AV.int IntKind.i64 (8 : Int))
  { nx := (3 : Nat),
    m :=
      [((2 : Nat),
          AObj.cells (33 : Nat)
            [AV.int IntKind.i64 k, AV.int IntKind.i64 t, AV.int IntKind.i64 c, AV.int IntKind.u8 h,
              AV.int IntKind.i64 b, AV.int IntKind.i64 p, AV.int IntKind.u8 v]),
        ((1 : Nat),
          AObj.cells (42 : Nat)
            [AV.slice (0 : Nat) (0 : Nat) n (some n), AV.int IntKind.i64 fr, AV.int IntKind.i64 ct,
              AV.int IntKind.i64 mk, AV.bool en]),
        ((0 : Nat), AObj.cells (33 : Nat) rc)] }) ∧
        ((decide (t < mk)) = false →
          ((decide (ct = (↑n : Int))) = true →
            K (AV.int IntKind.i64 (9 : Int))
  { nx := (3 : Nat),
    m :=
      [((2 : Nat),
          AObj.cells (33 : Nat)
            [AV.int IntKind.i64 k, AV.int IntKind.i64 t, AV.int IntKind.i64 c, AV.int IntKind.u8 h,
              AV.int IntKind.i64 b, AV.int IntKind.i64 p, AV.int IntKind.u8 v]),
        ((1 : Nat),
          AObj.cells (42 : Nat)
            [AV.slice (0 : Nat) (0 : Nat) n (some n), AV.int IntKind.i64 fr, AV.int IntKind.i64 ct,
              AV.int IntKind.i64 mk, AV.bool en]),
        ((0 : Nat), AObj.cells (33 : Nat) rc)] }) ∧
          ((decide (ct = (↑n : Int))) = false →
            (!decide ((↑n : Int) = (0 : Int))) = true ∧
            ((decide
  ((0 : Int) ≤ Int.tmod (IntKind.wrap IntKind.i64 (fr + ct)) (↑n : Int) ∧
    Int.tmod (IntKind.wrap IntKind.i64 (fr + ct)) (↑n : Int) < (↑n : Int))) = true ∧
            ((decide
  ((0 : Nat) + Int.toNat (Int.tmod (IntKind.wrap IntKind.i64 (fr + ct)) (↑n : Int)) * (7 : Nat) + (7 : Nat) ≤
    List.length rc)) = true ∧
            (K (AV.int IntKind.i64 (0 : Int))
  { nx := (3 : Nat),
    m :=
      [((1 : Nat),
          AObj.cells (42 : Nat)
            [AV.slice (0 : Nat) (0 : Nat) n (some n), AV.int IntKind.i64 fr,
              AV.int IntKind.i64 (IntKind.wrap IntKind.i64 (ct + (1 : Int))), AV.int IntKind.i64 t,
              AV.bool (decide (k = (5 : Int)))]),
        ((0 : Nat),
          AObj.cells (33 : Nat)
            (splice rc ((0 : Nat) + Int.toNat (Int.tmod (IntKind.wrap IntKind.i64 (fr + ct)) (↑n : Int)) * (7 : Nat))
              [AV.int IntKind.i64 k, AV.int IntKind.i64 t, AV.int IntKind.i64 c, AV.int IntKind.u8 h,
                AV.int IntKind.i64 b, AV.int IntKind.i64 p, AV.int IntKind.u8 v])),
        ((2 : Nat),
          AObj.cells (33 : Nat)
            [AV.int IntKind.i64 k, AV.int IntKind.i64 t, AV.int IntKind.i64 c, AV.int IntKind.u8 h,
              AV.int IntKind.i64 b, AV.int IntKind.i64 p, AV.int IntKind.u8 v])] }))))))) ∧
    (K (AV.int IntKind.i64 (2 : Int))
  { nx := (3 : Nat),
    m :=
      [((2 : Nat),
          AObj.cells (33 : Nat)
            [AV.int IntKind.i64 k, AV.int IntKind.i64 t, AV.int IntKind.i64 c, AV.int IntKind.u8 h,
              AV.int IntKind.i64 b, AV.int IntKind.i64 p, AV.int IntKind.u8 v]),
        ((1 : Nat),
          AObj.cells (42 : Nat)
            [AV.slice (0 : Nat) (0 : Nat) n (some n), AV.int IntKind.i64 fr, AV.int IntKind.i64 ct,
              AV.int IntKind.i64 mk, AV.bool en]),
        ((0 : Nat), AObj.cells (33 : Nat) rc)] }))
def snd_scr : Plan := .k (.k (.k (.k (.k (.k (.k (.b (.z) (.b (.k (.b (.z) (.b (.z) (.b (.z) (.t (.t (.t (.z)))))))) (.z)))))))))
theorem snd_vc (n : Nat) (fr ct mk : Int) (en : Bool) (rc : List AV) (k t c h b p v : Int) (K : AV → AH → Prop) : (funP (XRo) 8 [.ptr 1 0, .agg [.int .i64 k, .int .i64 t, .int .i64 c, .int .u8 h, .int .i64 b, .int .i64 p, .int .u8 v]] ⟨2, [(1, .cells 42 [.slice 0 0 n (some n), .int .i64 fr, .int .i64 ct, .int .i64 mk, .bool en]), (0, .cells 33 rc)]⟩ snd_scr (fun v σ _ => K v σ)) = snd_VC n fr ct mk en rc k t c h b p v K := by kernel_rfl
def tak_VC (n : Nat) (fr ct mk : Int) (en : Bool) (rc : List AV) (K : AV → AH → Prop) : Prop :=
  ((!decide ((↑n : Int) > (0 : Int))) = true →
    K
  (AV.tup
    [AV.agg
        [AV.int IntKind.i64 (0 : Int), AV.int IntKind.i64 (0 : Int), AV.int IntKind.i64 (0 : Int),
          AV.int IntKind.u8 (0 : Int), AV.int IntKind.i64 (0 : Int), AV.int IntKind.i64 (0 : Int),
          AV.int IntKind.u8 (0 : Int)],
      AV.int IntKind.i64 (1 : Int)])
  { nx := (3 : Nat),
    m :=
      [((2 : Nat),
          AObj.cells (33 : Nat)
            [AV.int IntKind.i64 (0 : Int), AV.int IntKind.i64 (0 : Int), AV.int IntKind.i64 (0 : Int),
              AV.int IntKind.u8 (0 : Int), AV.int IntKind.i64 (0 : Int), AV.int IntKind.i64 (0 : Int),
              AV.int IntKind.u8 (0 : Int)]),
        ((1 : Nat),
          AObj.cells (42 : Nat)
            [AV.slice (0 : Nat) (0 : Nat) n (some n), AV.int IntKind.i64 fr, AV.int IntKind.i64 ct,
              AV.int IntKind.i64 mk, AV.bool en]),
        ((0 : Nat), AObj.cells (33 : Nat) rc)] }) ∧
  ((!decide ((↑n : Int) > (0 : Int))) = false →
    (!!decide ((↑n : Int) > (0 : Int))) = true ∧
    ((!!decide ((↑n : Int) > (0 : Int))) = true ∧
    ((!!decide ((↑n : Int) > (0 : Int))) = true ∧
    ((!!decide ((↑n : Int) > (0 : Int))) = true ∧
    ((!!decide ((↑n : Int) > (0 : Int))) = true ∧
    ((!decide ((↑n : Int) > (0 : Int))) = false ∧
    (((decide (ct = (0 : Int))) = true →
      K
  (AV.tup
    [AV.agg
        [AV.int IntKind.i64 (0 : Int), AV.int IntKind.i64 (0 : Int), AV.int IntKind.i64 (0 : Int),
          AV.int IntKind.u8 (0 : Int), AV.int IntKind.i64 (0 : Int), AV.int IntKind.i64 (0 : Int),
          AV.int IntKind.u8 (0 : Int)],
      AV.int IntKind.i64 (6 : Int)])
  { nx := (5 : Nat),
    m :=
      [((4 : Nat),
          AObj.cells (33 : Nat)
            [AV.int IntKind.i64 (0 : Int), AV.int IntKind.i64 (0 : Int), AV.int IntKind.i64 (0 : Int),
              AV.int IntKind.u8 (0 : Int), AV.int IntKind.i64 (0 : Int), AV.int IntKind.i64 (0 : Int),
              AV.int IntKind.u8 (0 : Int)]),
        ((3 : Nat),
          AObj.cells (33 : Nat)
            [AV.int IntKind.i64 (0 : Int), AV.int IntKind.i64 (0 : Int), AV.int IntKind.i64 (0 : Int),
              AV.int IntKind.u8 (0 : Int), AV.int IntKind.i64 (0 : Int), AV.int IntKind.i64 (0 : Int),
              AV.int IntKind.u8 (0 : Int)]),
        ((2 : Nat),
          AObj.cells (33 : Nat)
            [AV.int IntKind.i64 (0 : Int), AV.int IntKind.i64 (0 : Int), AV.int IntKind.i64 (0 : Int),
              AV.int IntKind.u8 (0 : Int), AV.int IntKind.i64 (0 : Int), AV.int IntKind.i64 (0 : Int),
              AV.int IntKind.u8 (0 : Int)]),
        ((1 : Nat),
          AObj.cells (42 : Nat)
            [AV.slice (0 : Nat) (0 : Nat) n (some n), AV.int IntKind.i64 fr, AV.int IntKind.i64 ct,
              AV.int IntKind.i64 mk, AV.bool en]),
        ((0 : Nat), AObj.cells (33 : Nat) rc)] }) ∧
    ((decide (ct = (0 : Int))) = false →
      (decide ((0 : Int) ≤ fr ∧ fr < (↑n : Int))) = true ∧
      ((decide ((0 : Nat) + Int.toNat fr * (7 : Nat) + (7 : Nat) ≤ List.length rc)) = true ∧
      ((AV.isI IntKind.i64 (List.getD rc ((0 : Nat) + Int.toNat fr * (7 : Nat)) (AV.tup []))) = true ∧
      ((AV.isI IntKind.i64 (List.getD rc ((0 : Nat) + Int.toNat fr * (7 : Nat) + (1 : Nat)) (AV.tup []))) = true ∧
      ((AV.isI IntKind.i64 (List.getD rc ((0 : Nat) + Int.toNat fr * (7 : Nat) + (1 : Nat) + (1 : Nat)) (AV.tup []))) = true ∧
      ((AV.isI IntKind.u8 (List.getD rc ((0 : Nat) + Int.toNat fr * (7 : Nat) + (1 : Nat) + (1 : Nat) + (1 : Nat)) (AV.tup []))) = true ∧
      ((AV.isI IntKind.i64
  (List.getD rc ((0 : Nat) + Int.toNat fr * (7 : Nat) + (1 : Nat) + (1 : Nat) + (1 : Nat) + (1 : Nat)) (AV.tup []))) = true ∧
      ((AV.isI IntKind.i64
  (List.getD rc ((0 : Nat) + Int.toNat fr * (7 : Nat) + (1 : Nat) + (1 : Nat) + (1 : Nat) + (1 : Nat) + (1 : Nat))
    (AV.tup []))) = true ∧
      ((AV.isI IntKind.u8
  (List.getD rc
    ((0 : Nat) + Int.toNat fr * (7 : Nat) + (1 : Nat) + (1 : Nat) + (1 : Nat) + (1 : Nat) + (1 : Nat) + (1 : Nat))
    (AV.tup []))) = true ∧
      ((!decide ((↑n : Int) = (0 : Int))) = true ∧
      (K
  (AV.tup
    [AV.agg
        [AV.int IntKind.i64 (AV.toI (List.getD rc ((0 : Nat) + Int.toNat fr * (7 : Nat)) (AV.tup []))),
          AV.int IntKind.i64 (AV.toI (List.getD rc ((0 : Nat) + Int.toNat fr * (7 : Nat) + (1 : Nat)) (AV.tup []))),
          AV.int IntKind.i64
            (AV.toI (List.getD rc ((0 : Nat) + Int.toNat fr * (7 : Nat) + (1 : Nat) + (1 : Nat)) (AV.tup []))),
          AV.int IntKind.u8
            (AV.toI
              (List.getD rc ((0 : Nat) + Int.toNat fr * (7 : Nat) + (1 : Nat) + (1 : Nat) + (1 : Nat)) (AV.tup []))),
          AV.int IntKind.i64
            (AV.toI
              (List.getD rc ((0 : Nat) + Int.toNat fr * (7 : Nat) + (1 : Nat) + (1 : Nat) + (1 : Nat) + (1 : Nat))
                (AV.tup []))),
          AV.int IntKind.i64
            (AV.toI
              (List.getD rc
                ((0 : Nat) + Int.toNat fr * (7 : Nat) + (1 : Nat) + (1 : Nat) + (1 : Nat) + (1 : Nat) + (1 : Nat))
                (AV.tup []))),
          AV.int IntKind.u8
            (AV.toI
              (List.getD rc
                ((0 : Nat) + Int.toNat fr * (7 : Nat) + (1 : Nat) + (1 : Nat) + (1 : Nat) + (1 : Nat) + (1 : Nat) +
                  (1 : Nat))
                (AV.tup [])))],
      AV.int IntKind.i64 (0 : Int)])
  { nx := (5 : Nat),
    m :=
      [((1 : Nat),
          AObj.cells (42 : Nat)
            [AV.slice (0 : Nat) (0 : Nat) n (some n),
              AV.int IntKind.i64 (Int.tmod (IntKind.wrap IntKind.i64 (fr + (1 : Int))) (↑n : Int)),
              AV.int IntKind.i64 (IntKind.wrap IntKind.i64 (ct - (1 : Int))), AV.int IntKind.i64 mk, AV.bool en]),
        ((4 : Nat),
          AObj.cells (33 : Nat)
            [AV.int IntKind.i64 (AV.toI (List.getD rc ((0 : Nat) + Int.toNat fr * (7 : Nat)) (AV.tup []))),
              AV.int IntKind.i64 (AV.toI (List.getD rc ((0 : Nat) + Int.toNat fr * (7 : Nat) + (1 : Nat)) (AV.tup []))),
              AV.int IntKind.i64
                (AV.toI (List.getD rc ((0 : Nat) + Int.toNat fr * (7 : Nat) + (1 : Nat) + (1 : Nat)) (AV.tup []))),
              AV.int IntKind.u8
                (AV.toI
                  (List.getD rc ((0 : Nat) + Int.toNat fr * (7 : Nat) + (1 : Nat) + (1 : Nat) + (1 : Nat))
                    (AV.tup []))),
              AV.int IntKind.i64
                (AV.toI
                  (List.getD rc ((0 : Nat) + Int.toNat fr * (7 : Nat) + (1 : Nat) + (1 : Nat) + (1 : Nat) + (1 : Nat))
                    (AV.tup []))),
              AV.int IntKind.i64
                (AV.toI
                  (List.getD rc
                    ((0 : Nat) + Int.toNat fr * (7 : Nat) + (1 : Nat) + (1 : Nat) + (1 : Nat) + (1 : Nat) + (1 : Nat))
                    (AV.tup []))),
              AV.int IntKind.u8
                (AV.toI
                  (List.getD rc
                    ((0 : Nat) + Int.toNat fr * (7 : Nat) + (1 : Nat) + (1 : Nat) + (1 : Nat) + (1 : Nat) + (1 : Nat) +
                      (1 : Nat))
                    (AV.tup [])))]),
        ((3 : Nat),
          AObj.cells (33 : Nat)
            [AV.int IntKind.i64 (AV.toI (List.getD rc ((0 : Nat) + Int.toNat fr * (7 : Nat)) (AV.tup []))),
              AV.int IntKind.i64 (AV.toI (List.getD rc ((0 : Nat) + Int.toNat fr * (7 : Nat) + (1 : Nat)) (AV.tup []))),
              AV.int IntKind.i64
                (AV.toI (List.getD rc ((0 : Nat) + Int.toNat fr * (7 : Nat) + (1 : Nat) + (1 : Nat)) (AV.tup []))),
              AV.int IntKind.u8
                (AV.toI
                  (List.getD rc ((0 : Nat) + Int.toNat fr * (7 : Nat) + (1 : Nat) + (1 : Nat) + (1 : Nat))
                    (AV.tup []))),
              AV.int IntKind.i64
                (AV.toI
                  (List.getD rc ((0 : Nat) + Int.toNat fr * (7 : Nat) + (1 : Nat) + (1 : Nat) + (1 : Nat) + (1 : Nat))
                    (AV.tup []))),
              AV.int IntKind.i64
                (AV.toI
                  (List.getD rc
                    ((0 : Nat) + Int.toNat fr * (7 : Nat) + (1 : Nat) + (1 : Nat) + (1 : Nat) + (1 : Nat) + (1 : Nat))
                    (AV.tup []))),
              AV.int IntKind.u8
                (AV.toI
                  (List.getD rc
                    ((0 : Nat) + Int.toNat fr * (7 : Nat) + (1 : Nat) + (1 : Nat) + (1 : Nat) + (1 : Nat) + (1 : Nat) +
                      (1 : Nat))
                    (AV.tup [])))]),
        ((2 : Nat),
          AObj.cells (33 : Nat)
            [AV.int IntKind.i64 (AV.toI (List.getD rc ((0 : Nat) + Int.toNat fr * (7 : Nat)) (AV.tup []))),
              AV.int IntKind.i64 (AV.toI (List.getD rc ((0 : Nat) + Int.toNat fr * (7 : Nat) + (1 : Nat)) (AV.tup []))),
              AV.int IntKind.i64
                (AV.toI (List.getD rc ((0 : Nat) + Int.toNat fr * (7 : Nat) + (1 : Nat) + (1 : Nat)) (AV.tup []))),
              AV.int IntKind.u8
                (AV.toI
                  (List.getD rc ((0 : Nat) + Int.toNat fr * (7 : Nat) + (1 : Nat) + (1 : Nat) + (1 : Nat))
                    (AV.tup []))),
              AV.int IntKind.i64
                (AV.toI
                  (List.getD rc ((0 : Nat) + Int.toNat fr * (7 : Nat) + (1 : Nat) + (1 : Nat) + (1 : Nat) + (1 : Nat))
                    (AV.tup []))),
              AV.int IntKind.i64
                (AV.toI
                  (List.getD rc
                    ((0 : Nat) + Int.toNat fr * (7 : Nat) + (1 : Nat) + (1 : Nat) + (1 : Nat) + (1 : Nat) + (1 : Nat))
                    (AV.tup []))),
              AV.int IntKind.u8
                (AV.toI
                  (List.getD rc
                    ((0 : Nat) + Int.toNat fr * (7 : Nat) + (1 : Nat) + (1 : Nat) + (1 : Nat) + (1 : Nat) + (1 : Nat) +
                      (1 : Nat))
                    (AV.tup [])))]),
        ((0 : Nat), AObj.cells (33 : Nat) rc)] }))))))))))))))))))
def tak_scr : Plan := .k (.k (.k (.k (.k (.k (.k (.b (.z) (.k (.k (.k (.k (.k (.k (.k (.t (.t (.t (.t (.t (.f (.b (.z) (.t (.t (.t (.t (.t (.t (.t (.t (.t (.k (.t (.z)))))))))))))))))))))))))))))))))
theorem tak_vc (n : Nat) (fr ct mk : Int) (en : Bool) (rc : List AV) (K : AV → AH → Prop) : (funP (XRo) 10 [.ptr 1 0] ⟨2, [(1, .cells 42 [.slice 0 0 n (some n), .int .i64 fr, .int .i64 ct, .int .i64 mk, .bool en]), (0, .cells 33 rc)]⟩ tak_scr (fun v σ _ => K v σ)) = tak_VC n fr ct mk en rc K := by kernel_rfl
end Go.Proofs.Ytfamikdibjhnpaa.V
