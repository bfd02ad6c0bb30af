/- Printed by vc.py: what must hold for functions' ways (KpW). -/
import Derived.Test.YteneafgmcmgahaaKpB
namespace Go.Proofs.Yteneafgmcmgahaa.V
open Go Go.Proofs
set_option maxRecDepth 100000
set_option linter.unusedVariables false
def cR_VC (n : Nat) (i : Int) (cs : List AV) (N : NS) (Q : QS) (K : Unit) : Prop :=
  ((decide (i < (↑n : Int))) = true →
    (decide ((0 : Int) ≤ i ∧ i < (↑n : Int))) = true ∧
    ((decide ((0 : Nat) + Int.toNat i * (4 : Nat) + (4 : Nat) ≤ List.length cs)) = true ∧
    ((AV.isI IntKind.i64 (List.getD cs ((0 : Nat) + Int.toNat i * (4 : Nat)) (AV.tup []))) = true ∧
    ((AV.isI IntKind.i64 (List.getD cs ((0 : Nat) + Int.toNat i * (4 : Nat) + (1 : Nat)) (AV.tup []))) = true ∧
    ((AV.isI IntKind.i64 (List.getD cs ((0 : Nat) + Int.toNat i * (4 : Nat) + (1 : Nat) + (1 : Nat)) (AV.tup []))) = true ∧
    ((AV.isB (List.getD cs ((0 : Nat) + Int.toNat i * (4 : Nat) + (1 : Nat) + (1 : Nat) + (1 : Nat)) (AV.tup []))) = true ∧
    (((!!tchB (AV.toI (List.getD cs ((0 : Nat) + Int.toNat i * (4 : Nat)) (AV.tup [])))
      (AV.toI (List.getD cs ((0 : Nat) + Int.toNat i * (4 : Nat) + (1 : Nat)) (AV.tup [])))
      (AV.toI (List.getD cs ((0 : Nat) + Int.toNat i * (4 : Nat) + (1 : Nat) + (1 : Nat)) (AV.tup [])))) = true →
      (!!tchB (AV.toI (List.getD cs ((0 : Nat) + Int.toNat i * (4 : Nat)) (AV.tup [])))
      (AV.toI (List.getD cs ((0 : Nat) + Int.toNat i * (4 : Nat) + (1 : Nat)) (AV.tup [])))
      (AV.toI (List.getD cs ((0 : Nat) + Int.toNat i * (4 : Nat) + (1 : Nat) + (1 : Nat)) (AV.tup [])))) = true ∧
      ((!!tchB (AV.toI (List.getD cs ((0 : Nat) + Int.toNat i * (4 : Nat)) (AV.tup [])))
      (AV.toI (List.getD cs ((0 : Nat) + Int.toNat i * (4 : Nat) + (1 : Nat)) (AV.tup [])))
      (AV.toI (List.getD cs ((0 : Nat) + Int.toNat i * (4 : Nat) + (1 : Nat) + (1 : Nat)) (AV.tup [])))) = true ∧
      (((decide (i > (0 : Int))) = true →
        (decide (i > (0 : Int))) = true ∧
        ((decide (i > (0 : Int))) = true ∧
        ((decide (i > (0 : Int))) = true ∧
        ((decide (i > (0 : Int))) = true ∧
        ((decide (i > (0 : Int))) = true ∧
        ((decide ((0 : Int) ≤ IntKind.wrap IntKind.i64 (i - (1 : Int)) ∧ IntKind.wrap IntKind.i64 (i - (1 : Int)) < (↑n : Int))) = true ∧
        ((decide (i > (0 : Int))) = true ∧
        ((decide (i > (0 : Int))) = true ∧
        ((decide ((0 : Nat) + Int.toNat (IntKind.wrap IntKind.i64 (i - (1 : Int))) * (4 : Nat) + (0 : Nat) < List.length cs)) = true ∧
        ((AV.isI IntKind.i64
  (List.getD cs ((0 : Nat) + Int.toNat (IntKind.wrap IntKind.i64 (i - (1 : Int))) * (4 : Nat) + (0 : Nat)) (AV.tup []))) = true ∧
        ((decide (i > (0 : Int))) = true ∧
        ((!!tchB (AV.toI (List.getD cs ((0 : Nat) + Int.toNat i * (4 : Nat)) (AV.tup [])))
      (AV.toI (List.getD cs ((0 : Nat) + Int.toNat i * (4 : Nat) + (1 : Nat)) (AV.tup [])))
      (AV.toI (List.getD cs ((0 : Nat) + Int.toNat i * (4 : Nat) + (1 : Nat) + (1 : Nat)) (AV.tup [])))) = true ∧
        ((decide (i > (0 : Int))) = true ∧
        ((!tchB (AV.toI (List.getD cs ((0 : Nat) + Int.toNat i * (4 : Nat)) (AV.tup [])))
    (AV.toI (List.getD cs ((0 : Nat) + Int.toNat i * (4 : Nat) + (1 : Nat)) (AV.tup [])))
    (AV.toI (List.getD cs ((0 : Nat) + Int.toNat i * (4 : Nat) + (1 : Nat) + (1 : Nat)) (AV.tup [])))) = false ∧
        (((decide
  (AV.toI (List.getD cs ((0 : Nat) + Int.toNat i * (4 : Nat)) (AV.tup [])) <
    AV.toI
      (List.getD cs ((0 : Nat) + Int.toNat (IntKind.wrap IntKind.i64 (i - (1 : Int))) * (4 : Nat) + (0 : Nat))
        (AV.tup [])))) = true →
          Q Exit.ret (34 : Nat)
  [some (AV.slice (0 : Nat) (0 : Nat) n none), some (AV.int IntKind.i64 (2 : Int)),
    some (AV.slice (0 : Nat) (0 : Nat) n none), some (AV.int IntKind.i64 (↑n : Int)), some (AV.int IntKind.i64 i)]
  { nx := (2 : Nat),
    m :=
      [((1 : Nat),
          AObj.cells (39 : Nat)
            [AV.int IntKind.i64 (AV.toI (List.getD cs ((0 : Nat) + Int.toNat i * (4 : Nat)) (AV.tup []))),
              AV.int IntKind.i64 (AV.toI (List.getD cs ((0 : Nat) + Int.toNat i * (4 : Nat) + (1 : Nat)) (AV.tup []))),
              AV.int IntKind.i64
                (AV.toI (List.getD cs ((0 : Nat) + Int.toNat i * (4 : Nat) + (1 : Nat) + (1 : Nat)) (AV.tup []))),
              AV.bool
                (AV.toB
                  (List.getD cs ((0 : Nat) + Int.toNat i * (4 : Nat) + (1 : Nat) + (1 : Nat) + (1 : Nat))
                    (AV.tup [])))]),
        ((0 : Nat), AObj.ro cs)] }) ∧
        ((decide
  (AV.toI (List.getD cs ((0 : Nat) + Int.toNat i * (4 : Nat)) (AV.tup [])) <
    AV.toI
      (List.getD cs ((0 : Nat) + Int.toNat (IntKind.wrap IntKind.i64 (i - (1 : Int))) * (4 : Nat) + (0 : Nat))
        (AV.tup [])))) = false →
          N (34 : Nat)
  [some (AV.slice (0 : Nat) (0 : Nat) n none), none, some (AV.slice (0 : Nat) (0 : Nat) n none),
    some (AV.int IntKind.i64 (↑n : Int)), some (AV.int IntKind.i64 (IntKind.wrap IntKind.i64 (i + (1 : Int))))]
  { nx := (2 : Nat),
    m :=
      [((1 : Nat),
          AObj.cells (39 : Nat)
            [AV.int IntKind.i64 (AV.toI (List.getD cs ((0 : Nat) + Int.toNat i * (4 : Nat)) (AV.tup []))),
              AV.int IntKind.i64 (AV.toI (List.getD cs ((0 : Nat) + Int.toNat i * (4 : Nat) + (1 : Nat)) (AV.tup []))),
              AV.int IntKind.i64
                (AV.toI (List.getD cs ((0 : Nat) + Int.toNat i * (4 : Nat) + (1 : Nat) + (1 : Nat)) (AV.tup []))),
              AV.bool
                (AV.toB
                  (List.getD cs ((0 : Nat) + Int.toNat i * (4 : Nat) + (1 : Nat) + (1 : Nat) + (1 : Nat))
                    (AV.tup [])))]),
        ((0 : Nat), AObj.ro cs)] })))))))))))))))) ∧
      ((decide (i > (0 : Int))) = false →
        (decide (i > (0 : Int))) = false ∧
        ((decide (i > (0 : Int))) = false ∧
        ((decide (i > (0 : Int))) = false ∧
        ((decide (i > (0 : Int))) = false ∧
        ((decide (i > (0 : Int))) = false ∧
        ((decide (i > (0 : Int))) = false ∧
        ((decide (i > (0 : Int))) = false ∧
        ((decide (i > (0 : Int))) = false ∧
        ((!!tchB (AV.toI (List.getD cs ((0 : Nat) + Int.toNat i * (4 : Nat)) (AV.tup [])))
      (AV.toI (List.getD cs ((0 : Nat) + Int.toNat i * (4 : Nat) + (1 : Nat)) (AV.tup [])))
      (AV.toI (List.getD cs ((0 : Nat) + Int.toNat i * (4 : Nat) + (1 : Nat) + (1 : Nat)) (AV.tup [])))) = true ∧
        ((decide (i > (0 : Int))) = false ∧
        ((!tchB (AV.toI (List.getD cs ((0 : Nat) + Int.toNat i * (4 : Nat)) (AV.tup [])))
    (AV.toI (List.getD cs ((0 : Nat) + Int.toNat i * (4 : Nat) + (1 : Nat)) (AV.tup [])))
    (AV.toI (List.getD cs ((0 : Nat) + Int.toNat i * (4 : Nat) + (1 : Nat) + (1 : Nat)) (AV.tup [])))) = false ∧
        (N (34 : Nat)
  [some (AV.slice (0 : Nat) (0 : Nat) n none), none, some (AV.slice (0 : Nat) (0 : Nat) n none),
    some (AV.int IntKind.i64 (↑n : Int)), some (AV.int IntKind.i64 (IntKind.wrap IntKind.i64 (i + (1 : Int))))]
  { nx := (2 : Nat),
    m :=
      [((1 : Nat),
          AObj.cells (39 : Nat)
            [AV.int IntKind.i64 (AV.toI (List.getD cs ((0 : Nat) + Int.toNat i * (4 : Nat)) (AV.tup []))),
              AV.int IntKind.i64 (AV.toI (List.getD cs ((0 : Nat) + Int.toNat i * (4 : Nat) + (1 : Nat)) (AV.tup []))),
              AV.int IntKind.i64
                (AV.toI (List.getD cs ((0 : Nat) + Int.toNat i * (4 : Nat) + (1 : Nat) + (1 : Nat)) (AV.tup []))),
              AV.bool
                (AV.toB
                  (List.getD cs ((0 : Nat) + Int.toNat i * (4 : Nat) + (1 : Nat) + (1 : Nat) + (1 : Nat))
                    (AV.tup [])))]),
        ((0 : Nat), AObj.ro cs)] }))))))))))))))) ∧
    ((!!tchB (AV.toI (List.getD cs ((0 : Nat) + Int.toNat i * (4 : Nat)) (AV.tup [])))
      (AV.toI (List.getD cs ((0 : Nat) + Int.toNat i * (4 : Nat) + (1 : Nat)) (AV.tup [])))
      (AV.toI (List.getD cs ((0 : Nat) + Int.toNat i * (4 : Nat) + (1 : Nat) + (1 : Nat)) (AV.tup [])))) = false →
      (!!tchB (AV.toI (List.getD cs ((0 : Nat) + Int.toNat i * (4 : Nat)) (AV.tup [])))
      (AV.toI (List.getD cs ((0 : Nat) + Int.toNat i * (4 : Nat) + (1 : Nat)) (AV.tup [])))
      (AV.toI (List.getD cs ((0 : Nat) + Int.toNat i * (4 : Nat) + (1 : Nat) + (1 : Nat)) (AV.tup [])))) = false ∧
      ((!!tchB (AV.toI (List.getD cs ((0 : Nat) + Int.toNat i * (4 : Nat)) (AV.tup [])))
      (AV.toI (List.getD cs ((0 : Nat) + Int.toNat i * (4 : Nat) + (1 : Nat)) (AV.tup [])))
      (AV.toI (List.getD cs ((0 : Nat) + Int.toNat i * (4 : Nat) + (1 : Nat) + (1 : Nat)) (AV.tup [])))) = false ∧
      ((!!tchB (AV.toI (List.getD cs ((0 : Nat) + Int.toNat i * (4 : Nat)) (AV.tup [])))
      (AV.toI (List.getD cs ((0 : Nat) + Int.toNat i * (4 : Nat) + (1 : Nat)) (AV.tup [])))
      (AV.toI (List.getD cs ((0 : Nat) + Int.toNat i * (4 : Nat) + (1 : Nat) + (1 : Nat)) (AV.tup [])))) = false ∧
      ((!tchB (AV.toI (List.getD cs ((0 : Nat) + Int.toNat i * (4 : Nat)) (AV.tup [])))
    (AV.toI (List.getD cs ((0 : Nat) + Int.toNat i * (4 : Nat) + (1 : Nat)) (AV.tup [])))
    (AV.toI (List.getD cs ((0 : Nat) + Int.toNat i * (4 : Nat) + (1 : Nat) + (1 : Nat)) (AV.tup [])))) = true ∧
      (Q Exit.ret (34 : Nat)
  [some (AV.slice (0 : Nat) (0 : Nat) n none), some (AV.int IntKind.i64 (2 : Int)),
    some (AV.slice (0 : Nat) (0 : Nat) n none), some (AV.int IntKind.i64 (↑n : Int)), some (AV.int IntKind.i64 i)]
  { nx := (2 : Nat),
    m :=
      [((1 : Nat),
          AObj.cells (39 : Nat)
            [AV.int IntKind.i64 (AV.toI (List.getD cs ((0 : Nat) + Int.toNat i * (4 : Nat)) (AV.tup []))),
              AV.int IntKind.i64 (AV.toI (List.getD cs ((0 : Nat) + Int.toNat i * (4 : Nat) + (1 : Nat)) (AV.tup []))),
              AV.int IntKind.i64
                (AV.toI (List.getD cs ((0 : Nat) + Int.toNat i * (4 : Nat) + (1 : Nat) + (1 : Nat)) (AV.tup []))),
              AV.bool
                (AV.toB
                  (List.getD cs ((0 : Nat) + Int.toNat i * (4 : Nat) + (1 : Nat) + (1 : Nat) + (1 : Nat))
                    (AV.tup [])))]),
        ((0 : Nat), AObj.ro cs)] })))))))))))) ∧
  ((decide (i < (↑n : Int))) = false →
    Q (Exit.exit (0 : Nat)) (34 : Nat)
  [some (AV.slice (0 : Nat) (0 : Nat) n none), none, some (AV.slice (0 : Nat) (0 : Nat) n none),
    some (AV.int IntKind.i64 (↑n : Int)), some (AV.int IntKind.i64 i)]
  { nx := (1 : Nat), m := [((0 : Nat), AObj.ro cs)] })
def cR_scr : Plan := .b (.t (.t (.t (.t (.t (.t (.b (.t (.t (.b (.t (.t (.t (.t (.t (.t (.t (.t (.t (.t (.t (.t (.t (.f (.b (.z) (.z)))))))))))))))) (.f (.f (.f (.f (.f (.f (.f (.f (.t (.f (.f (.z))))))))))))))) (.f (.f (.k (.k (.k (.k (.k (.k (.k (.k (.k (.f (.t (.z))))))))))))))))))))) (.z)
theorem cR_vc (n : Nat) (i : Int) (cs : List AV) (N : NS) (Q : QS) (K : Unit) : (wpP XK1 (symC Try.prog (bodyOf Try.prog 16) []) 1 (loopAt Try.prog 16 0) 0 (rndS [0, 2, 8, 9, 10] N Q) (cSt n i cs).1 (cSt n i cs).2 cR_scr) = cR_VC n i cs N Q K := by kernel_rfl
def rR_VC (n : Nat) (i : Int) (cs : List AV) (N : NS) (Q : QS) (K : Unit) : Prop :=
  ((decide (i < (↑n : Int))) = true →
    (decide ((0 : Int) ≤ i ∧ i < (↑n : Int))) = true ∧
    ((decide ((0 : Nat) + Int.toNat i * (4 : Nat) + (4 : Nat) ≤ List.length cs)) = true ∧
    ((AV.isI IntKind.i64 (List.getD cs ((0 : Nat) + Int.toNat i * (4 : Nat)) (AV.tup []))) = true ∧
    ((AV.isI IntKind.i64 (List.getD cs ((0 : Nat) + Int.toNat i * (4 : Nat) + (1 : Nat)) (AV.tup []))) = true ∧
    ((AV.isI IntKind.i64 (List.getD cs ((0 : Nat) + Int.toNat i * (4 : Nat) + (1 : Nat) + (1 : Nat)) (AV.tup []))) = true ∧
    ((AV.isB (List.getD cs ((0 : Nat) + Int.toNat i * (4 : Nat) + (1 : Nat) + (1 : Nat) + (1 : Nat)) (AV.tup []))) = true ∧
    (((decide (AV.toI (List.getD cs ((0 : Nat) + Int.toNat i * (4 : Nat) + (1 : Nat)) (AV.tup [])) = (1 : Int))) = true →
      (decide (AV.toI (List.getD cs ((0 : Nat) + Int.toNat i * (4 : Nat) + (1 : Nat)) (AV.tup [])) = (1 : Int))) = true ∧
      ((decide (AV.toI (List.getD cs ((0 : Nat) + Int.toNat i * (4 : Nat) + (1 : Nat)) (AV.tup [])) = (1 : Int))) = true ∧
      ((decide (AV.toI (List.getD cs ((0 : Nat) + Int.toNat i * (4 : Nat) + (1 : Nat)) (AV.tup [])) = (1 : Int))) = true ∧
      (((decide (AV.toI (List.getD cs ((0 : Nat) + Int.toNat i * (4 : Nat) + (1 : Nat) + (1 : Nat)) (AV.tup [])) ≥ (0 : Int))) = true →
        (decide (AV.toI (List.getD cs ((0 : Nat) + Int.toNat i * (4 : Nat) + (1 : Nat) + (1 : Nat)) (AV.tup [])) ≥ (0 : Int))) = true ∧
        ((decide (AV.toI (List.getD cs ((0 : Nat) + Int.toNat i * (4 : Nat) + (1 : Nat) + (1 : Nat)) (AV.tup [])) ≥ (0 : Int))) = true ∧
        ((decide (AV.toI (List.getD cs ((0 : Nat) + Int.toNat i * (4 : Nat) + (1 : Nat) + (1 : Nat)) (AV.tup [])) ≥ (0 : Int))) = true ∧
        (((!decide (AV.toI (List.getD cs ((0 : Nat) + Int.toNat i * (4 : Nat) + (1 : Nat) + (1 : Nat)) (AV.tup [])) < (40 : Int))) = true →
          (!decide (AV.toI (List.getD cs ((0 : Nat) + Int.toNat i * (4 : Nat) + (1 : Nat) + (1 : Nat)) (AV.tup [])) < (40 : Int))) = true ∧
          ((!decide (AV.toI (List.getD cs ((0 : Nat) + Int.toNat i * (4 : Nat) + (1 : Nat) + (1 : Nat)) (AV.tup [])) < (40 : Int))) = true ∧
          ((!decide (AV.toI (List.getD cs ((0 : Nat) + Int.toNat i * (4 : Nat) + (1 : Nat) + (1 : Nat)) (AV.tup [])) < (40 : Int))) = true ∧
          (((decide (AV.toI (List.getD cs ((0 : Nat) + Int.toNat i * (4 : Nat) + (1 : Nat)) (AV.tup [])) = (2 : Int))) = true →
            (decide (AV.toI (List.getD cs ((0 : Nat) + Int.toNat i * (4 : Nat) + (1 : Nat)) (AV.tup [])) = (2 : Int))) = true ∧
            ((decide (AV.toI (List.getD cs ((0 : Nat) + Int.toNat i * (4 : Nat) + (1 : Nat)) (AV.tup [])) = (2 : Int))) = true ∧
            ((!decide (AV.toI (List.getD cs ((0 : Nat) + Int.toNat i * (4 : Nat) + (1 : Nat) + (1 : Nat)) (AV.tup [])) < (40 : Int))) = true ∧
            ((decide (AV.toI (List.getD cs ((0 : Nat) + Int.toNat i * (4 : Nat) + (1 : Nat)) (AV.tup [])) = (2 : Int))) = true ∧
            ((decide (AV.toI (List.getD cs ((0 : Nat) + Int.toNat i * (4 : Nat) + (1 : Nat) + (1 : Nat)) (AV.tup [])) < (40 : Int))) = false ∧
            (((!!decide (AV.toI (List.getD cs ((0 : Nat) + Int.toNat i * (4 : Nat) + (1 : Nat) + (1 : Nat)) (AV.tup [])) = (0 : Int))) = true →
              (!!decide (AV.toI (List.getD cs ((0 : Nat) + Int.toNat i * (4 : Nat) + (1 : Nat) + (1 : Nat)) (AV.tup [])) = (0 : Int))) = true ∧
              ((!!decide (AV.toI (List.getD cs ((0 : Nat) + Int.toNat i * (4 : Nat) + (1 : Nat) + (1 : Nat)) (AV.tup [])) = (0 : Int))) = true ∧
              ((!!decide (AV.toI (List.getD cs ((0 : Nat) + Int.toNat i * (4 : Nat) + (1 : Nat) + (1 : Nat)) (AV.tup [])) = (0 : Int))) = true ∧
              ((!decide (AV.toI (List.getD cs ((0 : Nat) + Int.toNat i * (4 : Nat) + (1 : Nat) + (1 : Nat)) (AV.tup [])) = (0 : Int))) = false ∧
              (((!!mayTB (AV.toI (List.getD cs ((0 : Nat) + Int.toNat i * (4 : Nat)) (AV.tup [])))) = true →
                (!!mayTB (AV.toI (List.getD cs ((0 : Nat) + Int.toNat i * (4 : Nat)) (AV.tup [])))) = true ∧
                ((!!mayTB (AV.toI (List.getD cs ((0 : Nat) + Int.toNat i * (4 : Nat)) (AV.tup [])))) = true ∧
                (((decide (i > (0 : Int))) = true →
                  (decide (i > (0 : Int))) = true ∧
                  ((decide (i > (0 : Int))) = true ∧
                  ((decide (i > (0 : Int))) = true ∧
                  ((decide ((0 : Int) ≤ IntKind.wrap IntKind.i64 (i - (1 : Int)) ∧ IntKind.wrap IntKind.i64 (i - (1 : Int)) < (↑n : Int))) = true ∧
                  ((decide (i > (0 : Int))) = true ∧
                  ((decide (i > (0 : Int))) = true ∧
                  ((decide ((0 : Nat) + Int.toNat (IntKind.wrap IntKind.i64 (i - (1 : Int))) * (4 : Nat) + (0 : Nat) < List.length cs)) = true ∧
                  ((AV.isI IntKind.i64
  (List.getD cs ((0 : Nat) + Int.toNat (IntKind.wrap IntKind.i64 (i - (1 : Int))) * (4 : Nat) + (0 : Nat)) (AV.tup []))) = true ∧
                  ((decide (i > (0 : Int))) = true ∧
                  ((decide (i > (0 : Int))) = true ∧
                  ((decide (i > (0 : Int))) = true ∧
                  ((!!mayTB (AV.toI (List.getD cs ((0 : Nat) + Int.toNat i * (4 : Nat)) (AV.tup [])))) = true ∧
                  ((decide (i > (0 : Int))) = true ∧
                  ((!mayTB (AV.toI (List.getD cs ((0 : Nat) + Int.toNat i * (4 : Nat)) (AV.tup [])))) = false ∧
                  (((decide
  (AV.toI
      (List.getD cs ((0 : Nat) + Int.toNat (IntKind.wrap IntKind.i64 (i - (1 : Int))) * (4 : Nat) + (0 : Nat))
        (AV.tup [])) >
    AV.toI (List.getD cs ((0 : Nat) + Int.toNat i * (4 : Nat)) (AV.tup [])))) = true →
                    Q Exit.ret (65 : Nat)
  [some (AV.slice (0 : Nat) (0 : Nat) n none), some (AV.int IntKind.i64 (2 : Int)), some (AV.int IntKind.i64 i)]
  { nx := (2 : Nat),
    m :=
      [((1 : Nat),
          AObj.cells (39 : Nat)
            [AV.int IntKind.i64 (AV.toI (List.getD cs ((0 : Nat) + Int.toNat i * (4 : Nat)) (AV.tup []))),
              AV.int IntKind.i64 (AV.toI (List.getD cs ((0 : Nat) + Int.toNat i * (4 : Nat) + (1 : Nat)) (AV.tup []))),
              AV.int IntKind.i64
                (AV.toI (List.getD cs ((0 : Nat) + Int.toNat i * (4 : Nat) + (1 : Nat) + (1 : Nat)) (AV.tup []))),
              AV.bool
                (AV.toB
                  (List.getD cs ((0 : Nat) + Int.toNat i * (4 : Nat) + (1 : Nat) + (1 : Nat) + (1 : Nat))
                    (AV.tup [])))]),
        ((0 : Nat), AObj.ro cs)] }) ∧
                  ((decide
  (AV.toI
      (List.getD cs ((0 : Nat) + Int.toNat (IntKind.wrap IntKind.i64 (i - (1 : Int))) * (4 : Nat) + (0 : Nat))
        (AV.tup [])) >
    AV.toI (List.getD cs ((0 : Nat) + Int.toNat i * (4 : Nat)) (AV.tup [])))) = false →
                    N (65 : Nat)
  [some (AV.slice (0 : Nat) (0 : Nat) n none), none,
    some (AV.int IntKind.i64 (IntKind.wrap IntKind.i64 (i + (1 : Int))))]
  { nx := (2 : Nat),
    m :=
      [((1 : Nat),
          AObj.cells (39 : Nat)
            [AV.int IntKind.i64 (AV.toI (List.getD cs ((0 : Nat) + Int.toNat i * (4 : Nat)) (AV.tup []))),
              AV.int IntKind.i64 (AV.toI (List.getD cs ((0 : Nat) + Int.toNat i * (4 : Nat) + (1 : Nat)) (AV.tup []))),
              AV.int IntKind.i64
                (AV.toI (List.getD cs ((0 : Nat) + Int.toNat i * (4 : Nat) + (1 : Nat) + (1 : Nat)) (AV.tup []))),
              AV.bool
                (AV.toB
                  (List.getD cs ((0 : Nat) + Int.toNat i * (4 : Nat) + (1 : Nat) + (1 : Nat) + (1 : Nat))
                    (AV.tup [])))]),
        ((0 : Nat), AObj.ro cs)] })))))))))))))))) ∧
                ((decide (i > (0 : Int))) = false →
                  (decide (i > (0 : Int))) = false ∧
                  ((decide (i > (0 : Int))) = false ∧
                  ((decide (i > (0 : Int))) = false ∧
                  ((decide (i > (0 : Int))) = false ∧
                  ((decide (i > (0 : Int))) = false ∧
                  ((decide (i > (0 : Int))) = false ∧
                  ((decide (i > (0 : Int))) = false ∧
                  ((decide (i > (0 : Int))) = false ∧
                  ((!!mayTB (AV.toI (List.getD cs ((0 : Nat) + Int.toNat i * (4 : Nat)) (AV.tup [])))) = true ∧
                  ((decide (i > (0 : Int))) = false ∧
                  ((!mayTB (AV.toI (List.getD cs ((0 : Nat) + Int.toNat i * (4 : Nat)) (AV.tup [])))) = false ∧
                  (N (65 : Nat)
  [some (AV.slice (0 : Nat) (0 : Nat) n none), none,
    some (AV.int IntKind.i64 (IntKind.wrap IntKind.i64 (i + (1 : Int))))]
  { nx := (2 : Nat),
    m :=
      [((1 : Nat),
          AObj.cells (39 : Nat)
            [AV.int IntKind.i64 (AV.toI (List.getD cs ((0 : Nat) + Int.toNat i * (4 : Nat)) (AV.tup []))),
              AV.int IntKind.i64 (AV.toI (List.getD cs ((0 : Nat) + Int.toNat i * (4 : Nat) + (1 : Nat)) (AV.tup []))),
              AV.int IntKind.i64
                (AV.toI (List.getD cs ((0 : Nat) + Int.toNat i * (4 : Nat) + (1 : Nat) + (1 : Nat)) (AV.tup []))),
              AV.bool
                (AV.toB
                  (List.getD cs ((0 : Nat) + Int.toNat i * (4 : Nat) + (1 : Nat) + (1 : Nat) + (1 : Nat))
                    (AV.tup [])))]),
        ((0 : Nat), AObj.ro cs)] }))))))))))))))) ∧
              ((!!mayTB (AV.toI (List.getD cs ((0 : Nat) + Int.toNat i * (4 : Nat)) (AV.tup [])))) = false →
                (!!mayTB (AV.toI (List.getD cs ((0 : Nat) + Int.toNat i * (4 : Nat)) (AV.tup [])))) = false ∧
                ((!!mayTB (AV.toI (List.getD cs ((0 : Nat) + Int.toNat i * (4 : Nat)) (AV.tup [])))) = false ∧
                ((!!mayTB (AV.toI (List.getD cs ((0 : Nat) + Int.toNat i * (4 : Nat)) (AV.tup [])))) = false ∧
                ((!mayTB (AV.toI (List.getD cs ((0 : Nat) + Int.toNat i * (4 : Nat)) (AV.tup [])))) = true ∧
                (Q Exit.ret (65 : Nat)
  [some (AV.slice (0 : Nat) (0 : Nat) n none), some (AV.int IntKind.i64 (2 : Int)), some (AV.int IntKind.i64 i)]
  { nx := (2 : Nat),
    m :=
      [((1 : Nat),
          AObj.cells (39 : Nat)
            [AV.int IntKind.i64 (AV.toI (List.getD cs ((0 : Nat) + Int.toNat i * (4 : Nat)) (AV.tup []))),
              AV.int IntKind.i64 (AV.toI (List.getD cs ((0 : Nat) + Int.toNat i * (4 : Nat) + (1 : Nat)) (AV.tup []))),
              AV.int IntKind.i64
                (AV.toI (List.getD cs ((0 : Nat) + Int.toNat i * (4 : Nat) + (1 : Nat) + (1 : Nat)) (AV.tup []))),
              AV.bool
                (AV.toB
                  (List.getD cs ((0 : Nat) + Int.toNat i * (4 : Nat) + (1 : Nat) + (1 : Nat) + (1 : Nat))
                    (AV.tup [])))]),
        ((0 : Nat), AObj.ro cs)] })))))))))) ∧
            ((!!decide (AV.toI (List.getD cs ((0 : Nat) + Int.toNat i * (4 : Nat) + (1 : Nat) + (1 : Nat)) (AV.tup [])) = (0 : Int))) = false →
              (!!decide (AV.toI (List.getD cs ((0 : Nat) + Int.toNat i * (4 : Nat) + (1 : Nat) + (1 : Nat)) (AV.tup [])) = (0 : Int))) = false ∧
              ((!!decide (AV.toI (List.getD cs ((0 : Nat) + Int.toNat i * (4 : Nat) + (1 : Nat) + (1 : Nat)) (AV.tup [])) = (0 : Int))) = false ∧
              ((!!decide (AV.toI (List.getD cs ((0 : Nat) + Int.toNat i * (4 : Nat) + (1 : Nat) + (1 : Nat)) (AV.tup [])) = (0 : Int))) = false ∧
              ((!decide (AV.toI (List.getD cs ((0 : Nat) + Int.toNat i * (4 : Nat) + (1 : Nat) + (1 : Nat)) (AV.tup [])) = (0 : Int))) = true ∧
              (Q Exit.ret (65 : Nat)
  [some (AV.slice (0 : Nat) (0 : Nat) n none), some (AV.int IntKind.i64 (2 : Int)), some (AV.int IntKind.i64 i)]
  { nx := (2 : Nat),
    m :=
      [((1 : Nat),
          AObj.cells (39 : Nat)
            [AV.int IntKind.i64 (AV.toI (List.getD cs ((0 : Nat) + Int.toNat i * (4 : Nat)) (AV.tup []))),
              AV.int IntKind.i64 (AV.toI (List.getD cs ((0 : Nat) + Int.toNat i * (4 : Nat) + (1 : Nat)) (AV.tup []))),
              AV.int IntKind.i64
                (AV.toI (List.getD cs ((0 : Nat) + Int.toNat i * (4 : Nat) + (1 : Nat) + (1 : Nat)) (AV.tup []))),
              AV.bool
                (AV.toB
                  (List.getD cs ((0 : Nat) + Int.toNat i * (4 : Nat) + (1 : Nat) + (1 : Nat) + (1 : Nat))
                    (AV.tup [])))]),
        ((0 : Nat), AObj.ro cs)] }))))))))))) ∧
          ((decide (AV.toI (List.getD cs ((0 : Nat) + Int.toNat i * (4 : Nat) + (1 : Nat)) (AV.tup [])) = (2 : Int))) = false →
            (decide (AV.toI (List.getD cs ((0 : Nat) + Int.toNat i * (4 : Nat) + (1 : Nat)) (AV.tup [])) = (2 : Int))) = false ∧
            ((decide (AV.toI (List.getD cs ((0 : Nat) + Int.toNat i * (4 : Nat) + (1 : Nat)) (AV.tup [])) = (2 : Int))) = false ∧
            ((!decide (AV.toI (List.getD cs ((0 : Nat) + Int.toNat i * (4 : Nat) + (1 : Nat) + (1 : Nat)) (AV.tup [])) < (40 : Int))) = true ∧
            ((decide (AV.toI (List.getD cs ((0 : Nat) + Int.toNat i * (4 : Nat) + (1 : Nat)) (AV.tup [])) = (2 : Int))) = false ∧
            ((decide (AV.toI (List.getD cs ((0 : Nat) + Int.toNat i * (4 : Nat) + (1 : Nat) + (1 : Nat)) (AV.tup [])) < (40 : Int))) = false ∧
            (Q Exit.ret (65 : Nat)
  [some (AV.slice (0 : Nat) (0 : Nat) n none), some (AV.int IntKind.i64 (2 : Int)), some (AV.int IntKind.i64 i)]
  { nx := (2 : Nat),
    m :=
      [((1 : Nat),
          AObj.cells (39 : Nat)
            [AV.int IntKind.i64 (AV.toI (List.getD cs ((0 : Nat) + Int.toNat i * (4 : Nat)) (AV.tup []))),
              AV.int IntKind.i64 (AV.toI (List.getD cs ((0 : Nat) + Int.toNat i * (4 : Nat) + (1 : Nat)) (AV.tup []))),
              AV.int IntKind.i64
                (AV.toI (List.getD cs ((0 : Nat) + Int.toNat i * (4 : Nat) + (1 : Nat) + (1 : Nat)) (AV.tup []))),
              AV.bool
                (AV.toB
                  (List.getD cs ((0 : Nat) + Int.toNat i * (4 : Nat) + (1 : Nat) + (1 : Nat) + (1 : Nat))
                    (AV.tup [])))]),
        ((0 : Nat), AObj.ro cs)] })))))))))) ∧
        ((!decide (AV.toI (List.getD cs ((0 : Nat) + Int.toNat i * (4 : Nat) + (1 : Nat) + (1 : Nat)) (AV.tup [])) < (40 : Int))) = false →
          (!decide (AV.toI (List.getD cs ((0 : Nat) + Int.toNat i * (4 : Nat) + (1 : Nat) + (1 : Nat)) (AV.tup [])) < (40 : Int))) = false ∧
          ((!decide (AV.toI (List.getD cs ((0 : Nat) + Int.toNat i * (4 : Nat) + (1 : Nat) + (1 : Nat)) (AV.tup [])) < (40 : Int))) = false ∧
          ((!decide (AV.toI (List.getD cs ((0 : Nat) + Int.toNat i * (4 : Nat) + (1 : Nat) + (1 : Nat)) (AV.tup [])) < (40 : Int))) = false ∧
          ((!decide (AV.toI (List.getD cs ((0 : Nat) + Int.toNat i * (4 : Nat) + (1 : Nat) + (1 : Nat)) (AV.tup [])) < (40 : Int))) = false ∧
          ((decide (AV.toI (List.getD cs ((0 : Nat) + Int.toNat i * (4 : Nat) + (1 : Nat) + (1 : Nat)) (AV.tup [])) < (40 : Int))) = true ∧
          (((!!mayTB (AV.toI (List.getD cs ((0 : Nat) + Int.toNat i * (4 : Nat)) (AV.tup [])))) = true →
            (!!mayTB (AV.toI (List.getD cs ((0 : Nat) + Int.toNat i * (4 : Nat)) (AV.tup [])))) = true ∧
            ((!!mayTB (AV.toI (List.getD cs ((0 : Nat) + Int.toNat i * (4 : Nat)) (AV.tup [])))) = true ∧
            (((decide (i > (0 : Int))) = true →
              (decide (i > (0 : Int))) = true ∧
              ((decide (i > (0 : Int))) = true ∧
              ((decide (i > (0 : Int))) = true ∧
              ((decide ((0 : Int) ≤ IntKind.wrap IntKind.i64 (i - (1 : Int)) ∧ IntKind.wrap IntKind.i64 (i - (1 : Int)) < (↑n : Int))) = true ∧
              ((decide (i > (0 : Int))) = true ∧
              ((decide (i > (0 : Int))) = true ∧
              ((decide ((0 : Nat) + Int.toNat (IntKind.wrap IntKind.i64 (i - (1 : Int))) * (4 : Nat) + (0 : Nat) < List.length cs)) = true ∧
              ((AV.isI IntKind.i64
  (List.getD cs ((0 : Nat) + Int.toNat (IntKind.wrap IntKind.i64 (i - (1 : Int))) * (4 : Nat) + (0 : Nat)) (AV.tup []))) = true ∧
              ((decide (i > (0 : Int))) = true ∧
              ((decide (i > (0 : Int))) = true ∧
              ((decide (i > (0 : Int))) = true ∧
              ((!!mayTB (AV.toI (List.getD cs ((0 : Nat) + Int.toNat i * (4 : Nat)) (AV.tup [])))) = true ∧
              ((decide (i > (0 : Int))) = true ∧
              ((!mayTB (AV.toI (List.getD cs ((0 : Nat) + Int.toNat i * (4 : Nat)) (AV.tup [])))) = false ∧
              (((decide
  (AV.toI
      (List.getD cs ((0 : Nat) + Int.toNat (IntKind.wrap IntKind.i64 (i - (1 : Int))) * (4 : Nat) + (0 : Nat))
        (AV.tup [])) >
    AV.toI (List.getD cs ((0 : Nat) + Int.toNat i * (4 : Nat)) (AV.tup [])))) = true →
                Q Exit.ret (65 : Nat)
  [some (AV.slice (0 : Nat) (0 : Nat) n none), some (AV.int IntKind.i64 (2 : Int)), some (AV.int IntKind.i64 i)]
  { nx := (2 : Nat),
    m :=
      [((1 : Nat),
          AObj.cells (39 : Nat)
            [AV.int IntKind.i64 (AV.toI (List.getD cs ((0 : Nat) + Int.toNat i * (4 : Nat)) (AV.tup []))),
              AV.int IntKind.i64 (AV.toI (List.getD cs ((0 : Nat) + Int.toNat i * (4 : Nat) + (1 : Nat)) (AV.tup []))),
              AV.int IntKind.i64
                (AV.toI (List.getD cs ((0 : Nat) + Int.toNat i * (4 : Nat) + (1 : Nat) + (1 : Nat)) (AV.tup []))),
              AV.bool
                (AV.toB
                  (List.getD cs ((0 : Nat) + Int.toNat i * (4 : Nat) + (1 : Nat) + (1 : Nat) + (1 : Nat))
                    (AV.tup [])))]),
        ((0 : Nat), AObj.ro cs)] }) ∧
              ((decide
  (AV.toI
      (List.getD cs ((0 : Nat) + Int.toNat (IntKind.wrap IntKind.i64 (i - (1 : Int))) * (4 : Nat) + (0 : Nat))
        (AV.tup [])) >
    AV.toI (List.getD cs ((0 : Nat) + Int.toNat i * (4 : Nat)) (AV.tup [])))) = false →
                N (65 : Nat)
  [some (AV.slice (0 : Nat) (0 : Nat) n none), none,
    some (AV.int IntKind.i64 (IntKind.wrap IntKind.i64 (i + (1 : Int))))]
  { nx := (2 : Nat),
    m :=
      [((1 : Nat),
          AObj.cells (39 : Nat)
            [AV.int IntKind.i64 (AV.toI (List.getD cs ((0 : Nat) + Int.toNat i * (4 : Nat)) (AV.tup []))),
              AV.int IntKind.i64 (AV.toI (List.getD cs ((0 : Nat) + Int.toNat i * (4 : Nat) + (1 : Nat)) (AV.tup []))),
              AV.int IntKind.i64
                (AV.toI (List.getD cs ((0 : Nat) + Int.toNat i * (4 : Nat) + (1 : Nat) + (1 : Nat)) (AV.tup []))),
              AV.bool
                (AV.toB
                  (List.getD cs ((0 : Nat) + Int.toNat i * (4 : Nat) + (1 : Nat) + (1 : Nat) + (1 : Nat))
                    (AV.tup [])))]),
        ((0 : Nat), AObj.ro cs)] })))))))))))))))) ∧
            ((decide (i > (0 : Int))) = false →
              (decide (i > (0 : Int))) = false ∧
              ((decide (i > (0 : Int))) = false ∧
              ((decide (i > (0 : Int))) = false ∧
              ((decide (i > (0 : Int))) = false ∧
              ((decide (i > (0 : Int))) = false ∧
              ((decide (i > (0 : Int))) = false ∧
              ((decide (i > (0 : Int))) = false ∧
              ((decide (i > (0 : Int))) = false ∧
              ((!!mayTB (AV.toI (List.getD cs ((0 : Nat) + Int.toNat i * (4 : Nat)) (AV.tup [])))) = true ∧
              ((decide (i > (0 : Int))) = false ∧
              ((!mayTB (AV.toI (List.getD cs ((0 : Nat) + Int.toNat i * (4 : Nat)) (AV.tup [])))) = false ∧
              (N (65 : Nat)
  [some (AV.slice (0 : Nat) (0 : Nat) n none), none,
    some (AV.int IntKind.i64 (IntKind.wrap IntKind.i64 (i + (1 : Int))))]
  { nx := (2 : Nat),
    m :=
      [((1 : Nat),
          AObj.cells (39 : Nat)
            [AV.int IntKind.i64 (AV.toI (List.getD cs ((0 : Nat) + Int.toNat i * (4 : Nat)) (AV.tup []))),
              AV.int IntKind.i64 (AV.toI (List.getD cs ((0 : Nat) + Int.toNat i * (4 : Nat) + (1 : Nat)) (AV.tup []))),
              AV.int IntKind.i64
                (AV.toI (List.getD cs ((0 : Nat) + Int.toNat i * (4 : Nat) + (1 : Nat) + (1 : Nat)) (AV.tup []))),
              AV.bool
                (AV.toB
                  (List.getD cs ((0 : Nat) + Int.toNat i * (4 : Nat) + (1 : Nat) + (1 : Nat) + (1 : Nat))
                    (AV.tup [])))]),
        ((0 : Nat), AObj.ro cs)] }))))))))))))))) ∧
          ((!!mayTB (AV.toI (List.getD cs ((0 : Nat) + Int.toNat i * (4 : Nat)) (AV.tup [])))) = false →
            (!!mayTB (AV.toI (List.getD cs ((0 : Nat) + Int.toNat i * (4 : Nat)) (AV.tup [])))) = false ∧
            ((!!mayTB (AV.toI (List.getD cs ((0 : Nat) + Int.toNat i * (4 : Nat)) (AV.tup [])))) = false ∧
            ((!!mayTB (AV.toI (List.getD cs ((0 : Nat) + Int.toNat i * (4 : Nat)) (AV.tup [])))) = false ∧
            ((!mayTB (AV.toI (List.getD cs ((0 : Nat) + Int.toNat i * (4 : Nat)) (AV.tup [])))) = true ∧
            (Q Exit.ret (65 : Nat)
  [some (AV.slice (0 : Nat) (0 : Nat) n none), some (AV.int IntKind.i64 (2 : Int)), some (AV.int IntKind.i64 i)]
  { nx := (2 : Nat),
    m :=
      [((1 : Nat),
          AObj.cells (39 : Nat)
            [AV.int IntKind.i64 (AV.toI (List.getD cs ((0 : Nat) + Int.toNat i * (4 : Nat)) (AV.tup []))),
              AV.int IntKind.i64 (AV.toI (List.getD cs ((0 : Nat) + Int.toNat i * (4 : Nat) + (1 : Nat)) (AV.tup []))),
              AV.int IntKind.i64
                (AV.toI (List.getD cs ((0 : Nat) + Int.toNat i * (4 : Nat) + (1 : Nat) + (1 : Nat)) (AV.tup []))),
              AV.bool
                (AV.toB
                  (List.getD cs ((0 : Nat) + Int.toNat i * (4 : Nat) + (1 : Nat) + (1 : Nat) + (1 : Nat))
                    (AV.tup [])))]),
        ((0 : Nat), AObj.ro cs)] }))))))))))))))) ∧
      ((decide (AV.toI (List.getD cs ((0 : Nat) + Int.toNat i * (4 : Nat) + (1 : Nat) + (1 : Nat)) (AV.tup [])) ≥ (0 : Int))) = false →
        (decide (AV.toI (List.getD cs ((0 : Nat) + Int.toNat i * (4 : Nat) + (1 : Nat) + (1 : Nat)) (AV.tup [])) ≥ (0 : Int))) = false ∧
        ((decide (AV.toI (List.getD cs ((0 : Nat) + Int.toNat i * (4 : Nat) + (1 : Nat) + (1 : Nat)) (AV.tup [])) ≥ (0 : Int))) = false ∧
        ((decide (AV.toI (List.getD cs ((0 : Nat) + Int.toNat i * (4 : Nat) + (1 : Nat) + (1 : Nat)) (AV.tup [])) ≥ (0 : Int))) = false ∧
        (((decide (AV.toI (List.getD cs ((0 : Nat) + Int.toNat i * (4 : Nat) + (1 : Nat)) (AV.tup [])) = (2 : Int))) = true →
          (decide (AV.toI (List.getD cs ((0 : Nat) + Int.toNat i * (4 : Nat) + (1 : Nat)) (AV.tup [])) = (2 : Int))) = true ∧
          ((decide (AV.toI (List.getD cs ((0 : Nat) + Int.toNat i * (4 : Nat) + (1 : Nat)) (AV.tup [])) = (2 : Int))) = true ∧
          ((decide (AV.toI (List.getD cs ((0 : Nat) + Int.toNat i * (4 : Nat) + (1 : Nat)) (AV.tup [])) = (2 : Int))) = true ∧
          (((!!decide (AV.toI (List.getD cs ((0 : Nat) + Int.toNat i * (4 : Nat) + (1 : Nat) + (1 : Nat)) (AV.tup [])) = (0 : Int))) = true →
            (!!decide (AV.toI (List.getD cs ((0 : Nat) + Int.toNat i * (4 : Nat) + (1 : Nat) + (1 : Nat)) (AV.tup [])) = (0 : Int))) = true ∧
            ((!!decide (AV.toI (List.getD cs ((0 : Nat) + Int.toNat i * (4 : Nat) + (1 : Nat) + (1 : Nat)) (AV.tup [])) = (0 : Int))) = true ∧
            ((!!decide (AV.toI (List.getD cs ((0 : Nat) + Int.toNat i * (4 : Nat) + (1 : Nat) + (1 : Nat)) (AV.tup [])) = (0 : Int))) = true ∧
            ((!decide (AV.toI (List.getD cs ((0 : Nat) + Int.toNat i * (4 : Nat) + (1 : Nat) + (1 : Nat)) (AV.tup [])) = (0 : Int))) = false ∧
            (((!!mayTB (AV.toI (List.getD cs ((0 : Nat) + Int.toNat i * (4 : Nat)) (AV.tup [])))) = true →
              (!!mayTB (AV.toI (List.getD cs ((0 : Nat) + Int.toNat i * (4 : Nat)) (AV.tup [])))) = true ∧
              ((!!mayTB (AV.toI (List.getD cs ((0 : Nat) + Int.toNat i * (4 : Nat)) (AV.tup [])))) = true ∧
              (((decide (i > (0 : Int))) = true →
                (decide (i > (0 : Int))) = true ∧
                ((decide (i > (0 : Int))) = true ∧
                ((decide (i > (0 : Int))) = true ∧
                ((decide ((0 : Int) ≤ IntKind.wrap IntKind.i64 (i - (1 : Int)) ∧ IntKind.wrap IntKind.i64 (i - (1 : Int)) < (↑n : Int))) = true ∧
                ((decide (i > (0 : Int))) = true ∧
                ((decide (i > (0 : Int))) = true ∧
                ((decide ((0 : Nat) + Int.toNat (IntKind.wrap IntKind.i64 (i - (1 : Int))) * (4 : Nat) + (0 : Nat) < List.length cs)) = true ∧
                ((AV.isI IntKind.i64
  (List.getD cs ((0 : Nat) + Int.toNat (IntKind.wrap IntKind.i64 (i - (1 : Int))) * (4 : Nat) + (0 : Nat)) (AV.tup []))) = true ∧
                ((decide (i > (0 : Int))) = true ∧
                ((decide (i > (0 : Int))) = true ∧
                ((decide (i > (0 : Int))) = true ∧
                ((!!mayTB (AV.toI (List.getD cs ((0 : Nat) + Int.toNat i * (4 : Nat)) (AV.tup [])))) = true ∧
                ((decide (i > (0 : Int))) = true ∧
                ((!mayTB (AV.toI (List.getD cs ((0 : Nat) + Int.toNat i * (4 : Nat)) (AV.tup [])))) = false ∧
                (((decide
  (AV.toI
      (List.getD cs ((0 : Nat) + Int.toNat (IntKind.wrap IntKind.i64 (i - (1 : Int))) * (4 : Nat) + (0 : Nat))
        (AV.tup [])) >
    AV.toI (List.getD cs ((0 : Nat) + Int.toNat i * (4 : Nat)) (AV.tup [])))) = true →
                  Q Exit.ret (65 : Nat)
  [some (AV.slice (0 : Nat) (0 : Nat) n none), some (AV.int IntKind.i64 (2 : Int)), some (AV.int IntKind.i64 i)]
  { nx := (2 : Nat),
    m :=
      [((1 : Nat),
          AObj.cells (39 : Nat)
            [AV.int IntKind.i64 (AV.toI (List.getD cs ((0 : Nat) + Int.toNat i * (4 : Nat)) (AV.tup []))),
              AV.int IntKind.i64 (AV.toI (List.getD cs ((0 : Nat) + Int.toNat i * (4 : Nat) + (1 : Nat)) (AV.tup []))),
              AV.int IntKind.i64
                (AV.toI (List.getD cs ((0 : Nat) + Int.toNat i * (4 : Nat) + (1 : Nat) + (1 : Nat)) (AV.tup []))),
              AV.bool
                (AV.toB
                  (List.getD cs ((0 : Nat) + Int.toNat i * (4 : Nat) + (1 : Nat) + (1 : Nat) + (1 : Nat))
                    (AV.tup [])))]),
        ((0 : Nat), AObj.ro cs)] }) ∧
                ((decide
  (AV.toI
      (List.getD cs ((0 : Nat) + Int.toNat (IntKind.wrap IntKind.i64 (i - (1 : Int))) * (4 : Nat) + (0 : Nat))
        (AV.tup [])) >
    AV.toI (List.getD cs ((0 : Nat) + Int.toNat i * (4 : Nat)) (AV.tup [])))) = false →
                  N (65 : Nat)
  [some (AV.slice (0 : Nat) (0 : Nat) n none), none,
    some (AV.int IntKind.i64 (IntKind.wrap IntKind.i64 (i + (1 : Int))))]
  { nx := (2 : Nat),
    m :=
      [((1 : Nat),
          AObj.cells (39 : Nat)
            [AV.int IntKind.i64 (AV.toI (List.getD cs ((0 : Nat) + Int.toNat i * (4 : Nat)) (AV.tup []))),
              AV.int IntKind.i64 (AV.toI (List.getD cs ((0 : Nat) + Int.toNat i * (4 : Nat) + (1 : Nat)) (AV.tup []))),
              AV.int IntKind.i64
                (AV.toI (List.getD cs ((0 : Nat) + Int.toNat i * (4 : Nat) + (1 : Nat) + (1 : Nat)) (AV.tup []))),
              AV.bool
                (AV.toB
                  (List.getD cs ((0 : Nat) + Int.toNat i * (4 : Nat) + (1 : Nat) + (1 : Nat) + (1 : Nat))
                    (AV.tup [])))]),
        ((0 : Nat), AObj.ro cs)] })))))))))))))))) ∧
              ((decide (i > (0 : Int))) = false →
                (decide (i > (0 : Int))) = false ∧
                ((decide (i > (0 : Int))) = false ∧
                ((decide (i > (0 : Int))) = false ∧
                ((decide (i > (0 : Int))) = false ∧
                ((decide (i > (0 : Int))) = false ∧
                ((decide (i > (0 : Int))) = false ∧
                ((decide (i > (0 : Int))) = false ∧
                ((decide (i > (0 : Int))) = false ∧
                ((!!mayTB (AV.toI (List.getD cs ((0 : Nat) + Int.toNat i * (4 : Nat)) (AV.tup [])))) = true ∧
                ((decide (i > (0 : Int))) = false ∧
                ((!mayTB (AV.toI (List.getD cs ((0 : Nat) + Int.toNat i * (4 : Nat)) (AV.tup [])))) = false ∧
                (N (65 : Nat)
  [some (AV.slice (0 : Nat) (0 : Nat) n none), none,
    some (AV.int IntKind.i64 (IntKind.wrap IntKind.i64 (i + (1 : Int))))]
  { nx := (2 : Nat),
    m :=
      [((1 : Nat),
          AObj.cells (39 : Nat)
            [AV.int IntKind.i64 (AV.toI (List.getD cs ((0 : Nat) + Int.toNat i * (4 : Nat)) (AV.tup []))),
              AV.int IntKind.i64 (AV.toI (List.getD cs ((0 : Nat) + Int.toNat i * (4 : Nat) + (1 : Nat)) (AV.tup []))),
              AV.int IntKind.i64
                (AV.toI (List.getD cs ((0 : Nat) + Int.toNat i * (4 : Nat) + (1 : Nat) + (1 : Nat)) (AV.tup []))),
              AV.bool
                (AV.toB
                  (List.getD cs ((0 : Nat) + Int.toNat i * (4 : Nat) + (1 : Nat) + (1 : Nat) + (1 : Nat))
                    (AV.tup [])))]),
        ((0 : Nat), AObj.ro cs)] }))))))))))))))) ∧
            ((!!mayTB (AV.toI (List.getD cs ((0 : Nat) + Int.toNat i * (4 : Nat)) (AV.tup [])))) = false →
              (!!mayTB (AV.toI (List.getD cs ((0 : Nat) + Int.toNat i * (4 : Nat)) (AV.tup [])))) = false ∧
              ((!!mayTB (AV.toI (List.getD cs ((0 : Nat) + Int.toNat i * (4 : Nat)) (AV.tup [])))) = false ∧
              ((!!mayTB (AV.toI (List.getD cs ((0 : Nat) + Int.toNat i * (4 : Nat)) (AV.tup [])))) = false ∧
              ((!mayTB (AV.toI (List.getD cs ((0 : Nat) + Int.toNat i * (4 : Nat)) (AV.tup [])))) = true ∧
              (Q Exit.ret (65 : Nat)
  [some (AV.slice (0 : Nat) (0 : Nat) n none), some (AV.int IntKind.i64 (2 : Int)), some (AV.int IntKind.i64 i)]
  { nx := (2 : Nat),
    m :=
      [((1 : Nat),
          AObj.cells (39 : Nat)
            [AV.int IntKind.i64 (AV.toI (List.getD cs ((0 : Nat) + Int.toNat i * (4 : Nat)) (AV.tup []))),
              AV.int IntKind.i64 (AV.toI (List.getD cs ((0 : Nat) + Int.toNat i * (4 : Nat) + (1 : Nat)) (AV.tup []))),
              AV.int IntKind.i64
                (AV.toI (List.getD cs ((0 : Nat) + Int.toNat i * (4 : Nat) + (1 : Nat) + (1 : Nat)) (AV.tup []))),
              AV.bool
                (AV.toB
                  (List.getD cs ((0 : Nat) + Int.toNat i * (4 : Nat) + (1 : Nat) + (1 : Nat) + (1 : Nat))
                    (AV.tup [])))]),
        ((0 : Nat), AObj.ro cs)] })))))))))) ∧
          ((!!decide (AV.toI (List.getD cs ((0 : Nat) + Int.toNat i * (4 : Nat) + (1 : Nat) + (1 : Nat)) (AV.tup [])) = (0 : Int))) = false →
            (!!decide (AV.toI (List.getD cs ((0 : Nat) + Int.toNat i * (4 : Nat) + (1 : Nat) + (1 : Nat)) (AV.tup [])) = (0 : Int))) = false ∧
            ((!!decide (AV.toI (List.getD cs ((0 : Nat) + Int.toNat i * (4 : Nat) + (1 : Nat) + (1 : Nat)) (AV.tup [])) = (0 : Int))) = false ∧
            ((!!decide (AV.toI (List.getD cs ((0 : Nat) + Int.toNat i * (4 : Nat) + (1 : Nat) + (1 : Nat)) (AV.tup [])) = (0 : Int))) = false ∧
            ((!decide (AV.toI (List.getD cs ((0 : Nat) + Int.toNat i * (4 : Nat) + (1 : Nat) + (1 : Nat)) (AV.tup [])) = (0 : Int))) = true ∧
            (Q Exit.ret (65 : Nat)
  [some (AV.slice (0 : Nat) (0 : Nat) n none), some (AV.int IntKind.i64 (2 : Int)), some (AV.int IntKind.i64 i)]
  { nx := (2 : Nat),
    m :=
      [((1 : Nat),
          AObj.cells (39 : Nat)
            [AV.int IntKind.i64 (AV.toI (List.getD cs ((0 : Nat) + Int.toNat i * (4 : Nat)) (AV.tup []))),
              AV.int IntKind.i64 (AV.toI (List.getD cs ((0 : Nat) + Int.toNat i * (4 : Nat) + (1 : Nat)) (AV.tup []))),
              AV.int IntKind.i64
                (AV.toI (List.getD cs ((0 : Nat) + Int.toNat i * (4 : Nat) + (1 : Nat) + (1 : Nat)) (AV.tup []))),
              AV.bool
                (AV.toB
                  (List.getD cs ((0 : Nat) + Int.toNat i * (4 : Nat) + (1 : Nat) + (1 : Nat) + (1 : Nat))
                    (AV.tup [])))]),
        ((0 : Nat), AObj.ro cs)] }))))))))) ∧
        ((decide (AV.toI (List.getD cs ((0 : Nat) + Int.toNat i * (4 : Nat) + (1 : Nat)) (AV.tup [])) = (2 : Int))) = false →
          (decide (AV.toI (List.getD cs ((0 : Nat) + Int.toNat i * (4 : Nat) + (1 : Nat)) (AV.tup [])) = (2 : Int))) = false ∧
          ((decide (AV.toI (List.getD cs ((0 : Nat) + Int.toNat i * (4 : Nat) + (1 : Nat)) (AV.tup [])) = (2 : Int))) = false ∧
          ((decide (AV.toI (List.getD cs ((0 : Nat) + Int.toNat i * (4 : Nat) + (1 : Nat)) (AV.tup [])) = (2 : Int))) = false ∧
          (Q Exit.ret (65 : Nat)
  [some (AV.slice (0 : Nat) (0 : Nat) n none), some (AV.int IntKind.i64 (2 : Int)), some (AV.int IntKind.i64 i)]
  { nx := (2 : Nat),
    m :=
      [((1 : Nat),
          AObj.cells (39 : Nat)
            [AV.int IntKind.i64 (AV.toI (List.getD cs ((0 : Nat) + Int.toNat i * (4 : Nat)) (AV.tup []))),
              AV.int IntKind.i64 (AV.toI (List.getD cs ((0 : Nat) + Int.toNat i * (4 : Nat) + (1 : Nat)) (AV.tup []))),
              AV.int IntKind.i64
                (AV.toI (List.getD cs ((0 : Nat) + Int.toNat i * (4 : Nat) + (1 : Nat) + (1 : Nat)) (AV.tup []))),
              AV.bool
                (AV.toB
                  (List.getD cs ((0 : Nat) + Int.toNat i * (4 : Nat) + (1 : Nat) + (1 : Nat) + (1 : Nat))
                    (AV.tup [])))]),
        ((0 : Nat), AObj.ro cs)] })))))))))))) ∧
    ((decide (AV.toI (List.getD cs ((0 : Nat) + Int.toNat i * (4 : Nat) + (1 : Nat)) (AV.tup [])) = (1 : Int))) = false →
      (decide (AV.toI (List.getD cs ((0 : Nat) + Int.toNat i * (4 : Nat) + (1 : Nat)) (AV.tup [])) = (1 : Int))) = false ∧
      ((decide (AV.toI (List.getD cs ((0 : Nat) + Int.toNat i * (4 : Nat) + (1 : Nat)) (AV.tup [])) = (1 : Int))) = false ∧
      ((decide (AV.toI (List.getD cs ((0 : Nat) + Int.toNat i * (4 : Nat) + (1 : Nat)) (AV.tup [])) = (1 : Int))) = false ∧
      (((decide (AV.toI (List.getD cs ((0 : Nat) + Int.toNat i * (4 : Nat) + (1 : Nat)) (AV.tup [])) = (2 : Int))) = true →
        (decide (AV.toI (List.getD cs ((0 : Nat) + Int.toNat i * (4 : Nat) + (1 : Nat)) (AV.tup [])) = (2 : Int))) = true ∧
        ((decide (AV.toI (List.getD cs ((0 : Nat) + Int.toNat i * (4 : Nat) + (1 : Nat)) (AV.tup [])) = (2 : Int))) = true ∧
        ((decide (AV.toI (List.getD cs ((0 : Nat) + Int.toNat i * (4 : Nat) + (1 : Nat)) (AV.tup [])) = (2 : Int))) = true ∧
        (((!!decide (AV.toI (List.getD cs ((0 : Nat) + Int.toNat i * (4 : Nat) + (1 : Nat) + (1 : Nat)) (AV.tup [])) = (0 : Int))) = true →
          (!!decide (AV.toI (List.getD cs ((0 : Nat) + Int.toNat i * (4 : Nat) + (1 : Nat) + (1 : Nat)) (AV.tup [])) = (0 : Int))) = true ∧
          ((!!decide (AV.toI (List.getD cs ((0 : Nat) + Int.toNat i * (4 : Nat) + (1 : Nat) + (1 : Nat)) (AV.tup [])) = (0 : Int))) = true ∧
          ((!!decide (AV.toI (List.getD cs ((0 : Nat) + Int.toNat i * (4 : Nat) + (1 : Nat) + (1 : Nat)) (AV.tup [])) = (0 : Int))) = true ∧
          ((!decide (AV.toI (List.getD cs ((0 : Nat) + Int.toNat i * (4 : Nat) + (1 : Nat) + (1 : Nat)) (AV.tup [])) = (0 : Int))) = false ∧
          (((!!mayTB (AV.toI (List.getD cs ((0 : Nat) + Int.toNat i * (4 : Nat)) (AV.tup [])))) = true →
            (!!mayTB (AV.toI (List.getD cs ((0 : Nat) + Int.toNat i * (4 : Nat)) (AV.tup [])))) = true ∧
            ((!!mayTB (AV.toI (List.getD cs ((0 : Nat) + Int.toNat i * (4 : Nat)) (AV.tup [])))) = true ∧
            (((decide (i > (0 : Int))) = true →
              (decide (i > (0 : Int))) = true ∧
              ((decide (i > (0 : Int))) = true ∧
              ((decide (i > (0 : Int))) = true ∧
              ((decide ((0 : Int) ≤ IntKind.wrap IntKind.i64 (i - (1 : Int)) ∧ IntKind.wrap IntKind.i64 (i - (1 : Int)) < (↑n : Int))) = true ∧
              ((decide (i > (0 : Int))) = true ∧
              ((decide (i > (0 : Int))) = true ∧
              ((decide ((0 : Nat) + Int.toNat (IntKind.wrap IntKind.i64 (i - (1 : Int))) * (4 : Nat) + (0 : Nat) < List.length cs)) = true ∧
              ((AV.isI IntKind.i64
  (List.getD cs ((0 : Nat) + Int.toNat (IntKind.wrap IntKind.i64 (i - (1 : Int))) * (4 : Nat) + (0 : Nat)) (AV.tup []))) = true ∧
              ((decide (i > (0 : Int))) = true ∧
              ((decide (i > (0 : Int))) = true ∧
              ((decide (i > (0 : Int))) = true ∧
              ((!!mayTB (AV.toI (List.getD cs ((0 : Nat) + Int.toNat i * (4 : Nat)) (AV.tup [])))) = true ∧
              ((decide (i > (0 : Int))) = true ∧
              ((!mayTB (AV.toI (List.getD cs ((0 : Nat) + Int.toNat i * (4 : Nat)) (AV.tup [])))) = false ∧
              (((decide
  (AV.toI
      (List.getD cs ((0 : Nat) + Int.toNat (IntKind.wrap IntKind.i64 (i - (1 : Int))) * (4 : Nat) + (0 : Nat))
        (AV.tup [])) >
    AV.toI (List.getD cs ((0 : Nat) + Int.toNat i * (4 : Nat)) (AV.tup [])))) = true →
                Q Exit.ret (65 : Nat)
  [some (AV.slice (0 : Nat) (0 : Nat) n none), some (AV.int IntKind.i64 (2 : Int)), some (AV.int IntKind.i64 i)]
  { nx := (2 : Nat),
    m :=
      [((1 : Nat),
          AObj.cells (39 : Nat)
            [AV.int IntKind.i64 (AV.toI (List.getD cs ((0 : Nat) + Int.toNat i * (4 : Nat)) (AV.tup []))),
              AV.int IntKind.i64 (AV.toI (List.getD cs ((0 : Nat) + Int.toNat i * (4 : Nat) + (1 : Nat)) (AV.tup []))),
              AV.int IntKind.i64
                (AV.toI (List.getD cs ((0 : Nat) + Int.toNat i * (4 : Nat) + (1 : Nat) + (1 : Nat)) (AV.tup []))),
              AV.bool
                (AV.toB
                  (List.getD cs ((0 : Nat) + Int.toNat i * (4 : Nat) + (1 : Nat) + (1 : Nat) + (1 : Nat))
                    (AV.tup [])))]),
        ((0 : Nat), AObj.ro cs)] }) ∧
              ((decide
  (AV.toI
      (List.getD cs ((0 : Nat) + Int.toNat (IntKind.wrap IntKind.i64 (i - (1 : Int))) * (4 : Nat) + (0 : Nat))
        (AV.tup [])) >
    AV.toI (List.getD cs ((0 : Nat) + Int.toNat i * (4 : Nat)) (AV.tup [])))) = false →
                N (65 : Nat)
  [some (AV.slice (0 : Nat) (0 : Nat) n none), none,
    some (AV.int IntKind.i64 (IntKind.wrap IntKind.i64 (i + (1 : Int))))]
  { nx := (2 : Nat),
    m :=
      [((1 : Nat),
          AObj.cells (39 : Nat)
            [AV.int IntKind.i64 (AV.toI (List.getD cs ((0 : Nat) + Int.toNat i * (4 : Nat)) (AV.tup []))),
              AV.int IntKind.i64 (AV.toI (List.getD cs ((0 : Nat) + Int.toNat i * (4 : Nat) + (1 : Nat)) (AV.tup []))),
              AV.int IntKind.i64
                (AV.toI (List.getD cs ((0 : Nat) + Int.toNat i * (4 : Nat) + (1 : Nat) + (1 : Nat)) (AV.tup []))),
              AV.bool
                (AV.toB
                  (List.getD cs ((0 : Nat) + Int.toNat i * (4 : Nat) + (1 : Nat) + (1 : Nat) + (1 : Nat))
                    (AV.tup [])))]),
        ((0 : Nat), AObj.ro cs)] })))))))))))))))) ∧
            ((decide (i > (0 : Int))) = false →
              (decide (i > (0 : Int))) = false ∧
              ((decide (i > (0 : Int))) = false ∧
              ((decide (i > (0 : Int))) = false ∧
              ((decide (i > (0 : Int))) = false ∧
              ((decide (i > (0 : Int))) = false ∧
              ((decide (i > (0 : Int))) = false ∧
              ((decide (i > (0 : Int))) = false ∧
              ((decide (i > (0 : Int))) = false ∧
              ((!!mayTB (AV.toI (List.getD cs ((0 : Nat) + Int.toNat i * (4 : Nat)) (AV.tup [])))) = true ∧
              ((decide (i > (0 : Int))) = false ∧
              ((!mayTB (AV.toI (List.getD cs ((0 : Nat) + Int.toNat i * (4 : Nat)) (AV.tup [])))) = false ∧
              (N (65 : Nat)
  [some (AV.slice (0 : Nat) (0 : Nat) n none), none,
    some (AV.int IntKind.i64 (IntKind.wrap IntKind.i64 (i + (1 : Int))))]
  { nx := (2 : Nat),
    m :=
      [((1 : Nat),
          AObj.cells (39 : Nat)
            [AV.int IntKind.i64 (AV.toI (List.getD cs ((0 : Nat) + Int.toNat i * (4 : Nat)) (AV.tup []))),
              AV.int IntKind.i64 (AV.toI (List.getD cs ((0 : Nat) + Int.toNat i * (4 : Nat) + (1 : Nat)) (AV.tup []))),
              AV.int IntKind.i64
                (AV.toI (List.getD cs ((0 : Nat) + Int.toNat i * (4 : Nat) + (1 : Nat) + (1 : Nat)) (AV.tup []))),
              AV.bool
                (AV.toB
                  (List.getD cs ((0 : Nat) + Int.toNat i * (4 : Nat) + (1 : Nat) + (1 : Nat) + (1 : Nat))
                    (AV.tup [])))]),
        ((0 : Nat), AObj.ro cs)] }))))))))))))))) ∧
          ((!!mayTB (AV.toI (List.getD cs ((0 : Nat) + Int.toNat i * (4 : Nat)) (AV.tup [])))) = false →
            (!!mayTB (AV.toI (List.getD cs ((0 : Nat) + Int.toNat i * (4 : Nat)) (AV.tup [])))) = false ∧
            ((!!mayTB (AV.toI (List.getD cs ((0 : Nat) + Int.toNat i * (4 : Nat)) (AV.tup [])))) = false ∧
            ((!!mayTB (AV.toI (List.getD cs ((0 : Nat) + Int.toNat i * (4 : Nat)) (AV.tup [])))) = false ∧
            ((!mayTB (AV.toI (List.getD cs ((0 : Nat) + Int.toNat i * (4 : Nat)) (AV.tup [])))) = true ∧
            (Q Exit.ret (65 : Nat)
  [some (AV.slice (0 : Nat) (0 : Nat) n none), some (AV.int IntKind.i64 (2 : Int)), some (AV.int IntKind.i64 i)]
  { nx := (2 : Nat),
    m :=
      [((1 : Nat),
          AObj.cells (39 : Nat)
            [AV.int IntKind.i64 (AV.toI (List.getD cs ((0 : Nat) + Int.toNat i * (4 : Nat)) (AV.tup []))),
              AV.int IntKind.i64 (AV.toI (List.getD cs ((0 : Nat) + Int.toNat i * (4 : Nat) + (1 : Nat)) (AV.tup []))),
              AV.int IntKind.i64
                (AV.toI (List.getD cs ((0 : Nat) + Int.toNat i * (4 : Nat) + (1 : Nat) + (1 : Nat)) (AV.tup []))),
              AV.bool
                (AV.toB
                  (List.getD cs ((0 : Nat) + Int.toNat i * (4 : Nat) + (1 : Nat) + (1 : Nat) + (1 : Nat))
                    (AV.tup [])))]),
        ((0 : Nat), AObj.ro cs)] })))))))))) ∧
        ((!!decide (AV.toI (List.getD cs ((0 : Nat) + Int.toNat i * (4 : Nat) + (1 : Nat) + (1 : Nat)) (AV.tup [])) = (0 : Int))) = false →
          (!!decide (AV.toI (List.getD cs ((0 : Nat) + Int.toNat i * (4 : Nat) + (1 : Nat) + (1 : Nat)) (AV.tup [])) = (0 : Int))) = false ∧
          ((!!decide (AV.toI (List.getD cs ((0 : Nat) + Int.toNat i * (4 : Nat) + (1 : Nat) + (1 : Nat)) (AV.tup [])) = (0 : Int))) = false ∧
          ((!!decide (AV.toI (List.getD cs ((0 : Nat) + Int.toNat i * (4 : Nat) + (1 : Nat) + (1 : Nat)) (AV.tup [])) = (0 : Int))) = false ∧
          ((!decide (AV.toI (List.getD cs ((0 : Nat) + Int.toNat i * (4 : Nat) + (1 : Nat) + (1 : Nat)) (AV.tup [])) = (0 : Int))) = true ∧
          (Q Exit.ret (65 : Nat)
  [some (AV.slice (0 : Nat) (0 : Nat) n none), some (AV.int IntKind.i64 (2 : Int)), some (AV.int IntKind.i64 i)]
  { nx := (2 : Nat),
    m :=
      [((1 : Nat),
          AObj.cells (39 : Nat)
            [AV.int IntKind.i64 (AV.toI (List.getD cs ((0 : Nat) + Int.toNat i * (4 : Nat)) (AV.tup []))),
              AV.int IntKind.i64 (AV.toI (List.getD cs ((0 : Nat) + Int.toNat i * (4 : Nat) + (1 : Nat)) (AV.tup []))),
              AV.int IntKind.i64
                (AV.toI (List.getD cs ((0 : Nat) + Int.toNat i * (4 : Nat) + (1 : Nat) + (1 : Nat)) (AV.tup []))),
              AV.bool
                (AV.toB
                  (List.getD cs ((0 : Nat) + Int.toNat i * (4 : Nat) + (1 : Nat) + (1 : Nat) + (1 : Nat))
                    (AV.tup [])))]),
        ((0 : Nat), AObj.ro cs)] }))))))))) ∧
      ((decide (AV.toI (List.getD cs ((0 : Nat) + Int.toNat i * (4 : Nat) + (1 : Nat)) (AV.tup [])) = (2 : Int))) = false →
        (decide (AV.toI (List.getD cs ((0 : Nat) + Int.toNat i * (4 : Nat) + (1 : Nat)) (AV.tup [])) = (2 : Int))) = false ∧
        ((decide (AV.toI (List.getD cs ((0 : Nat) + Int.toNat i * (4 : Nat) + (1 : Nat)) (AV.tup [])) = (2 : Int))) = false ∧
        ((decide (AV.toI (List.getD cs ((0 : Nat) + Int.toNat i * (4 : Nat) + (1 : Nat)) (AV.tup [])) = (2 : Int))) = false ∧
        (Q Exit.ret (65 : Nat)
  [some (AV.slice (0 : Nat) (0 : Nat) n none), some (AV.int IntKind.i64 (2 : Int)), some (AV.int IntKind.i64 i)]
  { nx := (2 : Nat),
    m :=
      [((1 : Nat),
          AObj.cells (39 : Nat)
            [AV.int IntKind.i64 (AV.toI (List.getD cs ((0 : Nat) + Int.toNat i * (4 : Nat)) (AV.tup []))),
              AV.int IntKind.i64 (AV.toI (List.getD cs ((0 : Nat) + Int.toNat i * (4 : Nat) + (1 : Nat)) (AV.tup []))),
              AV.int IntKind.i64
                (AV.toI (List.getD cs ((0 : Nat) + Int.toNat i * (4 : Nat) + (1 : Nat) + (1 : Nat)) (AV.tup []))),
              AV.bool
                (AV.toB
                  (List.getD cs ((0 : Nat) + Int.toNat i * (4 : Nat) + (1 : Nat) + (1 : Nat) + (1 : Nat))
                    (AV.tup [])))]),
        ((0 : Nat), AObj.ro cs)] }))))))))))))))) ∧
  ((decide (i < (↑n : Int))) = false →
    Q (Exit.exit (0 : Nat)) (65 : Nat) [some (AV.slice (0 : Nat) (0 : Nat) n none), none, some (AV.int IntKind.i64 i)]
  { nx := (1 : Nat), m := [((0 : Nat), AObj.ro cs)] })
def rR_scr : Plan := .b (.t (.t (.t (.t (.t (.t (.b (.t (.t (.t (.b (.t (.t (.t (.b (.t (.t (.t (.b (.t (.t (.t (.t (.f (.b (.t (.t (.t (.f (.b (.t (.t (.b (.t (.t (.t (.t (.t (.t (.t (.t (.t (.t (.t (.t (.t (.f (.b (.z) (.z)))))))))))))))) (.f (.f (.f (.f (.f (.f (.f (.f (.t (.f (.f (.z))))))))))))))) (.f (.f (.k (.k (.k (.k (.k (.k (.k (.k (.k (.f (.t (.z))))))))))))))))))) (.f (.f (.f (.t (.z))))))))))) (.f (.f (.t (.f (.f (.z)))))))))) (.f (.f (.f (.k (.k (.k (.f (.t (.k (.k (.k (.k (.k (.b (.t (.t (.b (.t (.t (.t (.t (.t (.t (.t (.t (.t (.t (.t (.t (.t (.f (.b (.z) (.z)))))))))))))))) (.f (.f (.f (.f (.f (.f (.f (.f (.t (.f (.f (.z))))))))))))))) (.f (.f (.k (.k (.k (.k (.k (.k (.k (.k (.k (.f (.t (.z)))))))))))))))))))))))))))))))) (.f (.f (.f (.k (.k (.k (.k (.b (.t (.t (.k (.t (.k (.b (.t (.t (.t (.f (.b (.t (.t (.b (.t (.t (.t (.t (.t (.t (.t (.t (.t (.t (.t (.t (.t (.f (.b (.z) (.z)))))))))))))))) (.f (.f (.f (.f (.f (.f (.f (.f (.t (.f (.f (.z))))))))))))))) (.f (.f (.k (.k (.k (.k (.k (.k (.k (.k (.k (.f (.t (.z))))))))))))))))))) (.f (.f (.f (.t (.z))))))))))) (.f (.f (.k (.f (.z))))))))))))))))) (.f (.f (.f (.k (.k (.k (.k (.k (.k (.k (.k (.b (.t (.t (.k (.t (.k (.b (.t (.t (.t (.f (.b (.t (.t (.b (.t (.t (.t (.t (.t (.t (.t (.t (.t (.t (.t (.t (.t (.f (.b (.z) (.z)))))))))))))))) (.f (.f (.f (.f (.f (.f (.f (.f (.t (.f (.f (.z))))))))))))))) (.f (.f (.k (.k (.k (.k (.k (.k (.k (.k (.k (.f (.t (.z))))))))))))))))))) (.f (.f (.f (.t (.z))))))))))) (.f (.f (.k (.f (.z)))))))))))))))))))))))) (.z)
theorem rR_vc (n : Nat) (i : Int) (cs : List AV) (N : NS) (Q : QS) (K : Unit) : (wpP XK1 (symC Try.prog (bodyOf Try.prog 17) []) 1 (loopAt Try.prog 17 0) 0 (rndS [0, 2, 3] N Q) (rSt n i cs).1 (rSt n i cs).2 rR_scr) = rR_VC n i cs N Q K := by kernel_rfl
end Go.Proofs.Yteneafgmcmgahaa.V
