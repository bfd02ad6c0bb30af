/- Printed by vc.py: what must hold for functions' ways (LkG). -/
import Derived.Test.YtfamikdibjhnpaaLkF
namespace Go.Proofs.Ytfamikdibjhnpaa.V
open Go Go.Proofs
set_option maxRecDepth 100000
set_option linter.unusedVariables false
def kH_VC (n0 : Nat) (n : Nat) (ln : Nat) (lk : Nat) (tv : AV) (iv : AV) (ov : AV) (i : Int) (σ : AH) (N : NS) (Q : QS) (K : Unit) : Prop :=
  ((decide (i < (↑ln : Int))) = true →
    N (162 : Nat)
  [some (AV.slice (0 : Nat) (0 : Nat) ln (some lk)), some tv, some (AV.int IntKind.i64 (↑n : Int)),
    some (AV.ptr (3 : Nat) (0 : Nat)), some iv, some ov, some (AV.int IntKind.i64 i)]
  σ) ∧
  ((decide (i < (↑ln : Int))) = false →
    Q (Exit.exit (0 : Nat)) (162 : Nat)
  [some (AV.slice (0 : Nat) (0 : Nat) ln (some lk)), some tv, some (AV.int IntKind.i64 (↑n : Int)),
    some (AV.ptr (3 : Nat) (0 : Nat)), some iv, some ov, some (AV.int IntKind.i64 i)]
  σ)
def kH_scr : Plan := .b (.z) (.z)
theorem kH_vc (n0 : Nat) (n : Nat) (ln : Nat) (lk : Nat) (tv : AV) (iv : AV) (ov : AV) (i : Int) (σ : AH) (N : NS) (Q : QS) (K : Unit) : (wpP XRd lkSy n0 (seqs [lkH] .skip) 0 (rndS slR N Q) (frR n (.slice 0 0 ln (some lk)) tv iv ov i) σ kH_scr) = kH_VC n0 n ln lk tv iv ov i σ N Q K := by kernel_rfl
def kI_VC (n0 : Nat) (n : Nat) (ln : Nat) (lk : Nat) (tv : AV) (iv : AV) (ov : AV) (i : Int) (σ : AH) (N : NS) (Q : QS) (K : Unit) : Prop :=
  N (162 : Nat)
  [some (AV.slice (0 : Nat) (0 : Nat) ln (some lk)), some tv, some (AV.int IntKind.i64 (↑n : Int)),
    some (AV.ptr (3 : Nat) (0 : Nat)), some iv, some ov,
    some (AV.int IntKind.i64 (IntKind.wrap IntKind.i64 (i + (1 : Int))))]
  σ
def kI_scr : Plan := .z
theorem kI_vc (n0 : Nat) (n : Nat) (ln : Nat) (lk : Nat) (tv : AV) (iv : AV) (ov : AV) (i : Int) (σ : AH) (N : NS) (Q : QS) (K : Unit) : (wpP XRd lkSy n0 lkI 0 (rndS slR N Q) (frR n (.slice 0 0 ln (some lk)) tv iv ov i) σ kI_scr) = kI_VC n0 n ln lk tv iv ov i σ N Q K := by kernel_rfl
def k1N_VC (n0 : Nat) (n : Nat) (fr : Int) (ct : Int) (mk : Int) (en : Bool) (rc : List AV) (lc : List AV) (ln : Nat) (lk : Nat) (tv : AV) (ov : AV) (i : Int) (a1 : AObj) (a4 : AObj) (a5 : AObj) (N : NS) (Q : QS) (K : Unit) : Prop :=
  ((!decide ((↑n : Int) > (0 : Int))) = true →
    (decide ((0 : Int) ≤ i ∧ i < (↑ln : Int))) = true ∧
    ((decide ((0 : Nat) + Int.toNat i * (7 : Nat) + (7 : Nat) ≤ List.length lc)) = true ∧
    ((AV.isI IntKind.i64 (List.getD lc ((0 : Nat) + Int.toNat i * (7 : Nat)) (AV.tup []))) = true ∧
    ((AV.isI IntKind.i64 (List.getD lc ((0 : Nat) + Int.toNat i * (7 : Nat) + (1 : Nat)) (AV.tup []))) = true ∧
    ((AV.isI IntKind.i64 (List.getD lc ((0 : Nat) + Int.toNat i * (7 : Nat) + (1 : Nat) + (1 : Nat)) (AV.tup []))) = true ∧
    ((AV.isI IntKind.u8 (List.getD lc ((0 : Nat) + Int.toNat i * (7 : Nat) + (1 : Nat) + (1 : Nat) + (1 : Nat)) (AV.tup []))) = true ∧
    ((AV.isI IntKind.i64
  (List.getD lc ((0 : Nat) + Int.toNat i * (7 : Nat) + (1 : Nat) + (1 : Nat) + (1 : Nat) + (1 : Nat)) (AV.tup []))) = true ∧
    ((AV.isI IntKind.i64
  (List.getD lc ((0 : Nat) + Int.toNat i * (7 : Nat) + (1 : Nat) + (1 : Nat) + (1 : Nat) + (1 : Nat) + (1 : Nat))
    (AV.tup []))) = true ∧
    ((AV.isI IntKind.u8
  (List.getD lc
    ((0 : Nat) + Int.toNat i * (7 : Nat) + (1 : Nat) + (1 : Nat) + (1 : Nat) + (1 : Nat) + (1 : Nat) + (1 : Nat))
    (AV.tup []))) = true ∧
    (need (lnOk n n fr ct rc) ∧
    ((∀ m : Nat, (N (162 : Nat)
  [some (AV.slice (0 : Nat) (0 : Nat) ln (some lk)), some tv, some (AV.int IntKind.i64 (↑n : Int)),
    some (AV.ptr (3 : Nat) (0 : Nat)), some AV.nilslice, some ov, some (AV.int IntKind.i64 i),
    some (AV.bool (decide ((0 : Int) = (↑n : Int)))), some (AV.int IntKind.i64 (Int.ofNat (Nat.succ m)))]
  { nx := (6 : Nat),
    m :=
      [((3 : Nat),
          AObj.cells (42 : Nat)
            [AV.slice (2 : Nat) (0 : Nat) n (some n), AV.int IntKind.i64 fr, AV.int IntKind.i64 ct,
              AV.int IntKind.i64 mk, AV.bool en]),
        ((2 : Nat), AObj.cells (33 : Nat) rc), ((0 : Nat), AObj.ro lc), ((1 : Nat), a1), ((4 : Nat), a4),
        ((5 : Nat), a5)] })) ∧
    ((en = false ∧
  ¬AV.toI (List.getD lc ((0 : Nat) + Int.toNat i * (7 : Nat) + (1 : Nat)) (AV.tup [])) < mk ∧ ¬ct = (↑n : Int)) →
      (((!decide ((0 : Int) = (↑n : Int))) = true →
        (!decide ((0 : Int) = (↑n : Int))) = true ∧
        ((!decide ((0 : Int) = (↑n : Int))) = true ∧
        ((!decide ((0 : Int) = (↑n : Int))) = true ∧
        ((!decide ((0 : Int) = (↑n : Int))) = true ∧
        ((decide ((0 : Int) = (↑n : Int))) = false ∧
        ((decide ((0 : Int) ≤ i ∧ i < (↑ln : Int))) = true ∧
        ((decide ((0 : Nat) + Int.toNat i * (7 : Nat) + (7 : Nat) ≤ List.length lc)) = true ∧
        ((AV.isI IntKind.i64 (List.getD lc ((0 : Nat) + Int.toNat i * (7 : Nat)) (AV.tup []))) = true ∧
        ((AV.isI IntKind.i64 (List.getD lc ((0 : Nat) + Int.toNat i * (7 : Nat) + (1 : Nat)) (AV.tup []))) = true ∧
        ((AV.isI IntKind.i64 (List.getD lc ((0 : Nat) + Int.toNat i * (7 : Nat) + (1 : Nat) + (1 : Nat)) (AV.tup []))) = true ∧
        ((AV.isI IntKind.u8 (List.getD lc ((0 : Nat) + Int.toNat i * (7 : Nat) + (1 : Nat) + (1 : Nat) + (1 : Nat)) (AV.tup []))) = true ∧
        ((AV.isI IntKind.i64
  (List.getD lc ((0 : Nat) + Int.toNat i * (7 : Nat) + (1 : Nat) + (1 : Nat) + (1 : Nat) + (1 : Nat)) (AV.tup []))) = true ∧
        ((AV.isI IntKind.i64
  (List.getD lc ((0 : Nat) + Int.toNat i * (7 : Nat) + (1 : Nat) + (1 : Nat) + (1 : Nat) + (1 : Nat) + (1 : Nat))
    (AV.tup []))) = true ∧
        ((AV.isI IntKind.u8
  (List.getD lc
    ((0 : Nat) + Int.toNat i * (7 : Nat) + (1 : Nat) + (1 : Nat) + (1 : Nat) + (1 : Nat) + (1 : Nat) + (1 : Nat))
    (AV.tup []))) = true ∧
        (N (162 : Nat)
  [some (AV.slice (0 : Nat) (0 : Nat) ln (some lk)), some tv, some (AV.int IntKind.i64 (↑n : Int)),
    some (AV.ptr (3 : Nat) (0 : Nat)), some (AV.slice (7 : Nat) (0 : Nat) (1 : Nat) none), some ov,
    some (AV.int IntKind.i64 i), some (AV.bool (decide ((0 : Int) = (↑n : Int)))), some (AV.int IntKind.i64 (0 : Int))]
  { nx := (8 : Nat),
    m :=
      [((7 : Nat),
          AObj.opn (33 : Nat) (7 : Nat)
            [AV.int IntKind.i64 (AV.toI (List.getD lc ((0 : Nat) + Int.toNat i * (7 : Nat)) (AV.tup []))),
              AV.int IntKind.i64 (AV.toI (List.getD lc ((0 : Nat) + Int.toNat i * (7 : Nat) + (1 : Nat)) (AV.tup []))),
              AV.int IntKind.i64
                (AV.toI (List.getD lc ((0 : Nat) + Int.toNat i * (7 : Nat) + (1 : Nat) + (1 : Nat)) (AV.tup []))),
              AV.int IntKind.u8
                (AV.toI
                  (List.getD lc ((0 : Nat) + Int.toNat i * (7 : Nat) + (1 : Nat) + (1 : Nat) + (1 : Nat)) (AV.tup []))),
              AV.int IntKind.i64
                (AV.toI
                  (List.getD lc ((0 : Nat) + Int.toNat i * (7 : Nat) + (1 : Nat) + (1 : Nat) + (1 : Nat) + (1 : Nat))
                    (AV.tup []))),
              AV.int IntKind.i64
                (AV.toI
                  (List.getD lc
                    ((0 : Nat) + Int.toNat i * (7 : Nat) + (1 : Nat) + (1 : Nat) + (1 : Nat) + (1 : Nat) + (1 : Nat))
                    (AV.tup []))),
              AV.int IntKind.u8
                (AV.toI
                  (List.getD lc
                    ((0 : Nat) + Int.toNat i * (7 : Nat) + (1 : Nat) + (1 : Nat) + (1 : Nat) + (1 : Nat) + (1 : Nat) +
                      (1 : Nat))
                    (AV.tup [])))]),
        ((6 : Nat),
          AObj.cells (33 : Nat)
            [AV.int IntKind.i64 (AV.toI (List.getD lc ((0 : Nat) + Int.toNat i * (7 : Nat)) (AV.tup []))),
              AV.int IntKind.i64 (AV.toI (List.getD lc ((0 : Nat) + Int.toNat i * (7 : Nat) + (1 : Nat)) (AV.tup []))),
              AV.int IntKind.i64
                (AV.toI (List.getD lc ((0 : Nat) + Int.toNat i * (7 : Nat) + (1 : Nat) + (1 : Nat)) (AV.tup []))),
              AV.int IntKind.u8
                (AV.toI
                  (List.getD lc ((0 : Nat) + Int.toNat i * (7 : Nat) + (1 : Nat) + (1 : Nat) + (1 : Nat)) (AV.tup []))),
              AV.int IntKind.i64
                (AV.toI
                  (List.getD lc ((0 : Nat) + Int.toNat i * (7 : Nat) + (1 : Nat) + (1 : Nat) + (1 : Nat) + (1 : Nat))
                    (AV.tup []))),
              AV.int IntKind.i64
                (AV.toI
                  (List.getD lc
                    ((0 : Nat) + Int.toNat i * (7 : Nat) + (1 : Nat) + (1 : Nat) + (1 : Nat) + (1 : Nat) + (1 : Nat))
                    (AV.tup []))),
              AV.int IntKind.u8
                (AV.toI
                  (List.getD lc
                    ((0 : Nat) + Int.toNat i * (7 : Nat) + (1 : Nat) + (1 : Nat) + (1 : Nat) + (1 : Nat) + (1 : Nat) +
                      (1 : Nat))
                    (AV.tup [])))]),
        ((3 : Nat),
          AObj.cells (42 : Nat)
            [AV.slice (2 : Nat) (0 : Nat) n (some n), AV.int IntKind.i64 fr, AV.int IntKind.i64 (ct + (1 : Int)),
              AV.int IntKind.i64 (AV.toI (List.getD lc ((0 : Nat) + Int.toNat i * (7 : Nat) + (1 : Nat)) (AV.tup []))),
              AV.bool (decide (AV.toI (List.getD lc ((0 : Nat) + Int.toNat i * (7 : Nat)) (AV.tup [])) = (5 : Int)))]),
        ((2 : Nat),
          AObj.cells (33 : Nat)
            (snR n fr ct rc (AV.toI (List.getD lc ((0 : Nat) + Int.toNat i * (7 : Nat)) (AV.tup [])))
              (AV.toI (List.getD lc ((0 : Nat) + Int.toNat i * (7 : Nat) + (1 : Nat)) (AV.tup [])))
              (AV.toI (List.getD lc ((0 : Nat) + Int.toNat i * (7 : Nat) + (1 : Nat) + (1 : Nat)) (AV.tup [])))
              (AV.toI
                (List.getD lc ((0 : Nat) + Int.toNat i * (7 : Nat) + (1 : Nat) + (1 : Nat) + (1 : Nat)) (AV.tup [])))
              (AV.toI
                (List.getD lc ((0 : Nat) + Int.toNat i * (7 : Nat) + (1 : Nat) + (1 : Nat) + (1 : Nat) + (1 : Nat))
                  (AV.tup [])))
              (AV.toI
                (List.getD lc
                  ((0 : Nat) + Int.toNat i * (7 : Nat) + (1 : Nat) + (1 : Nat) + (1 : Nat) + (1 : Nat) + (1 : Nat))
                  (AV.tup [])))
              (AV.toI
                (List.getD lc
                  ((0 : Nat) + Int.toNat i * (7 : Nat) + (1 : Nat) + (1 : Nat) + (1 : Nat) + (1 : Nat) + (1 : Nat) +
                    (1 : Nat))
                  (AV.tup []))))),
        ((0 : Nat), AObj.ro lc), ((1 : Nat), a1), ((4 : Nat), a4), ((5 : Nat), a5)] }))))))))))))))) ∧
      ((!decide ((0 : Int) = (↑n : Int))) = false →
        (!decide ((0 : Int) = (↑n : Int))) = false ∧
        ((!decide ((0 : Int) = (↑n : Int))) = false ∧
        ((!decide ((0 : Int) = (↑n : Int))) = false ∧
        ((!decide ((0 : Int) = (↑n : Int))) = false ∧
        ((decide ((0 : Int) = (↑n : Int))) = true ∧
        (Q Exit.ret (162 : Nat)
  [some (AV.slice (0 : Nat) (0 : Nat) ln (some lk)), some tv, some (AV.int IntKind.i64 (↑n : Int)),
    some (AV.ptr (3 : Nat) (0 : Nat)), some AV.nilslice, some ov, some (AV.int IntKind.i64 i),
    some (AV.bool (decide ((0 : Int) = (↑n : Int)))), some (AV.int IntKind.i64 (0 : Int))]
  { nx := (6 : Nat),
    m :=
      [((3 : Nat),
          AObj.cells (42 : Nat)
            [AV.slice (2 : Nat) (0 : Nat) n (some n), AV.int IntKind.i64 fr, AV.int IntKind.i64 (ct + (1 : Int)),
              AV.int IntKind.i64 (AV.toI (List.getD lc ((0 : Nat) + Int.toNat i * (7 : Nat) + (1 : Nat)) (AV.tup []))),
              AV.bool (decide (AV.toI (List.getD lc ((0 : Nat) + Int.toNat i * (7 : Nat)) (AV.tup [])) = (5 : Int)))]),
        ((2 : Nat),
          AObj.cells (33 : Nat)
            (snR n fr ct rc (AV.toI (List.getD lc ((0 : Nat) + Int.toNat i * (7 : Nat)) (AV.tup [])))
              (AV.toI (List.getD lc ((0 : Nat) + Int.toNat i * (7 : Nat) + (1 : Nat)) (AV.tup [])))
              (AV.toI (List.getD lc ((0 : Nat) + Int.toNat i * (7 : Nat) + (1 : Nat) + (1 : Nat)) (AV.tup [])))
              (AV.toI
                (List.getD lc ((0 : Nat) + Int.toNat i * (7 : Nat) + (1 : Nat) + (1 : Nat) + (1 : Nat)) (AV.tup [])))
              (AV.toI
                (List.getD lc ((0 : Nat) + Int.toNat i * (7 : Nat) + (1 : Nat) + (1 : Nat) + (1 : Nat) + (1 : Nat))
                  (AV.tup [])))
              (AV.toI
                (List.getD lc
                  ((0 : Nat) + Int.toNat i * (7 : Nat) + (1 : Nat) + (1 : Nat) + (1 : Nat) + (1 : Nat) + (1 : Nat))
                  (AV.tup [])))
              (AV.toI
                (List.getD lc
                  ((0 : Nat) + Int.toNat i * (7 : Nat) + (1 : Nat) + (1 : Nat) + (1 : Nat) + (1 : Nat) + (1 : Nat) +
                    (1 : Nat))
                  (AV.tup []))))),
        ((0 : Nat), AObj.ro lc), ((1 : Nat), a1), ((4 : Nat), a4), ((5 : Nat), a5)] }))))))))))))))))))) ∧
  ((!decide ((↑n : Int) > (0 : Int))) = false →
    (decide ((0 : Int) ≤ i ∧ i < (↑ln : Int))) = true ∧
    ((decide ((0 : Nat) + Int.toNat i * (7 : Nat) + (7 : Nat) ≤ List.length lc)) = true ∧
    ((AV.isI IntKind.i64 (List.getD lc ((0 : Nat) + Int.toNat i * (7 : Nat)) (AV.tup []))) = true ∧
    ((AV.isI IntKind.i64 (List.getD lc ((0 : Nat) + Int.toNat i * (7 : Nat) + (1 : Nat)) (AV.tup []))) = true ∧
    ((AV.isI IntKind.i64 (List.getD lc ((0 : Nat) + Int.toNat i * (7 : Nat) + (1 : Nat) + (1 : Nat)) (AV.tup []))) = true ∧
    ((AV.isI IntKind.u8 (List.getD lc ((0 : Nat) + Int.toNat i * (7 : Nat) + (1 : Nat) + (1 : Nat) + (1 : Nat)) (AV.tup []))) = true ∧
    ((AV.isI IntKind.i64
  (List.getD lc ((0 : Nat) + Int.toNat i * (7 : Nat) + (1 : Nat) + (1 : Nat) + (1 : Nat) + (1 : Nat)) (AV.tup []))) = true ∧
    ((AV.isI IntKind.i64
  (List.getD lc ((0 : Nat) + Int.toNat i * (7 : Nat) + (1 : Nat) + (1 : Nat) + (1 : Nat) + (1 : Nat) + (1 : Nat))
    (AV.tup []))) = true ∧
    ((AV.isI IntKind.u8
  (List.getD lc
    ((0 : Nat) + Int.toNat i * (7 : Nat) + (1 : Nat) + (1 : Nat) + (1 : Nat) + (1 : Nat) + (1 : Nat) + (1 : Nat))
    (AV.tup []))) = true ∧
    (need (lnOk n n fr ct rc) ∧
    ((∀ m : Nat, (N (162 : Nat)
  [some (AV.slice (0 : Nat) (0 : Nat) ln (some lk)), some tv, some (AV.int IntKind.i64 (↑n : Int)),
    some (AV.ptr (3 : Nat) (0 : Nat)), some AV.nilslice, some ov, some (AV.int IntKind.i64 i),
    some (AV.bool (decide (ct = (↑n : Int)))), some (AV.int IntKind.i64 (Int.ofNat (Nat.succ m)))]
  { nx := (6 : Nat),
    m :=
      [((3 : Nat),
          AObj.cells (42 : Nat)
            [AV.slice (2 : Nat) (0 : Nat) n (some n), AV.int IntKind.i64 fr, AV.int IntKind.i64 ct,
              AV.int IntKind.i64 mk, AV.bool en]),
        ((2 : Nat), AObj.cells (33 : Nat) rc), ((0 : Nat), AObj.ro lc), ((1 : Nat), a1), ((4 : Nat), a4),
        ((5 : Nat), a5)] })) ∧
    ((en = false ∧
  ¬AV.toI (List.getD lc ((0 : Nat) + Int.toNat i * (7 : Nat) + (1 : Nat)) (AV.tup [])) < mk ∧ ¬ct = (↑n : Int)) →
      (((!decide (ct = (↑n : Int))) = true →
        (!decide (ct = (↑n : Int))) = true ∧
        ((!decide (ct = (↑n : Int))) = true ∧
        ((!decide (ct = (↑n : Int))) = true ∧
        ((!decide (ct = (↑n : Int))) = true ∧
        ((decide (ct = (↑n : Int))) = false ∧
        ((decide ((0 : Int) ≤ i ∧ i < (↑ln : Int))) = true ∧
        ((decide ((0 : Nat) + Int.toNat i * (7 : Nat) + (7 : Nat) ≤ List.length lc)) = true ∧
        ((AV.isI IntKind.i64 (List.getD lc ((0 : Nat) + Int.toNat i * (7 : Nat)) (AV.tup []))) = true ∧
        ((AV.isI IntKind.i64 (List.getD lc ((0 : Nat) + Int.toNat i * (7 : Nat) + (1 : Nat)) (AV.tup []))) = true ∧
        ((AV.isI IntKind.i64 (List.getD lc ((0 : Nat) + Int.toNat i * (7 : Nat) + (1 : Nat) + (1 : Nat)) (AV.tup []))) = true ∧
        ((AV.isI IntKind.u8 (List.getD lc ((0 : Nat) + Int.toNat i * (7 : Nat) + (1 : Nat) + (1 : Nat) + (1 : Nat)) (AV.tup []))) = true ∧
        ((AV.isI IntKind.i64
  (List.getD lc ((0 : Nat) + Int.toNat i * (7 : Nat) + (1 : Nat) + (1 : Nat) + (1 : Nat) + (1 : Nat)) (AV.tup []))) = true ∧
        ((AV.isI IntKind.i64
  (List.getD lc ((0 : Nat) + Int.toNat i * (7 : Nat) + (1 : Nat) + (1 : Nat) + (1 : Nat) + (1 : Nat) + (1 : Nat))
    (AV.tup []))) = true ∧
        ((AV.isI IntKind.u8
  (List.getD lc
    ((0 : Nat) + Int.toNat i * (7 : Nat) + (1 : Nat) + (1 : Nat) + (1 : Nat) + (1 : Nat) + (1 : Nat) + (1 : Nat))
    (AV.tup []))) = true ∧
        (N (162 : Nat)
  [some (AV.slice (0 : Nat) (0 : Nat) ln (some lk)), some tv, some (AV.int IntKind.i64 (↑n : Int)),
    some (AV.ptr (3 : Nat) (0 : Nat)), some (AV.slice (7 : Nat) (0 : Nat) (1 : Nat) none), some ov,
    some (AV.int IntKind.i64 i), some (AV.bool (decide (ct = (↑n : Int)))), some (AV.int IntKind.i64 (0 : Int))]
  { nx := (8 : Nat),
    m :=
      [((7 : Nat),
          AObj.opn (33 : Nat) (7 : Nat)
            [AV.int IntKind.i64 (AV.toI (List.getD lc ((0 : Nat) + Int.toNat i * (7 : Nat)) (AV.tup []))),
              AV.int IntKind.i64 (AV.toI (List.getD lc ((0 : Nat) + Int.toNat i * (7 : Nat) + (1 : Nat)) (AV.tup []))),
              AV.int IntKind.i64
                (AV.toI (List.getD lc ((0 : Nat) + Int.toNat i * (7 : Nat) + (1 : Nat) + (1 : Nat)) (AV.tup []))),
              AV.int IntKind.u8
                (AV.toI
                  (List.getD lc ((0 : Nat) + Int.toNat i * (7 : Nat) + (1 : Nat) + (1 : Nat) + (1 : Nat)) (AV.tup []))),
              AV.int IntKind.i64
                (AV.toI
                  (List.getD lc ((0 : Nat) + Int.toNat i * (7 : Nat) + (1 : Nat) + (1 : Nat) + (1 : Nat) + (1 : Nat))
                    (AV.tup []))),
              AV.int IntKind.i64
                (AV.toI
                  (List.getD lc
                    ((0 : Nat) + Int.toNat i * (7 : Nat) + (1 : Nat) + (1 : Nat) + (1 : Nat) + (1 : Nat) + (1 : Nat))
                    (AV.tup []))),
              AV.int IntKind.u8
                (AV.toI
                  (List.getD lc
                    ((0 : Nat) + Int.toNat i * (7 : Nat) + (1 : Nat) + (1 : Nat) + (1 : Nat) + (1 : Nat) + (1 : Nat) +
                      (1 : Nat))
                    (AV.tup [])))]),
        ((6 : Nat),
          AObj.cells (33 : Nat)
            [AV.int IntKind.i64 (AV.toI (List.getD lc ((0 : Nat) + Int.toNat i * (7 : Nat)) (AV.tup []))),
              AV.int IntKind.i64 (AV.toI (List.getD lc ((0 : Nat) + Int.toNat i * (7 : Nat) + (1 : Nat)) (AV.tup []))),
              AV.int IntKind.i64
                (AV.toI (List.getD lc ((0 : Nat) + Int.toNat i * (7 : Nat) + (1 : Nat) + (1 : Nat)) (AV.tup []))),
              AV.int IntKind.u8
                (AV.toI
                  (List.getD lc ((0 : Nat) + Int.toNat i * (7 : Nat) + (1 : Nat) + (1 : Nat) + (1 : Nat)) (AV.tup []))),
              AV.int IntKind.i64
                (AV.toI
                  (List.getD lc ((0 : Nat) + Int.toNat i * (7 : Nat) + (1 : Nat) + (1 : Nat) + (1 : Nat) + (1 : Nat))
                    (AV.tup []))),
              AV.int IntKind.i64
                (AV.toI
                  (List.getD lc
                    ((0 : Nat) + Int.toNat i * (7 : Nat) + (1 : Nat) + (1 : Nat) + (1 : Nat) + (1 : Nat) + (1 : Nat))
                    (AV.tup []))),
              AV.int IntKind.u8
                (AV.toI
                  (List.getD lc
                    ((0 : Nat) + Int.toNat i * (7 : Nat) + (1 : Nat) + (1 : Nat) + (1 : Nat) + (1 : Nat) + (1 : Nat) +
                      (1 : Nat))
                    (AV.tup [])))]),
        ((3 : Nat),
          AObj.cells (42 : Nat)
            [AV.slice (2 : Nat) (0 : Nat) n (some n), AV.int IntKind.i64 fr, AV.int IntKind.i64 (ct + (1 : Int)),
              AV.int IntKind.i64 (AV.toI (List.getD lc ((0 : Nat) + Int.toNat i * (7 : Nat) + (1 : Nat)) (AV.tup []))),
              AV.bool (decide (AV.toI (List.getD lc ((0 : Nat) + Int.toNat i * (7 : Nat)) (AV.tup [])) = (5 : Int)))]),
        ((2 : Nat),
          AObj.cells (33 : Nat)
            (snR n fr ct rc (AV.toI (List.getD lc ((0 : Nat) + Int.toNat i * (7 : Nat)) (AV.tup [])))
              (AV.toI (List.getD lc ((0 : Nat) + Int.toNat i * (7 : Nat) + (1 : Nat)) (AV.tup [])))
              (AV.toI (List.getD lc ((0 : Nat) + Int.toNat i * (7 : Nat) + (1 : Nat) + (1 : Nat)) (AV.tup [])))
              (AV.toI
                (List.getD lc ((0 : Nat) + Int.toNat i * (7 : Nat) + (1 : Nat) + (1 : Nat) + (1 : Nat)) (AV.tup [])))
              (AV.toI
                (List.getD lc ((0 : Nat) + Int.toNat i * (7 : Nat) + (1 : Nat) + (1 : Nat) + (1 : Nat) + (1 : Nat))
                  (AV.tup [])))
              (AV.toI
                (List.getD lc
                  ((0 : Nat) + Int.toNat i * (7 : Nat) + (1 : Nat) + (1 : Nat) + (1 : Nat) + (1 : Nat) + (1 : Nat))
                  (AV.tup [])))
              (AV.toI
                (List.getD lc
                  ((0 : Nat) + Int.toNat i * (7 : Nat) + (1 : Nat) + (1 : Nat) + (1 : Nat) + (1 : Nat) + (1 : Nat) +
                    (1 : Nat))
                  (AV.tup []))))),
        ((0 : Nat), AObj.ro lc), ((1 : Nat), a1), ((4 : Nat), a4), ((5 : Nat), a5)] }))))))))))))))) ∧
      ((!decide (ct = (↑n : Int))) = false →
        (!decide (ct = (↑n : Int))) = false ∧
        ((!decide (ct = (↑n : Int))) = false ∧
        ((!decide (ct = (↑n : Int))) = false ∧
        ((!decide (ct = (↑n : Int))) = false ∧
        ((decide (ct = (↑n : Int))) = true ∧
        (Q Exit.ret (162 : Nat)
  [some (AV.slice (0 : Nat) (0 : Nat) ln (some lk)), some tv, some (AV.int IntKind.i64 (↑n : Int)),
    some (AV.ptr (3 : Nat) (0 : Nat)), some AV.nilslice, some ov, some (AV.int IntKind.i64 i),
    some (AV.bool (decide (ct = (↑n : Int)))), some (AV.int IntKind.i64 (0 : Int))]
  { nx := (6 : Nat),
    m :=
      [((3 : Nat),
          AObj.cells (42 : Nat)
            [AV.slice (2 : Nat) (0 : Nat) n (some n), AV.int IntKind.i64 fr, AV.int IntKind.i64 (ct + (1 : Int)),
              AV.int IntKind.i64 (AV.toI (List.getD lc ((0 : Nat) + Int.toNat i * (7 : Nat) + (1 : Nat)) (AV.tup []))),
              AV.bool (decide (AV.toI (List.getD lc ((0 : Nat) + Int.toNat i * (7 : Nat)) (AV.tup [])) = (5 : Int)))]),
        ((2 : Nat),
          AObj.cells (33 : Nat)
            (snR n fr ct rc (AV.toI (List.getD lc ((0 : Nat) + Int.toNat i * (7 : Nat)) (AV.tup [])))
              (AV.toI (List.getD lc ((0 : Nat) + Int.toNat i * (7 : Nat) + (1 : Nat)) (AV.tup [])))
              (AV.toI (List.getD lc ((0 : Nat) + Int.toNat i * (7 : Nat) + (1 : Nat) + (1 : Nat)) (AV.tup [])))
              (AV.toI
                (List.getD lc ((0 : Nat) + Int.toNat i * (7 : Nat) + (1 : Nat) + (1 : Nat) + (1 : Nat)) (AV.tup [])))
              (AV.toI
                (List.getD lc ((0 : Nat) + Int.toNat i * (7 : Nat) + (1 : Nat) + (1 : Nat) + (1 : Nat) + (1 : Nat))
                  (AV.tup [])))
              (AV.toI
                (List.getD lc
                  ((0 : Nat) + Int.toNat i * (7 : Nat) + (1 : Nat) + (1 : Nat) + (1 : Nat) + (1 : Nat) + (1 : Nat))
                  (AV.tup [])))
              (AV.toI
                (List.getD lc
                  ((0 : Nat) + Int.toNat i * (7 : Nat) + (1 : Nat) + (1 : Nat) + (1 : Nat) + (1 : Nat) + (1 : Nat) +
                    (1 : Nat))
                  (AV.tup []))))),
        ((0 : Nat), AObj.ro lc), ((1 : Nat), a1), ((4 : Nat), a4), ((5 : Nat), a5)] })))))))))))))))))))
def k1N_scr : Plan := .k (.k (.k (.k (.k (.k (.k (.b (.t (.t (.t (.t (.t (.t (.t (.t (.t (.b (.z) (.k (.b (.t (.t (.t (.k (.k (.k (.k (.k (.k (.k (.k (.k (.k (.k (.k (.k (.k (.k (.k (.k (.k (.k (.k (.k (.k (.k (.t (.k (.f (.k (.t (.t (.t (.t (.t (.t (.t (.t (.t (.z)))))))))))))))))))))))))))))))))))))))) (.f (.f (.f (.k (.k (.k (.k (.k (.k (.k (.k (.k (.k (.k (.k (.k (.k (.k (.k (.k (.k (.k (.k (.k (.k (.k (.f (.t (.z))))))))))))))))))))))))))))))))))))))))) (.t (.t (.t (.t (.t (.t (.t (.t (.t (.b (.z) (.k (.b (.t (.t (.t (.k (.k (.k (.k (.k (.k (.k (.k (.k (.k (.k (.k (.k (.k (.k (.k (.k (.k (.k (.k (.k (.k (.k (.t (.k (.f (.k (.t (.t (.t (.t (.t (.t (.t (.t (.t (.z)))))))))))))))))))))))))))))))))))))))) (.f (.f (.f (.k (.k (.k (.k (.k (.k (.k (.k (.k (.k (.k (.k (.k (.k (.k (.k (.k (.k (.k (.k (.k (.k (.k (.f (.t (.z))))))))))))))))))))))))))))))))))))))))))))))))
theorem k1N_vc (n0 : Nat) (n : Nat) (fr : Int) (ct : Int) (mk : Int) (en : Bool) (rc : List AV) (lc : List AV) (ln : Nat) (lk : Nat) (tv : AV) (ov : AV) (i : Int) (a1 : AObj) (a4 : AObj) (a5 : AObj) (N : NS) (Q : QS) (K : Unit) : (wpP XRd lkSy n0 (seqs lkS1 .skip) 1 (rndS slE N Q) (frR n (.slice 0 0 ln (some lk)) tv .nilslice ov i) (hpR n fr ct mk en rc lc a1 a4 a5) k1N_scr) = k1N_VC n0 n fr ct mk en rc lc ln lk tv ov i a1 a4 a5 N Q K := by kernel_rfl
def k1S_VC (n0 : Nat) (n : Nat) (fr : Int) (ct : Int) (mk : Int) (en : Bool) (rc : List AV) (lc : List AV) (ln : Nat) (lk : Nat) (tv : AV) (ov : AV) (i : Int) (a1 : AObj) (a5 : AObj) (ni : Nat) (ic : List AV) (N : NS) (Q : QS) (K : Unit) : Prop :=
  ((!decide ((↑n : Int) > (0 : Int))) = true →
    (decide ((0 : Int) ≤ i ∧ i < (↑ln : Int))) = true ∧
    ((decide ((0 : Nat) + Int.toNat i * (7 : Nat) + (7 : Nat) ≤ List.length lc)) = true ∧
    ((AV.isI IntKind.i64 (List.getD lc ((0 : Nat) + Int.toNat i * (7 : Nat)) (AV.tup []))) = true ∧
    ((AV.isI IntKind.i64 (List.getD lc ((0 : Nat) + Int.toNat i * (7 : Nat) + (1 : Nat)) (AV.tup []))) = true ∧
    ((AV.isI IntKind.i64 (List.getD lc ((0 : Nat) + Int.toNat i * (7 : Nat) + (1 : Nat) + (1 : Nat)) (AV.tup []))) = true ∧
    ((AV.isI IntKind.u8 (List.getD lc ((0 : Nat) + Int.toNat i * (7 : Nat) + (1 : Nat) + (1 : Nat) + (1 : Nat)) (AV.tup []))) = true ∧
    ((AV.isI IntKind.i64
  (List.getD lc ((0 : Nat) + Int.toNat i * (7 : Nat) + (1 : Nat) + (1 : Nat) + (1 : Nat) + (1 : Nat)) (AV.tup []))) = true ∧
    ((AV.isI IntKind.i64
  (List.getD lc ((0 : Nat) + Int.toNat i * (7 : Nat) + (1 : Nat) + (1 : Nat) + (1 : Nat) + (1 : Nat) + (1 : Nat))
    (AV.tup []))) = true ∧
    ((AV.isI IntKind.u8
  (List.getD lc
    ((0 : Nat) + Int.toNat i * (7 : Nat) + (1 : Nat) + (1 : Nat) + (1 : Nat) + (1 : Nat) + (1 : Nat) + (1 : Nat))
    (AV.tup []))) = true ∧
    (need (lnOk n n fr ct rc) ∧
    ((∀ m : Nat, (N (162 : Nat)
  [some (AV.slice (0 : Nat) (0 : Nat) ln (some lk)), some tv, some (AV.int IntKind.i64 (↑n : Int)),
    some (AV.ptr (3 : Nat) (0 : Nat)), some (AV.slice (4 : Nat) (0 : Nat) ni none), some ov,
    some (AV.int IntKind.i64 i), some (AV.bool (decide ((0 : Int) = (↑n : Int)))),
    some (AV.int IntKind.i64 (Int.ofNat (Nat.succ m)))]
  { nx := (6 : Nat),
    m :=
      [((3 : Nat),
          AObj.cells (42 : Nat)
            [AV.slice (2 : Nat) (0 : Nat) n (some n), AV.int IntKind.i64 fr, AV.int IntKind.i64 ct,
              AV.int IntKind.i64 mk, AV.bool en]),
        ((2 : Nat), AObj.cells (33 : Nat) rc), ((0 : Nat), AObj.ro lc), ((1 : Nat), a1),
        ((4 : Nat), AObj.opn (33 : Nat) (7 : Nat) ic), ((5 : Nat), a5)] })) ∧
    ((en = false ∧
  ¬AV.toI (List.getD lc ((0 : Nat) + Int.toNat i * (7 : Nat) + (1 : Nat)) (AV.tup [])) < mk ∧ ¬ct = (↑n : Int)) →
      (((!decide ((0 : Int) = (↑n : Int))) = true →
        (!decide ((0 : Int) = (↑n : Int))) = true ∧
        ((!decide ((0 : Int) = (↑n : Int))) = true ∧
        ((!decide ((0 : Int) = (↑n : Int))) = true ∧
        (((decide ((↑ni : Int) > (0 : Int))) = true →
          (decide ((↑ni : Int) > (0 : Int))) = true ∧
          ((decide ((↑ni : Int) > (0 : Int))) = true ∧
          ((decide ((0 : Int) ≤ i ∧ i < (↑ln : Int))) = true ∧
          ((decide ((↑ni : Int) > (0 : Int))) = true ∧
          ((decide ((↑ni : Int) > (0 : Int))) = true ∧
          ((decide ((0 : Nat) + Int.toNat i * (7 : Nat) + (1 : Nat) < List.length lc)) = true ∧
          ((AV.isI IntKind.i64 (List.getD lc ((0 : Nat) + Int.toNat i * (7 : Nat) + (1 : Nat)) (AV.tup []))) = true ∧
          ((decide ((↑ni : Int) > (0 : Int))) = true ∧
          ((decide ((↑ni : Int) > (0 : Int))) = true ∧
          ((decide ((↑ni : Int) > (0 : Int))) = true ∧
          ((decide ((↑ni : Int) > (0 : Int))) = true ∧
          ((decide ((↑ni : Int) > (0 : Int))) = true ∧
          ((decide
  ((0 : Int) ≤ IntKind.wrap IntKind.i64 ((↑ni : Int) - (1 : Int)) ∧
    IntKind.wrap IntKind.i64 ((↑ni : Int) - (1 : Int)) < (↑ni : Int))) = true ∧
          ((decide ((↑ni : Int) > (0 : Int))) = true ∧
          ((decide ((↑ni : Int) > (0 : Int))) = true ∧
          ((decide
  ((0 : Nat) + Int.toNat (IntKind.wrap IntKind.i64 ((↑ni : Int) - (1 : Int))) * (7 : Nat) + (1 : Nat) < List.length ic)) = true ∧
          ((AV.isI IntKind.i64
  (List.getD ic ((0 : Nat) + Int.toNat (IntKind.wrap IntKind.i64 ((↑ni : Int) - (1 : Int))) * (7 : Nat) + (1 : Nat))
    (AV.tup []))) = true ∧
          ((decide ((↑ni : Int) > (0 : Int))) = true ∧
          ((decide ((↑ni : Int) > (0 : Int))) = true ∧
          (((!decide
    (AV.toI (List.getD lc ((0 : Nat) + Int.toNat i * (7 : Nat) + (1 : Nat)) (AV.tup [])) <
      AV.toI
        (List.getD ic
          ((0 : Nat) + Int.toNat (IntKind.wrap IntKind.i64 ((↑ni : Int) - (1 : Int))) * (7 : Nat) + (1 : Nat))
          (AV.tup [])))) = true →
            (!decide
    (AV.toI (List.getD lc ((0 : Nat) + Int.toNat i * (7 : Nat) + (1 : Nat)) (AV.tup [])) <
      AV.toI
        (List.getD ic
          ((0 : Nat) + Int.toNat (IntKind.wrap IntKind.i64 ((↑ni : Int) - (1 : Int))) * (7 : Nat) + (1 : Nat))
          (AV.tup [])))) = true ∧
            ((!decide
    (AV.toI (List.getD lc ((0 : Nat) + Int.toNat i * (7 : Nat) + (1 : Nat)) (AV.tup [])) <
      AV.toI
        (List.getD ic
          ((0 : Nat) + Int.toNat (IntKind.wrap IntKind.i64 ((↑ni : Int) - (1 : Int))) * (7 : Nat) + (1 : Nat))
          (AV.tup [])))) = true ∧
            ((!decide
    (AV.toI (List.getD lc ((0 : Nat) + Int.toNat i * (7 : Nat) + (1 : Nat)) (AV.tup [])) <
      AV.toI
        (List.getD ic
          ((0 : Nat) + Int.toNat (IntKind.wrap IntKind.i64 ((↑ni : Int) - (1 : Int))) * (7 : Nat) + (1 : Nat))
          (AV.tup [])))) = true ∧
            ((!decide
    (AV.toI (List.getD lc ((0 : Nat) + Int.toNat i * (7 : Nat) + (1 : Nat)) (AV.tup [])) <
      AV.toI
        (List.getD ic
          ((0 : Nat) + Int.toNat (IntKind.wrap IntKind.i64 ((↑ni : Int) - (1 : Int))) * (7 : Nat) + (1 : Nat))
          (AV.tup [])))) = true ∧
            ((decide
  ((0 : Int) ≤ IntKind.wrap IntKind.i64 ((↑ni : Int) - (1 : Int)) ∧
    IntKind.wrap IntKind.i64 ((↑ni : Int) - (1 : Int)) < (↑ni : Int))) = true ∧
            ((!decide
    (AV.toI (List.getD lc ((0 : Nat) + Int.toNat i * (7 : Nat) + (1 : Nat)) (AV.tup [])) <
      AV.toI
        (List.getD ic
          ((0 : Nat) + Int.toNat (IntKind.wrap IntKind.i64 ((↑ni : Int) - (1 : Int))) * (7 : Nat) + (1 : Nat))
          (AV.tup [])))) = true ∧
            ((!decide
    (AV.toI (List.getD lc ((0 : Nat) + Int.toNat i * (7 : Nat) + (1 : Nat)) (AV.tup [])) <
      AV.toI
        (List.getD ic
          ((0 : Nat) + Int.toNat (IntKind.wrap IntKind.i64 ((↑ni : Int) - (1 : Int))) * (7 : Nat) + (1 : Nat))
          (AV.tup [])))) = true ∧
            ((decide
  ((0 : Nat) + Int.toNat (IntKind.wrap IntKind.i64 ((↑ni : Int) - (1 : Int))) * (7 : Nat) + (0 : Nat) < List.length ic)) = true ∧
            ((AV.isI IntKind.i64
  (List.getD ic ((0 : Nat) + Int.toNat (IntKind.wrap IntKind.i64 ((↑ni : Int) - (1 : Int))) * (7 : Nat) + (0 : Nat))
    (AV.tup []))) = true ∧
            ((!decide
    (AV.toI (List.getD lc ((0 : Nat) + Int.toNat i * (7 : Nat) + (1 : Nat)) (AV.tup [])) <
      AV.toI
        (List.getD ic
          ((0 : Nat) + Int.toNat (IntKind.wrap IntKind.i64 ((↑ni : Int) - (1 : Int))) * (7 : Nat) + (1 : Nat))
          (AV.tup [])))) = true ∧
            ((decide ((↑ni : Int) > (0 : Int))) = true ∧
            ((decide
  (AV.toI (List.getD lc ((0 : Nat) + Int.toNat i * (7 : Nat) + (1 : Nat)) (AV.tup [])) <
    AV.toI
      (List.getD ic ((0 : Nat) + Int.toNat (IntKind.wrap IntKind.i64 ((↑ni : Int) - (1 : Int))) * (7 : Nat) + (1 : Nat))
        (AV.tup [])))) = false ∧
            ((!decide ((0 : Int) = (↑n : Int))) = true ∧
            ((decide ((↑ni : Int) > (0 : Int))) = true ∧
            ((decide ((0 : Int) = (↑n : Int))) = false ∧
            (((decide
  (AV.toI
      (List.getD ic ((0 : Nat) + Int.toNat (IntKind.wrap IntKind.i64 ((↑ni : Int) - (1 : Int))) * (7 : Nat) + (0 : Nat))
        (AV.tup [])) =
    (5 : Int))) = true →
              Q Exit.ret (162 : Nat)
  [some (AV.slice (0 : Nat) (0 : Nat) ln (some lk)), some tv, some (AV.int IntKind.i64 (↑n : Int)),
    some (AV.ptr (3 : Nat) (0 : Nat)), some (AV.slice (4 : Nat) (0 : Nat) ni none), some ov,
    some (AV.int IntKind.i64 i), some (AV.bool (decide ((0 : Int) = (↑n : Int)))), some (AV.int IntKind.i64 (0 : Int))]
  { nx := (6 : Nat),
    m :=
      [((3 : Nat),
          AObj.cells (42 : Nat)
            [AV.slice (2 : Nat) (0 : Nat) n (some n), AV.int IntKind.i64 fr, AV.int IntKind.i64 (ct + (1 : Int)),
              AV.int IntKind.i64 (AV.toI (List.getD lc ((0 : Nat) + Int.toNat i * (7 : Nat) + (1 : Nat)) (AV.tup []))),
              AV.bool (decide (AV.toI (List.getD lc ((0 : Nat) + Int.toNat i * (7 : Nat)) (AV.tup [])) = (5 : Int)))]),
        ((2 : Nat),
          AObj.cells (33 : Nat)
            (snR n fr ct rc (AV.toI (List.getD lc ((0 : Nat) + Int.toNat i * (7 : Nat)) (AV.tup [])))
              (AV.toI (List.getD lc ((0 : Nat) + Int.toNat i * (7 : Nat) + (1 : Nat)) (AV.tup [])))
              (AV.toI (List.getD lc ((0 : Nat) + Int.toNat i * (7 : Nat) + (1 : Nat) + (1 : Nat)) (AV.tup [])))
              (AV.toI
                (List.getD lc ((0 : Nat) + Int.toNat i * (7 : Nat) + (1 : Nat) + (1 : Nat) + (1 : Nat)) (AV.tup [])))
              (AV.toI
                (List.getD lc ((0 : Nat) + Int.toNat i * (7 : Nat) + (1 : Nat) + (1 : Nat) + (1 : Nat) + (1 : Nat))
                  (AV.tup [])))
              (AV.toI
                (List.getD lc
                  ((0 : Nat) + Int.toNat i * (7 : Nat) + (1 : Nat) + (1 : Nat) + (1 : Nat) + (1 : Nat) + (1 : Nat))
                  (AV.tup [])))
              (AV.toI
                (List.getD lc
                  ((0 : Nat) + Int.toNat i * (7 : Nat) + (1 : Nat) + (1 : Nat) + (1 : Nat) + (1 : Nat) + (1 : Nat) +
                    (1 : Nat))
                  (AV.tup []))))),
        ((0 : Nat), AObj.ro lc), ((1 : Nat), a1), ((4 : Nat), AObj.opn (33 : Nat) (7 : Nat) ic), ((5 : Nat), a5)] }) ∧
            ((decide
  (AV.toI
      (List.getD ic ((0 : Nat) + Int.toNat (IntKind.wrap IntKind.i64 ((↑ni : Int) - (1 : Int))) * (7 : Nat) + (0 : Nat))
        (AV.tup [])) =
    (5 : Int))) = false →
              (decide ((0 : Int) ≤ i ∧ i < (↑ln : Int))) = true ∧
              ((decide ((0 : Nat) + Int.toNat i * (7 : Nat) + (7 : Nat) ≤ List.length lc)) = true ∧
              ((AV.isI IntKind.i64 (List.getD lc ((0 : Nat) + Int.toNat i * (7 : Nat)) (AV.tup []))) = true ∧
              ((AV.isI IntKind.i64 (List.getD lc ((0 : Nat) + Int.toNat i * (7 : Nat) + (1 : Nat)) (AV.tup []))) = true ∧
              ((AV.isI IntKind.i64 (List.getD lc ((0 : Nat) + Int.toNat i * (7 : Nat) + (1 : Nat) + (1 : Nat)) (AV.tup []))) = true ∧
              ((AV.isI IntKind.u8 (List.getD lc ((0 : Nat) + Int.toNat i * (7 : Nat) + (1 : Nat) + (1 : Nat) + (1 : Nat)) (AV.tup []))) = true ∧
              ((AV.isI IntKind.i64
  (List.getD lc ((0 : Nat) + Int.toNat i * (7 : Nat) + (1 : Nat) + (1 : Nat) + (1 : Nat) + (1 : Nat)) (AV.tup []))) = true ∧
              ((AV.isI IntKind.i64
  (List.getD lc ((0 : Nat) + Int.toNat i * (7 : Nat) + (1 : Nat) + (1 : Nat) + (1 : Nat) + (1 : Nat) + (1 : Nat))
    (AV.tup []))) = true ∧
              ((AV.isI IntKind.u8
  (List.getD lc
    ((0 : Nat) + Int.toNat i * (7 : Nat) + (1 : Nat) + (1 : Nat) + (1 : Nat) + (1 : Nat) + (1 : Nat) + (1 : Nat))
    (AV.tup []))) = true ∧
              ((decide ((0 : Nat) < ni)) = true ∧
              ((decide (ni * (7 : Nat) = List.length ic)) = true ∧
              ((decide ((ni + (1 : Nat)) * (56 : Nat) ≤ (140737488355328 : Nat))) = true ∧
              ((decide (ni + (1 : Nat) ≤ (140737488355328 : Nat))) = true ∧
              (N (162 : Nat)
  [some (AV.slice (0 : Nat) (0 : Nat) ln (some lk)), some tv, some (AV.int IntKind.i64 (↑n : Int)),
    some (AV.ptr (3 : Nat) (0 : Nat)), some (AV.slice (7 : Nat) (0 : Nat) (ni + (1 : Nat)) none), some ov,
    some (AV.int IntKind.i64 i), some (AV.bool (decide ((0 : Int) = (↑n : Int)))), some (AV.int IntKind.i64 (0 : Int))]
  { nx := (8 : Nat),
    m :=
      [((7 : Nat),
          AObj.opn (33 : Nat) (7 : Nat)
            (ic ++
              [AV.int IntKind.i64 (AV.toI (List.getD lc ((0 : Nat) + Int.toNat i * (7 : Nat)) (AV.tup []))),
                AV.int IntKind.i64
                  (AV.toI (List.getD lc ((0 : Nat) + Int.toNat i * (7 : Nat) + (1 : Nat)) (AV.tup []))),
                AV.int IntKind.i64
                  (AV.toI (List.getD lc ((0 : Nat) + Int.toNat i * (7 : Nat) + (1 : Nat) + (1 : Nat)) (AV.tup []))),
                AV.int IntKind.u8
                  (AV.toI
                    (List.getD lc ((0 : Nat) + Int.toNat i * (7 : Nat) + (1 : Nat) + (1 : Nat) + (1 : Nat))
                      (AV.tup []))),
                AV.int IntKind.i64
                  (AV.toI
                    (List.getD lc ((0 : Nat) + Int.toNat i * (7 : Nat) + (1 : Nat) + (1 : Nat) + (1 : Nat) + (1 : Nat))
                      (AV.tup []))),
                AV.int IntKind.i64
                  (AV.toI
                    (List.getD lc
                      ((0 : Nat) + Int.toNat i * (7 : Nat) + (1 : Nat) + (1 : Nat) + (1 : Nat) + (1 : Nat) + (1 : Nat))
                      (AV.tup []))),
                AV.int IntKind.u8
                  (AV.toI
                    (List.getD lc
                      ((0 : Nat) + Int.toNat i * (7 : Nat) + (1 : Nat) + (1 : Nat) + (1 : Nat) + (1 : Nat) + (1 : Nat) +
                        (1 : Nat))
                      (AV.tup [])))])),
        ((6 : Nat),
          AObj.cells (33 : Nat)
            [AV.int IntKind.i64 (AV.toI (List.getD lc ((0 : Nat) + Int.toNat i * (7 : Nat)) (AV.tup []))),
              AV.int IntKind.i64 (AV.toI (List.getD lc ((0 : Nat) + Int.toNat i * (7 : Nat) + (1 : Nat)) (AV.tup []))),
              AV.int IntKind.i64
                (AV.toI (List.getD lc ((0 : Nat) + Int.toNat i * (7 : Nat) + (1 : Nat) + (1 : Nat)) (AV.tup []))),
              AV.int IntKind.u8
                (AV.toI
                  (List.getD lc ((0 : Nat) + Int.toNat i * (7 : Nat) + (1 : Nat) + (1 : Nat) + (1 : Nat)) (AV.tup []))),
              AV.int IntKind.i64
                (AV.toI
                  (List.getD lc ((0 : Nat) + Int.toNat i * (7 : Nat) + (1 : Nat) + (1 : Nat) + (1 : Nat) + (1 : Nat))
                    (AV.tup []))),
              AV.int IntKind.i64
                (AV.toI
                  (List.getD lc
                    ((0 : Nat) + Int.toNat i * (7 : Nat) + (1 : Nat) + (1 : Nat) + (1 : Nat) + (1 : Nat) + (1 : Nat))
                    (AV.tup []))),
              AV.int IntKind.u8
                (AV.toI
                  (List.getD lc
                    ((0 : Nat) + Int.toNat i * (7 : Nat) + (1 : Nat) + (1 : Nat) + (1 : Nat) + (1 : Nat) + (1 : Nat) +
                      (1 : Nat))
                    (AV.tup [])))]),
        ((3 : Nat),
          AObj.cells (42 : Nat)
            [AV.slice (2 : Nat) (0 : Nat) n (some n), AV.int IntKind.i64 fr, AV.int IntKind.i64 (ct + (1 : Int)),
              AV.int IntKind.i64 (AV.toI (List.getD lc ((0 : Nat) + Int.toNat i * (7 : Nat) + (1 : Nat)) (AV.tup []))),
              AV.bool (decide (AV.toI (List.getD lc ((0 : Nat) + Int.toNat i * (7 : Nat)) (AV.tup [])) = (5 : Int)))]),
        ((2 : Nat),
          AObj.cells (33 : Nat)
            (snR n fr ct rc (AV.toI (List.getD lc ((0 : Nat) + Int.toNat i * (7 : Nat)) (AV.tup [])))
              (AV.toI (List.getD lc ((0 : Nat) + Int.toNat i * (7 : Nat) + (1 : Nat)) (AV.tup [])))
              (AV.toI (List.getD lc ((0 : Nat) + Int.toNat i * (7 : Nat) + (1 : Nat) + (1 : Nat)) (AV.tup [])))
              (AV.toI
                (List.getD lc ((0 : Nat) + Int.toNat i * (7 : Nat) + (1 : Nat) + (1 : Nat) + (1 : Nat)) (AV.tup [])))
              (AV.toI
                (List.getD lc ((0 : Nat) + Int.toNat i * (7 : Nat) + (1 : Nat) + (1 : Nat) + (1 : Nat) + (1 : Nat))
                  (AV.tup [])))
              (AV.toI
                (List.getD lc
                  ((0 : Nat) + Int.toNat i * (7 : Nat) + (1 : Nat) + (1 : Nat) + (1 : Nat) + (1 : Nat) + (1 : Nat))
                  (AV.tup [])))
              (AV.toI
                (List.getD lc
                  ((0 : Nat) + Int.toNat i * (7 : Nat) + (1 : Nat) + (1 : Nat) + (1 : Nat) + (1 : Nat) + (1 : Nat) +
                    (1 : Nat))
                  (AV.tup []))))),
        ((0 : Nat), AObj.ro lc), ((1 : Nat), a1), ((4 : Nat), AObj.dead), ((5 : Nat), a5)] })))))))))))))))))))))))))))))) ∧
          ((!decide
    (AV.toI (List.getD lc ((0 : Nat) + Int.toNat i * (7 : Nat) + (1 : Nat)) (AV.tup [])) <
      AV.toI
        (List.getD ic
          ((0 : Nat) + Int.toNat (IntKind.wrap IntKind.i64 ((↑ni : Int) - (1 : Int))) * (7 : Nat) + (1 : Nat))
          (AV.tup [])))) = false →
            (!decide
    (AV.toI (List.getD lc ((0 : Nat) + Int.toNat i * (7 : Nat) + (1 : Nat)) (AV.tup [])) <
      AV.toI
        (List.getD ic
          ((0 : Nat) + Int.toNat (IntKind.wrap IntKind.i64 ((↑ni : Int) - (1 : Int))) * (7 : Nat) + (1 : Nat))
          (AV.tup [])))) = false ∧
            ((!decide
    (AV.toI (List.getD lc ((0 : Nat) + Int.toNat i * (7 : Nat) + (1 : Nat)) (AV.tup [])) <
      AV.toI
        (List.getD ic
          ((0 : Nat) + Int.toNat (IntKind.wrap IntKind.i64 ((↑ni : Int) - (1 : Int))) * (7 : Nat) + (1 : Nat))
          (AV.tup [])))) = false ∧
            ((!decide
    (AV.toI (List.getD lc ((0 : Nat) + Int.toNat i * (7 : Nat) + (1 : Nat)) (AV.tup [])) <
      AV.toI
        (List.getD ic
          ((0 : Nat) + Int.toNat (IntKind.wrap IntKind.i64 ((↑ni : Int) - (1 : Int))) * (7 : Nat) + (1 : Nat))
          (AV.tup [])))) = false ∧
            ((!decide
    (AV.toI (List.getD lc ((0 : Nat) + Int.toNat i * (7 : Nat) + (1 : Nat)) (AV.tup [])) <
      AV.toI
        (List.getD ic
          ((0 : Nat) + Int.toNat (IntKind.wrap IntKind.i64 ((↑ni : Int) - (1 : Int))) * (7 : Nat) + (1 : Nat))
          (AV.tup [])))) = false ∧
            ((!decide
    (AV.toI (List.getD lc ((0 : Nat) + Int.toNat i * (7 : Nat) + (1 : Nat)) (AV.tup [])) <
      AV.toI
        (List.getD ic
          ((0 : Nat) + Int.toNat (IntKind.wrap IntKind.i64 ((↑ni : Int) - (1 : Int))) * (7 : Nat) + (1 : Nat))
          (AV.tup [])))) = false ∧
            ((!decide
    (AV.toI (List.getD lc ((0 : Nat) + Int.toNat i * (7 : Nat) + (1 : Nat)) (AV.tup [])) <
      AV.toI
        (List.getD ic
          ((0 : Nat) + Int.toNat (IntKind.wrap IntKind.i64 ((↑ni : Int) - (1 : Int))) * (7 : Nat) + (1 : Nat))
          (AV.tup [])))) = false ∧
            ((!decide
    (AV.toI (List.getD lc ((0 : Nat) + Int.toNat i * (7 : Nat) + (1 : Nat)) (AV.tup [])) <
      AV.toI
        (List.getD ic
          ((0 : Nat) + Int.toNat (IntKind.wrap IntKind.i64 ((↑ni : Int) - (1 : Int))) * (7 : Nat) + (1 : Nat))
          (AV.tup [])))) = false ∧
            ((decide ((↑ni : Int) > (0 : Int))) = true ∧
            ((decide
  (AV.toI (List.getD lc ((0 : Nat) + Int.toNat i * (7 : Nat) + (1 : Nat)) (AV.tup [])) <
    AV.toI
      (List.getD ic ((0 : Nat) + Int.toNat (IntKind.wrap IntKind.i64 ((↑ni : Int) - (1 : Int))) * (7 : Nat) + (1 : Nat))
        (AV.tup [])))) = true ∧
            ((!decide ((0 : Int) = (↑n : Int))) = true ∧
            ((decide ((↑ni : Int) > (0 : Int))) = true ∧
            ((decide ((0 : Int) = (↑n : Int))) = false ∧
            (Q Exit.ret (162 : Nat)
  [some (AV.slice (0 : Nat) (0 : Nat) ln (some lk)), some tv, some (AV.int IntKind.i64 (↑n : Int)),
    some (AV.ptr (3 : Nat) (0 : Nat)), some (AV.slice (4 : Nat) (0 : Nat) ni none), some ov,
    some (AV.int IntKind.i64 i), some (AV.bool (decide ((0 : Int) = (↑n : Int)))), some (AV.int IntKind.i64 (0 : Int))]
  { nx := (6 : Nat),
    m :=
      [((3 : Nat),
          AObj.cells (42 : Nat)
            [AV.slice (2 : Nat) (0 : Nat) n (some n), AV.int IntKind.i64 fr, AV.int IntKind.i64 (ct + (1 : Int)),
              AV.int IntKind.i64 (AV.toI (List.getD lc ((0 : Nat) + Int.toNat i * (7 : Nat) + (1 : Nat)) (AV.tup []))),
              AV.bool (decide (AV.toI (List.getD lc ((0 : Nat) + Int.toNat i * (7 : Nat)) (AV.tup [])) = (5 : Int)))]),
        ((2 : Nat),
          AObj.cells (33 : Nat)
            (snR n fr ct rc (AV.toI (List.getD lc ((0 : Nat) + Int.toNat i * (7 : Nat)) (AV.tup [])))
              (AV.toI (List.getD lc ((0 : Nat) + Int.toNat i * (7 : Nat) + (1 : Nat)) (AV.tup [])))
              (AV.toI (List.getD lc ((0 : Nat) + Int.toNat i * (7 : Nat) + (1 : Nat) + (1 : Nat)) (AV.tup [])))
              (AV.toI
                (List.getD lc ((0 : Nat) + Int.toNat i * (7 : Nat) + (1 : Nat) + (1 : Nat) + (1 : Nat)) (AV.tup [])))
              (AV.toI
                (List.getD lc ((0 : Nat) + Int.toNat i * (7 : Nat) + (1 : Nat) + (1 : Nat) + (1 : Nat) + (1 : Nat))
                  (AV.tup [])))
              (AV.toI
                (List.getD lc
                  ((0 : Nat) + Int.toNat i * (7 : Nat) + (1 : Nat) + (1 : Nat) + (1 : Nat) + (1 : Nat) + (1 : Nat))
                  (AV.tup [])))
              (AV.toI
                (List.getD lc
                  ((0 : Nat) + Int.toNat i * (7 : Nat) + (1 : Nat) + (1 : Nat) + (1 : Nat) + (1 : Nat) + (1 : Nat) +
                    (1 : Nat))
                  (AV.tup []))))),
        ((0 : Nat), AObj.ro lc), ((1 : Nat), a1), ((4 : Nat), AObj.opn (33 : Nat) (7 : Nat) ic), ((5 : Nat), a5)] }))))))))))))))))))))))))))))))))) ∧
        ((decide ((↑ni : Int) > (0 : Int))) = false →
          (decide ((↑ni : Int) > (0 : Int))) = false ∧
          ((decide ((↑ni : Int) > (0 : Int))) = false ∧
          ((decide ((↑ni : Int) > (0 : Int))) = false ∧
          ((decide ((↑ni : Int) > (0 : Int))) = false ∧
          ((decide ((↑ni : Int) > (0 : Int))) = false ∧
          ((decide ((↑ni : Int) > (0 : Int))) = false ∧
          ((decide ((↑ni : Int) > (0 : Int))) = false ∧
          ((decide ((↑ni : Int) > (0 : Int))) = false ∧
          ((decide ((↑ni : Int) > (0 : Int))) = false ∧
          ((decide ((↑ni : Int) > (0 : Int))) = false ∧
          ((decide ((↑ni : Int) > (0 : Int))) = false ∧
          ((decide ((↑ni : Int) > (0 : Int))) = false ∧
          ((decide ((↑ni : Int) > (0 : Int))) = false ∧
          ((decide ((↑ni : Int) > (0 : Int))) = false ∧
          ((!decide ((0 : Int) = (↑n : Int))) = true ∧
          ((decide ((↑ni : Int) > (0 : Int))) = false ∧
          ((decide ((0 : Int) = (↑n : Int))) = false ∧
          ((decide ((0 : Int) ≤ i ∧ i < (↑ln : Int))) = true ∧
          ((decide ((0 : Nat) + Int.toNat i * (7 : Nat) + (7 : Nat) ≤ List.length lc)) = true ∧
          ((AV.isI IntKind.i64 (List.getD lc ((0 : Nat) + Int.toNat i * (7 : Nat)) (AV.tup []))) = true ∧
          ((AV.isI IntKind.i64 (List.getD lc ((0 : Nat) + Int.toNat i * (7 : Nat) + (1 : Nat)) (AV.tup []))) = true ∧
          ((AV.isI IntKind.i64 (List.getD lc ((0 : Nat) + Int.toNat i * (7 : Nat) + (1 : Nat) + (1 : Nat)) (AV.tup []))) = true ∧
          ((AV.isI IntKind.u8 (List.getD lc ((0 : Nat) + Int.toNat i * (7 : Nat) + (1 : Nat) + (1 : Nat) + (1 : Nat)) (AV.tup []))) = true ∧
          ((AV.isI IntKind.i64
  (List.getD lc ((0 : Nat) + Int.toNat i * (7 : Nat) + (1 : Nat) + (1 : Nat) + (1 : Nat) + (1 : Nat)) (AV.tup []))) = true ∧
          ((AV.isI IntKind.i64
  (List.getD lc ((0 : Nat) + Int.toNat i * (7 : Nat) + (1 : Nat) + (1 : Nat) + (1 : Nat) + (1 : Nat) + (1 : Nat))
    (AV.tup []))) = true ∧
          ((AV.isI IntKind.u8
  (List.getD lc
    ((0 : Nat) + Int.toNat i * (7 : Nat) + (1 : Nat) + (1 : Nat) + (1 : Nat) + (1 : Nat) + (1 : Nat) + (1 : Nat))
    (AV.tup []))) = true ∧
          ((decide ((0 : Nat) < ni)) = true ∧
          ((decide (ni * (7 : Nat) = List.length ic)) = true ∧
          ((decide ((ni + (1 : Nat)) * (56 : Nat) ≤ (140737488355328 : Nat))) = true ∧
          ((decide (ni + (1 : Nat) ≤ (140737488355328 : Nat))) = true ∧
          (N (162 : Nat)
  [some (AV.slice (0 : Nat) (0 : Nat) ln (some lk)), some tv, some (AV.int IntKind.i64 (↑n : Int)),
    some (AV.ptr (3 : Nat) (0 : Nat)), some (AV.slice (7 : Nat) (0 : Nat) (ni + (1 : Nat)) none), some ov,
    some (AV.int IntKind.i64 i), some (AV.bool (decide ((0 : Int) = (↑n : Int)))), some (AV.int IntKind.i64 (0 : Int))]
  { nx := (8 : Nat),
    m :=
      [((7 : Nat),
          AObj.opn (33 : Nat) (7 : Nat)
            (ic ++
              [AV.int IntKind.i64 (AV.toI (List.getD lc ((0 : Nat) + Int.toNat i * (7 : Nat)) (AV.tup []))),
                AV.int IntKind.i64
                  (AV.toI (List.getD lc ((0 : Nat) + Int.toNat i * (7 : Nat) + (1 : Nat)) (AV.tup []))),
                AV.int IntKind.i64
                  (AV.toI (List.getD lc ((0 : Nat) + Int.toNat i * (7 : Nat) + (1 : Nat) + (1 : Nat)) (AV.tup []))),
                AV.int IntKind.u8
                  (AV.toI
                    (List.getD lc ((0 : Nat) + Int.toNat i * (7 : Nat) + (1 : Nat) + (1 : Nat) + (1 : Nat))
                      (AV.tup []))),
                AV.int IntKind.i64
                  (AV.toI
                    (List.getD lc ((0 : Nat) + Int.toNat i * (7 : Nat) + (1 : Nat) + (1 : Nat) + (1 : Nat) + (1 : Nat))
                      (AV.tup []))),
                AV.int IntKind.i64
                  (AV.toI
                    (List.getD lc
                      ((0 : Nat) + Int.toNat i * (7 : Nat) + (1 : Nat) + (1 : Nat) + (1 : Nat) + (1 : Nat) + (1 : Nat))
                      (AV.tup []))),
                AV.int IntKind.u8
                  (AV.toI
                    (List.getD lc
                      ((0 : Nat) + Int.toNat i * (7 : Nat) + (1 : Nat) + (1 : Nat) + (1 : Nat) + (1 : Nat) + (1 : Nat) +
                        (1 : Nat))
                      (AV.tup [])))])),
        ((6 : Nat),
          AObj.cells (33 : Nat)
            [AV.int IntKind.i64 (AV.toI (List.getD lc ((0 : Nat) + Int.toNat i * (7 : Nat)) (AV.tup []))),
              AV.int IntKind.i64 (AV.toI (List.getD lc ((0 : Nat) + Int.toNat i * (7 : Nat) + (1 : Nat)) (AV.tup []))),
              AV.int IntKind.i64
                (AV.toI (List.getD lc ((0 : Nat) + Int.toNat i * (7 : Nat) + (1 : Nat) + (1 : Nat)) (AV.tup []))),
              AV.int IntKind.u8
                (AV.toI
                  (List.getD lc ((0 : Nat) + Int.toNat i * (7 : Nat) + (1 : Nat) + (1 : Nat) + (1 : Nat)) (AV.tup []))),
              AV.int IntKind.i64
                (AV.toI
                  (List.getD lc ((0 : Nat) + Int.toNat i * (7 : Nat) + (1 : Nat) + (1 : Nat) + (1 : Nat) + (1 : Nat))
                    (AV.tup []))),
              AV.int IntKind.i64
                (AV.toI
                  (List.getD lc
                    ((0 : Nat) + Int.toNat i * (7 : Nat) + (1 : Nat) + (1 : Nat) + (1 : Nat) + (1 : Nat) + (1 : Nat))
                    (AV.tup []))),
              AV.int IntKind.u8
                (AV.toI
                  (List.getD lc
                    ((0 : Nat) + Int.toNat i * (7 : Nat) + (1 : Nat) + (1 : Nat) + (1 : Nat) + (1 : Nat) + (1 : Nat) +
                      (1 : Nat))
                    (AV.tup [])))]),
        ((3 : Nat),
          AObj.cells (42 : Nat)
            [AV.slice (2 : Nat) (0 : Nat) n (some n), AV.int IntKind.i64 fr, AV.int IntKind.i64 (ct + (1 : Int)),
              AV.int IntKind.i64 (AV.toI (List.getD lc ((0 : Nat) + Int.toNat i * (7 : Nat) + (1 : Nat)) (AV.tup []))),
              AV.bool (decide (AV.toI (List.getD lc ((0 : Nat) + Int.toNat i * (7 : Nat)) (AV.tup [])) = (5 : Int)))]),
        ((2 : Nat),
          AObj.cells (33 : Nat)
            (snR n fr ct rc (AV.toI (List.getD lc ((0 : Nat) + Int.toNat i * (7 : Nat)) (AV.tup [])))
              (AV.toI (List.getD lc ((0 : Nat) + Int.toNat i * (7 : Nat) + (1 : Nat)) (AV.tup [])))
              (AV.toI (List.getD lc ((0 : Nat) + Int.toNat i * (7 : Nat) + (1 : Nat) + (1 : Nat)) (AV.tup [])))
              (AV.toI
                (List.getD lc ((0 : Nat) + Int.toNat i * (7 : Nat) + (1 : Nat) + (1 : Nat) + (1 : Nat)) (AV.tup [])))
              (AV.toI
                (List.getD lc ((0 : Nat) + Int.toNat i * (7 : Nat) + (1 : Nat) + (1 : Nat) + (1 : Nat) + (1 : Nat))
                  (AV.tup [])))
              (AV.toI
                (List.getD lc
                  ((0 : Nat) + Int.toNat i * (7 : Nat) + (1 : Nat) + (1 : Nat) + (1 : Nat) + (1 : Nat) + (1 : Nat))
                  (AV.tup [])))
              (AV.toI
                (List.getD lc
                  ((0 : Nat) + Int.toNat i * (7 : Nat) + (1 : Nat) + (1 : Nat) + (1 : Nat) + (1 : Nat) + (1 : Nat) +
                    (1 : Nat))
                  (AV.tup []))))),
        ((0 : Nat), AObj.ro lc), ((1 : Nat), a1), ((4 : Nat), AObj.dead), ((5 : Nat), a5)] }))))))))))))))))))))))))))))))))))) ∧
      ((!decide ((0 : Int) = (↑n : Int))) = false →
        (!decide ((0 : Int) = (↑n : Int))) = false ∧
        ((!decide ((0 : Int) = (↑n : Int))) = false ∧
        ((!decide ((0 : Int) = (↑n : Int))) = false ∧
        ((!decide ((0 : Int) = (↑n : Int))) = false ∧
        ((decide ((0 : Int) = (↑n : Int))) = true ∧
        (Q Exit.ret (162 : Nat)
  [some (AV.slice (0 : Nat) (0 : Nat) ln (some lk)), some tv, some (AV.int IntKind.i64 (↑n : Int)),
    some (AV.ptr (3 : Nat) (0 : Nat)), some (AV.slice (4 : Nat) (0 : Nat) ni none), some ov,
    some (AV.int IntKind.i64 i), some (AV.bool (decide ((0 : Int) = (↑n : Int)))), some (AV.int IntKind.i64 (0 : Int))]
  { nx := (6 : Nat),
    m :=
      [((3 : Nat),
          AObj.cells (42 : Nat)
            [AV.slice (2 : Nat) (0 : Nat) n (some n), AV.int IntKind.i64 fr, AV.int IntKind.i64 (ct + (1 : Int)),
              AV.int IntKind.i64 (AV.toI (List.getD lc ((0 : Nat) + Int.toNat i * (7 : Nat) + (1 : Nat)) (AV.tup []))),
              AV.bool (decide (AV.toI (List.getD lc ((0 : Nat) + Int.toNat i * (7 : Nat)) (AV.tup [])) = (5 : Int)))]),
        ((2 : Nat),
          AObj.cells (33 : Nat)
            (snR n fr ct rc (AV.toI (List.getD lc ((0 : Nat) + Int.toNat i * (7 : Nat)) (AV.tup [])))
              (AV.toI (List.getD lc ((0 : Nat) + Int.toNat i * (7 : Nat) + (1 : Nat)) (AV.tup [])))
              (AV.toI (List.getD lc ((0 : Nat) + Int.toNat i * (7 : Nat) + (1 : Nat) + (1 : Nat)) (AV.tup [])))
              (AV.toI
                (List.getD lc ((0 : Nat) + Int.toNat i * (7 : Nat) + (1 : Nat) + (1 : Nat) + (1 : Nat)) (AV.tup [])))
              (AV.toI
                (List.getD lc ((0 : Nat) + Int.toNat i * (7 : Nat) + (1 : Nat) + (1 : Nat) + (1 : Nat) + (1 : Nat))
                  (AV.tup [])))
              (AV.toI
                (List.getD lc
                  ((0 : Nat) + Int.toNat i * (7 : Nat) + (1 : Nat) + (1 : Nat) + (1 : Nat) + (1 : Nat) + (1 : Nat))
                  (AV.tup [])))
              (AV.toI
                (List.getD lc
                  ((0 : Nat) + Int.toNat i * (7 : Nat) + (1 : Nat) + (1 : Nat) + (1 : Nat) + (1 : Nat) + (1 : Nat) +
                    (1 : Nat))
                  (AV.tup []))))),
        ((0 : Nat), AObj.ro lc), ((1 : Nat), a1), ((4 : Nat), AObj.opn (33 : Nat) (7 : Nat) ic), ((5 : Nat), a5)] }))))))))))))))))))) ∧
  ((!decide ((↑n : Int) > (0 : Int))) = false →
    (decide ((0 : Int) ≤ i ∧ i < (↑ln : Int))) = true ∧
    ((decide ((0 : Nat) + Int.toNat i * (7 : Nat) + (7 : Nat) ≤ List.length lc)) = true ∧
    ((AV.isI IntKind.i64 (List.getD lc ((0 : Nat) + Int.toNat i * (7 : Nat)) (AV.tup []))) = true ∧
    ((AV.isI IntKind.i64 (List.getD lc ((0 : Nat) + Int.toNat i * (7 : Nat) + (1 : Nat)) (AV.tup []))) = true ∧
    ((AV.isI IntKind.i64 (List.getD lc ((0 : Nat) + Int.toNat i * (7 : Nat) + (1 : Nat) + (1 : Nat)) (AV.tup []))) = true ∧
    ((AV.isI IntKind.u8 (List.getD lc ((0 : Nat) + Int.toNat i * (7 : Nat) + (1 : Nat) + (1 : Nat) + (1 : Nat)) (AV.tup []))) = true ∧
    ((AV.isI IntKind.i64
  (List.getD lc ((0 : Nat) + Int.toNat i * (7 : Nat) + (1 : Nat) + (1 : Nat) + (1 : Nat) + (1 : Nat)) (AV.tup []))) = true ∧
    ((AV.isI IntKind.i64
  (List.getD lc ((0 : Nat) + Int.toNat i * (7 : Nat) + (1 : Nat) + (1 : Nat) + (1 : Nat) + (1 : Nat) + (1 : Nat))
    (AV.tup []))) = true ∧
    ((AV.isI IntKind.u8
  (List.getD lc
    ((0 : Nat) + Int.toNat i * (7 : Nat) + (1 : Nat) + (1 : Nat) + (1 : Nat) + (1 : Nat) + (1 : Nat) + (1 : Nat))
    (AV.tup []))) = true ∧
    (need (lnOk n n fr ct rc) ∧
    ((∀ m : Nat, (N (162 : Nat)
  [some (AV.slice (0 : Nat) (0 : Nat) ln (some lk)), some tv, some (AV.int IntKind.i64 (↑n : Int)),
    some (AV.ptr (3 : Nat) (0 : Nat)), some (AV.slice (4 : Nat) (0 : Nat) ni none), some ov,
    some (AV.int IntKind.i64 i), some (AV.bool (decide (ct = (↑n : Int)))),
    some (AV.int IntKind.i64 (Int.ofNat (Nat.succ m)))]
  { nx := (6 : Nat),
    m :=
      [((3 : Nat),
          AObj.cells (42 : Nat)
            [AV.slice (2 : Nat) (0 : Nat) n (some n), AV.int IntKind.i64 fr, AV.int IntKind.i64 ct,
              AV.int IntKind.i64 mk, AV.bool en]),
        ((2 : Nat), AObj.cells (33 : Nat) rc), ((0 : Nat), AObj.ro lc), ((1 : Nat), a1),
        ((4 : Nat), AObj.opn (33 : Nat) (7 : Nat) ic), ((5 : Nat), a5)] })) ∧
    ((en = false ∧
  ¬AV.toI (List.getD lc ((0 : Nat) + Int.toNat i * (7 : Nat) + (1 : Nat)) (AV.tup [])) < mk ∧ ¬ct = (↑n : Int)) →
      (((!decide (ct = (↑n : Int))) = true →
        (!decide (ct = (↑n : Int))) = true ∧
        ((!decide (ct = (↑n : Int))) = true ∧
        ((!decide (ct = (↑n : Int))) = true ∧
        (((decide ((↑ni : Int) > (0 : Int))) = true →
          (decide ((↑ni : Int) > (0 : Int))) = true ∧
          ((decide ((↑ni : Int) > (0 : Int))) = true ∧
          ((decide ((0 : Int) ≤ i ∧ i < (↑ln : Int))) = true ∧
          ((decide ((↑ni : Int) > (0 : Int))) = true ∧
          ((decide ((↑ni : Int) > (0 : Int))) = true ∧
          ((decide ((0 : Nat) + Int.toNat i * (7 : Nat) + (1 : Nat) < List.length lc)) = true ∧
          ((AV.isI IntKind.i64 (List.getD lc ((0 : Nat) + Int.toNat i * (7 : Nat) + (1 : Nat)) (AV.tup []))) = true ∧
          ((decide ((↑ni : Int) > (0 : Int))) = true ∧
          ((decide ((↑ni : Int) > (0 : Int))) = true ∧
          ((decide ((↑ni : Int) > (0 : Int))) = true ∧
          ((decide ((↑ni : Int) > (0 : Int))) = true ∧
          ((decide ((↑ni : Int) > (0 : Int))) = true ∧
          ((decide
  ((0 : Int) ≤ IntKind.wrap IntKind.i64 ((↑ni : Int) - (1 : Int)) ∧
    IntKind.wrap IntKind.i64 ((↑ni : Int) - (1 : Int)) < (↑ni : Int))) = true ∧
          ((decide ((↑ni : Int) > (0 : Int))) = true ∧
          ((decide ((↑ni : Int) > (0 : Int))) = true ∧
          ((decide
  ((0 : Nat) + Int.toNat (IntKind.wrap IntKind.i64 ((↑ni : Int) - (1 : Int))) * (7 : Nat) + (1 : Nat) < List.length ic)) = true ∧
          ((AV.isI IntKind.i64
  (List.getD ic ((0 : Nat) + Int.toNat (IntKind.wrap IntKind.i64 ((↑ni : Int) - (1 : Int))) * (7 : Nat) + (1 : Nat))
    (AV.tup []))) = true ∧
          ((decide ((↑ni : Int) > (0 : Int))) = true ∧
          ((decide ((↑ni : Int) > (0 : Int))) = true ∧
          (((!decide
    (AV.toI (List.getD lc ((0 : Nat) + Int.toNat i * (7 : Nat) + (1 : Nat)) (AV.tup [])) <
      AV.toI
        (List.getD ic
          ((0 : Nat) + Int.toNat (IntKind.wrap IntKind.i64 ((↑ni : Int) - (1 : Int))) * (7 : Nat) + (1 : Nat))
          (AV.tup [])))) = true →
            (!decide
    (AV.toI (List.getD lc ((0 : Nat) + Int.toNat i * (7 : Nat) + (1 : Nat)) (AV.tup [])) <
      AV.toI
        (List.getD ic
          ((0 : Nat) + Int.toNat (IntKind.wrap IntKind.i64 ((↑ni : Int) - (1 : Int))) * (7 : Nat) + (1 : Nat))
          (AV.tup [])))) = true ∧
            ((!decide
    (AV.toI (List.getD lc ((0 : Nat) + Int.toNat i * (7 : Nat) + (1 : Nat)) (AV.tup [])) <
      AV.toI
        (List.getD ic
          ((0 : Nat) + Int.toNat (IntKind.wrap IntKind.i64 ((↑ni : Int) - (1 : Int))) * (7 : Nat) + (1 : Nat))
          (AV.tup [])))) = true ∧
            ((!decide
    (AV.toI (List.getD lc ((0 : Nat) + Int.toNat i * (7 : Nat) + (1 : Nat)) (AV.tup [])) <
      AV.toI
        (List.getD ic
          ((0 : Nat) + Int.toNat (IntKind.wrap IntKind.i64 ((↑ni : Int) - (1 : Int))) * (7 : Nat) + (1 : Nat))
          (AV.tup [])))) = true ∧
            ((!decide
    (AV.toI (List.getD lc ((0 : Nat) + Int.toNat i * (7 : Nat) + (1 : Nat)) (AV.tup [])) <
      AV.toI
        (List.getD ic
          ((0 : Nat) + Int.toNat (IntKind.wrap IntKind.i64 ((↑ni : Int) - (1 : Int))) * (7 : Nat) + (1 : Nat))
          (AV.tup [])))) = true ∧
            ((decide
  ((0 : Int) ≤ IntKind.wrap IntKind.i64 ((↑ni : Int) - (1 : Int)) ∧
    IntKind.wrap IntKind.i64 ((↑ni : Int) - (1 : Int)) < (↑ni : Int))) = true ∧
            ((!decide
    (AV.toI (List.getD lc ((0 : Nat) + Int.toNat i * (7 : Nat) + (1 : Nat)) (AV.tup [])) <
      AV.toI
        (List.getD ic
          ((0 : Nat) + Int.toNat (IntKind.wrap IntKind.i64 ((↑ni : Int) - (1 : Int))) * (7 : Nat) + (1 : Nat))
          (AV.tup [])))) = true ∧
            ((!decide
    (AV.toI (List.getD lc ((0 : Nat) + Int.toNat i * (7 : Nat) + (1 : Nat)) (AV.tup [])) <
      AV.toI
        (List.getD ic
          ((0 : Nat) + Int.toNat (IntKind.wrap IntKind.i64 ((↑ni : Int) - (1 : Int))) * (7 : Nat) + (1 : Nat))
          (AV.tup [])))) = true ∧
            ((decide
  ((0 : Nat) + Int.toNat (IntKind.wrap IntKind.i64 ((↑ni : Int) - (1 : Int))) * (7 : Nat) + (0 : Nat) < List.length ic)) = true ∧
            ((AV.isI IntKind.i64
  (List.getD ic ((0 : Nat) + Int.toNat (IntKind.wrap IntKind.i64 ((↑ni : Int) - (1 : Int))) * (7 : Nat) + (0 : Nat))
    (AV.tup []))) = true ∧
            ((!decide
    (AV.toI (List.getD lc ((0 : Nat) + Int.toNat i * (7 : Nat) + (1 : Nat)) (AV.tup [])) <
      AV.toI
        (List.getD ic
          ((0 : Nat) + Int.toNat (IntKind.wrap IntKind.i64 ((↑ni : Int) - (1 : Int))) * (7 : Nat) + (1 : Nat))
          (AV.tup [])))) = true ∧
            ((decide ((↑ni : Int) > (0 : Int))) = true ∧
            ((decide
  (AV.toI (List.getD lc ((0 : Nat) + Int.toNat i * (7 : Nat) + (1 : Nat)) (AV.tup [])) <
    AV.toI
      (List.getD ic ((0 : Nat) + Int.toNat (IntKind.wrap IntKind.i64 ((↑ni : Int) - (1 : Int))) * (7 : Nat) + (1 : Nat))
        (AV.tup [])))) = false ∧
            ((!decide (ct = (↑n : Int))) = true ∧
            ((decide ((↑ni : Int) > (0 : Int))) = true ∧
            ((decide (ct = (↑n : Int))) = false ∧
            (((decide
  (AV.toI
      (List.getD ic ((0 : Nat) + Int.toNat (IntKind.wrap IntKind.i64 ((↑ni : Int) - (1 : Int))) * (7 : Nat) + (0 : Nat))
        (AV.tup [])) =
    (5 : Int))) = true →
              Q Exit.ret (162 : Nat)
  [some (AV.slice (0 : Nat) (0 : Nat) ln (some lk)), some tv, some (AV.int IntKind.i64 (↑n : Int)),
    some (AV.ptr (3 : Nat) (0 : Nat)), some (AV.slice (4 : Nat) (0 : Nat) ni none), some ov,
    some (AV.int IntKind.i64 i), some (AV.bool (decide (ct = (↑n : Int)))), some (AV.int IntKind.i64 (0 : Int))]
  { nx := (6 : Nat),
    m :=
      [((3 : Nat),
          AObj.cells (42 : Nat)
            [AV.slice (2 : Nat) (0 : Nat) n (some n), AV.int IntKind.i64 fr, AV.int IntKind.i64 (ct + (1 : Int)),
              AV.int IntKind.i64 (AV.toI (List.getD lc ((0 : Nat) + Int.toNat i * (7 : Nat) + (1 : Nat)) (AV.tup []))),
              AV.bool (decide (AV.toI (List.getD lc ((0 : Nat) + Int.toNat i * (7 : Nat)) (AV.tup [])) = (5 : Int)))]),
        ((2 : Nat),
          AObj.cells (33 : Nat)
            (snR n fr ct rc (AV.toI (List.getD lc ((0 : Nat) + Int.toNat i * (7 : Nat)) (AV.tup [])))
              (AV.toI (List.getD lc ((0 : Nat) + Int.toNat i * (7 : Nat) + (1 : Nat)) (AV.tup [])))
              (AV.toI (List.getD lc ((0 : Nat) + Int.toNat i * (7 : Nat) + (1 : Nat) + (1 : Nat)) (AV.tup [])))
              (AV.toI
                (List.getD lc ((0 : Nat) + Int.toNat i * (7 : Nat) + (1 : Nat) + (1 : Nat) + (1 : Nat)) (AV.tup [])))
              (AV.toI
                (List.getD lc ((0 : Nat) + Int.toNat i * (7 : Nat) + (1 : Nat) + (1 : Nat) + (1 : Nat) + (1 : Nat))
                  (AV.tup [])))
              (AV.toI
                (List.getD lc
                  ((0 : Nat) + Int.toNat i * (7 : Nat) + (1 : Nat) + (1 : Nat) + (1 : Nat) + (1 : Nat) + (1 : Nat))
                  (AV.tup [])))
              (AV.toI
                (List.getD lc
                  ((0 : Nat) + Int.toNat i * (7 : Nat) + (1 : Nat) + (1 : Nat) + (1 : Nat) + (1 : Nat) + (1 : Nat) +
                    (1 : Nat))
                  (AV.tup []))))),
        ((0 : Nat), AObj.ro lc), ((1 : Nat), a1), ((4 : Nat), AObj.opn (33 : Nat) (7 : Nat) ic), ((5 : Nat), a5)] }) ∧
            ((decide
  (AV.toI
      (List.getD ic ((0 : Nat) + Int.toNat (IntKind.wrap IntKind.i64 ((↑ni : Int) - (1 : Int))) * (7 : Nat) + (0 : Nat))
        (AV.tup [])) =
    (5 : Int))) = false →
              (decide ((0 : Int) ≤ i ∧ i < (↑ln : Int))) = true ∧
              ((decide ((0 : Nat) + Int.toNat i * (7 : Nat) + (7 : Nat) ≤ List.length lc)) = true ∧
              ((AV.isI IntKind.i64 (List.getD lc ((0 : Nat) + Int.toNat i * (7 : Nat)) (AV.tup []))) = true ∧
              ((AV.isI IntKind.i64 (List.getD lc ((0 : Nat) + Int.toNat i * (7 : Nat) + (1 : Nat)) (AV.tup []))) = true ∧
              ((AV.isI IntKind.i64 (List.getD lc ((0 : Nat) + Int.toNat i * (7 : Nat) + (1 : Nat) + (1 : Nat)) (AV.tup []))) = true ∧
              ((AV.isI IntKind.u8 (List.getD lc ((0 : Nat) + Int.toNat i * (7 : Nat) + (1 : Nat) + (1 : Nat) + (1 : Nat)) (AV.tup []))) = true ∧
              ((AV.isI IntKind.i64
  (List.getD lc ((0 : Nat) + Int.toNat i * (7 : Nat) + (1 : Nat) + (1 : Nat) + (1 : Nat) + (1 : Nat)) (AV.tup []))) = true ∧
              ((AV.isI IntKind.i64
  (List.getD lc ((0 : Nat) + Int.toNat i * (7 : Nat) + (1 : Nat) + (1 : Nat) + (1 : Nat) + (1 : Nat) + (1 : Nat))
    (AV.tup []))) = true ∧
              ((AV.isI IntKind.u8
  (List.getD lc
    ((0 : Nat) + Int.toNat i * (7 : Nat) + (1 : Nat) + (1 : Nat) + (1 : Nat) + (1 : Nat) + (1 : Nat) + (1 : Nat))
    (AV.tup []))) = true ∧
              ((decide ((0 : Nat) < ni)) = true ∧
              ((decide (ni * (7 : Nat) = List.length ic)) = true ∧
              ((decide ((ni + (1 : Nat)) * (56 : Nat) ≤ (140737488355328 : Nat))) = true ∧
              ((decide (ni + (1 : Nat) ≤ (140737488355328 : Nat))) = true ∧
              (N (162 : Nat)
  [some (AV.slice (0 : Nat) (0 : Nat) ln (some lk)), some tv, some (AV.int IntKind.i64 (↑n : Int)),
    some (AV.ptr (3 : Nat) (0 : Nat)), some (AV.slice (7 : Nat) (0 : Nat) (ni + (1 : Nat)) none), some ov,
    some (AV.int IntKind.i64 i), some (AV.bool (decide (ct = (↑n : Int)))), some (AV.int IntKind.i64 (0 : Int))]
  { nx := (8 : Nat),
    m :=
      [((7 : Nat),
          AObj.opn (33 : Nat) (7 : Nat)
            (ic ++
              [AV.int IntKind.i64 (AV.toI (List.getD lc ((0 : Nat) + Int.toNat i * (7 : Nat)) (AV.tup []))),
                AV.int IntKind.i64
                  (AV.toI (List.getD lc ((0 : Nat) + Int.toNat i * (7 : Nat) + (1 : Nat)) (AV.tup []))),
                AV.int IntKind.i64
                  (AV.toI (List.getD lc ((0 : Nat) + Int.toNat i * (7 : Nat) + (1 : Nat) + (1 : Nat)) (AV.tup []))),
                AV.int IntKind.u8
                  (AV.toI
                    (List.getD lc ((0 : Nat) + Int.toNat i * (7 : Nat) + (1 : Nat) + (1 : Nat) + (1 : Nat))
                      (AV.tup []))),
                AV.int IntKind.i64
                  (AV.toI
                    (List.getD lc ((0 : Nat) + Int.toNat i * (7 : Nat) + (1 : Nat) + (1 : Nat) + (1 : Nat) + (1 : Nat))
                      (AV.tup []))),
                AV.int IntKind.i64
                  (AV.toI
                    (List.getD lc
                      ((0 : Nat) + Int.toNat i * (7 : Nat) + (1 : Nat) + (1 : Nat) + (1 : Nat) + (1 : Nat) + (1 : Nat))
                      (AV.tup []))),
                AV.int IntKind.u8
                  (AV.toI
                    (List.getD lc
                      ((0 : Nat) + Int.toNat i * (7 : Nat) + (1 : Nat) + (1 : Nat) + (1 : Nat) + (1 : Nat) + (1 : Nat) +
                        (1 : Nat))
                      (AV.tup [])))])),
        ((6 : Nat),
          AObj.cells (33 : Nat)
            [AV.int IntKind.i64 (AV.toI (List.getD lc ((0 : Nat) + Int.toNat i * (7 : Nat)) (AV.tup []))),
              AV.int IntKind.i64 (AV.toI (List.getD lc ((0 : Nat) + Int.toNat i * (7 : Nat) + (1 : Nat)) (AV.tup []))),
              AV.int IntKind.i64
                (AV.toI (List.getD lc ((0 : Nat) + Int.toNat i * (7 : Nat) + (1 : Nat) + (1 : Nat)) (AV.tup []))),
              AV.int IntKind.u8
                (AV.toI
                  (List.getD lc ((0 : Nat) + Int.toNat i * (7 : Nat) + (1 : Nat) + (1 : Nat) + (1 : Nat)) (AV.tup []))),
              AV.int IntKind.i64
                (AV.toI
                  (List.getD lc ((0 : Nat) + Int.toNat i * (7 : Nat) + (1 : Nat) + (1 : Nat) + (1 : Nat) + (1 : Nat))
                    (AV.tup []))),
              AV.int IntKind.i64
                (AV.toI
                  (List.getD lc
                    ((0 : Nat) + Int.toNat i * (7 : Nat) + (1 : Nat) + (1 : Nat) + (1 : Nat) + (1 : Nat) + (1 : Nat))
                    (AV.tup []))),
              AV.int IntKind.u8
                (AV.toI
                  (List.getD lc
                    ((0 : Nat) + Int.toNat i * (7 : Nat) + (1 : Nat) + (1 : Nat) + (1 : Nat) + (1 : Nat) + (1 : Nat) +
                      (1 : Nat))
                    (AV.tup [])))]),
        ((3 : Nat),
          AObj.cells (42 : Nat)
            [AV.slice (2 : Nat) (0 : Nat) n (some n), AV.int IntKind.i64 fr, AV.int IntKind.i64 (ct + (1 : Int)),
              AV.int IntKind.i64 (AV.toI (List.getD lc ((0 : Nat) + Int.toNat i * (7 : Nat) + (1 : Nat)) (AV.tup []))),
              AV.bool (decide (AV.toI (List.getD lc ((0 : Nat) + Int.toNat i * (7 : Nat)) (AV.tup [])) = (5 : Int)))]),
        ((2 : Nat),
          AObj.cells (33 : Nat)
            (snR n fr ct rc (AV.toI (List.getD lc ((0 : Nat) + Int.toNat i * (7 : Nat)) (AV.tup [])))
              (AV.toI (List.getD lc ((0 : Nat) + Int.toNat i * (7 : Nat) + (1 : Nat)) (AV.tup [])))
              (AV.toI (List.getD lc ((0 : Nat) + Int.toNat i * (7 : Nat) + (1 : Nat) + (1 : Nat)) (AV.tup [])))
              (AV.toI
                (List.getD lc ((0 : Nat) + Int.toNat i * (7 : Nat) + (1 : Nat) + (1 : Nat) + (1 : Nat)) (AV.tup [])))
              (AV.toI
                (List.getD lc ((0 : Nat) + Int.toNat i * (7 : Nat) + (1 : Nat) + (1 : Nat) + (1 : Nat) + (1 : Nat))
                  (AV.tup [])))
              (AV.toI
                (List.getD lc
                  ((0 : Nat) + Int.toNat i * (7 : Nat) + (1 : Nat) + (1 : Nat) + (1 : Nat) + (1 : Nat) + (1 : Nat))
                  (AV.tup [])))
              (AV.toI
                (List.getD lc
                  ((0 : Nat) + Int.toNat i * (7 : Nat) + (1 : Nat) + (1 : Nat) + (1 : Nat) + (1 : Nat) + (1 : Nat) +
                    (1 : Nat))
                  (AV.tup []))))),
        ((0 : Nat), AObj.ro lc), ((1 : Nat), a1), ((4 : Nat), AObj.dead), ((5 : Nat), a5)] })))))))))))))))))))))))))))))) ∧
          ((!decide
    (AV.toI (List.getD lc ((0 : Nat) + Int.toNat i * (7 : Nat) + (1 : Nat)) (AV.tup [])) <
      AV.toI
        (List.getD ic
          ((0 : Nat) + Int.toNat (IntKind.wrap IntKind.i64 ((↑ni : Int) - (1 : Int))) * (7 : Nat) + (1 : Nat))
          (AV.tup [])))) = false →
            (!decide
    (AV.toI (List.getD lc ((0 : Nat) + Int.toNat i * (7 : Nat) + (1 : Nat)) (AV.tup [])) <
      AV.toI
        (List.getD ic
          ((0 : Nat) + Int.toNat (IntKind.wrap IntKind.i64 ((↑ni : Int) - (1 : Int))) * (7 : Nat) + (1 : Nat))
          (AV.tup [])))) = false ∧
            ((!decide
    (AV.toI (List.getD lc ((0 : Nat) + Int.toNat i * (7 : Nat) + (1 : Nat)) (AV.tup [])) <
      AV.toI
        (List.getD ic
          ((0 : Nat) + Int.toNat (IntKind.wrap IntKind.i64 ((↑ni : Int) - (1 : Int))) * (7 : Nat) + (1 : Nat))
          (AV.tup [])))) = false ∧
            ((!decide
    (AV.toI (List.getD lc ((0 : Nat) + Int.toNat i * (7 : Nat) + (1 : Nat)) (AV.tup [])) <
      AV.toI
        (List.getD ic
          ((0 : Nat) + Int.toNat (IntKind.wrap IntKind.i64 ((↑ni : Int) - (1 : Int))) * (7 : Nat) + (1 : Nat))
          (AV.tup [])))) = false ∧
            ((!decide
    (AV.toI (List.getD lc ((0 : Nat) + Int.toNat i * (7 : Nat) + (1 : Nat)) (AV.tup [])) <
      AV.toI
        (List.getD ic
          ((0 : Nat) + Int.toNat (IntKind.wrap IntKind.i64 ((↑ni : Int) - (1 : Int))) * (7 : Nat) + (1 : Nat))
          (AV.tup [])))) = false ∧
            ((!decide
    (AV.toI (List.getD lc ((0 : Nat) + Int.toNat i * (7 : Nat) + (1 : Nat)) (AV.tup [])) <
      AV.toI
        (List.getD ic
          ((0 : Nat) + Int.toNat (IntKind.wrap IntKind.i64 ((↑ni : Int) - (1 : Int))) * (7 : Nat) + (1 : Nat))
          (AV.tup [])))) = false ∧
            ((!decide
    (AV.toI (List.getD lc ((0 : Nat) + Int.toNat i * (7 : Nat) + (1 : Nat)) (AV.tup [])) <
      AV.toI
        (List.getD ic
          ((0 : Nat) + Int.toNat (IntKind.wrap IntKind.i64 ((↑ni : Int) - (1 : Int))) * (7 : Nat) + (1 : Nat))
          (AV.tup [])))) = false ∧
            ((!decide
    (AV.toI (List.getD lc ((0 : Nat) + Int.toNat i * (7 : Nat) + (1 : Nat)) (AV.tup [])) <
      AV.toI
        (List.getD ic
          ((0 : Nat) + Int.toNat (IntKind.wrap IntKind.i64 ((↑ni : Int) - (1 : Int))) * (7 : Nat) + (1 : Nat))
          (AV.tup [])))) = false ∧
            ((decide ((↑ni : Int) > (0 : Int))) = true ∧
            ((decide
  (AV.toI (List.getD lc ((0 : Nat) + Int.toNat i * (7 : Nat) + (1 : Nat)) (AV.tup [])) <
    AV.toI
      (List.getD ic ((0 : Nat) + Int.toNat (IntKind.wrap IntKind.i64 ((↑ni : Int) - (1 : Int))) * (7 : Nat) + (1 : Nat))
        (AV.tup [])))) = true ∧
            ((!decide (ct = (↑n : Int))) = true ∧
            ((decide ((↑ni : Int) > (0 : Int))) = true ∧
            ((decide (ct = (↑n : Int))) = false ∧
            (Q Exit.ret (162 : Nat)
  [some (AV.slice (0 : Nat) (0 : Nat) ln (some lk)), some tv, some (AV.int IntKind.i64 (↑n : Int)),
    some (AV.ptr (3 : Nat) (0 : Nat)), some (AV.slice (4 : Nat) (0 : Nat) ni none), some ov,
    some (AV.int IntKind.i64 i), some (AV.bool (decide (ct = (↑n : Int)))), some (AV.int IntKind.i64 (0 : Int))]
  { nx := (6 : Nat),
    m :=
      [((3 : Nat),
          AObj.cells (42 : Nat)
            [AV.slice (2 : Nat) (0 : Nat) n (some n), AV.int IntKind.i64 fr, AV.int IntKind.i64 (ct + (1 : Int)),
              AV.int IntKind.i64 (AV.toI (List.getD lc ((0 : Nat) + Int.toNat i * (7 : Nat) + (1 : Nat)) (AV.tup []))),
              AV.bool (decide (AV.toI (List.getD lc ((0 : Nat) + Int.toNat i * (7 : Nat)) (AV.tup [])) = (5 : Int)))]),
        ((2 : Nat),
          AObj.cells (33 : Nat)
            (snR n fr ct rc (AV.toI (List.getD lc ((0 : Nat) + Int.toNat i * (7 : Nat)) (AV.tup [])))
              (AV.toI (List.getD lc ((0 : Nat) + Int.toNat i * (7 : Nat) + (1 : Nat)) (AV.tup [])))
              (AV.toI (List.getD lc ((0 : Nat) + Int.toNat i * (7 : Nat) + (1 : Nat) + (1 : Nat)) (AV.tup [])))
              (AV.toI
                (List.getD lc ((0 : Nat) + Int.toNat i * (7 : Nat) + (1 : Nat) + (1 : Nat) + (1 : Nat)) (AV.tup [])))
              (AV.toI
                (List.getD lc ((0 : Nat) + Int.toNat i * (7 : Nat) + (1 : Nat) + (1 : Nat) + (1 : Nat) + (1 : Nat))
                  (AV.tup [])))
              (AV.toI
                (List.getD lc
                  ((0 : Nat) + Int.toNat i * (7 : Nat) + (1 : Nat) + (1 : Nat) + (1 : Nat) + (1 : Nat) + (1 : Nat))
                  (AV.tup [])))
              (AV.toI
                (List.getD lc
                  ((0 : Nat) + Int.toNat i * (7 : Nat) + (1 : Nat) + (1 : Nat) + (1 : Nat) + (1 : Nat) + (1 : Nat) +
                    (1 : Nat))
                  (AV.tup []))))),
        ((0 : Nat), AObj.ro lc), ((1 : Nat), a1), ((4 : Nat), AObj.opn (33 : Nat) (7 : Nat) ic), ((5 : Nat), a5)] }))))))))))))))))))))))))))))))))) ∧
        ((decide ((↑ni : Int) > (0 : Int))) = false →
          (decide ((↑ni : Int) > (0 : Int))) = false ∧
          ((decide ((↑ni : Int) > (0 : Int))) = false ∧
          ((decide ((↑ni : Int) > (0 : Int))) = false ∧
          ((decide ((↑ni : Int) > (0 : Int))) = false ∧
          ((decide ((↑ni : Int) > (0 : Int))) = false ∧
          ((decide ((↑ni : Int) > (0 : Int))) = false ∧
          ((decide ((↑ni : Int) > (0 : Int))) = false ∧
          ((decide ((↑ni : Int) > (0 : Int))) = false ∧
          ((decide ((↑ni : Int) > (0 : Int))) = false ∧
          ((decide ((↑ni : Int) > (0 : Int))) = false ∧
          ((decide ((↑ni : Int) > (0 : Int))) = false ∧
          ((decide ((↑ni : Int) > (0 : Int))) = false ∧
          ((decide ((↑ni : Int) > (0 : Int))) = false ∧
          ((decide ((↑ni : Int) > (0 : Int))) = false ∧
          ((!decide (ct = (↑n : Int))) = true ∧
          ((decide ((↑ni : Int) > (0 : Int))) = false ∧
          ((decide (ct = (↑n : Int))) = false ∧
          ((decide ((0 : Int) ≤ i ∧ i < (↑ln : Int))) = true ∧
          ((decide ((0 : Nat) + Int.toNat i * (7 : Nat) + (7 : Nat) ≤ List.length lc)) = true ∧
          ((AV.isI IntKind.i64 (List.getD lc ((0 : Nat) + Int.toNat i * (7 : Nat)) (AV.tup []))) = true ∧
          ((AV.isI IntKind.i64 (List.getD lc ((0 : Nat) + Int.toNat i * (7 : Nat) + (1 : Nat)) (AV.tup []))) = true ∧
          ((AV.isI IntKind.i64 (List.getD lc ((0 : Nat) + Int.toNat i * (7 : Nat) + (1 : Nat) + (1 : Nat)) (AV.tup []))) = true ∧
          ((AV.isI IntKind.u8 (List.getD lc ((0 : Nat) + Int.toNat i * (7 : Nat) + (1 : Nat) + (1 : Nat) + (1 : Nat)) (AV.tup []))) = true ∧
          ((AV.isI IntKind.i64
  (List.getD lc ((0 : Nat) + Int.toNat i * (7 : Nat) + (1 : Nat) + (1 : Nat) + (1 : Nat) + (1 : Nat)) (AV.tup []))) = true ∧
          ((AV.isI IntKind.i64
  (List.getD lc ((0 : Nat) + Int.toNat i * (7 : Nat) + (1 : Nat) + (1 : Nat) + (1 : Nat) + (1 : Nat) + (1 : Nat))
    (AV.tup []))) = true ∧
          ((AV.isI IntKind.u8
  (List.getD lc
    ((0 : Nat) + Int.toNat i * (7 : Nat) + (1 : Nat) + (1 : Nat) + (1 : Nat) + (1 : Nat) + (1 : Nat) + (1 : Nat))
    (AV.tup []))) = true ∧
          ((decide ((0 : Nat) < ni)) = true ∧
          ((decide (ni * (7 : Nat) = List.length ic)) = true ∧
          ((decide ((ni + (1 : Nat)) * (56 : Nat) ≤ (140737488355328 : Nat))) = true ∧
          ((decide (ni + (1 : Nat) ≤ (140737488355328 : Nat))) = true ∧
          (N (162 : Nat)
  [some (AV.slice (0 : Nat) (0 : Nat) ln (some lk)), some tv, some (AV.int IntKind.i64 (↑n : Int)),
    some (AV.ptr (3 : Nat) (0 : Nat)), some (AV.slice (7 : Nat) (0 : Nat) (ni + (1 : Nat)) none), some ov,
    some (AV.int IntKind.i64 i), some (AV.bool (decide (ct = (↑n : Int)))), some (AV.int IntKind.i64 (0 : Int))]
  { nx := (8 : Nat),
    m :=
      [((7 : Nat),
          AObj.opn (33 : Nat) (7 : Nat)
            (ic ++
              [AV.int IntKind.i64 (AV.toI (List.getD lc ((0 : Nat) + Int.toNat i * (7 : Nat)) (AV.tup []))),
                AV.int IntKind.i64
                  (AV.toI (List.getD lc ((0 : Nat) + Int.toNat i * (7 : Nat) + (1 : Nat)) (AV.tup []))),
                AV.int IntKind.i64
                  (AV.toI (List.getD lc ((0 : Nat) + Int.toNat i * (7 : Nat) + (1 : Nat) + (1 : Nat)) (AV.tup []))),
                AV.int IntKind.u8
                  (AV.toI
                    (List.getD lc ((0 : Nat) + Int.toNat i * (7 : Nat) + (1 : Nat) + (1 : Nat) + (1 : Nat))
                      (AV.tup []))),
                AV.int IntKind.i64
                  (AV.toI
                    (List.getD lc ((0 : Nat) + Int.toNat i * (7 : Nat) + (1 : Nat) + (1 : Nat) + (1 : Nat) + (1 : Nat))
                      (AV.tup []))),
                AV.int IntKind.i64
                  (AV.toI
                    (List.getD lc
                      ((0 : Nat) + Int.toNat i * (7 : Nat) + (1 : Nat) + (1 : Nat) + (1 : Nat) + (1 : Nat) + (1 : Nat))
                      (AV.tup []))),
                AV.int IntKind.u8
                  (AV.toI
                    (List.getD lc
                      ((0 : Nat) + Int.toNat i * (7 : Nat) + (1 : Nat) + (1 : Nat) + (1 : Nat) + (1 : Nat) + (1 : Nat) +
                        (1 : Nat))
                      (AV.tup [])))])),
        ((6 : Nat),
          AObj.cells (33 : Nat)
            [AV.int IntKind.i64 (AV.toI (List.getD lc ((0 : Nat) + Int.toNat i * (7 : Nat)) (AV.tup []))),
              AV.int IntKind.i64 (AV.toI (List.getD lc ((0 : Nat) + Int.toNat i * (7 : Nat) + (1 : Nat)) (AV.tup []))),
              AV.int IntKind.i64
                (AV.toI (List.getD lc ((0 : Nat) + Int.toNat i * (7 : Nat) + (1 : Nat) + (1 : Nat)) (AV.tup []))),
              AV.int IntKind.u8
                (AV.toI
                  (List.getD lc ((0 : Nat) + Int.toNat i * (7 : Nat) + (1 : Nat) + (1 : Nat) + (1 : Nat)) (AV.tup []))),
              AV.int IntKind.i64
                (AV.toI
                  (List.getD lc ((0 : Nat) + Int.toNat i * (7 : Nat) + (1 : Nat) + (1 : Nat) + (1 : Nat) + (1 : Nat))
                    (AV.tup []))),
              AV.int IntKind.i64
                (AV.toI
                  (List.getD lc
                    ((0 : Nat) + Int.toNat i * (7 : Nat) + (1 : Nat) + (1 : Nat) + (1 : Nat) + (1 : Nat) + (1 : Nat))
                    (AV.tup []))),
              AV.int IntKind.u8
                (AV.toI
                  (List.getD lc
                    ((0 : Nat) + Int.toNat i * (7 : Nat) + (1 : Nat) + (1 : Nat) + (1 : Nat) + (1 : Nat) + (1 : Nat) +
                      (1 : Nat))
                    (AV.tup [])))]),
        ((3 : Nat),
          AObj.cells (42 : Nat)
            [AV.slice (2 : Nat) (0 : Nat) n (some n), AV.int IntKind.i64 fr, AV.int IntKind.i64 (ct + (1 : Int)),
              AV.int IntKind.i64 (AV.toI (List.getD lc ((0 : Nat) + Int.toNat i * (7 : Nat) + (1 : Nat)) (AV.tup []))),
              AV.bool (decide (AV.toI (List.getD lc ((0 : Nat) + Int.toNat i * (7 : Nat)) (AV.tup [])) = (5 : Int)))]),
        ((2 : Nat),
          AObj.cells (33 : Nat)
            (snR n fr ct rc (AV.toI (List.getD lc ((0 : Nat) + Int.toNat i * (7 : Nat)) (AV.tup [])))
              (AV.toI (List.getD lc ((0 : Nat) + Int.toNat i * (7 : Nat) + (1 : Nat)) (AV.tup [])))
              (AV.toI (List.getD lc ((0 : Nat) + Int.toNat i * (7 : Nat) + (1 : Nat) + (1 : Nat)) (AV.tup [])))
              (AV.toI
                (List.getD lc ((0 : Nat) + Int.toNat i * (7 : Nat) + (1 : Nat) + (1 : Nat) + (1 : Nat)) (AV.tup [])))
              (AV.toI
                (List.getD lc ((0 : Nat) + Int.toNat i * (7 : Nat) + (1 : Nat) + (1 : Nat) + (1 : Nat) + (1 : Nat))
                  (AV.tup [])))
              (AV.toI
                (List.getD lc
                  ((0 : Nat) + Int.toNat i * (7 : Nat) + (1 : Nat) + (1 : Nat) + (1 : Nat) + (1 : Nat) + (1 : Nat))
                  (AV.tup [])))
              (AV.toI
                (List.getD lc
                  ((0 : Nat) + Int.toNat i * (7 : Nat) + (1 : Nat) + (1 : Nat) + (1 : Nat) + (1 : Nat) + (1 : Nat) +
                    (1 : Nat))
                  (AV.tup []))))),
        ((0 : Nat), AObj.ro lc), ((1 : Nat), a1), ((4 : Nat), AObj.dead), ((5 : Nat), a5)] }))))))))))))))))))))))))))))))))))) ∧
      ((!decide (ct = (↑n : Int))) = false →
        (!decide (ct = (↑n : Int))) = false ∧
        ((!decide (ct = (↑n : Int))) = false ∧
        ((!decide (ct = (↑n : Int))) = false ∧
        ((!decide (ct = (↑n : Int))) = false ∧
        ((decide (ct = (↑n : Int))) = true ∧
        (Q Exit.ret (162 : Nat)
  [some (AV.slice (0 : Nat) (0 : Nat) ln (some lk)), some tv, some (AV.int IntKind.i64 (↑n : Int)),
    some (AV.ptr (3 : Nat) (0 : Nat)), some (AV.slice (4 : Nat) (0 : Nat) ni none), some ov,
    some (AV.int IntKind.i64 i), some (AV.bool (decide (ct = (↑n : Int)))), some (AV.int IntKind.i64 (0 : Int))]
  { nx := (6 : Nat),
    m :=
      [((3 : Nat),
          AObj.cells (42 : Nat)
            [AV.slice (2 : Nat) (0 : Nat) n (some n), AV.int IntKind.i64 fr, AV.int IntKind.i64 (ct + (1 : Int)),
              AV.int IntKind.i64 (AV.toI (List.getD lc ((0 : Nat) + Int.toNat i * (7 : Nat) + (1 : Nat)) (AV.tup []))),
              AV.bool (decide (AV.toI (List.getD lc ((0 : Nat) + Int.toNat i * (7 : Nat)) (AV.tup [])) = (5 : Int)))]),
        ((2 : Nat),
          AObj.cells (33 : Nat)
            (snR n fr ct rc (AV.toI (List.getD lc ((0 : Nat) + Int.toNat i * (7 : Nat)) (AV.tup [])))
              (AV.toI (List.getD lc ((0 : Nat) + Int.toNat i * (7 : Nat) + (1 : Nat)) (AV.tup [])))
              (AV.toI (List.getD lc ((0 : Nat) + Int.toNat i * (7 : Nat) + (1 : Nat) + (1 : Nat)) (AV.tup [])))
              (AV.toI
                (List.getD lc ((0 : Nat) + Int.toNat i * (7 : Nat) + (1 : Nat) + (1 : Nat) + (1 : Nat)) (AV.tup [])))
              (AV.toI
                (List.getD lc ((0 : Nat) + Int.toNat i * (7 : Nat) + (1 : Nat) + (1 : Nat) + (1 : Nat) + (1 : Nat))
                  (AV.tup [])))
              (AV.toI
                (List.getD lc
                  ((0 : Nat) + Int.toNat i * (7 : Nat) + (1 : Nat) + (1 : Nat) + (1 : Nat) + (1 : Nat) + (1 : Nat))
                  (AV.tup [])))
              (AV.toI
                (List.getD lc
                  ((0 : Nat) + Int.toNat i * (7 : Nat) + (1 : Nat) + (1 : Nat) + (1 : Nat) + (1 : Nat) + (1 : Nat) +
                    (1 : Nat))
                  (AV.tup []))))),
        ((0 : Nat), AObj.ro lc), ((1 : Nat), a1), ((4 : Nat), AObj.opn (33 : Nat) (7 : Nat) ic), ((5 : Nat), a5)] })))))))))))))))))))
def k1S_scr : Plan := .k (.k (.k (.k (.k (.k (.k (.b (.t (.t (.t (.t (.t (.t (.t (.t (.t (.b (.z) (.k (.b (.t (.t (.t (.b (.t (.t (.t (.t (.t (.t (.t (.t (.t (.t (.t (.t (.t (.t (.t (.t (.t (.t (.t (.b (.t (.t (.t (.t (.t (.t (.t (.t (.t (.t (.t (.f (.t (.t (.f (.b (.z) (.t (.t (.t (.t (.t (.t (.t (.t (.t (.t (.t (.t (.t (.z)))))))))))))))))))))))))))))) (.f (.f (.f (.f (.f (.f (.f (.t (.t (.t (.t (.f (.z))))))))))))))))))))))))))))))))) (.f (.f (.f (.f (.f (.f (.f (.f (.f (.f (.f (.f (.f (.k (.k (.k (.k (.k (.k (.k (.k (.f (.t (.f (.f (.k (.t (.t (.t (.t (.t (.t (.t (.t (.t (.t (.t (.t (.t (.z)))))))))))))))))))))))))))))))))))))))))))) (.f (.f (.f (.k (.k (.k (.k (.k (.k (.k (.k (.k (.k (.k (.k (.k (.k (.k (.k (.k (.k (.k (.k (.k (.k (.k (.f (.t (.z))))))))))))))))))))))))))))))))))))))))) (.t (.t (.t (.t (.t (.t (.t (.t (.t (.b (.z) (.k (.b (.t (.t (.t (.b (.t (.t (.t (.t (.t (.t (.t (.t (.t (.t (.t (.t (.t (.t (.t (.t (.t (.t (.t (.b (.t (.t (.t (.t (.t (.t (.t (.t (.t (.t (.t (.f (.t (.t (.f (.b (.z) (.t (.t (.t (.t (.t (.t (.t (.t (.t (.t (.t (.t (.t (.z)))))))))))))))))))))))))))))) (.f (.f (.f (.f (.f (.f (.f (.t (.t (.t (.t (.f (.z))))))))))))))))))))))))))))))))) (.f (.f (.f (.f (.f (.f (.f (.f (.f (.f (.f (.f (.f (.k (.k (.k (.k (.k (.k (.k (.k (.f (.t (.f (.f (.k (.t (.t (.t (.t (.t (.t (.t (.t (.t (.t (.t (.t (.t (.z)))))))))))))))))))))))))))))))))))))))))))) (.f (.f (.f (.k (.k (.k (.k (.k (.k (.k (.k (.k (.k (.k (.k (.k (.k (.k (.k (.k (.k (.k (.k (.k (.k (.k (.f (.t (.z))))))))))))))))))))))))))))))))))))))))))))))))
theorem k1S_vc (n0 : Nat) (n : Nat) (fr : Int) (ct : Int) (mk : Int) (en : Bool) (rc : List AV) (lc : List AV) (ln : Nat) (lk : Nat) (tv : AV) (ov : AV) (i : Int) (a1 : AObj) (a5 : AObj) (ni : Nat) (ic : List AV) (N : NS) (Q : QS) (K : Unit) : (wpP XRd lkSy n0 (seqs lkS1 .skip) 1 (rndS slE N Q) (frR n (.slice 0 0 ln (some lk)) tv (.slice 4 0 ni none) ov i) (hpR n fr ct mk en rc lc a1 (.opn 33 7 ic) a5) k1S_scr) = k1S_VC n0 n fr ct mk en rc lc ln lk tv ov i a1 a5 ni ic N Q K := by kernel_rfl
def k2F_VC (n0 : Nat) (n : Nat) (fr : Int) (ct : Int) (mk : Int) (en : Bool) (rc : List AV) (lc : List AV) (ln : Nat) (lk : Nat) (tv : AV) (iv : AV) (ov : AV) (i : Int) (a1 : AObj) (a4 : AObj) (a5 : AObj) (fb : Bool) (er : Nat) (N : NS) (Q : QS) (K : Unit) : Prop :=
  ((fb) = true →
    (fb) = true ∧
    ((fb) = true ∧
    ((decide ((0 : Int) ≤ i ∧ i < (↑ln : Int))) = true ∧
    ((fb) = true ∧
    ((decide ((0 : Nat) + Int.toNat i * (7 : Nat) + (7 : Nat) ≤ List.length lc)) = true ∧
    ((AV.isI IntKind.i64 (List.getD lc ((0 : Nat) + Int.toNat i * (7 : Nat)) (AV.tup []))) = true ∧
    ((AV.isI IntKind.i64 (List.getD lc ((0 : Nat) + Int.toNat i * (7 : Nat) + (1 : Nat)) (AV.tup []))) = true ∧
    ((AV.isI IntKind.i64 (List.getD lc ((0 : Nat) + Int.toNat i * (7 : Nat) + (1 : Nat) + (1 : Nat)) (AV.tup []))) = true ∧
    ((AV.isI IntKind.u8 (List.getD lc ((0 : Nat) + Int.toNat i * (7 : Nat) + (1 : Nat) + (1 : Nat) + (1 : Nat)) (AV.tup []))) = true ∧
    ((AV.isI IntKind.i64
  (List.getD lc ((0 : Nat) + Int.toNat i * (7 : Nat) + (1 : Nat) + (1 : Nat) + (1 : Nat) + (1 : Nat)) (AV.tup []))) = true ∧
    ((AV.isI IntKind.i64
  (List.getD lc ((0 : Nat) + Int.toNat i * (7 : Nat) + (1 : Nat) + (1 : Nat) + (1 : Nat) + (1 : Nat) + (1 : Nat))
    (AV.tup []))) = true ∧
    ((AV.isI IntKind.u8
  (List.getD lc
    ((0 : Nat) + Int.toNat i * (7 : Nat) + (1 : Nat) + (1 : Nat) + (1 : Nat) + (1 : Nat) + (1 : Nat) + (1 : Nat))
    (AV.tup []))) = true ∧
    ((fb) = true ∧
    (((fb) = true ∧
      ((fb) = true ∧
      (N (162 : Nat)
  [some (AV.slice (0 : Nat) (0 : Nat) ln (some lk)), some tv, some (AV.int IntKind.i64 (↑n : Int)),
    some (AV.ptr (3 : Nat) (0 : Nat)), some iv, some ov, some (AV.int IntKind.i64 i)]
  { nx := (6 : Nat),
    m :=
      [((3 : Nat),
          AObj.cells (42 : Nat)
            [AV.slice (2 : Nat) (0 : Nat) n (some n), AV.int IntKind.i64 fr, AV.int IntKind.i64 ct,
              AV.int IntKind.i64 mk, AV.bool en]),
        ((2 : Nat), AObj.cells (33 : Nat) rc), ((0 : Nat), AObj.ro lc), ((1 : Nat), a1), ((4 : Nat), a4),
        ((5 : Nat), a5)] }))) ∧
    ((fb) = true ∧
      ((fb) = true ∧
      (N (162 : Nat)
  [some (AV.slice (0 : Nat) (0 : Nat) ln (some lk)), some tv, some (AV.int IntKind.i64 (↑n : Int)),
    some (AV.ptr (3 : Nat) (0 : Nat)), some iv, some ov, some (AV.int IntKind.i64 i)]
  { nx := (6 : Nat),
    m :=
      [((3 : Nat),
          AObj.cells (42 : Nat)
            [AV.slice (2 : Nat) (0 : Nat) n (some n), AV.int IntKind.i64 fr, AV.int IntKind.i64 ct,
              AV.int IntKind.i64 mk, AV.bool en]),
        ((2 : Nat), AObj.cells (33 : Nat) rc), ((0 : Nat), AObj.ro lc), ((1 : Nat), a1), ((4 : Nat), a4),
        ((5 : Nat), a5)] }))))))))))))))))) ∧
  ((fb) = false →
    (fb) = false ∧
    ((fb) = false ∧
    ((fb) = false ∧
    ((fb) = false ∧
    ((fb) = false ∧
    ((fb) = false ∧
    (N (162 : Nat)
  [some (AV.slice (0 : Nat) (0 : Nat) ln (some lk)), some tv, some (AV.int IntKind.i64 (↑n : Int)),
    some (AV.ptr (3 : Nat) (0 : Nat)), some iv, some ov, some (AV.int IntKind.i64 i)]
  { nx := (6 : Nat),
    m :=
      [((3 : Nat),
          AObj.cells (42 : Nat)
            [AV.slice (2 : Nat) (0 : Nat) n (some n), AV.int IntKind.i64 fr, AV.int IntKind.i64 ct,
              AV.int IntKind.i64 mk, AV.bool en]),
        ((2 : Nat), AObj.cells (33 : Nat) rc), ((0 : Nat), AObj.ro lc), ((1 : Nat), a1), ((4 : Nat), a4),
        ((5 : Nat), a5)] })))))))
def k2F_scr : Plan := .b (.t (.t (.t (.t (.t (.t (.t (.t (.t (.t (.t (.t (.t (.b (.t (.t (.z))) (.t (.t (.z))))))))))))))))) (.f (.f (.f (.f (.f (.f (.z)))))))
theorem k2F_vc (n0 : Nat) (n : Nat) (fr : Int) (ct : Int) (mk : Int) (en : Bool) (rc : List AV) (lc : List AV) (ln : Nat) (lk : Nat) (tv : AV) (iv : AV) (ov : AV) (i : Int) (a1 : AObj) (a4 : AObj) (a5 : AObj) (fb : Bool) (er : Nat) (N : NS) (Q : QS) (K : Unit) : (wpP XRd lkSy n0 (seqs lkS2 .skip) 1 (rndS slR N Q) (frE n (.slice 0 0 ln (some lk)) tv iv ov i fb (Int.ofNat (Nat.succ er))) (hpR n fr ct mk en rc lc a1 a4 a5) k2F_scr) = k2F_VC n0 n fr ct mk en rc lc ln lk tv iv ov i a1 a4 a5 fb er N Q K := by kernel_rfl
def k2O_VC (n0 : Nat) (n : Nat) (fr : Int) (ct : Int) (mk : Int) (en : Bool) (rc : List AV) (lc : List AV) (ln : Nat) (lk : Nat) (tv : AV) (iv : AV) (ov : AV) (i : Int) (a1 : AObj) (a4 : AObj) (a5 : AObj) (N : NS) (Q : QS) (K : Unit) : Prop :=
  N (162 : Nat)
  [some (AV.slice (0 : Nat) (0 : Nat) ln (some lk)), some tv, some (AV.int IntKind.i64 (↑n : Int)),
    some (AV.ptr (3 : Nat) (0 : Nat)), some iv, some ov, some (AV.int IntKind.i64 i)]
  { nx := (6 : Nat),
    m :=
      [((3 : Nat),
          AObj.cells (42 : Nat)
            [AV.slice (2 : Nat) (0 : Nat) n (some n), AV.int IntKind.i64 fr, AV.int IntKind.i64 ct,
              AV.int IntKind.i64 mk, AV.bool en]),
        ((2 : Nat), AObj.cells (33 : Nat) rc), ((0 : Nat), AObj.ro lc), ((1 : Nat), a1), ((4 : Nat), a4),
        ((5 : Nat), a5)] }
def k2O_scr : Plan := .z
theorem k2O_vc (n0 : Nat) (n : Nat) (fr : Int) (ct : Int) (mk : Int) (en : Bool) (rc : List AV) (lc : List AV) (ln : Nat) (lk : Nat) (tv : AV) (iv : AV) (ov : AV) (i : Int) (a1 : AObj) (a4 : AObj) (a5 : AObj) (N : NS) (Q : QS) (K : Unit) : (wpP XRd lkSy n0 (seqs lkS2 .skip) 1 (rndS slR N Q) (frE n (.slice 0 0 ln (some lk)) tv iv ov i false 0) (hpR n fr ct mk en rc lc a1 a4 a5) k2O_scr) = k2O_VC n0 n fr ct mk en rc lc ln lk tv iv ov i a1 a4 a5 N Q K := by kernel_rfl
def k3X_VC (n0 : Nat) (n : Nat) (fr : Int) (ct : Int) (mk : Int) (en : Bool) (rc : List AV) (lc : List AV) (ln : Nat) (lk : Nat) (iv : AV) (ov : AV) (i : Int) (a1 : AObj) (a4 : AObj) (a5 : AObj) (N : NS) (Q : QS) (K : Unit) : Prop :=
  ((decide (i < (0 : Int))) = true →
    (decide (i < (0 : Int))) = true ∧
    ((decide (i < (0 : Int))) = true ∧
    (False))) ∧
  ((decide (i < (0 : Int))) = false →
    (decide (i < (0 : Int))) = false ∧
    ((decide (i < (0 : Int))) = false ∧
    ((decide (i < (0 : Int))) = false ∧
    ((decide (i < (0 : Int))) = false ∧
    (N (162 : Nat)
  [some (AV.slice (0 : Nat) (0 : Nat) ln (some lk)), some AV.nilslice, some (AV.int IntKind.i64 (↑n : Int)),
    some (AV.ptr (3 : Nat) (0 : Nat)), some iv, some ov, some (AV.int IntKind.i64 i)]
  { nx := (6 : Nat),
    m :=
      [((3 : Nat),
          AObj.cells (42 : Nat)
            [AV.slice (2 : Nat) (0 : Nat) n (some n), AV.int IntKind.i64 fr, AV.int IntKind.i64 ct,
              AV.int IntKind.i64 mk, AV.bool en]),
        ((2 : Nat), AObj.cells (33 : Nat) rc), ((0 : Nat), AObj.ro lc), ((1 : Nat), a1), ((4 : Nat), a4),
        ((5 : Nat), a5)] })))))
def k3X_scr : Plan := .b (.t (.t (.z))) (.f (.f (.f (.f (.z)))))
theorem k3X_vc (n0 : Nat) (n : Nat) (fr : Int) (ct : Int) (mk : Int) (en : Bool) (rc : List AV) (lc : List AV) (ln : Nat) (lk : Nat) (iv : AV) (ov : AV) (i : Int) (a1 : AObj) (a4 : AObj) (a5 : AObj) (N : NS) (Q : QS) (K : Unit) : (wpP XRd lkSy n0 (seqs lkS3 .skip) 1 (rndS slR N Q) (frR n (.slice 0 0 ln (some lk)) .nilslice iv ov i) (hpR n fr ct mk en rc lc a1 a4 a5) k3X_scr) = k3X_VC n0 n fr ct mk en rc lc ln lk iv ov i a1 a4 a5 N Q K := by kernel_rfl
def k3E_VC (n0 : Nat) (n : Nat) (fr : Int) (ct : Int) (mk : Int) (en : Bool) (rc : List AV) (lc : List AV) (ln : Nat) (lk : Nat) (iv : AV) (ov : AV) (i : Int) (a4 : AObj) (a5 : AObj) (N : NS) (Q : QS) (K : Unit) : Prop :=
  ((decide (i < (0 : Int))) = true →
    (decide (i < (0 : Int))) = true ∧
    ((decide (i < (0 : Int))) = true ∧
    ((decide ((0 : Int) ≤ i ∧ i < (0 : Int))) = true ∧
    ((decide (i < (0 : Int))) = true ∧
    (False))))) ∧
  ((decide (i < (0 : Int))) = false →
    (decide (i < (0 : Int))) = false ∧
    ((decide (i < (0 : Int))) = false ∧
    ((decide (i < (0 : Int))) = false ∧
    ((decide (i < (0 : Int))) = false ∧
    (N (162 : Nat)
  [some (AV.slice (0 : Nat) (0 : Nat) ln (some lk)), some (AV.slice (1 : Nat) (0 : Nat) (0 : Nat) none),
    some (AV.int IntKind.i64 (↑n : Int)), some (AV.ptr (3 : Nat) (0 : Nat)), some iv, some ov,
    some (AV.int IntKind.i64 i)]
  { nx := (6 : Nat),
    m :=
      [((3 : Nat),
          AObj.cells (42 : Nat)
            [AV.slice (2 : Nat) (0 : Nat) n (some n), AV.int IntKind.i64 fr, AV.int IntKind.i64 ct,
              AV.int IntKind.i64 mk, AV.bool en]),
        ((2 : Nat), AObj.cells (33 : Nat) rc), ((0 : Nat), AObj.ro lc), ((1 : Nat), AObj.dead), ((4 : Nat), a4),
        ((5 : Nat), a5)] })))))
def k3E_scr : Plan := .b (.t (.t (.t (.t (.z))))) (.f (.f (.f (.f (.z)))))
theorem k3E_vc (n0 : Nat) (n : Nat) (fr : Int) (ct : Int) (mk : Int) (en : Bool) (rc : List AV) (lc : List AV) (ln : Nat) (lk : Nat) (iv : AV) (ov : AV) (i : Int) (a4 : AObj) (a5 : AObj) (N : NS) (Q : QS) (K : Unit) : (wpP XRd lkSy n0 (seqs lkS3 .skip) 1 (rndS slR N Q) (frR n (.slice 0 0 ln (some lk)) (.slice 1 0 0 none) iv ov i) (hpR n fr ct mk en rc lc AObj.dead a4 a5) k3E_scr) = k3E_VC n0 n fr ct mk en rc lc ln lk iv ov i a4 a5 N Q K := by kernel_rfl
def k3NN_VC (n0 : Nat) (n : Nat) (fr : Int) (ct : Int) (mk : Int) (en : Bool) (rc : List AV) (lc : List AV) (ln : Nat) (lk : Nat) (i : Int) (a4 : AObj) (a5 : AObj) (tn : Nat) (tk : Nat) (tc : List AV) (N : NS) (Q : QS) (K : Unit) : Prop :=
  ((decide (i < (↑tn : Int))) = true →
    (decide (i < (↑tn : Int))) = true ∧
    ((decide (i < (↑tn : Int))) = true ∧
    ((decide ((0 : Int) ≤ i ∧ i < (↑tn : Int))) = true ∧
    ((decide (i < (↑tn : Int))) = true ∧
    ((decide ((0 : Nat) + Int.toNat i * (1 : Nat) < List.length tc)) = true ∧
    ((AV.isB (List.getD tc ((0 : Nat) + Int.toNat i * (1 : Nat)) (AV.tup []))) = true ∧
    ((decide (i < (↑tn : Int))) = true ∧
    (((AV.toB (List.getD tc ((0 : Nat) + Int.toNat i * (1 : Nat)) (AV.tup []))) = true →
      need (lnOk n n fr ct rc) ∧
      (((ct = (0 : Int)) →
        (N (162 : Nat)
  [some (AV.slice (0 : Nat) (0 : Nat) ln (some lk)), some (AV.slice (1 : Nat) (0 : Nat) tn (some tk)),
    some (AV.int IntKind.i64 (↑n : Int)), some (AV.ptr (3 : Nat) (0 : Nat)), some AV.nilslice, some AV.nilslice,
    some (AV.int IntKind.i64 i)]
  { nx := (7 : Nat),
    m :=
      [((6 : Nat),
          AObj.cells (33 : Nat)
            [AV.int IntKind.i64 (0 : Int), AV.int IntKind.i64 (0 : Int), AV.int IntKind.i64 (0 : Int),
              AV.int IntKind.u8 (0 : Int), AV.int IntKind.i64 (0 : Int), AV.int IntKind.i64 (0 : Int),
              AV.int IntKind.u8 (0 : Int)]),
        ((3 : Nat),
          AObj.cells (42 : Nat)
            [AV.slice (2 : Nat) (0 : Nat) n (some n), AV.int IntKind.i64 fr, AV.int IntKind.i64 ct,
              AV.int IntKind.i64 mk, AV.bool en]),
        ((2 : Nat), AObj.cells (33 : Nat) rc), ((0 : Nat), AObj.ro lc), ((1 : Nat), AObj.ro tc), ((4 : Nat), a4),
        ((5 : Nat), a5)] })) ∧
      ((¬ct = (0 : Int)) →
        (Q Exit.ret (162 : Nat)
  [some (AV.slice (0 : Nat) (0 : Nat) ln (some lk)), some (AV.slice (1 : Nat) (0 : Nat) tn (some tk)),
    some (AV.int IntKind.i64 (↑n : Int)), some (AV.ptr (3 : Nat) (0 : Nat)), some AV.nilslice, some AV.nilslice,
    some (AV.int IntKind.i64 i)]
  { nx := (7 : Nat),
    m :=
      [((6 : Nat),
          AObj.cells (33 : Nat)
            [AV.int IntKind.i64 (qI rc fr (0 : Nat)), AV.int IntKind.i64 (qI rc fr (1 : Nat)),
              AV.int IntKind.i64 (qI rc fr (2 : Nat)), AV.int IntKind.u8 (qI rc fr (3 : Nat)),
              AV.int IntKind.i64 (qI rc fr (4 : Nat)), AV.int IntKind.i64 (qI rc fr (5 : Nat)),
              AV.int IntKind.u8 (qI rc fr (6 : Nat))]),
        ((3 : Nat),
          AObj.cells (42 : Nat)
            [AV.slice (2 : Nat) (0 : Nat) n (some n), AV.int IntKind.i64 (nxF n fr),
              AV.int IntKind.i64 (ct - (1 : Int)), AV.int IntKind.i64 mk, AV.bool en]),
        ((2 : Nat), AObj.cells (33 : Nat) rc), ((0 : Nat), AObj.ro lc), ((1 : Nat), AObj.ro tc), ((4 : Nat), a4),
        ((5 : Nat), a5)] })))) ∧
    ((AV.toB (List.getD tc ((0 : Nat) + Int.toNat i * (1 : Nat)) (AV.tup []))) = false →
      N (162 : Nat)
  [some (AV.slice (0 : Nat) (0 : Nat) ln (some lk)), some (AV.slice (1 : Nat) (0 : Nat) tn (some tk)),
    some (AV.int IntKind.i64 (↑n : Int)), some (AV.ptr (3 : Nat) (0 : Nat)), some AV.nilslice, some AV.nilslice,
    some (AV.int IntKind.i64 i)]
  { nx := (6 : Nat),
    m :=
      [((3 : Nat),
          AObj.cells (42 : Nat)
            [AV.slice (2 : Nat) (0 : Nat) n (some n), AV.int IntKind.i64 fr, AV.int IntKind.i64 ct,
              AV.int IntKind.i64 mk, AV.bool en]),
        ((2 : Nat), AObj.cells (33 : Nat) rc), ((0 : Nat), AObj.ro lc), ((1 : Nat), AObj.ro tc), ((4 : Nat), a4),
        ((5 : Nat), a5)] }))))))))) ∧
  ((decide (i < (↑tn : Int))) = false →
    (decide (i < (↑tn : Int))) = false ∧
    ((decide (i < (↑tn : Int))) = false ∧
    ((decide (i < (↑tn : Int))) = false ∧
    ((decide (i < (↑tn : Int))) = false ∧
    (N (162 : Nat)
  [some (AV.slice (0 : Nat) (0 : Nat) ln (some lk)), some (AV.slice (1 : Nat) (0 : Nat) tn (some tk)),
    some (AV.int IntKind.i64 (↑n : Int)), some (AV.ptr (3 : Nat) (0 : Nat)), some AV.nilslice, some AV.nilslice,
    some (AV.int IntKind.i64 i)]
  { nx := (6 : Nat),
    m :=
      [((3 : Nat),
          AObj.cells (42 : Nat)
            [AV.slice (2 : Nat) (0 : Nat) n (some n), AV.int IntKind.i64 fr, AV.int IntKind.i64 ct,
              AV.int IntKind.i64 mk, AV.bool en]),
        ((2 : Nat), AObj.cells (33 : Nat) rc), ((0 : Nat), AObj.ro lc), ((1 : Nat), AObj.ro tc), ((4 : Nat), a4),
        ((5 : Nat), a5)] })))))
def k3NN_scr : Plan := .b (.t (.t (.t (.t (.t (.t (.t (.b (.b (.z) (.z)) (.z))))))))) (.f (.f (.f (.f (.z)))))
theorem k3NN_vc (n0 : Nat) (n : Nat) (fr : Int) (ct : Int) (mk : Int) (en : Bool) (rc : List AV) (lc : List AV) (ln : Nat) (lk : Nat) (i : Int) (a4 : AObj) (a5 : AObj) (tn : Nat) (tk : Nat) (tc : List AV) (N : NS) (Q : QS) (K : Unit) : (wpP XRd lkSy n0 (seqs lkS3 .skip) 1 (rndS slR N Q) (frR n (.slice 0 0 ln (some lk)) (.slice 1 0 tn (some tk)) .nilslice .nilslice i) (hpR n fr ct mk en rc lc (.ro tc) a4 a5) k3NN_scr) = k3NN_VC n0 n fr ct mk en rc lc ln lk i a4 a5 tn tk tc N Q K := by kernel_rfl
def k3SN_VC (n0 : Nat) (n : Nat) (fr : Int) (ct : Int) (mk : Int) (en : Bool) (rc : List AV) (lc : List AV) (ln : Nat) (lk : Nat) (i : Int) (a5 : AObj) (tn : Nat) (tk : Nat) (tc : List AV) (ni : Nat) (ic : List AV) (N : NS) (Q : QS) (K : Unit) : Prop :=
  ((decide (i < (↑tn : Int))) = true →
    (decide (i < (↑tn : Int))) = true ∧
    ((decide (i < (↑tn : Int))) = true ∧
    ((decide ((0 : Int) ≤ i ∧ i < (↑tn : Int))) = true ∧
    ((decide (i < (↑tn : Int))) = true ∧
    ((decide ((0 : Nat) + Int.toNat i * (1 : Nat) < List.length tc)) = true ∧
    ((AV.isB (List.getD tc ((0 : Nat) + Int.toNat i * (1 : Nat)) (AV.tup []))) = true ∧
    ((decide (i < (↑tn : Int))) = true ∧
    (((AV.toB (List.getD tc ((0 : Nat) + Int.toNat i * (1 : Nat)) (AV.tup []))) = true →
      need (lnOk n n fr ct rc) ∧
      (((ct = (0 : Int)) →
        (((!false == decide ((↑ni : Int) > (0 : Int))) = true →
          Q Exit.ret (162 : Nat)
  [some (AV.slice (0 : Nat) (0 : Nat) ln (some lk)), some (AV.slice (1 : Nat) (0 : Nat) tn (some tk)),
    some (AV.int IntKind.i64 (↑n : Int)), some (AV.ptr (3 : Nat) (0 : Nat)),
    some (AV.slice (4 : Nat) (0 : Nat) ni none), some AV.nilslice, some (AV.int IntKind.i64 i)]
  { nx := (7 : Nat),
    m :=
      [((6 : Nat),
          AObj.cells (33 : Nat)
            [AV.int IntKind.i64 (0 : Int), AV.int IntKind.i64 (0 : Int), AV.int IntKind.i64 (0 : Int),
              AV.int IntKind.u8 (0 : Int), AV.int IntKind.i64 (0 : Int), AV.int IntKind.i64 (0 : Int),
              AV.int IntKind.u8 (0 : Int)]),
        ((3 : Nat),
          AObj.cells (42 : Nat)
            [AV.slice (2 : Nat) (0 : Nat) n (some n), AV.int IntKind.i64 fr, AV.int IntKind.i64 ct,
              AV.int IntKind.i64 mk, AV.bool en]),
        ((2 : Nat), AObj.cells (33 : Nat) rc), ((0 : Nat), AObj.ro lc), ((1 : Nat), AObj.ro tc),
        ((4 : Nat), AObj.opn (33 : Nat) (7 : Nat) ic), ((5 : Nat), a5)] }) ∧
        ((!false == decide ((↑ni : Int) > (0 : Int))) = false →
          N (162 : Nat)
  [some (AV.slice (0 : Nat) (0 : Nat) ln (some lk)), some (AV.slice (1 : Nat) (0 : Nat) tn (some tk)),
    some (AV.int IntKind.i64 (↑n : Int)), some (AV.ptr (3 : Nat) (0 : Nat)),
    some (AV.slice (4 : Nat) (0 : Nat) ni none), some AV.nilslice, some (AV.int IntKind.i64 i)]
  { nx := (7 : Nat),
    m :=
      [((6 : Nat),
          AObj.cells (33 : Nat)
            [AV.int IntKind.i64 (0 : Int), AV.int IntKind.i64 (0 : Int), AV.int IntKind.i64 (0 : Int),
              AV.int IntKind.u8 (0 : Int), AV.int IntKind.i64 (0 : Int), AV.int IntKind.i64 (0 : Int),
              AV.int IntKind.u8 (0 : Int)]),
        ((3 : Nat),
          AObj.cells (42 : Nat)
            [AV.slice (2 : Nat) (0 : Nat) n (some n), AV.int IntKind.i64 fr, AV.int IntKind.i64 ct,
              AV.int IntKind.i64 mk, AV.bool en]),
        ((2 : Nat), AObj.cells (33 : Nat) rc), ((0 : Nat), AObj.ro lc), ((1 : Nat), AObj.ro tc),
        ((4 : Nat), AObj.opn (33 : Nat) (7 : Nat) ic), ((5 : Nat), a5)] }))) ∧
      ((¬ct = (0 : Int)) →
        (((!true == decide ((↑ni : Int) > (0 : Int))) = true →
          Q Exit.ret (162 : Nat)
  [some (AV.slice (0 : Nat) (0 : Nat) ln (some lk)), some (AV.slice (1 : Nat) (0 : Nat) tn (some tk)),
    some (AV.int IntKind.i64 (↑n : Int)), some (AV.ptr (3 : Nat) (0 : Nat)),
    some (AV.slice (4 : Nat) (0 : Nat) ni none), some AV.nilslice, some (AV.int IntKind.i64 i)]
  { nx := (7 : Nat),
    m :=
      [((6 : Nat),
          AObj.cells (33 : Nat)
            [AV.int IntKind.i64 (qI rc fr (0 : Nat)), AV.int IntKind.i64 (qI rc fr (1 : Nat)),
              AV.int IntKind.i64 (qI rc fr (2 : Nat)), AV.int IntKind.u8 (qI rc fr (3 : Nat)),
              AV.int IntKind.i64 (qI rc fr (4 : Nat)), AV.int IntKind.i64 (qI rc fr (5 : Nat)),
              AV.int IntKind.u8 (qI rc fr (6 : Nat))]),
        ((3 : Nat),
          AObj.cells (42 : Nat)
            [AV.slice (2 : Nat) (0 : Nat) n (some n), AV.int IntKind.i64 (nxF n fr),
              AV.int IntKind.i64 (ct - (1 : Int)), AV.int IntKind.i64 mk, AV.bool en]),
        ((2 : Nat), AObj.cells (33 : Nat) rc), ((0 : Nat), AObj.ro lc), ((1 : Nat), AObj.ro tc),
        ((4 : Nat), AObj.opn (33 : Nat) (7 : Nat) ic), ((5 : Nat), a5)] }) ∧
        ((!true == decide ((↑ni : Int) > (0 : Int))) = false →
          N (162 : Nat)
  [some (AV.slice (0 : Nat) (0 : Nat) ln (some lk)), some (AV.slice (1 : Nat) (0 : Nat) tn (some tk)),
    some (AV.int IntKind.i64 (↑n : Int)), some (AV.ptr (3 : Nat) (0 : Nat)),
    some (AV.slice (4 : Nat) (0 : Nat) ni none), some (AV.slice (8 : Nat) (0 : Nat) (1 : Nat) none),
    some (AV.int IntKind.i64 i)]
  { nx := (9 : Nat),
    m :=
      [((8 : Nat),
          AObj.opn (33 : Nat) (7 : Nat)
            [AV.int IntKind.i64 (qI rc fr (0 : Nat)), AV.int IntKind.i64 (qI rc fr (1 : Nat)),
              AV.int IntKind.i64 (qI rc fr (2 : Nat)), AV.int IntKind.u8 (qI rc fr (3 : Nat)),
              AV.int IntKind.i64 (qI rc fr (4 : Nat)), AV.int IntKind.i64 (qI rc fr (5 : Nat)),
              AV.int IntKind.u8 (qI rc fr (6 : Nat))]),
        ((7 : Nat),
          AObj.cells (33 : Nat)
            [AV.int IntKind.i64 (qI rc fr (0 : Nat)), AV.int IntKind.i64 (qI rc fr (1 : Nat)),
              AV.int IntKind.i64 (qI rc fr (2 : Nat)), AV.int IntKind.u8 (qI rc fr (3 : Nat)),
              AV.int IntKind.i64 (qI rc fr (4 : Nat)), AV.int IntKind.i64 (qI rc fr (5 : Nat)),
              AV.int IntKind.u8 (qI rc fr (6 : Nat))]),
        ((6 : Nat),
          AObj.cells (33 : Nat)
            [AV.int IntKind.i64 (qI rc fr (0 : Nat)), AV.int IntKind.i64 (qI rc fr (1 : Nat)),
              AV.int IntKind.i64 (qI rc fr (2 : Nat)), AV.int IntKind.u8 (qI rc fr (3 : Nat)),
              AV.int IntKind.i64 (qI rc fr (4 : Nat)), AV.int IntKind.i64 (qI rc fr (5 : Nat)),
              AV.int IntKind.u8 (qI rc fr (6 : Nat))]),
        ((3 : Nat),
          AObj.cells (42 : Nat)
            [AV.slice (2 : Nat) (0 : Nat) n (some n), AV.int IntKind.i64 (nxF n fr),
              AV.int IntKind.i64 (ct - (1 : Int)), AV.int IntKind.i64 mk, AV.bool en]),
        ((2 : Nat), AObj.cells (33 : Nat) rc), ((0 : Nat), AObj.ro lc), ((1 : Nat), AObj.ro tc),
        ((4 : Nat), AObj.opn (33 : Nat) (7 : Nat) ic), ((5 : Nat), a5)] }))))) ∧
    ((AV.toB (List.getD tc ((0 : Nat) + Int.toNat i * (1 : Nat)) (AV.tup []))) = false →
      N (162 : Nat)
  [some (AV.slice (0 : Nat) (0 : Nat) ln (some lk)), some (AV.slice (1 : Nat) (0 : Nat) tn (some tk)),
    some (AV.int IntKind.i64 (↑n : Int)), some (AV.ptr (3 : Nat) (0 : Nat)),
    some (AV.slice (4 : Nat) (0 : Nat) ni none), some AV.nilslice, some (AV.int IntKind.i64 i)]
  { nx := (6 : Nat),
    m :=
      [((3 : Nat),
          AObj.cells (42 : Nat)
            [AV.slice (2 : Nat) (0 : Nat) n (some n), AV.int IntKind.i64 fr, AV.int IntKind.i64 ct,
              AV.int IntKind.i64 mk, AV.bool en]),
        ((2 : Nat), AObj.cells (33 : Nat) rc), ((0 : Nat), AObj.ro lc), ((1 : Nat), AObj.ro tc),
        ((4 : Nat), AObj.opn (33 : Nat) (7 : Nat) ic), ((5 : Nat), a5)] }))))))))) ∧
  ((decide (i < (↑tn : Int))) = false →
    (decide (i < (↑tn : Int))) = false ∧
    ((decide (i < (↑tn : Int))) = false ∧
    ((decide (i < (↑tn : Int))) = false ∧
    ((decide (i < (↑tn : Int))) = false ∧
    (N (162 : Nat)
  [some (AV.slice (0 : Nat) (0 : Nat) ln (some lk)), some (AV.slice (1 : Nat) (0 : Nat) tn (some tk)),
    some (AV.int IntKind.i64 (↑n : Int)), some (AV.ptr (3 : Nat) (0 : Nat)),
    some (AV.slice (4 : Nat) (0 : Nat) ni none), some AV.nilslice, some (AV.int IntKind.i64 i)]
  { nx := (6 : Nat),
    m :=
      [((3 : Nat),
          AObj.cells (42 : Nat)
            [AV.slice (2 : Nat) (0 : Nat) n (some n), AV.int IntKind.i64 fr, AV.int IntKind.i64 ct,
              AV.int IntKind.i64 mk, AV.bool en]),
        ((2 : Nat), AObj.cells (33 : Nat) rc), ((0 : Nat), AObj.ro lc), ((1 : Nat), AObj.ro tc),
        ((4 : Nat), AObj.opn (33 : Nat) (7 : Nat) ic), ((5 : Nat), a5)] })))))
def k3SN_scr : Plan := .b (.t (.t (.t (.t (.t (.t (.t (.b (.b (.b (.z) (.z)) (.b (.z) (.z))) (.z))))))))) (.f (.f (.f (.f (.z)))))
theorem k3SN_vc (n0 : Nat) (n : Nat) (fr : Int) (ct : Int) (mk : Int) (en : Bool) (rc : List AV) (lc : List AV) (ln : Nat) (lk : Nat) (i : Int) (a5 : AObj) (tn : Nat) (tk : Nat) (tc : List AV) (ni : Nat) (ic : List AV) (N : NS) (Q : QS) (K : Unit) : (wpP XRd lkSy n0 (seqs lkS3 .skip) 1 (rndS slR N Q) (frR n (.slice 0 0 ln (some lk)) (.slice 1 0 tn (some tk)) (.slice 4 0 ni none) .nilslice i) (hpR n fr ct mk en rc lc (.ro tc) (.opn 33 7 ic) a5) k3SN_scr) = k3SN_VC n0 n fr ct mk en rc lc ln lk i a5 tn tk tc ni ic N Q K := by kernel_rfl
def k3SS_VC (n0 : Nat) (n : Nat) (fr : Int) (ct : Int) (mk : Int) (en : Bool) (rc : List AV) (lc : List AV) (ln : Nat) (lk : Nat) (i : Int) (tn : Nat) (tk : Nat) (tc : List AV) (ni : Nat) (ic : List AV) (no : Nat) (oc : List AV) (N : NS) (Q : QS) (K : Unit) : Prop :=
  ((decide (i < (↑tn : Int))) = true →
    (decide (i < (↑tn : Int))) = true ∧
    ((decide (i < (↑tn : Int))) = true ∧
    ((decide ((0 : Int) ≤ i ∧ i < (↑tn : Int))) = true ∧
    ((decide (i < (↑tn : Int))) = true ∧
    ((decide ((0 : Nat) + Int.toNat i * (1 : Nat) < List.length tc)) = true ∧
    ((AV.isB (List.getD tc ((0 : Nat) + Int.toNat i * (1 : Nat)) (AV.tup []))) = true ∧
    ((decide (i < (↑tn : Int))) = true ∧
    (((AV.toB (List.getD tc ((0 : Nat) + Int.toNat i * (1 : Nat)) (AV.tup []))) = true →
      need (lnOk n n fr ct rc) ∧
      (((ct = (0 : Int)) →
        (((!false == decide ((↑ni : Int) > (↑no : Int))) = true →
          Q Exit.ret (162 : Nat)
  [some (AV.slice (0 : Nat) (0 : Nat) ln (some lk)), some (AV.slice (1 : Nat) (0 : Nat) tn (some tk)),
    some (AV.int IntKind.i64 (↑n : Int)), some (AV.ptr (3 : Nat) (0 : Nat)),
    some (AV.slice (4 : Nat) (0 : Nat) ni none), some (AV.slice (5 : Nat) (0 : Nat) no none),
    some (AV.int IntKind.i64 i)]
  { nx := (7 : Nat),
    m :=
      [((6 : Nat),
          AObj.cells (33 : Nat)
            [AV.int IntKind.i64 (0 : Int), AV.int IntKind.i64 (0 : Int), AV.int IntKind.i64 (0 : Int),
              AV.int IntKind.u8 (0 : Int), AV.int IntKind.i64 (0 : Int), AV.int IntKind.i64 (0 : Int),
              AV.int IntKind.u8 (0 : Int)]),
        ((3 : Nat),
          AObj.cells (42 : Nat)
            [AV.slice (2 : Nat) (0 : Nat) n (some n), AV.int IntKind.i64 fr, AV.int IntKind.i64 ct,
              AV.int IntKind.i64 mk, AV.bool en]),
        ((2 : Nat), AObj.cells (33 : Nat) rc), ((0 : Nat), AObj.ro lc), ((1 : Nat), AObj.ro tc),
        ((4 : Nat), AObj.opn (33 : Nat) (7 : Nat) ic), ((5 : Nat), AObj.opn (33 : Nat) (7 : Nat) oc)] }) ∧
        ((!false == decide ((↑ni : Int) > (↑no : Int))) = false →
          N (162 : Nat)
  [some (AV.slice (0 : Nat) (0 : Nat) ln (some lk)), some (AV.slice (1 : Nat) (0 : Nat) tn (some tk)),
    some (AV.int IntKind.i64 (↑n : Int)), some (AV.ptr (3 : Nat) (0 : Nat)),
    some (AV.slice (4 : Nat) (0 : Nat) ni none), some (AV.slice (5 : Nat) (0 : Nat) no none),
    some (AV.int IntKind.i64 i)]
  { nx := (7 : Nat),
    m :=
      [((6 : Nat),
          AObj.cells (33 : Nat)
            [AV.int IntKind.i64 (0 : Int), AV.int IntKind.i64 (0 : Int), AV.int IntKind.i64 (0 : Int),
              AV.int IntKind.u8 (0 : Int), AV.int IntKind.i64 (0 : Int), AV.int IntKind.i64 (0 : Int),
              AV.int IntKind.u8 (0 : Int)]),
        ((3 : Nat),
          AObj.cells (42 : Nat)
            [AV.slice (2 : Nat) (0 : Nat) n (some n), AV.int IntKind.i64 fr, AV.int IntKind.i64 ct,
              AV.int IntKind.i64 mk, AV.bool en]),
        ((2 : Nat), AObj.cells (33 : Nat) rc), ((0 : Nat), AObj.ro lc), ((1 : Nat), AObj.ro tc),
        ((4 : Nat), AObj.opn (33 : Nat) (7 : Nat) ic), ((5 : Nat), AObj.opn (33 : Nat) (7 : Nat) oc)] }))) ∧
      ((¬ct = (0 : Int)) →
        (((!true == decide ((↑ni : Int) > (↑no : Int))) = true →
          Q Exit.ret (162 : Nat)
  [some (AV.slice (0 : Nat) (0 : Nat) ln (some lk)), some (AV.slice (1 : Nat) (0 : Nat) tn (some tk)),
    some (AV.int IntKind.i64 (↑n : Int)), some (AV.ptr (3 : Nat) (0 : Nat)),
    some (AV.slice (4 : Nat) (0 : Nat) ni none), some (AV.slice (5 : Nat) (0 : Nat) no none),
    some (AV.int IntKind.i64 i)]
  { nx := (7 : Nat),
    m :=
      [((6 : Nat),
          AObj.cells (33 : Nat)
            [AV.int IntKind.i64 (qI rc fr (0 : Nat)), AV.int IntKind.i64 (qI rc fr (1 : Nat)),
              AV.int IntKind.i64 (qI rc fr (2 : Nat)), AV.int IntKind.u8 (qI rc fr (3 : Nat)),
              AV.int IntKind.i64 (qI rc fr (4 : Nat)), AV.int IntKind.i64 (qI rc fr (5 : Nat)),
              AV.int IntKind.u8 (qI rc fr (6 : Nat))]),
        ((3 : Nat),
          AObj.cells (42 : Nat)
            [AV.slice (2 : Nat) (0 : Nat) n (some n), AV.int IntKind.i64 (nxF n fr),
              AV.int IntKind.i64 (ct - (1 : Int)), AV.int IntKind.i64 mk, AV.bool en]),
        ((2 : Nat), AObj.cells (33 : Nat) rc), ((0 : Nat), AObj.ro lc), ((1 : Nat), AObj.ro tc),
        ((4 : Nat), AObj.opn (33 : Nat) (7 : Nat) ic), ((5 : Nat), AObj.opn (33 : Nat) (7 : Nat) oc)] }) ∧
        ((!true == decide ((↑ni : Int) > (↑no : Int))) = false →
          (decide ((0 : Nat) < no)) = true ∧
          ((decide (no * (7 : Nat) = List.length oc)) = true ∧
          ((decide ((no + (1 : Nat)) * (56 : Nat) ≤ (140737488355328 : Nat))) = true ∧
          ((decide (no + (1 : Nat) ≤ (140737488355328 : Nat))) = true ∧
          (N (162 : Nat)
  [some (AV.slice (0 : Nat) (0 : Nat) ln (some lk)), some (AV.slice (1 : Nat) (0 : Nat) tn (some tk)),
    some (AV.int IntKind.i64 (↑n : Int)), some (AV.ptr (3 : Nat) (0 : Nat)),
    some (AV.slice (4 : Nat) (0 : Nat) ni none), some (AV.slice (8 : Nat) (0 : Nat) (no + (1 : Nat)) none),
    some (AV.int IntKind.i64 i)]
  { nx := (9 : Nat),
    m :=
      [((8 : Nat),
          AObj.opn (33 : Nat) (7 : Nat)
            (oc ++
              [AV.int IntKind.i64 (qI rc fr (0 : Nat)), AV.int IntKind.i64 (qI rc fr (1 : Nat)),
                AV.int IntKind.i64 (qI rc fr (2 : Nat)), AV.int IntKind.u8 (qI rc fr (3 : Nat)),
                AV.int IntKind.i64 (qI rc fr (4 : Nat)), AV.int IntKind.i64 (qI rc fr (5 : Nat)),
                AV.int IntKind.u8 (qI rc fr (6 : Nat))])),
        ((7 : Nat),
          AObj.cells (33 : Nat)
            [AV.int IntKind.i64 (qI rc fr (0 : Nat)), AV.int IntKind.i64 (qI rc fr (1 : Nat)),
              AV.int IntKind.i64 (qI rc fr (2 : Nat)), AV.int IntKind.u8 (qI rc fr (3 : Nat)),
              AV.int IntKind.i64 (qI rc fr (4 : Nat)), AV.int IntKind.i64 (qI rc fr (5 : Nat)),
              AV.int IntKind.u8 (qI rc fr (6 : Nat))]),
        ((6 : Nat),
          AObj.cells (33 : Nat)
            [AV.int IntKind.i64 (qI rc fr (0 : Nat)), AV.int IntKind.i64 (qI rc fr (1 : Nat)),
              AV.int IntKind.i64 (qI rc fr (2 : Nat)), AV.int IntKind.u8 (qI rc fr (3 : Nat)),
              AV.int IntKind.i64 (qI rc fr (4 : Nat)), AV.int IntKind.i64 (qI rc fr (5 : Nat)),
              AV.int IntKind.u8 (qI rc fr (6 : Nat))]),
        ((3 : Nat),
          AObj.cells (42 : Nat)
            [AV.slice (2 : Nat) (0 : Nat) n (some n), AV.int IntKind.i64 (nxF n fr),
              AV.int IntKind.i64 (ct - (1 : Int)), AV.int IntKind.i64 mk, AV.bool en]),
        ((2 : Nat), AObj.cells (33 : Nat) rc), ((0 : Nat), AObj.ro lc), ((1 : Nat), AObj.ro tc),
        ((4 : Nat), AObj.opn (33 : Nat) (7 : Nat) ic), ((5 : Nat), AObj.dead)] }))))))))) ∧
    ((AV.toB (List.getD tc ((0 : Nat) + Int.toNat i * (1 : Nat)) (AV.tup []))) = false →
      N (162 : Nat)
  [some (AV.slice (0 : Nat) (0 : Nat) ln (some lk)), some (AV.slice (1 : Nat) (0 : Nat) tn (some tk)),
    some (AV.int IntKind.i64 (↑n : Int)), some (AV.ptr (3 : Nat) (0 : Nat)),
    some (AV.slice (4 : Nat) (0 : Nat) ni none), some (AV.slice (5 : Nat) (0 : Nat) no none),
    some (AV.int IntKind.i64 i)]
  { nx := (6 : Nat),
    m :=
      [((3 : Nat),
          AObj.cells (42 : Nat)
            [AV.slice (2 : Nat) (0 : Nat) n (some n), AV.int IntKind.i64 fr, AV.int IntKind.i64 ct,
              AV.int IntKind.i64 mk, AV.bool en]),
        ((2 : Nat), AObj.cells (33 : Nat) rc), ((0 : Nat), AObj.ro lc), ((1 : Nat), AObj.ro tc),
        ((4 : Nat), AObj.opn (33 : Nat) (7 : Nat) ic), ((5 : Nat), AObj.opn (33 : Nat) (7 : Nat) oc)] }))))))))) ∧
  ((decide (i < (↑tn : Int))) = false →
    (decide (i < (↑tn : Int))) = false ∧
    ((decide (i < (↑tn : Int))) = false ∧
    ((decide (i < (↑tn : Int))) = false ∧
    ((decide (i < (↑tn : Int))) = false ∧
    (N (162 : Nat)
  [some (AV.slice (0 : Nat) (0 : Nat) ln (some lk)), some (AV.slice (1 : Nat) (0 : Nat) tn (some tk)),
    some (AV.int IntKind.i64 (↑n : Int)), some (AV.ptr (3 : Nat) (0 : Nat)),
    some (AV.slice (4 : Nat) (0 : Nat) ni none), some (AV.slice (5 : Nat) (0 : Nat) no none),
    some (AV.int IntKind.i64 i)]
  { nx := (6 : Nat),
    m :=
      [((3 : Nat),
          AObj.cells (42 : Nat)
            [AV.slice (2 : Nat) (0 : Nat) n (some n), AV.int IntKind.i64 fr, AV.int IntKind.i64 ct,
              AV.int IntKind.i64 mk, AV.bool en]),
        ((2 : Nat), AObj.cells (33 : Nat) rc), ((0 : Nat), AObj.ro lc), ((1 : Nat), AObj.ro tc),
        ((4 : Nat), AObj.opn (33 : Nat) (7 : Nat) ic), ((5 : Nat), AObj.opn (33 : Nat) (7 : Nat) oc)] })))))
def k3SS_scr : Plan := .b (.t (.t (.t (.t (.t (.t (.t (.b (.b (.b (.z) (.z)) (.b (.z) (.k (.t (.t (.t (.t (.z)))))))) (.z))))))))) (.f (.f (.f (.f (.z)))))
theorem k3SS_vc (n0 : Nat) (n : Nat) (fr : Int) (ct : Int) (mk : Int) (en : Bool) (rc : List AV) (lc : List AV) (ln : Nat) (lk : Nat) (i : Int) (tn : Nat) (tk : Nat) (tc : List AV) (ni : Nat) (ic : List AV) (no : Nat) (oc : List AV) (N : NS) (Q : QS) (K : Unit) : (wpP XRd lkSy n0 (seqs lkS3 .skip) 1 (rndS slR N Q) (frR n (.slice 0 0 ln (some lk)) (.slice 1 0 tn (some tk)) (.slice 4 0 ni none) (.slice 5 0 no none) i) (hpR n fr ct mk en rc lc (.ro tc) (.opn 33 7 ic) (.opn 33 7 oc)) k3SS_scr) = k3SS_VC n0 n fr ct mk en rc lc ln lk i tn tk tc ni ic no oc N Q K := by kernel_rfl
def k4NN_VC (n0 : Nat) (n : Nat) (fr : Int) (ct : Int) (mk : Int) (en : Bool) (rc : List AV) (lc : List AV) (ln : Nat) (lk : Nat) (tv : AV) (i : Int) (a1 : AObj) (a4 : AObj) (a5 : AObj) (N : NS) (Q : QS) (K : Unit) : Prop :=
  ((!decide ((↑n : Int) > (0 : Int))) = true →
    (!decide ((↑n : Int) > (0 : Int))) = true ∧
    ((!decide ((↑n : Int) > (0 : Int))) = true ∧
    (((!decide ((0 : Int) = (↑n : Int))) = true →
      Q Exit.ret (162 : Nat)
  [some (AV.slice (0 : Nat) (0 : Nat) ln (some lk)), some tv, some (AV.int IntKind.i64 (↑n : Int)),
    some (AV.ptr (3 : Nat) (0 : Nat)), some AV.nilslice, some AV.nilslice, some (AV.int IntKind.i64 i)]
  { nx := (6 : Nat),
    m :=
      [((3 : Nat),
          AObj.cells (42 : Nat)
            [AV.slice (2 : Nat) (0 : Nat) n (some n), AV.int IntKind.i64 fr, AV.int IntKind.i64 ct,
              AV.int IntKind.i64 mk, AV.bool en]),
        ((2 : Nat), AObj.cells (33 : Nat) rc), ((0 : Nat), AObj.ro lc), ((1 : Nat), a1), ((4 : Nat), a4),
        ((5 : Nat), a5)] }) ∧
    ((!decide ((0 : Int) = (↑n : Int))) = false →
      N (162 : Nat)
  [some (AV.slice (0 : Nat) (0 : Nat) ln (some lk)), some tv, some (AV.int IntKind.i64 (↑n : Int)),
    some (AV.ptr (3 : Nat) (0 : Nat)), some AV.nilslice, some AV.nilslice, some (AV.int IntKind.i64 i)]
  { nx := (6 : Nat),
    m :=
      [((3 : Nat),
          AObj.cells (42 : Nat)
            [AV.slice (2 : Nat) (0 : Nat) n (some n), AV.int IntKind.i64 fr, AV.int IntKind.i64 ct,
              AV.int IntKind.i64 mk, AV.bool en]),
        ((2 : Nat), AObj.cells (33 : Nat) rc), ((0 : Nat), AObj.ro lc), ((1 : Nat), a1), ((4 : Nat), a4),
        ((5 : Nat), a5)] })))) ∧
  ((!decide ((↑n : Int) > (0 : Int))) = false →
    ((!!decide (ct = (0 : Int))) = true →
      (!!decide (ct = (0 : Int))) = true ∧
      ((!decide ((↑n : Int) > (0 : Int))) = false ∧
      ((!!decide (ct = (0 : Int))) = true ∧
      ((!!decide (ct = (0 : Int))) = true ∧
      ((!decide ((↑n : Int) > (0 : Int))) = false ∧
      ((!!decide (ct = (0 : Int))) = true ∧
      ((!!decide (ct = (0 : Int))) = true ∧
      ((!!decide (ct = (0 : Int))) = true ∧
      ((!decide (ct = (0 : Int))) = false ∧
      (((!decide (IntKind.wrap IntKind.i64 (ct + IntKind.wrap IntKind.i64 ((↑n : Int) - ct)) = (↑n : Int))) = true →
        Q Exit.ret (162 : Nat)
  [some (AV.slice (0 : Nat) (0 : Nat) ln (some lk)), some tv, some (AV.int IntKind.i64 (↑n : Int)),
    some (AV.ptr (3 : Nat) (0 : Nat)), some AV.nilslice, some AV.nilslice, some (AV.int IntKind.i64 i)]
  { nx := (6 : Nat),
    m :=
      [((3 : Nat),
          AObj.cells (42 : Nat)
            [AV.slice (2 : Nat) (0 : Nat) n (some n), AV.int IntKind.i64 fr, AV.int IntKind.i64 ct,
              AV.int IntKind.i64 mk, AV.bool en]),
        ((2 : Nat), AObj.cells (33 : Nat) rc), ((0 : Nat), AObj.ro lc), ((1 : Nat), a1), ((4 : Nat), a4),
        ((5 : Nat), a5)] }) ∧
      ((!decide (IntKind.wrap IntKind.i64 (ct + IntKind.wrap IntKind.i64 ((↑n : Int) - ct)) = (↑n : Int))) = false →
        N (162 : Nat)
  [some (AV.slice (0 : Nat) (0 : Nat) ln (some lk)), some tv, some (AV.int IntKind.i64 (↑n : Int)),
    some (AV.ptr (3 : Nat) (0 : Nat)), some AV.nilslice, some AV.nilslice, some (AV.int IntKind.i64 i)]
  { nx := (6 : Nat),
    m :=
      [((3 : Nat),
          AObj.cells (42 : Nat)
            [AV.slice (2 : Nat) (0 : Nat) n (some n), AV.int IntKind.i64 fr, AV.int IntKind.i64 ct,
              AV.int IntKind.i64 mk, AV.bool en]),
        ((2 : Nat), AObj.cells (33 : Nat) rc), ((0 : Nat), AObj.ro lc), ((1 : Nat), a1), ((4 : Nat), a4),
        ((5 : Nat), a5)] }))))))))))) ∧
    ((!!decide (ct = (0 : Int))) = false →
      (!!decide (ct = (0 : Int))) = false ∧
      ((!!decide (ct = (0 : Int))) = false ∧
      ((!!decide (ct = (0 : Int))) = false ∧
      ((!!decide (ct = (0 : Int))) = false ∧
      ((!!decide (ct = (0 : Int))) = false ∧
      ((!!decide (ct = (0 : Int))) = false ∧
      ((!decide (ct = (0 : Int))) = true ∧
      (Q Exit.ret (162 : Nat)
  [some (AV.slice (0 : Nat) (0 : Nat) ln (some lk)), some tv, some (AV.int IntKind.i64 (↑n : Int)),
    some (AV.ptr (3 : Nat) (0 : Nat)), some AV.nilslice, some AV.nilslice, some (AV.int IntKind.i64 i)]
  { nx := (6 : Nat),
    m :=
      [((3 : Nat),
          AObj.cells (42 : Nat)
            [AV.slice (2 : Nat) (0 : Nat) n (some n), AV.int IntKind.i64 fr, AV.int IntKind.i64 ct,
              AV.int IntKind.i64 mk, AV.bool en]),
        ((2 : Nat), AObj.cells (33 : Nat) rc), ((0 : Nat), AObj.ro lc), ((1 : Nat), a1), ((4 : Nat), a4),
        ((5 : Nat), a5)] })))))))))
def k4NN_scr : Plan := .k (.k (.k (.k (.k (.k (.k (.b (.k (.k (.k (.k (.k (.k (.k (.k (.k (.t (.k (.k (.k (.k (.k (.k (.k (.k (.k (.t (.k (.k (.k (.k (.b (.z) (.z)))))))))))))))))))))))))) (.b (.t (.k (.k (.k (.k (.k (.k (.k (.f (.t (.t (.k (.k (.k (.k (.k (.k (.k (.f (.t (.t (.t (.f (.b (.z) (.z))))))))))))))))))))))))) (.f (.f (.f (.f (.f (.f (.t (.z))))))))))))))))
theorem k4NN_vc (n0 : Nat) (n : Nat) (fr : Int) (ct : Int) (mk : Int) (en : Bool) (rc : List AV) (lc : List AV) (ln : Nat) (lk : Nat) (tv : AV) (i : Int) (a1 : AObj) (a4 : AObj) (a5 : AObj) (N : NS) (Q : QS) (K : Unit) : (wpP XRd lkSy n0 lkS4 1 (rndS slR N Q) (frR n (.slice 0 0 ln (some lk)) tv .nilslice .nilslice i) (hpR n fr ct mk en rc lc a1 a4 a5) k4NN_scr) = k4NN_VC n0 n fr ct mk en rc lc ln lk tv i a1 a4 a5 N Q K := by kernel_rfl
def k4SN_VC (n0 : Nat) (n : Nat) (fr : Int) (ct : Int) (mk : Int) (en : Bool) (rc : List AV) (lc : List AV) (ln : Nat) (lk : Nat) (tv : AV) (i : Int) (a1 : AObj) (a4 : AObj) (a5 : AObj) (ni : Nat) (N : NS) (Q : QS) (K : Unit) : Prop :=
  ((!decide ((↑n : Int) > (0 : Int))) = true →
    ((!!decide ((0 : Int) = IntKind.wrap IntKind.i64 ((↑ni : Int) - (0 : Int)))) = true →
      (!!decide ((0 : Int) = IntKind.wrap IntKind.i64 ((↑ni : Int) - (0 : Int)))) = true ∧
      ((!decide ((↑n : Int) > (0 : Int))) = true ∧
      ((!!decide ((0 : Int) = IntKind.wrap IntKind.i64 ((↑ni : Int) - (0 : Int)))) = true ∧
      ((!!decide ((0 : Int) = IntKind.wrap IntKind.i64 ((↑ni : Int) - (0 : Int)))) = true ∧
      ((!decide ((↑n : Int) > (0 : Int))) = true ∧
      ((!!decide ((0 : Int) = IntKind.wrap IntKind.i64 ((↑ni : Int) - (0 : Int)))) = true ∧
      ((!!decide ((0 : Int) = IntKind.wrap IntKind.i64 ((↑ni : Int) - (0 : Int)))) = true ∧
      ((!!decide ((0 : Int) = IntKind.wrap IntKind.i64 ((↑ni : Int) - (0 : Int)))) = true ∧
      ((!decide ((0 : Int) = IntKind.wrap IntKind.i64 ((↑ni : Int) - (0 : Int)))) = false ∧
      (((!decide ((0 : Int) = (↑n : Int))) = true →
        Q Exit.ret (162 : Nat)
  [some (AV.slice (0 : Nat) (0 : Nat) ln (some lk)), some tv, some (AV.int IntKind.i64 (↑n : Int)),
    some (AV.ptr (3 : Nat) (0 : Nat)), some (AV.slice (4 : Nat) (0 : Nat) ni none), some AV.nilslice,
    some (AV.int IntKind.i64 i)]
  { nx := (6 : Nat),
    m :=
      [((3 : Nat),
          AObj.cells (42 : Nat)
            [AV.slice (2 : Nat) (0 : Nat) n (some n), AV.int IntKind.i64 fr, AV.int IntKind.i64 ct,
              AV.int IntKind.i64 mk, AV.bool en]),
        ((2 : Nat), AObj.cells (33 : Nat) rc), ((0 : Nat), AObj.ro lc), ((1 : Nat), a1), ((4 : Nat), a4),
        ((5 : Nat), a5)] }) ∧
      ((!decide ((0 : Int) = (↑n : Int))) = false →
        N (162 : Nat)
  [some (AV.slice (0 : Nat) (0 : Nat) ln (some lk)), some tv, some (AV.int IntKind.i64 (↑n : Int)),
    some (AV.ptr (3 : Nat) (0 : Nat)), some (AV.slice (4 : Nat) (0 : Nat) ni none), some AV.nilslice,
    some (AV.int IntKind.i64 i)]
  { nx := (6 : Nat),
    m :=
      [((3 : Nat),
          AObj.cells (42 : Nat)
            [AV.slice (2 : Nat) (0 : Nat) n (some n), AV.int IntKind.i64 fr, AV.int IntKind.i64 ct,
              AV.int IntKind.i64 mk, AV.bool en]),
        ((2 : Nat), AObj.cells (33 : Nat) rc), ((0 : Nat), AObj.ro lc), ((1 : Nat), a1), ((4 : Nat), a4),
        ((5 : Nat), a5)] }))))))))))) ∧
    ((!!decide ((0 : Int) = IntKind.wrap IntKind.i64 ((↑ni : Int) - (0 : Int)))) = false →
      (!!decide ((0 : Int) = IntKind.wrap IntKind.i64 ((↑ni : Int) - (0 : Int)))) = false ∧
      ((!!decide ((0 : Int) = IntKind.wrap IntKind.i64 ((↑ni : Int) - (0 : Int)))) = false ∧
      ((!!decide ((0 : Int) = IntKind.wrap IntKind.i64 ((↑ni : Int) - (0 : Int)))) = false ∧
      ((!!decide ((0 : Int) = IntKind.wrap IntKind.i64 ((↑ni : Int) - (0 : Int)))) = false ∧
      ((!!decide ((0 : Int) = IntKind.wrap IntKind.i64 ((↑ni : Int) - (0 : Int)))) = false ∧
      ((!!decide ((0 : Int) = IntKind.wrap IntKind.i64 ((↑ni : Int) - (0 : Int)))) = false ∧
      ((!decide ((0 : Int) = IntKind.wrap IntKind.i64 ((↑ni : Int) - (0 : Int)))) = true ∧
      (Q Exit.ret (162 : Nat)
  [some (AV.slice (0 : Nat) (0 : Nat) ln (some lk)), some tv, some (AV.int IntKind.i64 (↑n : Int)),
    some (AV.ptr (3 : Nat) (0 : Nat)), some (AV.slice (4 : Nat) (0 : Nat) ni none), some AV.nilslice,
    some (AV.int IntKind.i64 i)]
  { nx := (6 : Nat),
    m :=
      [((3 : Nat),
          AObj.cells (42 : Nat)
            [AV.slice (2 : Nat) (0 : Nat) n (some n), AV.int IntKind.i64 fr, AV.int IntKind.i64 ct,
              AV.int IntKind.i64 mk, AV.bool en]),
        ((2 : Nat), AObj.cells (33 : Nat) rc), ((0 : Nat), AObj.ro lc), ((1 : Nat), a1), ((4 : Nat), a4),
        ((5 : Nat), a5)] }))))))))) ∧
  ((!decide ((↑n : Int) > (0 : Int))) = false →
    ((!!decide (ct = IntKind.wrap IntKind.i64 ((↑ni : Int) - (0 : Int)))) = true →
      (!!decide (ct = IntKind.wrap IntKind.i64 ((↑ni : Int) - (0 : Int)))) = true ∧
      ((!decide ((↑n : Int) > (0 : Int))) = false ∧
      ((!!decide (ct = IntKind.wrap IntKind.i64 ((↑ni : Int) - (0 : Int)))) = true ∧
      ((!!decide (ct = IntKind.wrap IntKind.i64 ((↑ni : Int) - (0 : Int)))) = true ∧
      ((!decide ((↑n : Int) > (0 : Int))) = false ∧
      ((!!decide (ct = IntKind.wrap IntKind.i64 ((↑ni : Int) - (0 : Int)))) = true ∧
      ((!!decide (ct = IntKind.wrap IntKind.i64 ((↑ni : Int) - (0 : Int)))) = true ∧
      ((!!decide (ct = IntKind.wrap IntKind.i64 ((↑ni : Int) - (0 : Int)))) = true ∧
      ((!decide (ct = IntKind.wrap IntKind.i64 ((↑ni : Int) - (0 : Int)))) = false ∧
      (((!decide (IntKind.wrap IntKind.i64 (ct + IntKind.wrap IntKind.i64 ((↑n : Int) - ct)) = (↑n : Int))) = true →
        Q Exit.ret (162 : Nat)
  [some (AV.slice (0 : Nat) (0 : Nat) ln (some lk)), some tv, some (AV.int IntKind.i64 (↑n : Int)),
    some (AV.ptr (3 : Nat) (0 : Nat)), some (AV.slice (4 : Nat) (0 : Nat) ni none), some AV.nilslice,
    some (AV.int IntKind.i64 i)]
  { nx := (6 : Nat),
    m :=
      [((3 : Nat),
          AObj.cells (42 : Nat)
            [AV.slice (2 : Nat) (0 : Nat) n (some n), AV.int IntKind.i64 fr, AV.int IntKind.i64 ct,
              AV.int IntKind.i64 mk, AV.bool en]),
        ((2 : Nat), AObj.cells (33 : Nat) rc), ((0 : Nat), AObj.ro lc), ((1 : Nat), a1), ((4 : Nat), a4),
        ((5 : Nat), a5)] }) ∧
      ((!decide (IntKind.wrap IntKind.i64 (ct + IntKind.wrap IntKind.i64 ((↑n : Int) - ct)) = (↑n : Int))) = false →
        N (162 : Nat)
  [some (AV.slice (0 : Nat) (0 : Nat) ln (some lk)), some tv, some (AV.int IntKind.i64 (↑n : Int)),
    some (AV.ptr (3 : Nat) (0 : Nat)), some (AV.slice (4 : Nat) (0 : Nat) ni none), some AV.nilslice,
    some (AV.int IntKind.i64 i)]
  { nx := (6 : Nat),
    m :=
      [((3 : Nat),
          AObj.cells (42 : Nat)
            [AV.slice (2 : Nat) (0 : Nat) n (some n), AV.int IntKind.i64 fr, AV.int IntKind.i64 ct,
              AV.int IntKind.i64 mk, AV.bool en]),
        ((2 : Nat), AObj.cells (33 : Nat) rc), ((0 : Nat), AObj.ro lc), ((1 : Nat), a1), ((4 : Nat), a4),
        ((5 : Nat), a5)] }))))))))))) ∧
    ((!!decide (ct = IntKind.wrap IntKind.i64 ((↑ni : Int) - (0 : Int)))) = false →
      (!!decide (ct = IntKind.wrap IntKind.i64 ((↑ni : Int) - (0 : Int)))) = false ∧
      ((!!decide (ct = IntKind.wrap IntKind.i64 ((↑ni : Int) - (0 : Int)))) = false ∧
      ((!!decide (ct = IntKind.wrap IntKind.i64 ((↑ni : Int) - (0 : Int)))) = false ∧
      ((!!decide (ct = IntKind.wrap IntKind.i64 ((↑ni : Int) - (0 : Int)))) = false ∧
      ((!!decide (ct = IntKind.wrap IntKind.i64 ((↑ni : Int) - (0 : Int)))) = false ∧
      ((!!decide (ct = IntKind.wrap IntKind.i64 ((↑ni : Int) - (0 : Int)))) = false ∧
      ((!decide (ct = IntKind.wrap IntKind.i64 ((↑ni : Int) - (0 : Int)))) = true ∧
      (Q Exit.ret (162 : Nat)
  [some (AV.slice (0 : Nat) (0 : Nat) ln (some lk)), some tv, some (AV.int IntKind.i64 (↑n : Int)),
    some (AV.ptr (3 : Nat) (0 : Nat)), some (AV.slice (4 : Nat) (0 : Nat) ni none), some AV.nilslice,
    some (AV.int IntKind.i64 i)]
  { nx := (6 : Nat),
    m :=
      [((3 : Nat),
          AObj.cells (42 : Nat)
            [AV.slice (2 : Nat) (0 : Nat) n (some n), AV.int IntKind.i64 fr, AV.int IntKind.i64 ct,
              AV.int IntKind.i64 mk, AV.bool en]),
        ((2 : Nat), AObj.cells (33 : Nat) rc), ((0 : Nat), AObj.ro lc), ((1 : Nat), a1), ((4 : Nat), a4),
        ((5 : Nat), a5)] })))))))))
def k4SN_scr : Plan := .k (.k (.k (.k (.k (.k (.k (.b (.b (.t (.k (.k (.k (.k (.k (.k (.k (.t (.t (.t (.k (.k (.k (.k (.k (.k (.k (.t (.t (.t (.t (.f (.b (.z) (.z))))))))))))))))))))))))) (.f (.f (.f (.f (.f (.f (.t (.z))))))))) (.b (.t (.k (.k (.k (.k (.k (.k (.k (.f (.t (.t (.k (.k (.k (.k (.k (.k (.k (.f (.t (.t (.t (.f (.b (.z) (.z))))))))))))))))))))))))) (.f (.f (.f (.f (.f (.f (.t (.z))))))))))))))))
theorem k4SN_vc (n0 : Nat) (n : Nat) (fr : Int) (ct : Int) (mk : Int) (en : Bool) (rc : List AV) (lc : List AV) (ln : Nat) (lk : Nat) (tv : AV) (i : Int) (a1 : AObj) (a4 : AObj) (a5 : AObj) (ni : Nat) (N : NS) (Q : QS) (K : Unit) : (wpP XRd lkSy n0 lkS4 1 (rndS slR N Q) (frR n (.slice 0 0 ln (some lk)) tv (.slice 4 0 ni none) .nilslice i) (hpR n fr ct mk en rc lc a1 a4 a5) k4SN_scr) = k4SN_VC n0 n fr ct mk en rc lc ln lk tv i a1 a4 a5 ni N Q K := by kernel_rfl
def k4SS_VC (n0 : Nat) (n : Nat) (fr : Int) (ct : Int) (mk : Int) (en : Bool) (rc : List AV) (lc : List AV) (ln : Nat) (lk : Nat) (tv : AV) (i : Int) (a1 : AObj) (a4 : AObj) (a5 : AObj) (ni : Nat) (no : Nat) (N : NS) (Q : QS) (K : Unit) : Prop :=
  ((!decide ((↑n : Int) > (0 : Int))) = true →
    ((!!decide ((0 : Int) = IntKind.wrap IntKind.i64 ((↑ni : Int) - (↑no : Int)))) = true →
      (!!decide ((0 : Int) = IntKind.wrap IntKind.i64 ((↑ni : Int) - (↑no : Int)))) = true ∧
      ((!decide ((↑n : Int) > (0 : Int))) = true ∧
      ((!!decide ((0 : Int) = IntKind.wrap IntKind.i64 ((↑ni : Int) - (↑no : Int)))) = true ∧
      ((!!decide ((0 : Int) = IntKind.wrap IntKind.i64 ((↑ni : Int) - (↑no : Int)))) = true ∧
      ((!decide ((↑n : Int) > (0 : Int))) = true ∧
      ((!!decide ((0 : Int) = IntKind.wrap IntKind.i64 ((↑ni : Int) - (↑no : Int)))) = true ∧
      ((!!decide ((0 : Int) = IntKind.wrap IntKind.i64 ((↑ni : Int) - (↑no : Int)))) = true ∧
      ((!!decide ((0 : Int) = IntKind.wrap IntKind.i64 ((↑ni : Int) - (↑no : Int)))) = true ∧
      ((!decide ((0 : Int) = IntKind.wrap IntKind.i64 ((↑ni : Int) - (↑no : Int)))) = false ∧
      (((!decide ((0 : Int) = (↑n : Int))) = true →
        Q Exit.ret (162 : Nat)
  [some (AV.slice (0 : Nat) (0 : Nat) ln (some lk)), some tv, some (AV.int IntKind.i64 (↑n : Int)),
    some (AV.ptr (3 : Nat) (0 : Nat)), some (AV.slice (4 : Nat) (0 : Nat) ni none),
    some (AV.slice (5 : Nat) (0 : Nat) no none), some (AV.int IntKind.i64 i)]
  { nx := (6 : Nat),
    m :=
      [((3 : Nat),
          AObj.cells (42 : Nat)
            [AV.slice (2 : Nat) (0 : Nat) n (some n), AV.int IntKind.i64 fr, AV.int IntKind.i64 ct,
              AV.int IntKind.i64 mk, AV.bool en]),
        ((2 : Nat), AObj.cells (33 : Nat) rc), ((0 : Nat), AObj.ro lc), ((1 : Nat), a1), ((4 : Nat), a4),
        ((5 : Nat), a5)] }) ∧
      ((!decide ((0 : Int) = (↑n : Int))) = false →
        N (162 : Nat)
  [some (AV.slice (0 : Nat) (0 : Nat) ln (some lk)), some tv, some (AV.int IntKind.i64 (↑n : Int)),
    some (AV.ptr (3 : Nat) (0 : Nat)), some (AV.slice (4 : Nat) (0 : Nat) ni none),
    some (AV.slice (5 : Nat) (0 : Nat) no none), some (AV.int IntKind.i64 i)]
  { nx := (6 : Nat),
    m :=
      [((3 : Nat),
          AObj.cells (42 : Nat)
            [AV.slice (2 : Nat) (0 : Nat) n (some n), AV.int IntKind.i64 fr, AV.int IntKind.i64 ct,
              AV.int IntKind.i64 mk, AV.bool en]),
        ((2 : Nat), AObj.cells (33 : Nat) rc), ((0 : Nat), AObj.ro lc), ((1 : Nat), a1), ((4 : Nat), a4),
        ((5 : Nat), a5)] }))))))))))) ∧
    ((!!decide ((0 : Int) = IntKind.wrap IntKind.i64 ((↑ni : Int) - (↑no : Int)))) = false →
      (!!decide ((0 : Int) = IntKind.wrap IntKind.i64 ((↑ni : Int) - (↑no : Int)))) = false ∧
      ((!!decide ((0 : Int) = IntKind.wrap IntKind.i64 ((↑ni : Int) - (↑no : Int)))) = false ∧
      ((!!decide ((0 : Int) = IntKind.wrap IntKind.i64 ((↑ni : Int) - (↑no : Int)))) = false ∧
      ((!!decide ((0 : Int) = IntKind.wrap IntKind.i64 ((↑ni : Int) - (↑no : Int)))) = false ∧
      ((!!decide ((0 : Int) = IntKind.wrap IntKind.i64 ((↑ni : Int) - (↑no : Int)))) = false ∧
      ((!!decide ((0 : Int) = IntKind.wrap IntKind.i64 ((↑ni : Int) - (↑no : Int)))) = false ∧
      ((!decide ((0 : Int) = IntKind.wrap IntKind.i64 ((↑ni : Int) - (↑no : Int)))) = true ∧
      (Q Exit.ret (162 : Nat)
  [some (AV.slice (0 : Nat) (0 : Nat) ln (some lk)), some tv, some (AV.int IntKind.i64 (↑n : Int)),
    some (AV.ptr (3 : Nat) (0 : Nat)), some (AV.slice (4 : Nat) (0 : Nat) ni none),
    some (AV.slice (5 : Nat) (0 : Nat) no none), some (AV.int IntKind.i64 i)]
  { nx := (6 : Nat),
    m :=
      [((3 : Nat),
          AObj.cells (42 : Nat)
            [AV.slice (2 : Nat) (0 : Nat) n (some n), AV.int IntKind.i64 fr, AV.int IntKind.i64 ct,
              AV.int IntKind.i64 mk, AV.bool en]),
        ((2 : Nat), AObj.cells (33 : Nat) rc), ((0 : Nat), AObj.ro lc), ((1 : Nat), a1), ((4 : Nat), a4),
        ((5 : Nat), a5)] }))))))))) ∧
  ((!decide ((↑n : Int) > (0 : Int))) = false →
    ((!!decide (ct = IntKind.wrap IntKind.i64 ((↑ni : Int) - (↑no : Int)))) = true →
      (!!decide (ct = IntKind.wrap IntKind.i64 ((↑ni : Int) - (↑no : Int)))) = true ∧
      ((!decide ((↑n : Int) > (0 : Int))) = false ∧
      ((!!decide (ct = IntKind.wrap IntKind.i64 ((↑ni : Int) - (↑no : Int)))) = true ∧
      ((!!decide (ct = IntKind.wrap IntKind.i64 ((↑ni : Int) - (↑no : Int)))) = true ∧
      ((!decide ((↑n : Int) > (0 : Int))) = false ∧
      ((!!decide (ct = IntKind.wrap IntKind.i64 ((↑ni : Int) - (↑no : Int)))) = true ∧
      ((!!decide (ct = IntKind.wrap IntKind.i64 ((↑ni : Int) - (↑no : Int)))) = true ∧
      ((!!decide (ct = IntKind.wrap IntKind.i64 ((↑ni : Int) - (↑no : Int)))) = true ∧
      ((!decide (ct = IntKind.wrap IntKind.i64 ((↑ni : Int) - (↑no : Int)))) = false ∧
      (((!decide (IntKind.wrap IntKind.i64 (ct + IntKind.wrap IntKind.i64 ((↑n : Int) - ct)) = (↑n : Int))) = true →
        Q Exit.ret (162 : Nat)
  [some (AV.slice (0 : Nat) (0 : Nat) ln (some lk)), some tv, some (AV.int IntKind.i64 (↑n : Int)),
    some (AV.ptr (3 : Nat) (0 : Nat)), some (AV.slice (4 : Nat) (0 : Nat) ni none),
    some (AV.slice (5 : Nat) (0 : Nat) no none), some (AV.int IntKind.i64 i)]
  { nx := (6 : Nat),
    m :=
      [((3 : Nat),
          AObj.cells (42 : Nat)
            [AV.slice (2 : Nat) (0 : Nat) n (some n), AV.int IntKind.i64 fr, AV.int IntKind.i64 ct,
              AV.int IntKind.i64 mk, AV.bool en]),
        ((2 : Nat), AObj.cells (33 : Nat) rc), ((0 : Nat), AObj.ro lc), ((1 : Nat), a1), ((4 : Nat), a4),
        ((5 : Nat), a5)] }) ∧
      ((!decide (IntKind.wrap IntKind.i64 (ct + IntKind.wrap IntKind.i64 ((↑n : Int) - ct)) = (↑n : Int))) = false →
        N (162 : Nat)
  [some (AV.slice (0 : Nat) (0 : Nat) ln (some lk)), some tv, some (AV.int IntKind.i64 (↑n : Int)),
    some (AV.ptr (3 : Nat) (0 : Nat)), some (AV.slice (4 : Nat) (0 : Nat) ni none),
    some (AV.slice (5 : Nat) (0 : Nat) no none), some (AV.int IntKind.i64 i)]
  { nx := (6 : Nat),
    m :=
      [((3 : Nat),
          AObj.cells (42 : Nat)
            [AV.slice (2 : Nat) (0 : Nat) n (some n), AV.int IntKind.i64 fr, AV.int IntKind.i64 ct,
              AV.int IntKind.i64 mk, AV.bool en]),
        ((2 : Nat), AObj.cells (33 : Nat) rc), ((0 : Nat), AObj.ro lc), ((1 : Nat), a1), ((4 : Nat), a4),
        ((5 : Nat), a5)] }))))))))))) ∧
    ((!!decide (ct = IntKind.wrap IntKind.i64 ((↑ni : Int) - (↑no : Int)))) = false →
      (!!decide (ct = IntKind.wrap IntKind.i64 ((↑ni : Int) - (↑no : Int)))) = false ∧
      ((!!decide (ct = IntKind.wrap IntKind.i64 ((↑ni : Int) - (↑no : Int)))) = false ∧
      ((!!decide (ct = IntKind.wrap IntKind.i64 ((↑ni : Int) - (↑no : Int)))) = false ∧
      ((!!decide (ct = IntKind.wrap IntKind.i64 ((↑ni : Int) - (↑no : Int)))) = false ∧
      ((!!decide (ct = IntKind.wrap IntKind.i64 ((↑ni : Int) - (↑no : Int)))) = false ∧
      ((!!decide (ct = IntKind.wrap IntKind.i64 ((↑ni : Int) - (↑no : Int)))) = false ∧
      ((!decide (ct = IntKind.wrap IntKind.i64 ((↑ni : Int) - (↑no : Int)))) = true ∧
      (Q Exit.ret (162 : Nat)
  [some (AV.slice (0 : Nat) (0 : Nat) ln (some lk)), some tv, some (AV.int IntKind.i64 (↑n : Int)),
    some (AV.ptr (3 : Nat) (0 : Nat)), some (AV.slice (4 : Nat) (0 : Nat) ni none),
    some (AV.slice (5 : Nat) (0 : Nat) no none), some (AV.int IntKind.i64 i)]
  { nx := (6 : Nat),
    m :=
      [((3 : Nat),
          AObj.cells (42 : Nat)
            [AV.slice (2 : Nat) (0 : Nat) n (some n), AV.int IntKind.i64 fr, AV.int IntKind.i64 ct,
              AV.int IntKind.i64 mk, AV.bool en]),
        ((2 : Nat), AObj.cells (33 : Nat) rc), ((0 : Nat), AObj.ro lc), ((1 : Nat), a1), ((4 : Nat), a4),
        ((5 : Nat), a5)] })))))))))
def k4SS_scr : Plan := .k (.k (.k (.k (.k (.k (.k (.b (.b (.t (.k (.k (.k (.k (.k (.k (.k (.t (.t (.t (.k (.k (.k (.k (.k (.k (.k (.t (.t (.t (.t (.f (.b (.z) (.z))))))))))))))))))))))))) (.f (.f (.f (.f (.f (.f (.t (.z))))))))) (.b (.t (.k (.k (.k (.k (.k (.k (.k (.f (.t (.t (.k (.k (.k (.k (.k (.k (.k (.f (.t (.t (.t (.f (.b (.z) (.z))))))))))))))))))))))))) (.f (.f (.f (.f (.f (.f (.t (.z))))))))))))))))
theorem k4SS_vc (n0 : Nat) (n : Nat) (fr : Int) (ct : Int) (mk : Int) (en : Bool) (rc : List AV) (lc : List AV) (ln : Nat) (lk : Nat) (tv : AV) (i : Int) (a1 : AObj) (a4 : AObj) (a5 : AObj) (ni : Nat) (no : Nat) (N : NS) (Q : QS) (K : Unit) : (wpP XRd lkSy n0 lkS4 1 (rndS slR N Q) (frR n (.slice 0 0 ln (some lk)) tv (.slice 4 0 ni none) (.slice 5 0 no none) i) (hpR n fr ct mk en rc lc a1 a4 a5) k4SS_scr) = k4SS_VC n0 n fr ct mk en rc lc ln lk tv i a1 a4 a5 ni no N Q K := by kernel_rfl
end Go.Proofs.Ytfamikdibjhnpaa.V
