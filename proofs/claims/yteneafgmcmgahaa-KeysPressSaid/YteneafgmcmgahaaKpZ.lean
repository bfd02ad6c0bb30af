/- Printed by vc.py: what must hold for functions' ways (KpZ). -/
import Derived.Test.YteneafgmcmgahaaKpG
namespace Go.Proofs.Yteneafgmcmgahaa.V
open Go Go.Proofs
set_option maxRecDepth 100000
set_option linter.unusedVariables false
def pra_VC (fr to : Int) (ks : List Int) (K : AV → AH → Prop) : Prop :=
  need ((1 : Nat) = (1 : Nat)) ∧
  (need (Fits (1 : Nat) [((0 : Nat), (0 : Nat)), ((1 : Nat), (1 : Nat)), ((2 : Nat), (2 : Nat))]
  { n := (46 : Nat),
    l :=
      [((27 : Nat), AV.int IntKind.i64 (0 : Int)), ((26 : Nat), AV.int IntKind.i64 (↑(List.length ks) : Int)),
        ((25 : Nat), AV.slice (0 : Nat) (0 : Nat) (List.length ks) none), ((23 : Nat), AV.bool false),
        ((22 : Nat), AV.bool true), ((11 : Nat), AV.int IntKind.i64 fr), ((21 : Nat), AV.int IntKind.i64 fr),
        ((10 : Nat), AV.bool true), ((20 : Nat), AV.bool true), ((19 : Nat), AV.ptr (1 : Nat) (0 : Nat)),
        ((18 : Nat), AV.bool true), ((17 : Nat), AV.int IntKind.i64 (0 : Int)),
        ((16 : Nat), AV.int IntKind.i64 (2 : Int)),
        ((15 : Nat), AV.slice (1 : Nat) (0 : Nat) (2 : Nat) (some (2 : Nat))), ((8 : Nat), AV.nilslice),
        ((7 : Nat), AV.int IntKind.i64 (0 : Int)), ((6 : Nat), AV.nilslice), ((0 : Nat), AV.int IntKind.i64 fr),
        ((1 : Nat), AV.int IntKind.i64 to), ((2 : Nat), AV.slice (0 : Nat) (0 : Nat) (List.length ks) none)] }
  { nx := (2 : Nat),
    m := [((1 : Nat), AObj.cells (4 : Nat) [AV.bool true, AV.bool false]), ((0 : Nat), AObj.ro (encI IntKind.i64 ks))] }
  { n := (46 : Nat),
    l :=
      [((0 : Nat), AV.int IntKind.i64 fr), ((1 : Nat), AV.int IntKind.i64 to),
        ((2 : Nat), AV.slice (0 : Nat) (0 : Nat) (List.length ks) none), ((8 : Nat), AV.nilslice),
        ((10 : Nat), AV.bool true), ((11 : Nat), AV.int IntKind.i64 fr),
        ((15 : Nat), AV.slice (1 : Nat) (0 : Nat) (2 : Nat) (some (2 : Nat))),
        ((16 : Nat), AV.int IntKind.i64 (2 : Int)), ((17 : Nat), AV.int IntKind.i64 (0 : Int)),
        ((25 : Nat), AV.slice (0 : Nat) (0 : Nat) (List.length ks) none),
        ((26 : Nat), AV.int IntKind.i64 (↑(List.length ks) : Int)), ((27 : Nat), AV.int IntKind.i64 (0 : Int))] }
  { nx := (3 : Nat),
    m :=
      [((2 : Nat), AObj.dead), ((1 : Nat), AObj.cells (4 : Nat) [AV.bool true, AV.bool false]),
        ((0 : Nat), AObj.ro (encI IntKind.i64 ks))] }) ∧
  (need (prOk ks) ∧
  (need ((1 : Nat) = (1 : Nat)) ∧
  (need (Fits (1 : Nat) [((0 : Nat), (0 : Nat)), ((1 : Nat), (1 : Nat)), ((2 : Nat), (2 : Nat))]
  { n := (46 : Nat),
    l :=
      [((27 : Nat), AV.int IntKind.i64 (0 : Int)), ((26 : Nat), AV.int IntKind.i64 (↑(List.length ks) : Int)),
        ((25 : Nat), AV.slice (0 : Nat) (0 : Nat) (List.length ks) none), ((11 : Nat), AV.int IntKind.i64 to),
        ((24 : Nat), AV.int IntKind.i64 to), ((23 : Nat), AV.bool true), ((22 : Nat), AV.bool false),
        ((11 : Nat), AV.int IntKind.i64 fr), ((21 : Nat), AV.int IntKind.i64 fr), ((10 : Nat), AV.bool false),
        ((20 : Nat), AV.bool false), ((19 : Nat), AV.ptr (1 : Nat) (1 : Nat)), ((18 : Nat), AV.bool true),
        ((17 : Nat), AV.int IntKind.i64 (1 : Int)), ((39 : Nat), AV.int IntKind.i64 (1 : Int)),
        ((0 : Nat), AV.int IntKind.i64 fr), ((1 : Nat), AV.int IntKind.i64 to),
        ((2 : Nat), AV.slice (0 : Nat) (0 : Nat) (List.length ks) none),
        ((8 : Nat), AV.slice (2 : Nat) (0 : Nat) (List.length ks) none), ((10 : Nat), AV.bool true),
        ((11 : Nat), AV.int IntKind.i64 fr), ((15 : Nat), AV.slice (1 : Nat) (0 : Nat) (2 : Nat) (some (2 : Nat))),
        ((16 : Nat), AV.int IntKind.i64 (2 : Int)), ((25 : Nat), AV.slice (0 : Nat) (0 : Nat) (List.length ks) none),
        ((26 : Nat), AV.int IntKind.i64 (↑(List.length ks) : Int)),
        ((27 : Nat), AV.int IntKind.i64 (↑(List.length ks) : Int))] }
  { nx := (3 : Nat),
    m :=
      [((2 : Nat), AObj.opn (39 : Nat) (4 : Nat) (tcs (l1 fr ks))),
        ((1 : Nat), AObj.cells (4 : Nat) [AV.bool true, AV.bool false]), ((0 : Nat), AObj.ro (encI IntKind.i64 ks))] }
  { n := (46 : Nat),
    l :=
      [((0 : Nat), AV.int IntKind.i64 fr), ((1 : Nat), AV.int IntKind.i64 to),
        ((2 : Nat), AV.slice (0 : Nat) (0 : Nat) (List.length ks) none),
        ((8 : Nat), AV.slice (2 : Nat) (0 : Nat) (List.length ks) none), ((10 : Nat), AV.bool false),
        ((11 : Nat), AV.int IntKind.i64 to), ((15 : Nat), AV.slice (1 : Nat) (0 : Nat) (2 : Nat) (some (2 : Nat))),
        ((16 : Nat), AV.int IntKind.i64 (2 : Int)), ((17 : Nat), AV.int IntKind.i64 (1 : Int)),
        ((25 : Nat), AV.slice (0 : Nat) (0 : Nat) (List.length ks) none),
        ((26 : Nat), AV.int IntKind.i64 (↑(List.length ks) : Int)), ((27 : Nat), AV.int IntKind.i64 (0 : Int))] }
  { nx := (3 : Nat),
    m :=
      [((2 : Nat), AObj.opn (39 : Nat) (4 : Nat) (tcs (l1 fr ks))),
        ((1 : Nat), AObj.cells (4 : Nat) [AV.bool true, AV.bool false]), ((0 : Nat), AObj.ro (encI IntKind.i64 ks))] }) ∧
  (need (prOk ks) ∧
  (need (AObj.cs? (AH.get (aHp (encI IntKind.i64 ks) (AObj.opn (39 : Nat) (4 : Nat) (tcs (l2 fr to ks)))) (2 : Nat)) =
  some (tcs (l2 fr to ks))) ∧
  (need ((2 : Nat) < (3 : Nat)) ∧
  (need (List.length ks + List.length ks = List.length (l2 fr to ks)) ∧
  (need (List.length (l2 fr to ks) ≤ (1000 : Nat)) ∧
  (((!decide (chkN (l2 fr to ks) = (0 : Int))) = true →
    K (AV.tup [AV.nilslice, AV.int IntKind.i64 (chkN (l2 fr to ks))])
  { nx := (3 : Nat),
    m :=
      [((2 : Nat), AObj.opn (39 : Nat) (4 : Nat) (tcs (l2 fr to ks))),
        ((1 : Nat), AObj.cells (4 : Nat) [AV.bool true, AV.bool false]), ((0 : Nat), AObj.ro (encI IntKind.i64 ks))] }) ∧
  ((!decide (chkN (l2 fr to ks) = (0 : Int))) = false →
    K (AV.tup [AV.slice (2 : Nat) (0 : Nat) (List.length ks + List.length ks) none, AV.int IntKind.i64 (0 : Int)])
  { nx := (3 : Nat),
    m :=
      [((2 : Nat), AObj.opn (39 : Nat) (4 : Nat) (tcs (l2 fr to ks))),
        ((1 : Nat), AObj.cells (4 : Nat) [AV.bool true, AV.bool false]), ((0 : Nat), AObj.ro (encI IntKind.i64 ks))] })))))))))))
def pra_scr : Plan := .k (.k (.k (.k (.k (.k (.k (.k (.k (.k (.k (.b (.z) (.z))))))))))))
theorem pra_vc (fr to : Int) (ks : List Int) (K : AV → AH → Prop) : (funP (XPa fr to ks) 6 [.int .i64 fr, .int .i64 to, .slice 0 0 ks.length none] (hK ks) pra_scr (fun v σ _ => K v σ)) = pra_VC fr to ks K := by kernel_rfl
def prb_VC (c : Option Nat) (fr to : Int) (ks : List Int) (K : AV → AH → Prop) : Prop :=
  need ((1 : Nat) = (1 : Nat)) ∧
  (need (Fits (1 : Nat) [((0 : Nat), (0 : Nat)), ((1 : Nat), (1 : Nat))]
  { n := (48 : Nat),
    l :=
      [((9 : Nat), AV.int IntKind.i64 (0 : Int)), ((8 : Nat), AV.nilslice), ((7 : Nat), AV.int IntKind.i64 (0 : Int)),
        ((6 : Nat), AV.nilslice), ((0 : Nat), AV.int IntKind.i64 fr), ((1 : Nat), AV.int IntKind.i64 to),
        ((2 : Nat), AV.slice (0 : Nat) (0 : Nat) (List.length ks) c)] }
  { nx := (1 : Nat), m := [((0 : Nat), AObj.ro (encI IntKind.i64 ks))] }
  { n := (48 : Nat),
    l :=
      [((0 : Nat), AV.int IntKind.i64 fr), ((1 : Nat), AV.int IntKind.i64 to),
        ((2 : Nat), AV.slice (0 : Nat) (0 : Nat) (List.length ks) c), ((8 : Nat), AV.nilslice),
        ((9 : Nat), AV.int IntKind.i64 (0 : Int))] }
  { nx := (2 : Nat), m := [((1 : Nat), AObj.dead), ((0 : Nat), AObj.ro (encI IntKind.i64 ks))] }) ∧
  (need (prOk ks) ∧
  (need ((1 : Nat) = (1 : Nat)) ∧
  (need (Fits (1 : Nat) [((0 : Nat), (0 : Nat)), ((1 : Nat), (1 : Nat))]
  { n := (48 : Nat),
    l :=
      [((10 : Nat), AV.int IntKind.i64 (0 : Int)), ((0 : Nat), AV.int IntKind.i64 fr),
        ((1 : Nat), AV.int IntKind.i64 to), ((2 : Nat), AV.slice (0 : Nat) (0 : Nat) (List.length ks) c),
        ((8 : Nat), AV.slice (1 : Nat) (0 : Nat) (List.length ks) none),
        ((9 : Nat), AV.int IntKind.i64 (↑(List.length ks) : Int))] }
  { nx := (2 : Nat),
    m := [((1 : Nat), AObj.opn (39 : Nat) (4 : Nat) (tcs (l1 fr ks))), ((0 : Nat), AObj.ro (encI IntKind.i64 ks))] }
  { n := (48 : Nat),
    l :=
      [((0 : Nat), AV.int IntKind.i64 fr), ((1 : Nat), AV.int IntKind.i64 to),
        ((2 : Nat), AV.slice (0 : Nat) (0 : Nat) (List.length ks) c),
        ((8 : Nat), AV.slice (1 : Nat) (0 : Nat) (List.length ks) none), ((10 : Nat), AV.int IntKind.i64 (0 : Int))] }
  { nx := (2 : Nat),
    m := [((1 : Nat), AObj.opn (39 : Nat) (4 : Nat) (tcs (l1 fr ks))), ((0 : Nat), AObj.ro (encI IntKind.i64 ks))] }) ∧
  (need (prOk ks) ∧
  (need (AObj.cs? (AH.get (bHp (encI IntKind.i64 ks) (AObj.opn (39 : Nat) (4 : Nat) (tcs (l2 fr to ks)))) (1 : Nat)) =
  some (tcs (l2 fr to ks))) ∧
  (need ((1 : Nat) < (2 : Nat)) ∧
  (need (List.length ks + List.length ks = List.length (l2 fr to ks)) ∧
  (need (List.length (l2 fr to ks) ≤ (1000 : Nat)) ∧
  (((!decide (chkN (l2 fr to ks) = (0 : Int))) = true →
    K (AV.tup [AV.nilslice, AV.int IntKind.i64 (chkN (l2 fr to ks))])
  { nx := (2 : Nat),
    m := [((1 : Nat), AObj.opn (39 : Nat) (4 : Nat) (tcs (l2 fr to ks))), ((0 : Nat), AObj.ro (encI IntKind.i64 ks))] }) ∧
  ((!decide (chkN (l2 fr to ks) = (0 : Int))) = false →
    K (AV.tup [AV.slice (1 : Nat) (0 : Nat) (List.length ks + List.length ks) none, AV.int IntKind.i64 (0 : Int)])
  { nx := (2 : Nat),
    m := [((1 : Nat), AObj.opn (39 : Nat) (4 : Nat) (tcs (l2 fr to ks))), ((0 : Nat), AObj.ro (encI IntKind.i64 ks))] })))))))))))
def prb_scr : Plan := .b (.z) (.z)
theorem prb_vc (c : Option Nat) (fr to : Int) (ks : List Int) (K : AV → AH → Prop) : (funP (XPb c fr to ks) 7 [.int .i64 fr, .int .i64 to, .slice 0 0 ks.length c] (hK ks) prb_scr (fun v σ _ => K v σ)) = prb_VC c fr to ks K := by kernel_rfl
def tR_VC (n : Nat) (i : Int) (cs : List AV) (N : NS) (Q : QS) (K : Unit) : Prop :=
  ((decide (i < (↑n : Int))) = true →
    (decide ((0 : Int) ≤ i ∧ i < (↑n : Int))) = true ∧
    ((decide ((0 : Nat) + Int.toNat i * (4 : Nat) + (4 : Nat) ≤ List.length cs)) = true ∧
    ((AV.isI IntKind.i64 (List.getD cs ((0 : Nat) + Int.toNat i * (4 : Nat)) (AV.tup []))) = true ∧
    ((AV.isI IntKind.i64 (List.getD cs ((0 : Nat) + Int.toNat i * (4 : Nat) + (1 : Nat)) (AV.tup []))) = true ∧
    ((AV.isI IntKind.i64 (List.getD cs ((0 : Nat) + Int.toNat i * (4 : Nat) + (1 : Nat) + (1 : Nat)) (AV.tup []))) = true ∧
    ((AV.isB (List.getD cs ((0 : Nat) + Int.toNat i * (4 : Nat) + (1 : Nat) + (1 : Nat) + (1 : Nat)) (AV.tup []))) = true ∧
    ((decide ((0 : Int) ≤ i ∧ i < (↑n : Int))) = true ∧
    ((decide ((0 : Nat) + Int.toNat i * (4 : Nat) + (4 : Nat) ≤ List.length cs)) = true ∧
    ((AV.isI IntKind.i64 (List.getD cs ((0 : Nat) + Int.toNat i * (4 : Nat)) (AV.tup []))) = true ∧
    ((AV.isI IntKind.i64 (List.getD cs ((0 : Nat) + Int.toNat i * (4 : Nat) + (1 : Nat)) (AV.tup []))) = true ∧
    ((AV.isI IntKind.i64 (List.getD cs ((0 : Nat) + Int.toNat i * (4 : Nat) + (1 : Nat) + (1 : Nat)) (AV.tup []))) = true ∧
    ((AV.isB (List.getD cs ((0 : Nat) + Int.toNat i * (4 : Nat) + (1 : Nat) + (1 : Nat) + (1 : Nat)) (AV.tup []))) = true ∧
    (((!(AV.toI (List.getD cs ((0 : Nat) + Int.toNat i * (4 : Nat)) (AV.tup [])) ==
      AV.toI (List.getD cs ((0 : Nat) + Int.toNat i * (4 : Nat)) (AV.tup [])) &&
    (AV.toI (List.getD cs ((0 : Nat) + Int.toNat i * (4 : Nat) + (1 : Nat)) (AV.tup [])) ==
        AV.toI (List.getD cs ((0 : Nat) + Int.toNat i * (4 : Nat) + (1 : Nat)) (AV.tup [])) &&
      (AV.toI (List.getD cs ((0 : Nat) + Int.toNat i * (4 : Nat) + (1 : Nat) + (1 : Nat)) (AV.tup [])) ==
          AV.toI (List.getD cs ((0 : Nat) + Int.toNat i * (4 : Nat) + (1 : Nat) + (1 : Nat)) (AV.tup [])) &&
        (AV.toB (List.getD cs ((0 : Nat) + Int.toNat i * (4 : Nat) + (1 : Nat) + (1 : Nat) + (1 : Nat)) (AV.tup [])) ==
            AV.toB
              (List.getD cs ((0 : Nat) + Int.toNat i * (4 : Nat) + (1 : Nat) + (1 : Nat) + (1 : Nat)) (AV.tup [])) &&
          true))))) = true →
      Q Exit.ret (26 : Nat)
  [some (AV.slice (0 : Nat) (0 : Nat) n none), some (AV.slice (1 : Nat) (0 : Nat) n none), some (AV.int IntKind.i64 i)]
  { nx := (2 : Nat), m := [((1 : Nat), AObj.ro cs), ((0 : Nat), AObj.ro cs)] }) ∧
    ((!(AV.toI (List.getD cs ((0 : Nat) + Int.toNat i * (4 : Nat)) (AV.tup [])) ==
      AV.toI (List.getD cs ((0 : Nat) + Int.toNat i * (4 : Nat)) (AV.tup [])) &&
    (AV.toI (List.getD cs ((0 : Nat) + Int.toNat i * (4 : Nat) + (1 : Nat)) (AV.tup [])) ==
        AV.toI (List.getD cs ((0 : Nat) + Int.toNat i * (4 : Nat) + (1 : Nat)) (AV.tup [])) &&
      (AV.toI (List.getD cs ((0 : Nat) + Int.toNat i * (4 : Nat) + (1 : Nat) + (1 : Nat)) (AV.tup [])) ==
          AV.toI (List.getD cs ((0 : Nat) + Int.toNat i * (4 : Nat) + (1 : Nat) + (1 : Nat)) (AV.tup [])) &&
        (AV.toB (List.getD cs ((0 : Nat) + Int.toNat i * (4 : Nat) + (1 : Nat) + (1 : Nat) + (1 : Nat)) (AV.tup [])) ==
            AV.toB
              (List.getD cs ((0 : Nat) + Int.toNat i * (4 : Nat) + (1 : Nat) + (1 : Nat) + (1 : Nat)) (AV.tup [])) &&
          true))))) = false →
      N (26 : Nat)
  [some (AV.slice (0 : Nat) (0 : Nat) n none), some (AV.slice (1 : Nat) (0 : Nat) n none),
    some (AV.int IntKind.i64 (IntKind.wrap IntKind.i64 (i + (1 : Int))))]
  { nx := (2 : Nat), m := [((1 : Nat), AObj.ro cs), ((0 : Nat), AObj.ro cs)] })))))))))))))) ∧
  ((decide (i < (↑n : Int))) = false →
    Q (Exit.exit (0 : Nat)) (26 : Nat)
  [some (AV.slice (0 : Nat) (0 : Nat) n none), some (AV.slice (1 : Nat) (0 : Nat) n none), some (AV.int IntKind.i64 i)]
  { nx := (2 : Nat), m := [((1 : Nat), AObj.ro cs), ((0 : Nat), AObj.ro cs)] })
def tR_scr : Plan := .b (.t (.t (.t (.t (.t (.t (.t (.t (.t (.t (.t (.t (.b (.z) (.z)))))))))))))) (.z)
theorem tR_vc (n : Nat) (i : Int) (cs : List AV) (N : NS) (Q : QS) (K : Unit) : (wpP XK1 (symC Try.prog (bodyOf Try.prog 8) []) 2 (loopAt Try.prog 8 0) 0 (rndS [0, 1, 5] N Q) (tFr n i) (tHp cs) tR_scr) = tR_VC n i cs N Q K := by kernel_rfl
end Go.Proofs.Yteneafgmcmgahaa.V
