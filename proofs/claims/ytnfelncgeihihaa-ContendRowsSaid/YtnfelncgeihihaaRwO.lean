/- Printed by vc.py: what must hold for functions' ways (RwO). -/
import Derived.Test.YtnfelncgeihihaaRwM
namespace Go.Proofs.Ytnfelncgeihihaa.V
open Go Go.Proofs
set_option maxRecDepth 100000
set_option linter.unusedVariables false
def chN_VC (L C T R F W U t u i : Int) (n c : Nat) (qs bs : List AV) (N : NS) (Q : QS) (K : Unit) : Prop :=
 ((decide (i < (↑n : Int))) = true →
 (decide ((0 : Int) ≤ i ∧ i < (↑n : Int))) = true ∧
 ((decide (0 + Int.toNat i * 4 + 4 ≤ List.length qs)) = true ∧
 ((AV.isI IntKind.i64 (List.getD qs (0 + Int.toNat i * 4) (AV.tup []))) = true ∧
 ((AV.isI IntKind.u16 (List.getD qs (0 + Int.toNat i * 4 + 1) (AV.tup []))) = true ∧
 ((AV.isI IntKind.u8 (List.getD qs (0 + Int.toNat i * 4 + 1 + 1) (AV.tup []))) = true ∧
 ((AV.isI IntKind.i64 (List.getD qs (0 + Int.toNat i * 4 + 1 + 1 + 1) (AV.tup []))) = true ∧
 (((!decide
 (stepE (AV.toI (List.getD qs (0 + Int.toNat i * 4) (AV.tup [])))
 (AV.toI (List.getD qs (0 + Int.toNat i * 4 + 1) (AV.tup [])))
 (AV.toI (List.getD qs (0 + Int.toNat i * 4 + 1 + 1) (AV.tup [])))
 (AV.toI (List.getD qs (0 + Int.toNat i * 4 + 1 + 1 + 1) (AV.tup []))) =
 (0 : Int))) = true →
 Q Exit.ret 208
 [some (AV.slice 0 0 n (some c)), some AV.nilslice, some (AV.int IntKind.i64 t),
 some (AV.int IntKind.i64 u), some (AV.ptr 2 0), some (AV.bool true), some (AV.int IntKind.i64 i)]
 { nx := 3, m :=
 [(2,
 AObj.cells 23
 [AV.int IntKind.i64 L, AV.int IntKind.i64 C, AV.int IntKind.i64 T, AV.int IntKind.i64 R,
 AV.int IntKind.i64 F, AV.int IntKind.i64 W, AV.int IntKind.i64 U]),
 (1, AObj.ro bs), (0, AObj.ro qs)] }) ∧
 ((!decide
 (stepE (AV.toI (List.getD qs (0 + Int.toNat i * 4) (AV.tup [])))
 (AV.toI (List.getD qs (0 + Int.toNat i * 4 + 1) (AV.tup [])))
 (AV.toI (List.getD qs (0 + Int.toNat i * 4 + 1 + 1) (AV.tup [])))
 (AV.toI (List.getD qs (0 + Int.toNat i * 4 + 1 + 1 + 1) (AV.tup []))) =
 (0 : Int))) = false →
 N 208
 [some (AV.slice 0 0 n (some c)), some AV.nilslice, some (AV.int IntKind.i64 t),
 some (AV.int IntKind.i64 u), some (AV.ptr 2 0), none,
 some (AV.int IntKind.i64 (IntKind.wrap IntKind.i64 (i + (1 : Int))))]
 { nx := 3, m :=
 [(2,
 AObj.cells 23
 [AV.int IntKind.i64 L, AV.int IntKind.i64 C, AV.int IntKind.i64 T, AV.int IntKind.i64 R,
 AV.int IntKind.i64 F, AV.int IntKind.i64 W, AV.int IntKind.i64 U]),
 (1, AObj.ro bs), (0, AObj.ro qs)] })))))))) ∧
 ((decide (i < (↑n : Int))) = false →
 Q (Exit.exit 0) 208
 [some (AV.slice 0 0 n (some c)), some AV.nilslice, some (AV.int IntKind.i64 t),
 some (AV.int IntKind.i64 u), some (AV.ptr 2 0), none, some (AV.int IntKind.i64 i)]
 { nx := 3, m :=
 [(2,
 AObj.cells 23
 [AV.int IntKind.i64 L, AV.int IntKind.i64 C, AV.int IntKind.i64 T, AV.int IntKind.i64 R,
 AV.int IntKind.i64 F, AV.int IntKind.i64 W, AV.int IntKind.i64 U]),
 (1, AObj.ro bs), (0, AObj.ro qs)] })
def chN_scr : Plan := .b (.t (.t (.t (.t (.t (.t (.b (.z) (.z)))))))) (.z)
theorem chN_vc (L C T R F W U t u i : Int) (n c : Nat) (qs bs : List AV) (N : NS) (Q : QS) (K : Unit) : (wpP XCo4 (symC Try.prog (bodyOf Try.prog 14) []) 2 (loopAt Try.prog 14 0) 0 (rndS [1, 2, 3, 4, 5, 10, 11] N Q) (chT .nilslice L C T R F W U t u i n c qs bs).1 (chT .nilslice L C T R F W U t u i n c qs bs).2 chN_scr) = chN_VC L C T R F W U t u i n c qs bs N Q K := by kernel_rfl
def cmN_VC (L C T R F W U e now i : Int) (n c : Nat) (qs bs : List AV) (acc : List Int) (N : NS) (Q : QS) (K : Unit) : Prop :=
 ((decide (i < (↑n : Int))) = true →
 (decide ((0 : Int) ≤ i ∧ i < (↑n : Int))) = true ∧
 ((decide (0 + Int.toNat i * 4 + 4 ≤ List.length qs)) = true ∧
 ((AV.isI IntKind.i64 (List.getD qs (0 + Int.toNat i * 4) (AV.tup []))) = true ∧
 ((AV.isI IntKind.u16 (List.getD qs (0 + Int.toNat i * 4 + 1) (AV.tup []))) = true ∧
 ((AV.isI IntKind.u8 (List.getD qs (0 + Int.toNat i * 4 + 1 + 1) (AV.tup []))) = true ∧
 ((AV.isI IntKind.i64 (List.getD qs (0 + Int.toNat i * 4 + 1 + 1 + 1) (AV.tup []))) = true ∧
 (((decide (i < (0 : Int))) = true →
 (decide (i < (0 : Int))) = true ∧
 ((decide (i < (0 : Int))) = true ∧
 (False))) ∧
 ((decide (i < (0 : Int))) = false →
 (decide (i < (0 : Int))) = false ∧
 ((decide (i < (0 : Int))) = false ∧
 ((decide (i < (0 : Int))) = false ∧
 ((decide (i < (0 : Int))) = false ∧
 (((!!decide
 (reqErr L C T R F W U (AV.toI (List.getD qs (0 + Int.toNat i * 4) (AV.tup [])))
 (AV.toI (List.getD qs (0 + Int.toNat i * 4 + 1) (AV.tup [])))
 (AV.toI (List.getD qs (0 + Int.toNat i * 4 + 1 + 1) (AV.tup [])))
 (AV.toI (List.getD qs (0 + Int.toNat i * 4 + 1 + 1 + 1) (AV.tup [])))
 now =
 (0 : Int))) = true →
 (!!decide
 (reqErr L C T R F W U (AV.toI (List.getD qs (0 + Int.toNat i * 4) (AV.tup [])))
 (AV.toI (List.getD qs (0 + Int.toNat i * 4 + 1) (AV.tup [])))
 (AV.toI (List.getD qs (0 + Int.toNat i * 4 + 1 + 1) (AV.tup [])))
 (AV.toI (List.getD qs (0 + Int.toNat i * 4 + 1 + 1 + 1) (AV.tup [])))
 now =
 (0 : Int))) = true ∧
 ((!!decide
 (reqErr L C T R F W U (AV.toI (List.getD qs (0 + Int.toNat i * 4) (AV.tup [])))
 (AV.toI (List.getD qs (0 + Int.toNat i * 4 + 1) (AV.tup [])))
 (AV.toI (List.getD qs (0 + Int.toNat i * 4 + 1 + 1) (AV.tup [])))
 (AV.toI (List.getD qs (0 + Int.toNat i * 4 + 1 + 1 + 1) (AV.tup [])))
 now =
 (0 : Int))) = true ∧
 ((!!decide
 (reqErr L C T R F W U (AV.toI (List.getD qs (0 + Int.toNat i * 4) (AV.tup [])))
 (AV.toI (List.getD qs (0 + Int.toNat i * 4 + 1) (AV.tup [])))
 (AV.toI (List.getD qs (0 + Int.toNat i * 4 + 1 + 1) (AV.tup [])))
 (AV.toI (List.getD qs (0 + Int.toNat i * 4 + 1 + 1 + 1) (AV.tup [])))
 now =
 (0 : Int))) = true ∧
 ((decide ((0 : Int) ≤ i ∧ i < (↑n : Int))) = true ∧
 ((!!decide
 (reqErr L C T R F W U (AV.toI (List.getD qs (0 + Int.toNat i * 4) (AV.tup [])))
 (AV.toI (List.getD qs (0 + Int.toNat i * 4 + 1) (AV.tup [])))
 (AV.toI (List.getD qs (0 + Int.toNat i * 4 + 1 + 1) (AV.tup [])))
 (AV.toI (List.getD qs (0 + Int.toNat i * 4 + 1 + 1 + 1) (AV.tup [])))
 now =
 (0 : Int))) = true ∧
 ((decide (0 + Int.toNat i * 1 < List.length (encI IntKind.i64 acc))) = true ∧
 ((AV.isI IntKind.i64 (List.getD (encI IntKind.i64 acc) (0 + Int.toNat i * 1) (AV.tup []))) = true ∧
 ((!!decide
 (reqErr L C T R F W U (AV.toI (List.getD qs (0 + Int.toNat i * 4) (AV.tup [])))
 (AV.toI (List.getD qs (0 + Int.toNat i * 4 + 1) (AV.tup [])))
 (AV.toI (List.getD qs (0 + Int.toNat i * 4 + 1 + 1) (AV.tup [])))
 (AV.toI (List.getD qs (0 + Int.toNat i * 4 + 1 + 1 + 1) (AV.tup [])))
 now =
 (0 : Int))) = true ∧
 ((!decide
 (reqErr L C T R F W U (AV.toI (List.getD qs (0 + Int.toNat i * 4) (AV.tup [])))
 (AV.toI (List.getD qs (0 + Int.toNat i * 4 + 1) (AV.tup [])))
 (AV.toI (List.getD qs (0 + Int.toNat i * 4 + 1 + 1) (AV.tup [])))
 (AV.toI (List.getD qs (0 + Int.toNat i * 4 + 1 + 1 + 1) (AV.tup [])))
 now =
 (0 : Int))) = false ∧
 (((!!decide
 (reqAt L C T R F W U (AV.toI (List.getD qs (0 + Int.toNat i * 4) (AV.tup [])))
 (AV.toI (List.getD qs (0 + Int.toNat i * 4 + 1) (AV.tup [])))
 (AV.toI (List.getD qs (0 + Int.toNat i * 4 + 1 + 1) (AV.tup [])))
 (AV.toI (List.getD qs (0 + Int.toNat i * 4 + 1 + 1 + 1) (AV.tup [])))
 false now =
 AV.toI (List.getD (encI IntKind.i64 acc) (0 + Int.toNat i * 1) (AV.tup [])))) = true →
 (!!decide
 (reqAt L C T R F W U (AV.toI (List.getD qs (0 + Int.toNat i * 4) (AV.tup [])))
 (AV.toI (List.getD qs (0 + Int.toNat i * 4 + 1) (AV.tup [])))
 (AV.toI (List.getD qs (0 + Int.toNat i * 4 + 1 + 1) (AV.tup [])))
 (AV.toI (List.getD qs (0 + Int.toNat i * 4 + 1 + 1 + 1) (AV.tup [])))
 false now =
 AV.toI (List.getD (encI IntKind.i64 acc) (0 + Int.toNat i * 1) (AV.tup [])))) = true ∧
 ((!!decide
 (reqAt L C T R F W U (AV.toI (List.getD qs (0 + Int.toNat i * 4) (AV.tup [])))
 (AV.toI (List.getD qs (0 + Int.toNat i * 4 + 1) (AV.tup [])))
 (AV.toI (List.getD qs (0 + Int.toNat i * 4 + 1 + 1) (AV.tup [])))
 (AV.toI (List.getD qs (0 + Int.toNat i * 4 + 1 + 1 + 1) (AV.tup [])))
 false now =
 AV.toI (List.getD (encI IntKind.i64 acc) (0 + Int.toNat i * 1) (AV.tup [])))) = true ∧
 ((!decide
 (reqAt L C T R F W U (AV.toI (List.getD qs (0 + Int.toNat i * 4) (AV.tup [])))
 (AV.toI (List.getD qs (0 + Int.toNat i * 4 + 1) (AV.tup [])))
 (AV.toI (List.getD qs (0 + Int.toNat i * 4 + 1 + 1) (AV.tup [])))
 (AV.toI (List.getD qs (0 + Int.toNat i * 4 + 1 + 1 + 1) (AV.tup [])))
 false now =
 AV.toI (List.getD (encI IntKind.i64 acc) (0 + Int.toNat i * 1) (AV.tup [])))) = false ∧
 (((!decide
 (reqAt L C T R F W U (AV.toI (List.getD qs (0 + Int.toNat i * 4) (AV.tup [])))
 (AV.toI (List.getD qs (0 + Int.toNat i * 4 + 1) (AV.tup [])))
 (AV.toI (List.getD qs (0 + Int.toNat i * 4 + 1 + 1) (AV.tup [])))
 (AV.toI (List.getD qs (0 + Int.toNat i * 4 + 1 + 1 + 1) (AV.tup [])))
 false now <
 now)) = true →
 (!decide
 (reqAt L C T R F W U (AV.toI (List.getD qs (0 + Int.toNat i * 4) (AV.tup [])))
 (AV.toI (List.getD qs (0 + Int.toNat i * 4 + 1) (AV.tup [])))
 (AV.toI (List.getD qs (0 + Int.toNat i * 4 + 1 + 1) (AV.tup [])))
 (AV.toI (List.getD qs (0 + Int.toNat i * 4 + 1 + 1 + 1) (AV.tup [])))
 false now <
 now)) = true ∧
 ((!decide
 (reqAt L C T R F W U (AV.toI (List.getD qs (0 + Int.toNat i * 4) (AV.tup [])))
 (AV.toI (List.getD qs (0 + Int.toNat i * 4 + 1) (AV.tup [])))
 (AV.toI (List.getD qs (0 + Int.toNat i * 4 + 1 + 1) (AV.tup [])))
 (AV.toI (List.getD qs (0 + Int.toNat i * 4 + 1 + 1 + 1) (AV.tup [])))
 false now <
 now)) = true ∧
 ((decide
 (reqAt L C T R F W U (AV.toI (List.getD qs (0 + Int.toNat i * 4) (AV.tup [])))
 (AV.toI (List.getD qs (0 + Int.toNat i * 4 + 1) (AV.tup [])))
 (AV.toI (List.getD qs (0 + Int.toNat i * 4 + 1 + 1) (AV.tup [])))
 (AV.toI (List.getD qs (0 + Int.toNat i * 4 + 1 + 1 + 1) (AV.tup [])))
 false now <
 now)) = false ∧
 (((!decide
 (reqAt L C T R F W U (AV.toI (List.getD qs (0 + Int.toNat i * 4) (AV.tup [])))
 (AV.toI (List.getD qs (0 + Int.toNat i * 4 + 1) (AV.tup [])))
 (AV.toI (List.getD qs (0 + Int.toNat i * 4 + 1 + 1) (AV.tup [])))
 (AV.toI (List.getD qs (0 + Int.toNat i * 4 + 1 + 1 + 1) (AV.tup [])))
 false now ≥
 reqEnd L C T R F W U (AV.toI (List.getD qs (0 + Int.toNat i * 4) (AV.tup [])))
 (AV.toI (List.getD qs (0 + Int.toNat i * 4 + 1) (AV.tup [])))
 (AV.toI (List.getD qs (0 + Int.toNat i * 4 + 1 + 1) (AV.tup [])))
 (AV.toI (List.getD qs (0 + Int.toNat i * 4 + 1 + 1 + 1) (AV.tup [])))
 false now)) = true →
 (!decide
 (reqAt L C T R F W U (AV.toI (List.getD qs (0 + Int.toNat i * 4) (AV.tup [])))
 (AV.toI (List.getD qs (0 + Int.toNat i * 4 + 1) (AV.tup [])))
 (AV.toI (List.getD qs (0 + Int.toNat i * 4 + 1 + 1) (AV.tup [])))
 (AV.toI (List.getD qs (0 + Int.toNat i * 4 + 1 + 1 + 1) (AV.tup [])))
 false now ≥
 reqEnd L C T R F W U (AV.toI (List.getD qs (0 + Int.toNat i * 4) (AV.tup [])))
 (AV.toI (List.getD qs (0 + Int.toNat i * 4 + 1) (AV.tup [])))
 (AV.toI (List.getD qs (0 + Int.toNat i * 4 + 1 + 1) (AV.tup [])))
 (AV.toI (List.getD qs (0 + Int.toNat i * 4 + 1 + 1 + 1) (AV.tup [])))
 false now)) = true ∧
 ((!decide
 (reqAt L C T R F W U (AV.toI (List.getD qs (0 + Int.toNat i * 4) (AV.tup [])))
 (AV.toI (List.getD qs (0 + Int.toNat i * 4 + 1) (AV.tup [])))
 (AV.toI (List.getD qs (0 + Int.toNat i * 4 + 1 + 1) (AV.tup [])))
 (AV.toI (List.getD qs (0 + Int.toNat i * 4 + 1 + 1 + 1) (AV.tup [])))
 false now ≥
 reqEnd L C T R F W U (AV.toI (List.getD qs (0 + Int.toNat i * 4) (AV.tup [])))
 (AV.toI (List.getD qs (0 + Int.toNat i * 4 + 1) (AV.tup [])))
 (AV.toI (List.getD qs (0 + Int.toNat i * 4 + 1 + 1) (AV.tup [])))
 (AV.toI (List.getD qs (0 + Int.toNat i * 4 + 1 + 1 + 1) (AV.tup [])))
 false now)) = true ∧
 ((!decide
 (reqAt L C T R F W U (AV.toI (List.getD qs (0 + Int.toNat i * 4) (AV.tup [])))
 (AV.toI (List.getD qs (0 + Int.toNat i * 4 + 1) (AV.tup [])))
 (AV.toI (List.getD qs (0 + Int.toNat i * 4 + 1 + 1) (AV.tup [])))
 (AV.toI (List.getD qs (0 + Int.toNat i * 4 + 1 + 1 + 1) (AV.tup [])))
 false now ≥
 reqEnd L C T R F W U (AV.toI (List.getD qs (0 + Int.toNat i * 4) (AV.tup [])))
 (AV.toI (List.getD qs (0 + Int.toNat i * 4 + 1) (AV.tup [])))
 (AV.toI (List.getD qs (0 + Int.toNat i * 4 + 1 + 1) (AV.tup [])))
 (AV.toI (List.getD qs (0 + Int.toNat i * 4 + 1 + 1 + 1) (AV.tup [])))
 false now)) = true ∧
 ((!decide
 (reqAt L C T R F W U (AV.toI (List.getD qs (0 + Int.toNat i * 4) (AV.tup [])))
 (AV.toI (List.getD qs (0 + Int.toNat i * 4 + 1) (AV.tup [])))
 (AV.toI (List.getD qs (0 + Int.toNat i * 4 + 1 + 1) (AV.tup [])))
 (AV.toI (List.getD qs (0 + Int.toNat i * 4 + 1 + 1 + 1) (AV.tup [])))
 false now ≥
 reqEnd L C T R F W U (AV.toI (List.getD qs (0 + Int.toNat i * 4) (AV.tup [])))
 (AV.toI (List.getD qs (0 + Int.toNat i * 4 + 1) (AV.tup [])))
 (AV.toI (List.getD qs (0 + Int.toNat i * 4 + 1 + 1) (AV.tup [])))
 (AV.toI (List.getD qs (0 + Int.toNat i * 4 + 1 + 1 + 1) (AV.tup [])))
 false now)) = true ∧
 ((decide ((0 : Int) ≤ i ∧ i < (↑n : Int))) = true ∧
 ((!decide
 (reqAt L C T R F W U (AV.toI (List.getD qs (0 + Int.toNat i * 4) (AV.tup [])))
 (AV.toI (List.getD qs (0 + Int.toNat i * 4 + 1) (AV.tup [])))
 (AV.toI (List.getD qs (0 + Int.toNat i * 4 + 1 + 1) (AV.tup [])))
 (AV.toI (List.getD qs (0 + Int.toNat i * 4 + 1 + 1 + 1) (AV.tup [])))
 false now ≥
 reqEnd L C T R F W U (AV.toI (List.getD qs (0 + Int.toNat i * 4) (AV.tup [])))
 (AV.toI (List.getD qs (0 + Int.toNat i * 4 + 1) (AV.tup [])))
 (AV.toI (List.getD qs (0 + Int.toNat i * 4 + 1 + 1) (AV.tup [])))
 (AV.toI (List.getD qs (0 + Int.toNat i * 4 + 1 + 1 + 1) (AV.tup [])))
 false now)) = true ∧
 ((!decide
 (reqAt L C T R F W U (AV.toI (List.getD qs (0 + Int.toNat i * 4) (AV.tup [])))
 (AV.toI (List.getD qs (0 + Int.toNat i * 4 + 1) (AV.tup [])))
 (AV.toI (List.getD qs (0 + Int.toNat i * 4 + 1 + 1) (AV.tup [])))
 (AV.toI (List.getD qs (0 + Int.toNat i * 4 + 1 + 1 + 1) (AV.tup [])))
 false now ≥
 reqEnd L C T R F W U (AV.toI (List.getD qs (0 + Int.toNat i * 4) (AV.tup [])))
 (AV.toI (List.getD qs (0 + Int.toNat i * 4 + 1) (AV.tup [])))
 (AV.toI (List.getD qs (0 + Int.toNat i * 4 + 1 + 1) (AV.tup [])))
 (AV.toI (List.getD qs (0 + Int.toNat i * 4 + 1 + 1 + 1) (AV.tup [])))
 false now)) = true ∧
 ((decide (0 + Int.toNat i * 4 + 3 < List.length qs)) = true ∧
 ((AV.isI IntKind.i64 (List.getD qs (0 + Int.toNat i * 4 + 3) (AV.tup []))) = true ∧
 ((!decide
 (reqAt L C T R F W U (AV.toI (List.getD qs (0 + Int.toNat i * 4) (AV.tup [])))
 (AV.toI (List.getD qs (0 + Int.toNat i * 4 + 1) (AV.tup [])))
 (AV.toI (List.getD qs (0 + Int.toNat i * 4 + 1 + 1) (AV.tup [])))
 (AV.toI (List.getD qs (0 + Int.toNat i * 4 + 1 + 1 + 1) (AV.tup [])))
 false now ≥
 reqEnd L C T R F W U (AV.toI (List.getD qs (0 + Int.toNat i * 4) (AV.tup [])))
 (AV.toI (List.getD qs (0 + Int.toNat i * 4 + 1) (AV.tup [])))
 (AV.toI (List.getD qs (0 + Int.toNat i * 4 + 1 + 1) (AV.tup [])))
 (AV.toI (List.getD qs (0 + Int.toNat i * 4 + 1 + 1 + 1) (AV.tup [])))
 false now)) = true ∧
 ((!decide
 (reqAt L C T R F W U (AV.toI (List.getD qs (0 + Int.toNat i * 4) (AV.tup [])))
 (AV.toI (List.getD qs (0 + Int.toNat i * 4 + 1) (AV.tup [])))
 (AV.toI (List.getD qs (0 + Int.toNat i * 4 + 1 + 1) (AV.tup [])))
 (AV.toI (List.getD qs (0 + Int.toNat i * 4 + 1 + 1 + 1) (AV.tup [])))
 false now ≥
 reqEnd L C T R F W U (AV.toI (List.getD qs (0 + Int.toNat i * 4) (AV.tup [])))
 (AV.toI (List.getD qs (0 + Int.toNat i * 4 + 1) (AV.tup [])))
 (AV.toI (List.getD qs (0 + Int.toNat i * 4 + 1 + 1) (AV.tup [])))
 (AV.toI (List.getD qs (0 + Int.toNat i * 4 + 1 + 1 + 1) (AV.tup [])))
 false now)) = true ∧
 ((decide
 (reqAt L C T R F W U (AV.toI (List.getD qs (0 + Int.toNat i * 4) (AV.tup [])))
 (AV.toI (List.getD qs (0 + Int.toNat i * 4 + 1) (AV.tup [])))
 (AV.toI (List.getD qs (0 + Int.toNat i * 4 + 1 + 1) (AV.tup [])))
 (AV.toI (List.getD qs (0 + Int.toNat i * 4 + 1 + 1 + 1) (AV.tup [])))
 false now ≥
 reqEnd L C T R F W U (AV.toI (List.getD qs (0 + Int.toNat i * 4) (AV.tup [])))
 (AV.toI (List.getD qs (0 + Int.toNat i * 4 + 1) (AV.tup [])))
 (AV.toI (List.getD qs (0 + Int.toNat i * 4 + 1 + 1) (AV.tup [])))
 (AV.toI (List.getD qs (0 + Int.toNat i * 4 + 1 + 1 + 1) (AV.tup [])))
 false now)) = false ∧
 (((!decide
 (reqEnd L C T R F W U (AV.toI (List.getD qs (0 + Int.toNat i * 4) (AV.tup [])))
 (AV.toI (List.getD qs (0 + Int.toNat i * 4 + 1) (AV.tup [])))
 (AV.toI (List.getD qs (0 + Int.toNat i * 4 + 1 + 1) (AV.tup [])))
 (AV.toI (List.getD qs (0 + Int.toNat i * 4 + 1 + 1 + 1) (AV.tup [])))
 false now <
 IntKind.wrap IntKind.i64
 (now + AV.toI (List.getD qs (0 + Int.toNat i * 4 + 3) (AV.tup []))))) = true →
 (!decide
 (reqEnd L C T R F W U (AV.toI (List.getD qs (0 + Int.toNat i * 4) (AV.tup [])))
 (AV.toI (List.getD qs (0 + Int.toNat i * 4 + 1) (AV.tup [])))
 (AV.toI (List.getD qs (0 + Int.toNat i * 4 + 1 + 1) (AV.tup [])))
 (AV.toI (List.getD qs (0 + Int.toNat i * 4 + 1 + 1 + 1) (AV.tup [])))
 false now <
 IntKind.wrap IntKind.i64
 (now + AV.toI (List.getD qs (0 + Int.toNat i * 4 + 3) (AV.tup []))))) = true ∧
 ((!decide
 (reqEnd L C T R F W U (AV.toI (List.getD qs (0 + Int.toNat i * 4) (AV.tup [])))
 (AV.toI (List.getD qs (0 + Int.toNat i * 4 + 1) (AV.tup [])))
 (AV.toI (List.getD qs (0 + Int.toNat i * 4 + 1 + 1) (AV.tup [])))
 (AV.toI (List.getD qs (0 + Int.toNat i * 4 + 1 + 1 + 1) (AV.tup [])))
 false now <
 IntKind.wrap IntKind.i64
 (now + AV.toI (List.getD qs (0 + Int.toNat i * 4 + 3) (AV.tup []))))) = true ∧
 ((!decide
 (reqEnd L C T R F W U (AV.toI (List.getD qs (0 + Int.toNat i * 4) (AV.tup [])))
 (AV.toI (List.getD qs (0 + Int.toNat i * 4 + 1) (AV.tup [])))
 (AV.toI (List.getD qs (0 + Int.toNat i * 4 + 1 + 1) (AV.tup [])))
 (AV.toI (List.getD qs (0 + Int.toNat i * 4 + 1 + 1 + 1) (AV.tup [])))
 false now <
 IntKind.wrap IntKind.i64
 (now + AV.toI (List.getD qs (0 + Int.toNat i * 4 + 3) (AV.tup []))))) = true ∧
 ((!decide
 (reqEnd L C T R F W U (AV.toI (List.getD qs (0 + Int.toNat i * 4) (AV.tup [])))
 (AV.toI (List.getD qs (0 + Int.toNat i * 4 + 1) (AV.tup [])))
 (AV.toI (List.getD qs (0 + Int.toNat i * 4 + 1 + 1) (AV.tup [])))
 (AV.toI (List.getD qs (0 + Int.toNat i * 4 + 1 + 1 + 1) (AV.tup [])))
 false now <
 IntKind.wrap IntKind.i64
 (now + AV.toI (List.getD qs (0 + Int.toNat i * 4 + 3) (AV.tup []))))) = true ∧
 ((decide ((0 : Int) ≤ i ∧ i < (↑n : Int))) = true ∧
 ((!decide
 (reqEnd L C T R F W U (AV.toI (List.getD qs (0 + Int.toNat i * 4) (AV.tup [])))
 (AV.toI (List.getD qs (0 + Int.toNat i * 4 + 1) (AV.tup [])))
 (AV.toI (List.getD qs (0 + Int.toNat i * 4 + 1 + 1) (AV.tup [])))
 (AV.toI (List.getD qs (0 + Int.toNat i * 4 + 1 + 1 + 1) (AV.tup [])))
 false now <
 IntKind.wrap IntKind.i64
 (now + AV.toI (List.getD qs (0 + Int.toNat i * 4 + 3) (AV.tup []))))) = true ∧
 ((!decide
 (reqEnd L C T R F W U (AV.toI (List.getD qs (0 + Int.toNat i * 4) (AV.tup [])))
 (AV.toI (List.getD qs (0 + Int.toNat i * 4 + 1) (AV.tup [])))
 (AV.toI (List.getD qs (0 + Int.toNat i * 4 + 1 + 1) (AV.tup [])))
 (AV.toI (List.getD qs (0 + Int.toNat i * 4 + 1 + 1 + 1) (AV.tup [])))
 false now <
 IntKind.wrap IntKind.i64
 (now + AV.toI (List.getD qs (0 + Int.toNat i * 4 + 3) (AV.tup []))))) = true ∧
 ((decide (0 + Int.toNat i * 4 + 3 < List.length qs)) = true ∧
 ((AV.isI IntKind.i64 (List.getD qs (0 + Int.toNat i * 4 + 3) (AV.tup []))) = true ∧
 ((!decide
 (reqEnd L C T R F W U (AV.toI (List.getD qs (0 + Int.toNat i * 4) (AV.tup [])))
 (AV.toI (List.getD qs (0 + Int.toNat i * 4 + 1) (AV.tup [])))
 (AV.toI (List.getD qs (0 + Int.toNat i * 4 + 1 + 1) (AV.tup [])))
 (AV.toI (List.getD qs (0 + Int.toNat i * 4 + 1 + 1 + 1) (AV.tup [])))
 false now <
 IntKind.wrap IntKind.i64
 (now + AV.toI (List.getD qs (0 + Int.toNat i * 4 + 3) (AV.tup []))))) = true ∧
 ((!decide
 (reqEnd L C T R F W U (AV.toI (List.getD qs (0 + Int.toNat i * 4) (AV.tup [])))
 (AV.toI (List.getD qs (0 + Int.toNat i * 4 + 1) (AV.tup [])))
 (AV.toI (List.getD qs (0 + Int.toNat i * 4 + 1 + 1) (AV.tup [])))
 (AV.toI (List.getD qs (0 + Int.toNat i * 4 + 1 + 1 + 1) (AV.tup [])))
 false now <
 IntKind.wrap IntKind.i64
 (now + AV.toI (List.getD qs (0 + Int.toNat i * 4 + 3) (AV.tup []))))) = true ∧
 ((!decide
 (reqEnd L C T R F W U (AV.toI (List.getD qs (0 + Int.toNat i * 4) (AV.tup [])))
 (AV.toI (List.getD qs (0 + Int.toNat i * 4 + 1) (AV.tup [])))
 (AV.toI (List.getD qs (0 + Int.toNat i * 4 + 1 + 1) (AV.tup [])))
 (AV.toI (List.getD qs (0 + Int.toNat i * 4 + 1 + 1 + 1) (AV.tup [])))
 false now <
 IntKind.wrap IntKind.i64
 (now + AV.toI (List.getD qs (0 + Int.toNat i * 4 + 3) (AV.tup []))))) = true ∧
 ((!decide
 (reqEnd L C T R F W U (AV.toI (List.getD qs (0 + Int.toNat i * 4) (AV.tup [])))
 (AV.toI (List.getD qs (0 + Int.toNat i * 4 + 1) (AV.tup [])))
 (AV.toI (List.getD qs (0 + Int.toNat i * 4 + 1 + 1) (AV.tup [])))
 (AV.toI (List.getD qs (0 + Int.toNat i * 4 + 1 + 1 + 1) (AV.tup [])))
 false now <
 IntKind.wrap IntKind.i64
 (now + AV.toI (List.getD qs (0 + Int.toNat i * 4 + 3) (AV.tup []))))) = true ∧
 ((decide ((0 : Int) ≤ i ∧ i < (↑n : Int))) = true ∧
 ((!decide
 (reqEnd L C T R F W U (AV.toI (List.getD qs (0 + Int.toNat i * 4) (AV.tup [])))
 (AV.toI (List.getD qs (0 + Int.toNat i * 4 + 1) (AV.tup [])))
 (AV.toI (List.getD qs (0 + Int.toNat i * 4 + 1 + 1) (AV.tup [])))
 (AV.toI (List.getD qs (0 + Int.toNat i * 4 + 1 + 1 + 1) (AV.tup [])))
 false now <
 IntKind.wrap IntKind.i64
 (now + AV.toI (List.getD qs (0 + Int.toNat i * 4 + 3) (AV.tup []))))) = true ∧
 ((decide (0 + Int.toNat i * 4 + 4 ≤ List.length qs)) = true ∧
 ((AV.isI IntKind.i64 (List.getD qs (0 + Int.toNat i * 4) (AV.tup []))) = true ∧
 ((AV.isI IntKind.u16 (List.getD qs (0 + Int.toNat i * 4 + 1) (AV.tup []))) = true ∧
 ((AV.isI IntKind.u8 (List.getD qs (0 + Int.toNat i * 4 + 1 + 1) (AV.tup []))) = true ∧
 ((AV.isI IntKind.i64 (List.getD qs (0 + Int.toNat i * 4 + 1 + 1 + 1) (AV.tup []))) = true ∧
 ((!decide
 (reqEnd L C T R F W U (AV.toI (List.getD qs (0 + Int.toNat i * 4) (AV.tup [])))
 (AV.toI (List.getD qs (0 + Int.toNat i * 4 + 1) (AV.tup [])))
 (AV.toI (List.getD qs (0 + Int.toNat i * 4 + 1 + 1) (AV.tup [])))
 (AV.toI (List.getD qs (0 + Int.toNat i * 4 + 1 + 1 + 1) (AV.tup [])))
 false now <
 IntKind.wrap IntKind.i64
 (now + AV.toI (List.getD qs (0 + Int.toNat i * 4 + 3) (AV.tup []))))) = true ∧
 ((!decide
 (reqEnd L C T R F W U (AV.toI (List.getD qs (0 + Int.toNat i * 4) (AV.tup [])))
 (AV.toI (List.getD qs (0 + Int.toNat i * 4 + 1) (AV.tup [])))
 (AV.toI (List.getD qs (0 + Int.toNat i * 4 + 1 + 1) (AV.tup [])))
 (AV.toI (List.getD qs (0 + Int.toNat i * 4 + 1 + 1 + 1) (AV.tup [])))
 false now <
 IntKind.wrap IntKind.i64
 (now + AV.toI (List.getD qs (0 + Int.toNat i * 4 + 3) (AV.tup []))))) = true ∧
 ((!decide
 (reqEnd L C T R F W U (AV.toI (List.getD qs (0 + Int.toNat i * 4) (AV.tup [])))
 (AV.toI (List.getD qs (0 + Int.toNat i * 4 + 1) (AV.tup [])))
 (AV.toI (List.getD qs (0 + Int.toNat i * 4 + 1 + 1) (AV.tup [])))
 (AV.toI (List.getD qs (0 + Int.toNat i * 4 + 1 + 1 + 1) (AV.tup [])))
 false now <
 IntKind.wrap IntKind.i64
 (now + AV.toI (List.getD qs (0 + Int.toNat i * 4 + 3) (AV.tup []))))) = true ∧
 ((!decide
 (reqEnd L C T R F W U (AV.toI (List.getD qs (0 + Int.toNat i * 4) (AV.tup [])))
 (AV.toI (List.getD qs (0 + Int.toNat i * 4 + 1) (AV.tup [])))
 (AV.toI (List.getD qs (0 + Int.toNat i * 4 + 1 + 1) (AV.tup [])))
 (AV.toI (List.getD qs (0 + Int.toNat i * 4 + 1 + 1 + 1) (AV.tup [])))
 false now <
 IntKind.wrap IntKind.i64
 (now + AV.toI (List.getD qs (0 + Int.toNat i * 4 + 3) (AV.tup []))))) = true ∧
 ((decide
 (reqEnd L C T R F W U (AV.toI (List.getD qs (0 + Int.toNat i * 4) (AV.tup [])))
 (AV.toI (List.getD qs (0 + Int.toNat i * 4 + 1) (AV.tup [])))
 (AV.toI (List.getD qs (0 + Int.toNat i * 4 + 1 + 1) (AV.tup [])))
 (AV.toI (List.getD qs (0 + Int.toNat i * 4 + 1 + 1 + 1) (AV.tup [])))
 false now <
 IntKind.wrap IntKind.i64
 (now + AV.toI (List.getD qs (0 + Int.toNat i * 4 + 3) (AV.tup []))))) = false ∧
 (((decide
 (reqEnd L C T R F W U (AV.toI (List.getD qs (0 + Int.toNat i * 4) (AV.tup [])))
 (AV.toI (List.getD qs (0 + Int.toNat i * 4 + 1) (AV.tup [])))
 (AV.toI (List.getD qs (0 + Int.toNat i * 4 + 1 + 1) (AV.tup [])))
 (AV.toI (List.getD qs (0 + Int.toNat i * 4 + 1 + 1 + 1) (AV.tup [])))
 false now >
 IntKind.wrap IntKind.i64
 (now +
 IntKind.wrap IntKind.i64
 (AV.toI (List.getD qs (0 + Int.toNat i * 4 + 3) (AV.tup [])) +
 mostN L C T R F W U (AV.toI (List.getD qs (0 + Int.toNat i * 4) (AV.tup []))))))) = true →
 Q Exit.ret 208
 [some (AV.slice 0 0 n (some c)), some AV.nilslice, some (AV.ptr 2 0),
 some (AV.slice 3 0 n none), some (AV.int IntKind.i64 e), some (AV.int IntKind.i64 now),
 some (AV.int IntKind.i64 i)]
 { nx := 4, m :=
 [(3, AObj.opn 2 1 (encI IntKind.i64 acc)),
 (2,
 AObj.cells 23
 [AV.int IntKind.i64 L, AV.int IntKind.i64 C, AV.int IntKind.i64 T, AV.int IntKind.i64 R,
 AV.int IntKind.i64 F, AV.int IntKind.i64 W, AV.int IntKind.i64 U]),
 (1, AObj.ro bs), (0, AObj.ro qs)] }) ∧
 ((decide
 (reqEnd L C T R F W U (AV.toI (List.getD qs (0 + Int.toNat i * 4) (AV.tup [])))
 (AV.toI (List.getD qs (0 + Int.toNat i * 4 + 1) (AV.tup [])))
 (AV.toI (List.getD qs (0 + Int.toNat i * 4 + 1 + 1) (AV.tup [])))
 (AV.toI (List.getD qs (0 + Int.toNat i * 4 + 1 + 1 + 1) (AV.tup [])))
 false now >
 IntKind.wrap IntKind.i64
 (now +
 IntKind.wrap IntKind.i64
 (AV.toI (List.getD qs (0 + Int.toNat i * 4 + 3) (AV.tup [])) +
 mostN L C T R F W U (AV.toI (List.getD qs (0 + Int.toNat i * 4) (AV.tup []))))))) = false →
 N 208
 [some (AV.slice 0 0 n (some c)), some AV.nilslice, some (AV.ptr 2 0),
 some (AV.slice 3 0 n none), some (AV.int IntKind.i64 e),
 some
 (AV.int IntKind.i64
 (reqEnd L C T R F W U (AV.toI (List.getD qs (0 + Int.toNat i * 4) (AV.tup [])))
 (AV.toI (List.getD qs (0 + Int.toNat i * 4 + 1) (AV.tup [])))
 (AV.toI (List.getD qs (0 + Int.toNat i * 4 + 1 + 1) (AV.tup [])))
 (AV.toI (List.getD qs (0 + Int.toNat i * 4 + 1 + 1 + 1) (AV.tup [])))
 false now)),
 some (AV.int IntKind.i64 (IntKind.wrap IntKind.i64 (i + (1 : Int))))]
 { nx := 4, m :=
 [(3, AObj.opn 2 1 (encI IntKind.i64 acc)),
 (2,
 AObj.cells 23
 [AV.int IntKind.i64 L, AV.int IntKind.i64 C, AV.int IntKind.i64 T, AV.int IntKind.i64 R,
 AV.int IntKind.i64 F, AV.int IntKind.i64 W, AV.int IntKind.i64 U]),
 (1, AObj.ro bs), (0, AObj.ro qs)] }))))))))))))))))))))))))))) ∧
 ((!decide
 (reqEnd L C T R F W U (AV.toI (List.getD qs (0 + Int.toNat i * 4) (AV.tup [])))
 (AV.toI (List.getD qs (0 + Int.toNat i * 4 + 1) (AV.tup [])))
 (AV.toI (List.getD qs (0 + Int.toNat i * 4 + 1 + 1) (AV.tup [])))
 (AV.toI (List.getD qs (0 + Int.toNat i * 4 + 1 + 1 + 1) (AV.tup [])))
 false now <
 IntKind.wrap IntKind.i64
 (now + AV.toI (List.getD qs (0 + Int.toNat i * 4 + 3) (AV.tup []))))) = false →
 (!decide
 (reqEnd L C T R F W U (AV.toI (List.getD qs (0 + Int.toNat i * 4) (AV.tup [])))
 (AV.toI (List.getD qs (0 + Int.toNat i * 4 + 1) (AV.tup [])))
 (AV.toI (List.getD qs (0 + Int.toNat i * 4 + 1 + 1) (AV.tup [])))
 (AV.toI (List.getD qs (0 + Int.toNat i * 4 + 1 + 1 + 1) (AV.tup [])))
 false now <
 IntKind.wrap IntKind.i64
 (now + AV.toI (List.getD qs (0 + Int.toNat i * 4 + 3) (AV.tup []))))) = false ∧
 ((!decide
 (reqEnd L C T R F W U (AV.toI (List.getD qs (0 + Int.toNat i * 4) (AV.tup [])))
 (AV.toI (List.getD qs (0 + Int.toNat i * 4 + 1) (AV.tup [])))
 (AV.toI (List.getD qs (0 + Int.toNat i * 4 + 1 + 1) (AV.tup [])))
 (AV.toI (List.getD qs (0 + Int.toNat i * 4 + 1 + 1 + 1) (AV.tup [])))
 false now <
 IntKind.wrap IntKind.i64
 (now + AV.toI (List.getD qs (0 + Int.toNat i * 4 + 3) (AV.tup []))))) = false ∧
 ((!decide
 (reqEnd L C T R F W U (AV.toI (List.getD qs (0 + Int.toNat i * 4) (AV.tup [])))
 (AV.toI (List.getD qs (0 + Int.toNat i * 4 + 1) (AV.tup [])))
 (AV.toI (List.getD qs (0 + Int.toNat i * 4 + 1 + 1) (AV.tup [])))
 (AV.toI (List.getD qs (0 + Int.toNat i * 4 + 1 + 1 + 1) (AV.tup [])))
 false now <
 IntKind.wrap IntKind.i64
 (now + AV.toI (List.getD qs (0 + Int.toNat i * 4 + 3) (AV.tup []))))) = false ∧
 ((!decide
 (reqEnd L C T R F W U (AV.toI (List.getD qs (0 + Int.toNat i * 4) (AV.tup [])))
 (AV.toI (List.getD qs (0 + Int.toNat i * 4 + 1) (AV.tup [])))
 (AV.toI (List.getD qs (0 + Int.toNat i * 4 + 1 + 1) (AV.tup [])))
 (AV.toI (List.getD qs (0 + Int.toNat i * 4 + 1 + 1 + 1) (AV.tup [])))
 false now <
 IntKind.wrap IntKind.i64
 (now + AV.toI (List.getD qs (0 + Int.toNat i * 4 + 3) (AV.tup []))))) = false ∧
 ((!decide
 (reqEnd L C T R F W U (AV.toI (List.getD qs (0 + Int.toNat i * 4) (AV.tup [])))
 (AV.toI (List.getD qs (0 + Int.toNat i * 4 + 1) (AV.tup [])))
 (AV.toI (List.getD qs (0 + Int.toNat i * 4 + 1 + 1) (AV.tup [])))
 (AV.toI (List.getD qs (0 + Int.toNat i * 4 + 1 + 1 + 1) (AV.tup [])))
 false now <
 IntKind.wrap IntKind.i64
 (now + AV.toI (List.getD qs (0 + Int.toNat i * 4 + 3) (AV.tup []))))) = false ∧
 ((!decide
 (reqEnd L C T R F W U (AV.toI (List.getD qs (0 + Int.toNat i * 4) (AV.tup [])))
 (AV.toI (List.getD qs (0 + Int.toNat i * 4 + 1) (AV.tup [])))
 (AV.toI (List.getD qs (0 + Int.toNat i * 4 + 1 + 1) (AV.tup [])))
 (AV.toI (List.getD qs (0 + Int.toNat i * 4 + 1 + 1 + 1) (AV.tup [])))
 false now <
 IntKind.wrap IntKind.i64
 (now + AV.toI (List.getD qs (0 + Int.toNat i * 4 + 3) (AV.tup []))))) = false ∧
 ((!decide
 (reqEnd L C T R F W U (AV.toI (List.getD qs (0 + Int.toNat i * 4) (AV.tup [])))
 (AV.toI (List.getD qs (0 + Int.toNat i * 4 + 1) (AV.tup [])))
 (AV.toI (List.getD qs (0 + Int.toNat i * 4 + 1 + 1) (AV.tup [])))
 (AV.toI (List.getD qs (0 + Int.toNat i * 4 + 1 + 1 + 1) (AV.tup [])))
 false now <
 IntKind.wrap IntKind.i64
 (now + AV.toI (List.getD qs (0 + Int.toNat i * 4 + 3) (AV.tup []))))) = false ∧
 ((!decide
 (reqEnd L C T R F W U (AV.toI (List.getD qs (0 + Int.toNat i * 4) (AV.tup [])))
 (AV.toI (List.getD qs (0 + Int.toNat i * 4 + 1) (AV.tup [])))
 (AV.toI (List.getD qs (0 + Int.toNat i * 4 + 1 + 1) (AV.tup [])))
 (AV.toI (List.getD qs (0 + Int.toNat i * 4 + 1 + 1 + 1) (AV.tup [])))
 false now <
 IntKind.wrap IntKind.i64
 (now + AV.toI (List.getD qs (0 + Int.toNat i * 4 + 3) (AV.tup []))))) = false ∧
 ((!decide
 (reqEnd L C T R F W U (AV.toI (List.getD qs (0 + Int.toNat i * 4) (AV.tup [])))
 (AV.toI (List.getD qs (0 + Int.toNat i * 4 + 1) (AV.tup [])))
 (AV.toI (List.getD qs (0 + Int.toNat i * 4 + 1 + 1) (AV.tup [])))
 (AV.toI (List.getD qs (0 + Int.toNat i * 4 + 1 + 1 + 1) (AV.tup [])))
 false now <
 IntKind.wrap IntKind.i64
 (now + AV.toI (List.getD qs (0 + Int.toNat i * 4 + 3) (AV.tup []))))) = false ∧
 ((!decide
 (reqEnd L C T R F W U (AV.toI (List.getD qs (0 + Int.toNat i * 4) (AV.tup [])))
 (AV.toI (List.getD qs (0 + Int.toNat i * 4 + 1) (AV.tup [])))
 (AV.toI (List.getD qs (0 + Int.toNat i * 4 + 1 + 1) (AV.tup [])))
 (AV.toI (List.getD qs (0 + Int.toNat i * 4 + 1 + 1 + 1) (AV.tup [])))
 false now <
 IntKind.wrap IntKind.i64
 (now + AV.toI (List.getD qs (0 + Int.toNat i * 4 + 3) (AV.tup []))))) = false ∧
 ((!decide
 (reqEnd L C T R F W U (AV.toI (List.getD qs (0 + Int.toNat i * 4) (AV.tup [])))
 (AV.toI (List.getD qs (0 + Int.toNat i * 4 + 1) (AV.tup [])))
 (AV.toI (List.getD qs (0 + Int.toNat i * 4 + 1 + 1) (AV.tup [])))
 (AV.toI (List.getD qs (0 + Int.toNat i * 4 + 1 + 1 + 1) (AV.tup [])))
 false now <
 IntKind.wrap IntKind.i64
 (now + AV.toI (List.getD qs (0 + Int.toNat i * 4 + 3) (AV.tup []))))) = false ∧
 ((!decide
 (reqEnd L C T R F W U (AV.toI (List.getD qs (0 + Int.toNat i * 4) (AV.tup [])))
 (AV.toI (List.getD qs (0 + Int.toNat i * 4 + 1) (AV.tup [])))
 (AV.toI (List.getD qs (0 + Int.toNat i * 4 + 1 + 1) (AV.tup [])))
 (AV.toI (List.getD qs (0 + Int.toNat i * 4 + 1 + 1 + 1) (AV.tup [])))
 false now <
 IntKind.wrap IntKind.i64
 (now + AV.toI (List.getD qs (0 + Int.toNat i * 4 + 3) (AV.tup []))))) = false ∧
 ((!decide
 (reqEnd L C T R F W U (AV.toI (List.getD qs (0 + Int.toNat i * 4) (AV.tup [])))
 (AV.toI (List.getD qs (0 + Int.toNat i * 4 + 1) (AV.tup [])))
 (AV.toI (List.getD qs (0 + Int.toNat i * 4 + 1 + 1) (AV.tup [])))
 (AV.toI (List.getD qs (0 + Int.toNat i * 4 + 1 + 1 + 1) (AV.tup [])))
 false now <
 IntKind.wrap IntKind.i64
 (now + AV.toI (List.getD qs (0 + Int.toNat i * 4 + 3) (AV.tup []))))) = false ∧
 ((!decide
 (reqEnd L C T R F W U (AV.toI (List.getD qs (0 + Int.toNat i * 4) (AV.tup [])))
 (AV.toI (List.getD qs (0 + Int.toNat i * 4 + 1) (AV.tup [])))
 (AV.toI (List.getD qs (0 + Int.toNat i * 4 + 1 + 1) (AV.tup [])))
 (AV.toI (List.getD qs (0 + Int.toNat i * 4 + 1 + 1 + 1) (AV.tup [])))
 false now <
 IntKind.wrap IntKind.i64
 (now + AV.toI (List.getD qs (0 + Int.toNat i * 4 + 3) (AV.tup []))))) = false ∧
 ((!decide
 (reqEnd L C T R F W U (AV.toI (List.getD qs (0 + Int.toNat i * 4) (AV.tup [])))
 (AV.toI (List.getD qs (0 + Int.toNat i * 4 + 1) (AV.tup [])))
 (AV.toI (List.getD qs (0 + Int.toNat i * 4 + 1 + 1) (AV.tup [])))
 (AV.toI (List.getD qs (0 + Int.toNat i * 4 + 1 + 1 + 1) (AV.tup [])))
 false now <
 IntKind.wrap IntKind.i64
 (now + AV.toI (List.getD qs (0 + Int.toNat i * 4 + 3) (AV.tup []))))) = false ∧
 ((decide
 (reqEnd L C T R F W U (AV.toI (List.getD qs (0 + Int.toNat i * 4) (AV.tup [])))
 (AV.toI (List.getD qs (0 + Int.toNat i * 4 + 1) (AV.tup [])))
 (AV.toI (List.getD qs (0 + Int.toNat i * 4 + 1 + 1) (AV.tup [])))
 (AV.toI (List.getD qs (0 + Int.toNat i * 4 + 1 + 1 + 1) (AV.tup [])))
 false now <
 IntKind.wrap IntKind.i64
 (now + AV.toI (List.getD qs (0 + Int.toNat i * 4 + 3) (AV.tup []))))) = true ∧
 (Q Exit.ret 208
 [some (AV.slice 0 0 n (some c)), some AV.nilslice, some (AV.ptr 2 0),
 some (AV.slice 3 0 n none), some (AV.int IntKind.i64 e), some (AV.int IntKind.i64 now),
 some (AV.int IntKind.i64 i)]
 { nx := 4, m :=
 [(3, AObj.opn 2 1 (encI IntKind.i64 acc)),
 (2,
 AObj.cells 23
 [AV.int IntKind.i64 L, AV.int IntKind.i64 C, AV.int IntKind.i64 T, AV.int IntKind.i64 R,
 AV.int IntKind.i64 F, AV.int IntKind.i64 W, AV.int IntKind.i64 U]),
 (1, AObj.ro bs), (0, AObj.ro qs)] })))))))))))))))))))))))))))))) ∧
 ((!decide
 (reqAt L C T R F W U (AV.toI (List.getD qs (0 + Int.toNat i * 4) (AV.tup [])))
 (AV.toI (List.getD qs (0 + Int.toNat i * 4 + 1) (AV.tup [])))
 (AV.toI (List.getD qs (0 + Int.toNat i * 4 + 1 + 1) (AV.tup [])))
 (AV.toI (List.getD qs (0 + Int.toNat i * 4 + 1 + 1 + 1) (AV.tup [])))
 false now ≥
 reqEnd L C T R F W U (AV.toI (List.getD qs (0 + Int.toNat i * 4) (AV.tup [])))
 (AV.toI (List.getD qs (0 + Int.toNat i * 4 + 1) (AV.tup [])))
 (AV.toI (List.getD qs (0 + Int.toNat i * 4 + 1 + 1) (AV.tup [])))
 (AV.toI (List.getD qs (0 + Int.toNat i * 4 + 1 + 1 + 1) (AV.tup [])))
 false now)) = false →
 (!decide
 (reqAt L C T R F W U (AV.toI (List.getD qs (0 + Int.toNat i * 4) (AV.tup [])))
 (AV.toI (List.getD qs (0 + Int.toNat i * 4 + 1) (AV.tup [])))
 (AV.toI (List.getD qs (0 + Int.toNat i * 4 + 1 + 1) (AV.tup [])))
 (AV.toI (List.getD qs (0 + Int.toNat i * 4 + 1 + 1 + 1) (AV.tup [])))
 false now ≥
 reqEnd L C T R F W U (AV.toI (List.getD qs (0 + Int.toNat i * 4) (AV.tup [])))
 (AV.toI (List.getD qs (0 + Int.toNat i * 4 + 1) (AV.tup [])))
 (AV.toI (List.getD qs (0 + Int.toNat i * 4 + 1 + 1) (AV.tup [])))
 (AV.toI (List.getD qs (0 + Int.toNat i * 4 + 1 + 1 + 1) (AV.tup [])))
 false now)) = false ∧
 ((!decide
 (reqAt L C T R F W U (AV.toI (List.getD qs (0 + Int.toNat i * 4) (AV.tup [])))
 (AV.toI (List.getD qs (0 + Int.toNat i * 4 + 1) (AV.tup [])))
 (AV.toI (List.getD qs (0 + Int.toNat i * 4 + 1 + 1) (AV.tup [])))
 (AV.toI (List.getD qs (0 + Int.toNat i * 4 + 1 + 1 + 1) (AV.tup [])))
 false now ≥
 reqEnd L C T R F W U (AV.toI (List.getD qs (0 + Int.toNat i * 4) (AV.tup [])))
 (AV.toI (List.getD qs (0 + Int.toNat i * 4 + 1) (AV.tup [])))
 (AV.toI (List.getD qs (0 + Int.toNat i * 4 + 1 + 1) (AV.tup [])))
 (AV.toI (List.getD qs (0 + Int.toNat i * 4 + 1 + 1 + 1) (AV.tup [])))
 false now)) = false ∧
 ((!decide
 (reqAt L C T R F W U (AV.toI (List.getD qs (0 + Int.toNat i * 4) (AV.tup [])))
 (AV.toI (List.getD qs (0 + Int.toNat i * 4 + 1) (AV.tup [])))
 (AV.toI (List.getD qs (0 + Int.toNat i * 4 + 1 + 1) (AV.tup [])))
 (AV.toI (List.getD qs (0 + Int.toNat i * 4 + 1 + 1 + 1) (AV.tup [])))
 false now ≥
 reqEnd L C T R F W U (AV.toI (List.getD qs (0 + Int.toNat i * 4) (AV.tup [])))
 (AV.toI (List.getD qs (0 + Int.toNat i * 4 + 1) (AV.tup [])))
 (AV.toI (List.getD qs (0 + Int.toNat i * 4 + 1 + 1) (AV.tup [])))
 (AV.toI (List.getD qs (0 + Int.toNat i * 4 + 1 + 1 + 1) (AV.tup [])))
 false now)) = false ∧
 ((!decide
 (reqAt L C T R F W U (AV.toI (List.getD qs (0 + Int.toNat i * 4) (AV.tup [])))
 (AV.toI (List.getD qs (0 + Int.toNat i * 4 + 1) (AV.tup [])))
 (AV.toI (List.getD qs (0 + Int.toNat i * 4 + 1 + 1) (AV.tup [])))
 (AV.toI (List.getD qs (0 + Int.toNat i * 4 + 1 + 1 + 1) (AV.tup [])))
 false now ≥
 reqEnd L C T R F W U (AV.toI (List.getD qs (0 + Int.toNat i * 4) (AV.tup [])))
 (AV.toI (List.getD qs (0 + Int.toNat i * 4 + 1) (AV.tup [])))
 (AV.toI (List.getD qs (0 + Int.toNat i * 4 + 1 + 1) (AV.tup [])))
 (AV.toI (List.getD qs (0 + Int.toNat i * 4 + 1 + 1 + 1) (AV.tup [])))
 false now)) = false ∧
 ((!decide
 (reqAt L C T R F W U (AV.toI (List.getD qs (0 + Int.toNat i * 4) (AV.tup [])))
 (AV.toI (List.getD qs (0 + Int.toNat i * 4 + 1) (AV.tup [])))
 (AV.toI (List.getD qs (0 + Int.toNat i * 4 + 1 + 1) (AV.tup [])))
 (AV.toI (List.getD qs (0 + Int.toNat i * 4 + 1 + 1 + 1) (AV.tup [])))
 false now ≥
 reqEnd L C T R F W U (AV.toI (List.getD qs (0 + Int.toNat i * 4) (AV.tup [])))
 (AV.toI (List.getD qs (0 + Int.toNat i * 4 + 1) (AV.tup [])))
 (AV.toI (List.getD qs (0 + Int.toNat i * 4 + 1 + 1) (AV.tup [])))
 (AV.toI (List.getD qs (0 + Int.toNat i * 4 + 1 + 1 + 1) (AV.tup [])))
 false now)) = false ∧
 ((!decide
 (reqAt L C T R F W U (AV.toI (List.getD qs (0 + Int.toNat i * 4) (AV.tup [])))
 (AV.toI (List.getD qs (0 + Int.toNat i * 4 + 1) (AV.tup [])))
 (AV.toI (List.getD qs (0 + Int.toNat i * 4 + 1 + 1) (AV.tup [])))
 (AV.toI (List.getD qs (0 + Int.toNat i * 4 + 1 + 1 + 1) (AV.tup [])))
 false now ≥
 reqEnd L C T R F W U (AV.toI (List.getD qs (0 + Int.toNat i * 4) (AV.tup [])))
 (AV.toI (List.getD qs (0 + Int.toNat i * 4 + 1) (AV.tup [])))
 (AV.toI (List.getD qs (0 + Int.toNat i * 4 + 1 + 1) (AV.tup [])))
 (AV.toI (List.getD qs (0 + Int.toNat i * 4 + 1 + 1 + 1) (AV.tup [])))
 false now)) = false ∧
 ((!decide
 (reqAt L C T R F W U (AV.toI (List.getD qs (0 + Int.toNat i * 4) (AV.tup [])))
 (AV.toI (List.getD qs (0 + Int.toNat i * 4 + 1) (AV.tup [])))
 (AV.toI (List.getD qs (0 + Int.toNat i * 4 + 1 + 1) (AV.tup [])))
 (AV.toI (List.getD qs (0 + Int.toNat i * 4 + 1 + 1 + 1) (AV.tup [])))
 false now ≥
 reqEnd L C T R F W U (AV.toI (List.getD qs (0 + Int.toNat i * 4) (AV.tup [])))
 (AV.toI (List.getD qs (0 + Int.toNat i * 4 + 1) (AV.tup [])))
 (AV.toI (List.getD qs (0 + Int.toNat i * 4 + 1 + 1) (AV.tup [])))
 (AV.toI (List.getD qs (0 + Int.toNat i * 4 + 1 + 1 + 1) (AV.tup [])))
 false now)) = false ∧
 ((!decide
 (reqAt L C T R F W U (AV.toI (List.getD qs (0 + Int.toNat i * 4) (AV.tup [])))
 (AV.toI (List.getD qs (0 + Int.toNat i * 4 + 1) (AV.tup [])))
 (AV.toI (List.getD qs (0 + Int.toNat i * 4 + 1 + 1) (AV.tup [])))
 (AV.toI (List.getD qs (0 + Int.toNat i * 4 + 1 + 1 + 1) (AV.tup [])))
 false now ≥
 reqEnd L C T R F W U (AV.toI (List.getD qs (0 + Int.toNat i * 4) (AV.tup [])))
 (AV.toI (List.getD qs (0 + Int.toNat i * 4 + 1) (AV.tup [])))
 (AV.toI (List.getD qs (0 + Int.toNat i * 4 + 1 + 1) (AV.tup [])))
 (AV.toI (List.getD qs (0 + Int.toNat i * 4 + 1 + 1 + 1) (AV.tup [])))
 false now)) = false ∧
 ((decide
 (reqAt L C T R F W U (AV.toI (List.getD qs (0 + Int.toNat i * 4) (AV.tup [])))
 (AV.toI (List.getD qs (0 + Int.toNat i * 4 + 1) (AV.tup [])))
 (AV.toI (List.getD qs (0 + Int.toNat i * 4 + 1 + 1) (AV.tup [])))
 (AV.toI (List.getD qs (0 + Int.toNat i * 4 + 1 + 1 + 1) (AV.tup [])))
 false now ≥
 reqEnd L C T R F W U (AV.toI (List.getD qs (0 + Int.toNat i * 4) (AV.tup [])))
 (AV.toI (List.getD qs (0 + Int.toNat i * 4 + 1) (AV.tup [])))
 (AV.toI (List.getD qs (0 + Int.toNat i * 4 + 1 + 1) (AV.tup [])))
 (AV.toI (List.getD qs (0 + Int.toNat i * 4 + 1 + 1 + 1) (AV.tup [])))
 false now)) = true ∧
 (Q Exit.ret 208
 [some (AV.slice 0 0 n (some c)), some AV.nilslice, some (AV.ptr 2 0),
 some (AV.slice 3 0 n none), some (AV.int IntKind.i64 e), some (AV.int IntKind.i64 now),
 some (AV.int IntKind.i64 i)]
 { nx := 4, m :=
 [(3, AObj.opn 2 1 (encI IntKind.i64 acc)),
 (2,
 AObj.cells 23
 [AV.int IntKind.i64 L, AV.int IntKind.i64 C, AV.int IntKind.i64 T, AV.int IntKind.i64 R,
 AV.int IntKind.i64 F, AV.int IntKind.i64 W, AV.int IntKind.i64 U]),
 (1, AObj.ro bs), (0, AObj.ro qs)] })))))))))))))) ∧
 ((!decide
 (reqAt L C T R F W U (AV.toI (List.getD qs (0 + Int.toNat i * 4) (AV.tup [])))
 (AV.toI (List.getD qs (0 + Int.toNat i * 4 + 1) (AV.tup [])))
 (AV.toI (List.getD qs (0 + Int.toNat i * 4 + 1 + 1) (AV.tup [])))
 (AV.toI (List.getD qs (0 + Int.toNat i * 4 + 1 + 1 + 1) (AV.tup [])))
 false now <
 now)) = false →
 (!decide
 (reqAt L C T R F W U (AV.toI (List.getD qs (0 + Int.toNat i * 4) (AV.tup [])))
 (AV.toI (List.getD qs (0 + Int.toNat i * 4 + 1) (AV.tup [])))
 (AV.toI (List.getD qs (0 + Int.toNat i * 4 + 1 + 1) (AV.tup [])))
 (AV.toI (List.getD qs (0 + Int.toNat i * 4 + 1 + 1 + 1) (AV.tup [])))
 false now <
 now)) = false ∧
 ((!decide
 (reqAt L C T R F W U (AV.toI (List.getD qs (0 + Int.toNat i * 4) (AV.tup [])))
 (AV.toI (List.getD qs (0 + Int.toNat i * 4 + 1) (AV.tup [])))
 (AV.toI (List.getD qs (0 + Int.toNat i * 4 + 1 + 1) (AV.tup [])))
 (AV.toI (List.getD qs (0 + Int.toNat i * 4 + 1 + 1 + 1) (AV.tup [])))
 false now <
 now)) = false ∧
 ((decide
 (reqAt L C T R F W U (AV.toI (List.getD qs (0 + Int.toNat i * 4) (AV.tup [])))
 (AV.toI (List.getD qs (0 + Int.toNat i * 4 + 1) (AV.tup [])))
 (AV.toI (List.getD qs (0 + Int.toNat i * 4 + 1 + 1) (AV.tup [])))
 (AV.toI (List.getD qs (0 + Int.toNat i * 4 + 1 + 1 + 1) (AV.tup [])))
 false now <
 now)) = true ∧
 (Q Exit.ret 208
 [some (AV.slice 0 0 n (some c)), some AV.nilslice, some (AV.ptr 2 0),
 some (AV.slice 3 0 n none), some (AV.int IntKind.i64 e), some (AV.int IntKind.i64 now),
 some (AV.int IntKind.i64 i)]
 { nx := 4, m :=
 [(3, AObj.opn 2 1 (encI IntKind.i64 acc)),
 (2,
 AObj.cells 23
 [AV.int IntKind.i64 L, AV.int IntKind.i64 C, AV.int IntKind.i64 T, AV.int IntKind.i64 R,
 AV.int IntKind.i64 F, AV.int IntKind.i64 W, AV.int IntKind.i64 U]),
 (1, AObj.ro bs), (0, AObj.ro qs)] })))))))) ∧
 ((!!decide
 (reqAt L C T R F W U (AV.toI (List.getD qs (0 + Int.toNat i * 4) (AV.tup [])))
 (AV.toI (List.getD qs (0 + Int.toNat i * 4 + 1) (AV.tup [])))
 (AV.toI (List.getD qs (0 + Int.toNat i * 4 + 1 + 1) (AV.tup [])))
 (AV.toI (List.getD qs (0 + Int.toNat i * 4 + 1 + 1 + 1) (AV.tup [])))
 false now =
 AV.toI (List.getD (encI IntKind.i64 acc) (0 + Int.toNat i * 1) (AV.tup [])))) = false →
 (!!decide
 (reqAt L C T R F W U (AV.toI (List.getD qs (0 + Int.toNat i * 4) (AV.tup [])))
 (AV.toI (List.getD qs (0 + Int.toNat i * 4 + 1) (AV.tup [])))
 (AV.toI (List.getD qs (0 + Int.toNat i * 4 + 1 + 1) (AV.tup [])))
 (AV.toI (List.getD qs (0 + Int.toNat i * 4 + 1 + 1 + 1) (AV.tup [])))
 false now =
 AV.toI (List.getD (encI IntKind.i64 acc) (0 + Int.toNat i * 1) (AV.tup [])))) = false ∧
 ((!!decide
 (reqAt L C T R F W U (AV.toI (List.getD qs (0 + Int.toNat i * 4) (AV.tup [])))
 (AV.toI (List.getD qs (0 + Int.toNat i * 4 + 1) (AV.tup [])))
 (AV.toI (List.getD qs (0 + Int.toNat i * 4 + 1 + 1) (AV.tup [])))
 (AV.toI (List.getD qs (0 + Int.toNat i * 4 + 1 + 1 + 1) (AV.tup [])))
 false now =
 AV.toI (List.getD (encI IntKind.i64 acc) (0 + Int.toNat i * 1) (AV.tup [])))) = false ∧
 ((!decide
 (reqAt L C T R F W U (AV.toI (List.getD qs (0 + Int.toNat i * 4) (AV.tup [])))
 (AV.toI (List.getD qs (0 + Int.toNat i * 4 + 1) (AV.tup [])))
 (AV.toI (List.getD qs (0 + Int.toNat i * 4 + 1 + 1) (AV.tup [])))
 (AV.toI (List.getD qs (0 + Int.toNat i * 4 + 1 + 1 + 1) (AV.tup [])))
 false now =
 AV.toI (List.getD (encI IntKind.i64 acc) (0 + Int.toNat i * 1) (AV.tup [])))) = true ∧
 (Q Exit.ret 208
 [some (AV.slice 0 0 n (some c)), some AV.nilslice, some (AV.ptr 2 0),
 some (AV.slice 3 0 n none), some (AV.int IntKind.i64 e), some (AV.int IntKind.i64 now),
 some (AV.int IntKind.i64 i)]
 { nx := 4, m :=
 [(3, AObj.opn 2 1 (encI IntKind.i64 acc)),
 (2,
 AObj.cells 23
 [AV.int IntKind.i64 L, AV.int IntKind.i64 C, AV.int IntKind.i64 T, AV.int IntKind.i64 R,
 AV.int IntKind.i64 F, AV.int IntKind.i64 W, AV.int IntKind.i64 U]),
 (1, AObj.ro bs), (0, AObj.ro qs)] })))))))))))))) ∧
 ((!!decide
 (reqErr L C T R F W U (AV.toI (List.getD qs (0 + Int.toNat i * 4) (AV.tup [])))
 (AV.toI (List.getD qs (0 + Int.toNat i * 4 + 1) (AV.tup [])))
 (AV.toI (List.getD qs (0 + Int.toNat i * 4 + 1 + 1) (AV.tup [])))
 (AV.toI (List.getD qs (0 + Int.toNat i * 4 + 1 + 1 + 1) (AV.tup [])))
 now =
 (0 : Int))) = false →
 (!!decide
 (reqErr L C T R F W U (AV.toI (List.getD qs (0 + Int.toNat i * 4) (AV.tup [])))
 (AV.toI (List.getD qs (0 + Int.toNat i * 4 + 1) (AV.tup [])))
 (AV.toI (List.getD qs (0 + Int.toNat i * 4 + 1 + 1) (AV.tup [])))
 (AV.toI (List.getD qs (0 + Int.toNat i * 4 + 1 + 1 + 1) (AV.tup [])))
 now =
 (0 : Int))) = false ∧
 ((!!decide
 (reqErr L C T R F W U (AV.toI (List.getD qs (0 + Int.toNat i * 4) (AV.tup [])))
 (AV.toI (List.getD qs (0 + Int.toNat i * 4 + 1) (AV.tup [])))
 (AV.toI (List.getD qs (0 + Int.toNat i * 4 + 1 + 1) (AV.tup [])))
 (AV.toI (List.getD qs (0 + Int.toNat i * 4 + 1 + 1 + 1) (AV.tup [])))
 now =
 (0 : Int))) = false ∧
 ((!!decide
 (reqErr L C T R F W U (AV.toI (List.getD qs (0 + Int.toNat i * 4) (AV.tup [])))
 (AV.toI (List.getD qs (0 + Int.toNat i * 4 + 1) (AV.tup [])))
 (AV.toI (List.getD qs (0 + Int.toNat i * 4 + 1 + 1) (AV.tup [])))
 (AV.toI (List.getD qs (0 + Int.toNat i * 4 + 1 + 1 + 1) (AV.tup [])))
 now =
 (0 : Int))) = false ∧
 ((!!decide
 (reqErr L C T R F W U (AV.toI (List.getD qs (0 + Int.toNat i * 4) (AV.tup [])))
 (AV.toI (List.getD qs (0 + Int.toNat i * 4 + 1) (AV.tup [])))
 (AV.toI (List.getD qs (0 + Int.toNat i * 4 + 1 + 1) (AV.tup [])))
 (AV.toI (List.getD qs (0 + Int.toNat i * 4 + 1 + 1 + 1) (AV.tup [])))
 now =
 (0 : Int))) = false ∧
 ((!!decide
 (reqErr L C T R F W U (AV.toI (List.getD qs (0 + Int.toNat i * 4) (AV.tup [])))
 (AV.toI (List.getD qs (0 + Int.toNat i * 4 + 1) (AV.tup [])))
 (AV.toI (List.getD qs (0 + Int.toNat i * 4 + 1 + 1) (AV.tup [])))
 (AV.toI (List.getD qs (0 + Int.toNat i * 4 + 1 + 1 + 1) (AV.tup [])))
 now =
 (0 : Int))) = false ∧
 ((!decide
 (reqErr L C T R F W U (AV.toI (List.getD qs (0 + Int.toNat i * 4) (AV.tup [])))
 (AV.toI (List.getD qs (0 + Int.toNat i * 4 + 1) (AV.tup [])))
 (AV.toI (List.getD qs (0 + Int.toNat i * 4 + 1 + 1) (AV.tup [])))
 (AV.toI (List.getD qs (0 + Int.toNat i * 4 + 1 + 1 + 1) (AV.tup [])))
 now =
 (0 : Int))) = true ∧
 (Q Exit.ret 208
 [some (AV.slice 0 0 n (some c)), some AV.nilslice, some (AV.ptr 2 0),
 some (AV.slice 3 0 n none), some (AV.int IntKind.i64 e), some (AV.int IntKind.i64 now),
 some (AV.int IntKind.i64 i)]
 { nx := 4, m :=
 [(3, AObj.opn 2 1 (encI IntKind.i64 acc)),
 (2,
 AObj.cells 23
 [AV.int IntKind.i64 L, AV.int IntKind.i64 C, AV.int IntKind.i64 T, AV.int IntKind.i64 R,
 AV.int IntKind.i64 F, AV.int IntKind.i64 W, AV.int IntKind.i64 U]),
 (1, AObj.ro bs), (0, AObj.ro qs)] }))))))))))))))))))) ∧
 ((decide (i < (↑n : Int))) = false →
 Q (Exit.exit 2) 208
 [some (AV.slice 0 0 n (some c)), some AV.nilslice, some (AV.ptr 2 0),
 some (AV.slice 3 0 n none), some (AV.int IntKind.i64 e), some (AV.int IntKind.i64 now),
 some (AV.int IntKind.i64 i)]
 { nx := 4, m :=
 [(3, AObj.opn 2 1 (encI IntKind.i64 acc)),
 (2,
 AObj.cells 23
 [AV.int IntKind.i64 L, AV.int IntKind.i64 C, AV.int IntKind.i64 T, AV.int IntKind.i64 R,
 AV.int IntKind.i64 F, AV.int IntKind.i64 W, AV.int IntKind.i64 U]),
 (1, AObj.ro bs), (0, AObj.ro qs)] })
def cmN_scr : Plan := .b (.t (.t (.t (.t (.t (.t (.b (.t (.t (.z))) (.f (.f (.f (.f (.b (.t (.t (.t (.t (.t (.t (.t (.t (.f (.b (.t (.t (.f (.b (.t (.t (.f (.b (.t (.t (.t (.t (.t (.t (.t (.t (.t (.t (.t (.f (.b (.t (.t (.t (.t (.t (.t (.t (.t (.t (.t (.t (.t (.t (.t (.t (.t (.t (.t (.t (.t (.t (.t (.t (.t (.f (.b (.z) (.z))))))))))))))))))))))))))) (.f (.f (.f (.f (.f (.f (.f (.f (.f (.f (.f (.f (.f (.f (.f (.t (.z)))))))))))))))))))))))))))))) (.f (.f (.f (.f (.f (.f (.f (.f (.t (.z)))))))))))))) (.f (.f (.t (.z)))))))) (.f (.f (.t (.z)))))))))))))) (.f (.f (.f (.f (.f (.t (.z))))))))))))))))))) (.z)
theorem cmN_vc (L C T R F W U e now i : Int) (n c : Nat) (qs bs : List AV) (acc : List Int) (N : NS) (Q : QS) (K : Unit) : (wpP XCo4 (symC Try.prog (bodyOf Try.prog 14) []) 2 (loopAt Try.prog 14 1) 2 (rndS [1, 2, 5, 12, 13, 22, 23] N Q) (cmT .nilslice L C T R F W U e now i n c qs bs acc).1 (cmT .nilslice L C T R F W U e now i n c qs bs acc).2 cmN_scr) = cmN_VC L C T R F W U e now i n c qs bs acc N Q K := by kernel_rfl
def chE_VC (L C T R F W U t u i : Int) (n c : Nat) (qs bs : List AV) (N : NS) (Q : QS) (K : Unit) : Prop :=
 ((decide (i < (↑n : Int))) = true →
 (decide ((0 : Int) ≤ i ∧ i < (↑n : Int))) = true ∧
 ((decide (0 + Int.toNat i * 4 + 4 ≤ List.length qs)) = true ∧
 ((AV.isI IntKind.i64 (List.getD qs (0 + Int.toNat i * 4) (AV.tup []))) = true ∧
 ((AV.isI IntKind.u16 (List.getD qs (0 + Int.toNat i * 4 + 1) (AV.tup []))) = true ∧
 ((AV.isI IntKind.u8 (List.getD qs (0 + Int.toNat i * 4 + 1 + 1) (AV.tup []))) = true ∧
 ((AV.isI IntKind.i64 (List.getD qs (0 + Int.toNat i * 4 + 1 + 1 + 1) (AV.tup []))) = true ∧
 (((!decide
 (stepE (AV.toI (List.getD qs (0 + Int.toNat i * 4) (AV.tup [])))
 (AV.toI (List.getD qs (0 + Int.toNat i * 4 + 1) (AV.tup [])))
 (AV.toI (List.getD qs (0 + Int.toNat i * 4 + 1 + 1) (AV.tup [])))
 (AV.toI (List.getD qs (0 + Int.toNat i * 4 + 1 + 1 + 1) (AV.tup []))) =
 (0 : Int))) = true →
 Q Exit.ret 208
 [some (AV.slice 0 0 n (some c)), some (AV.slice 1 0 0 none),
 some (AV.int IntKind.i64 t), some (AV.int IntKind.i64 u), some (AV.ptr 2 0), some (AV.bool true),
 some (AV.int IntKind.i64 i)]
 { nx := 3, m :=
 [(2,
 AObj.cells 23
 [AV.int IntKind.i64 L, AV.int IntKind.i64 C, AV.int IntKind.i64 T, AV.int IntKind.i64 R,
 AV.int IntKind.i64 F, AV.int IntKind.i64 W, AV.int IntKind.i64 U]),
 (1, AObj.ro bs), (0, AObj.ro qs)] }) ∧
 ((!decide
 (stepE (AV.toI (List.getD qs (0 + Int.toNat i * 4) (AV.tup [])))
 (AV.toI (List.getD qs (0 + Int.toNat i * 4 + 1) (AV.tup [])))
 (AV.toI (List.getD qs (0 + Int.toNat i * 4 + 1 + 1) (AV.tup [])))
 (AV.toI (List.getD qs (0 + Int.toNat i * 4 + 1 + 1 + 1) (AV.tup []))) =
 (0 : Int))) = false →
 N 208
 [some (AV.slice 0 0 n (some c)), some (AV.slice 1 0 0 none),
 some (AV.int IntKind.i64 t), some (AV.int IntKind.i64 u), some (AV.ptr 2 0), none,
 some (AV.int IntKind.i64 (IntKind.wrap IntKind.i64 (i + (1 : Int))))]
 { nx := 3, m :=
 [(2,
 AObj.cells 23
 [AV.int IntKind.i64 L, AV.int IntKind.i64 C, AV.int IntKind.i64 T, AV.int IntKind.i64 R,
 AV.int IntKind.i64 F, AV.int IntKind.i64 W, AV.int IntKind.i64 U]),
 (1, AObj.ro bs), (0, AObj.ro qs)] })))))))) ∧
 ((decide (i < (↑n : Int))) = false →
 Q (Exit.exit 0) 208
 [some (AV.slice 0 0 n (some c)), some (AV.slice 1 0 0 none),
 some (AV.int IntKind.i64 t), some (AV.int IntKind.i64 u), some (AV.ptr 2 0), none,
 some (AV.int IntKind.i64 i)]
 { nx := 3, m :=
 [(2,
 AObj.cells 23
 [AV.int IntKind.i64 L, AV.int IntKind.i64 C, AV.int IntKind.i64 T, AV.int IntKind.i64 R,
 AV.int IntKind.i64 F, AV.int IntKind.i64 W, AV.int IntKind.i64 U]),
 (1, AObj.ro bs), (0, AObj.ro qs)] })
def chE_scr : Plan := .b (.t (.t (.t (.t (.t (.t (.b (.z) (.z)))))))) (.z)
theorem chE_vc (L C T R F W U t u i : Int) (n c : Nat) (qs bs : List AV) (N : NS) (Q : QS) (K : Unit) : (wpP XCo4 (symC Try.prog (bodyOf Try.prog 14) []) 2 (loopAt Try.prog 14 0) 0 (rndS [1, 2, 3, 4, 5, 10, 11] N Q) (chT (.slice 1 0 0 none) L C T R F W U t u i n c qs bs).1 (chT (.slice 1 0 0 none) L C T R F W U t u i n c qs bs).2 chE_scr) = chE_VC L C T R F W U t u i n c qs bs N Q K := by kernel_rfl
def cmE_VC (L C T R F W U e now i : Int) (n c : Nat) (qs bs : List AV) (acc : List Int) (N : NS) (Q : QS) (K : Unit) : Prop :=
 ((decide (i < (↑n : Int))) = true →
 (decide ((0 : Int) ≤ i ∧ i < (↑n : Int))) = true ∧
 ((decide (0 + Int.toNat i * 4 + 4 ≤ List.length qs)) = true ∧
 ((AV.isI IntKind.i64 (List.getD qs (0 + Int.toNat i * 4) (AV.tup []))) = true ∧
 ((AV.isI IntKind.u16 (List.getD qs (0 + Int.toNat i * 4 + 1) (AV.tup []))) = true ∧
 ((AV.isI IntKind.u8 (List.getD qs (0 + Int.toNat i * 4 + 1 + 1) (AV.tup []))) = true ∧
 ((AV.isI IntKind.i64 (List.getD qs (0 + Int.toNat i * 4 + 1 + 1 + 1) (AV.tup []))) = true ∧
 (((decide (i < (0 : Int))) = true →
 (decide (i < (0 : Int))) = true ∧
 ((decide (i < (0 : Int))) = true ∧
 ((decide ((0 : Int) ≤ i ∧ i < (0 : Int))) = true ∧
 ((decide (i < (0 : Int))) = true ∧
 ((decide (0 + Int.toNat i * 1 < List.length bs)) = true ∧
 ((AV.isB (List.getD bs (0 + Int.toNat i * 1) (AV.tup []))) = true ∧
 ((decide (i < (0 : Int))) = true ∧
 (((!!decide
 (reqErr L C T R F W U (AV.toI (List.getD qs (0 + Int.toNat i * 4) (AV.tup [])))
 (AV.toI (List.getD qs (0 + Int.toNat i * 4 + 1) (AV.tup [])))
 (AV.toI (List.getD qs (0 + Int.toNat i * 4 + 1 + 1) (AV.tup [])))
 (AV.toI (List.getD qs (0 + Int.toNat i * 4 + 1 + 1 + 1) (AV.tup [])))
 now =
 (0 : Int))) = true →
 (!!decide
 (reqErr L C T R F W U (AV.toI (List.getD qs (0 + Int.toNat i * 4) (AV.tup [])))
 (AV.toI (List.getD qs (0 + Int.toNat i * 4 + 1) (AV.tup [])))
 (AV.toI (List.getD qs (0 + Int.toNat i * 4 + 1 + 1) (AV.tup [])))
 (AV.toI (List.getD qs (0 + Int.toNat i * 4 + 1 + 1 + 1) (AV.tup [])))
 now =
 (0 : Int))) = true ∧
 ((!!decide
 (reqErr L C T R F W U (AV.toI (List.getD qs (0 + Int.toNat i * 4) (AV.tup [])))
 (AV.toI (List.getD qs (0 + Int.toNat i * 4 + 1) (AV.tup [])))
 (AV.toI (List.getD qs (0 + Int.toNat i * 4 + 1 + 1) (AV.tup [])))
 (AV.toI (List.getD qs (0 + Int.toNat i * 4 + 1 + 1 + 1) (AV.tup [])))
 now =
 (0 : Int))) = true ∧
 ((!!decide
 (reqErr L C T R F W U (AV.toI (List.getD qs (0 + Int.toNat i * 4) (AV.tup [])))
 (AV.toI (List.getD qs (0 + Int.toNat i * 4 + 1) (AV.tup [])))
 (AV.toI (List.getD qs (0 + Int.toNat i * 4 + 1 + 1) (AV.tup [])))
 (AV.toI (List.getD qs (0 + Int.toNat i * 4 + 1 + 1 + 1) (AV.tup [])))
 now =
 (0 : Int))) = true ∧
 ((decide ((0 : Int) ≤ i ∧ i < (↑n : Int))) = true ∧
 ((!!decide
 (reqErr L C T R F W U (AV.toI (List.getD qs (0 + Int.toNat i * 4) (AV.tup [])))
 (AV.toI (List.getD qs (0 + Int.toNat i * 4 + 1) (AV.tup [])))
 (AV.toI (List.getD qs (0 + Int.toNat i * 4 + 1 + 1) (AV.tup [])))
 (AV.toI (List.getD qs (0 + Int.toNat i * 4 + 1 + 1 + 1) (AV.tup [])))
 now =
 (0 : Int))) = true ∧
 ((decide (0 + Int.toNat i * 1 < List.length (encI IntKind.i64 acc))) = true ∧
 ((AV.isI IntKind.i64 (List.getD (encI IntKind.i64 acc) (0 + Int.toNat i * 1) (AV.tup []))) = true ∧
 ((!!decide
 (reqErr L C T R F W U (AV.toI (List.getD qs (0 + Int.toNat i * 4) (AV.tup [])))
 (AV.toI (List.getD qs (0 + Int.toNat i * 4 + 1) (AV.tup [])))
 (AV.toI (List.getD qs (0 + Int.toNat i * 4 + 1 + 1) (AV.tup [])))
 (AV.toI (List.getD qs (0 + Int.toNat i * 4 + 1 + 1 + 1) (AV.tup [])))
 now =
 (0 : Int))) = true ∧
 ((!decide
 (reqErr L C T R F W U (AV.toI (List.getD qs (0 + Int.toNat i * 4) (AV.tup [])))
 (AV.toI (List.getD qs (0 + Int.toNat i * 4 + 1) (AV.tup [])))
 (AV.toI (List.getD qs (0 + Int.toNat i * 4 + 1 + 1) (AV.tup [])))
 (AV.toI (List.getD qs (0 + Int.toNat i * 4 + 1 + 1 + 1) (AV.tup [])))
 now =
 (0 : Int))) = false ∧
 (((!!decide
 (reqAt L C T R F W U (AV.toI (List.getD qs (0 + Int.toNat i * 4) (AV.tup [])))
 (AV.toI (List.getD qs (0 + Int.toNat i * 4 + 1) (AV.tup [])))
 (AV.toI (List.getD qs (0 + Int.toNat i * 4 + 1 + 1) (AV.tup [])))
 (AV.toI (List.getD qs (0 + Int.toNat i * 4 + 1 + 1 + 1) (AV.tup [])))
 (AV.toB (List.getD bs (0 + Int.toNat i * 1) (AV.tup []))) now =
 AV.toI (List.getD (encI IntKind.i64 acc) (0 + Int.toNat i * 1) (AV.tup [])))) = true →
 (!!decide
 (reqAt L C T R F W U (AV.toI (List.getD qs (0 + Int.toNat i * 4) (AV.tup [])))
 (AV.toI (List.getD qs (0 + Int.toNat i * 4 + 1) (AV.tup [])))
 (AV.toI (List.getD qs (0 + Int.toNat i * 4 + 1 + 1) (AV.tup [])))
 (AV.toI (List.getD qs (0 + Int.toNat i * 4 + 1 + 1 + 1) (AV.tup [])))
 (AV.toB (List.getD bs (0 + Int.toNat i * 1) (AV.tup []))) now =
 AV.toI (List.getD (encI IntKind.i64 acc) (0 + Int.toNat i * 1) (AV.tup [])))) = true ∧
 ((!!decide
 (reqAt L C T R F W U (AV.toI (List.getD qs (0 + Int.toNat i * 4) (AV.tup [])))
 (AV.toI (List.getD qs (0 + Int.toNat i * 4 + 1) (AV.tup [])))
 (AV.toI (List.getD qs (0 + Int.toNat i * 4 + 1 + 1) (AV.tup [])))
 (AV.toI (List.getD qs (0 + Int.toNat i * 4 + 1 + 1 + 1) (AV.tup [])))
 (AV.toB (List.getD bs (0 + Int.toNat i * 1) (AV.tup []))) now =
 AV.toI (List.getD (encI IntKind.i64 acc) (0 + Int.toNat i * 1) (AV.tup [])))) = true ∧
 ((!decide
 (reqAt L C T R F W U (AV.toI (List.getD qs (0 + Int.toNat i * 4) (AV.tup [])))
 (AV.toI (List.getD qs (0 + Int.toNat i * 4 + 1) (AV.tup [])))
 (AV.toI (List.getD qs (0 + Int.toNat i * 4 + 1 + 1) (AV.tup [])))
 (AV.toI (List.getD qs (0 + Int.toNat i * 4 + 1 + 1 + 1) (AV.tup [])))
 (AV.toB (List.getD bs (0 + Int.toNat i * 1) (AV.tup []))) now =
 AV.toI (List.getD (encI IntKind.i64 acc) (0 + Int.toNat i * 1) (AV.tup [])))) = false ∧
 (((!decide
 (reqAt L C T R F W U (AV.toI (List.getD qs (0 + Int.toNat i * 4) (AV.tup [])))
 (AV.toI (List.getD qs (0 + Int.toNat i * 4 + 1) (AV.tup [])))
 (AV.toI (List.getD qs (0 + Int.toNat i * 4 + 1 + 1) (AV.tup [])))
 (AV.toI (List.getD qs (0 + Int.toNat i * 4 + 1 + 1 + 1) (AV.tup [])))
 (AV.toB (List.getD bs (0 + Int.toNat i * 1) (AV.tup []))) now <
 now)) = true →
 (!decide
 (reqAt L C T R F W U (AV.toI (List.getD qs (0 + Int.toNat i * 4) (AV.tup [])))
 (AV.toI (List.getD qs (0 + Int.toNat i * 4 + 1) (AV.tup [])))
 (AV.toI (List.getD qs (0 + Int.toNat i * 4 + 1 + 1) (AV.tup [])))
 (AV.toI (List.getD qs (0 + Int.toNat i * 4 + 1 + 1 + 1) (AV.tup [])))
 (AV.toB (List.getD bs (0 + Int.toNat i * 1) (AV.tup []))) now <
 now)) = true ∧
 ((!decide
 (reqAt L C T R F W U (AV.toI (List.getD qs (0 + Int.toNat i * 4) (AV.tup [])))
 (AV.toI (List.getD qs (0 + Int.toNat i * 4 + 1) (AV.tup [])))
 (AV.toI (List.getD qs (0 + Int.toNat i * 4 + 1 + 1) (AV.tup [])))
 (AV.toI (List.getD qs (0 + Int.toNat i * 4 + 1 + 1 + 1) (AV.tup [])))
 (AV.toB (List.getD bs (0 + Int.toNat i * 1) (AV.tup []))) now <
 now)) = true ∧
 ((decide
 (reqAt L C T R F W U (AV.toI (List.getD qs (0 + Int.toNat i * 4) (AV.tup [])))
 (AV.toI (List.getD qs (0 + Int.toNat i * 4 + 1) (AV.tup [])))
 (AV.toI (List.getD qs (0 + Int.toNat i * 4 + 1 + 1) (AV.tup [])))
 (AV.toI (List.getD qs (0 + Int.toNat i * 4 + 1 + 1 + 1) (AV.tup [])))
 (AV.toB (List.getD bs (0 + Int.toNat i * 1) (AV.tup []))) now <
 now)) = false ∧
 (((!decide
 (reqAt L C T R F W U (AV.toI (List.getD qs (0 + Int.toNat i * 4) (AV.tup [])))
 (AV.toI (List.getD qs (0 + Int.toNat i * 4 + 1) (AV.tup [])))
 (AV.toI (List.getD qs (0 + Int.toNat i * 4 + 1 + 1) (AV.tup [])))
 (AV.toI (List.getD qs (0 + Int.toNat i * 4 + 1 + 1 + 1) (AV.tup [])))
 (AV.toB (List.getD bs (0 + Int.toNat i * 1) (AV.tup []))) now ≥
 reqEnd L C T R F W U (AV.toI (List.getD qs (0 + Int.toNat i * 4) (AV.tup [])))
 (AV.toI (List.getD qs (0 + Int.toNat i * 4 + 1) (AV.tup [])))
 (AV.toI (List.getD qs (0 + Int.toNat i * 4 + 1 + 1) (AV.tup [])))
 (AV.toI (List.getD qs (0 + Int.toNat i * 4 + 1 + 1 + 1) (AV.tup [])))
 (AV.toB (List.getD bs (0 + Int.toNat i * 1) (AV.tup []))) now)) = true →
 (!decide
 (reqAt L C T R F W U (AV.toI (List.getD qs (0 + Int.toNat i * 4) (AV.tup [])))
 (AV.toI (List.getD qs (0 + Int.toNat i * 4 + 1) (AV.tup [])))
 (AV.toI (List.getD qs (0 + Int.toNat i * 4 + 1 + 1) (AV.tup [])))
 (AV.toI (List.getD qs (0 + Int.toNat i * 4 + 1 + 1 + 1) (AV.tup [])))
 (AV.toB (List.getD bs (0 + Int.toNat i * 1) (AV.tup []))) now ≥
 reqEnd L C T R F W U (AV.toI (List.getD qs (0 + Int.toNat i * 4) (AV.tup [])))
 (AV.toI (List.getD qs (0 + Int.toNat i * 4 + 1) (AV.tup [])))
 (AV.toI (List.getD qs (0 + Int.toNat i * 4 + 1 + 1) (AV.tup [])))
 (AV.toI (List.getD qs (0 + Int.toNat i * 4 + 1 + 1 + 1) (AV.tup [])))
 (AV.toB (List.getD bs (0 + Int.toNat i * 1) (AV.tup []))) now)) = true ∧
 ((!decide
 (reqAt L C T R F W U (AV.toI (List.getD qs (0 + Int.toNat i * 4) (AV.tup [])))
 (AV.toI (List.getD qs (0 + Int.toNat i * 4 + 1) (AV.tup [])))
 (AV.toI (List.getD qs (0 + Int.toNat i * 4 + 1 + 1) (AV.tup [])))
 (AV.toI (List.getD qs (0 + Int.toNat i * 4 + 1 + 1 + 1) (AV.tup [])))
 (AV.toB (List.getD bs (0 + Int.toNat i * 1) (AV.tup []))) now ≥
 reqEnd L C T R F W U (AV.toI (List.getD qs (0 + Int.toNat i * 4) (AV.tup [])))
 (AV.toI (List.getD qs (0 + Int.toNat i * 4 + 1) (AV.tup [])))
 (AV.toI (List.getD qs (0 + Int.toNat i * 4 + 1 + 1) (AV.tup [])))
 (AV.toI (List.getD qs (0 + Int.toNat i * 4 + 1 + 1 + 1) (AV.tup [])))
 (AV.toB (List.getD bs (0 + Int.toNat i * 1) (AV.tup []))) now)) = true ∧
 ((!decide
 (reqAt L C T R F W U (AV.toI (List.getD qs (0 + Int.toNat i * 4) (AV.tup [])))
 (AV.toI (List.getD qs (0 + Int.toNat i * 4 + 1) (AV.tup [])))
 (AV.toI (List.getD qs (0 + Int.toNat i * 4 + 1 + 1) (AV.tup [])))
 (AV.toI (List.getD qs (0 + Int.toNat i * 4 + 1 + 1 + 1) (AV.tup [])))
 (AV.toB (List.getD bs (0 + Int.toNat i * 1) (AV.tup []))) now ≥
 reqEnd L C T R F W U (AV.toI (List.getD qs (0 + Int.toNat i * 4) (AV.tup [])))
 (AV.toI (List.getD qs (0 + Int.toNat i * 4 + 1) (AV.tup [])))
 (AV.toI (List.getD qs (0 + Int.toNat i * 4 + 1 + 1) (AV.tup [])))
 (AV.toI (List.getD qs (0 + Int.toNat i * 4 + 1 + 1 + 1) (AV.tup [])))
 (AV.toB (List.getD bs (0 + Int.toNat i * 1) (AV.tup []))) now)) = true ∧
 ((!decide
 (reqAt L C T R F W U (AV.toI (List.getD qs (0 + Int.toNat i * 4) (AV.tup [])))
 (AV.toI (List.getD qs (0 + Int.toNat i * 4 + 1) (AV.tup [])))
 (AV.toI (List.getD qs (0 + Int.toNat i * 4 + 1 + 1) (AV.tup [])))
 (AV.toI (List.getD qs (0 + Int.toNat i * 4 + 1 + 1 + 1) (AV.tup [])))
 (AV.toB (List.getD bs (0 + Int.toNat i * 1) (AV.tup []))) now ≥
 reqEnd L C T R F W U (AV.toI (List.getD qs (0 + Int.toNat i * 4) (AV.tup [])))
 (AV.toI (List.getD qs (0 + Int.toNat i * 4 + 1) (AV.tup [])))
 (AV.toI (List.getD qs (0 + Int.toNat i * 4 + 1 + 1) (AV.tup [])))
 (AV.toI (List.getD qs (0 + Int.toNat i * 4 + 1 + 1 + 1) (AV.tup [])))
 (AV.toB (List.getD bs (0 + Int.toNat i * 1) (AV.tup []))) now)) = true ∧
 ((decide ((0 : Int) ≤ i ∧ i < (↑n : Int))) = true ∧
 ((!decide
 (reqAt L C T R F W U (AV.toI (List.getD qs (0 + Int.toNat i * 4) (AV.tup [])))
 (AV.toI (List.getD qs (0 + Int.toNat i * 4 + 1) (AV.tup [])))
 (AV.toI (List.getD qs (0 + Int.toNat i * 4 + 1 + 1) (AV.tup [])))
 (AV.toI (List.getD qs (0 + Int.toNat i * 4 + 1 + 1 + 1) (AV.tup [])))
 (AV.toB (List.getD bs (0 + Int.toNat i * 1) (AV.tup []))) now ≥
 reqEnd L C T R F W U (AV.toI (List.getD qs (0 + Int.toNat i * 4) (AV.tup [])))
 (AV.toI (List.getD qs (0 + Int.toNat i * 4 + 1) (AV.tup [])))
 (AV.toI (List.getD qs (0 + Int.toNat i * 4 + 1 + 1) (AV.tup [])))
 (AV.toI (List.getD qs (0 + Int.toNat i * 4 + 1 + 1 + 1) (AV.tup [])))
 (AV.toB (List.getD bs (0 + Int.toNat i * 1) (AV.tup []))) now)) = true ∧
 ((!decide
 (reqAt L C T R F W U (AV.toI (List.getD qs (0 + Int.toNat i * 4) (AV.tup [])))
 (AV.toI (List.getD qs (0 + Int.toNat i * 4 + 1) (AV.tup [])))
 (AV.toI (List.getD qs (0 + Int.toNat i * 4 + 1 + 1) (AV.tup [])))
 (AV.toI (List.getD qs (0 + Int.toNat i * 4 + 1 + 1 + 1) (AV.tup [])))
 (AV.toB (List.getD bs (0 + Int.toNat i * 1) (AV.tup []))) now ≥
 reqEnd L C T R F W U (AV.toI (List.getD qs (0 + Int.toNat i * 4) (AV.tup [])))
 (AV.toI (List.getD qs (0 + Int.toNat i * 4 + 1) (AV.tup [])))
 (AV.toI (List.getD qs (0 + Int.toNat i * 4 + 1 + 1) (AV.tup [])))
 (AV.toI (List.getD qs (0 + Int.toNat i * 4 + 1 + 1 + 1) (AV.tup [])))
 (AV.toB (List.getD bs (0 + Int.toNat i * 1) (AV.tup []))) now)) = true ∧
 ((decide (0 + Int.toNat i * 4 + 3 < List.length qs)) = true ∧
 ((AV.isI IntKind.i64 (List.getD qs (0 + Int.toNat i * 4 + 3) (AV.tup []))) = true ∧
 ((!decide
 (reqAt L C T R F W U (AV.toI (List.getD qs (0 + Int.toNat i * 4) (AV.tup [])))
 (AV.toI (List.getD qs (0 + Int.toNat i * 4 + 1) (AV.tup [])))
 (AV.toI (List.getD qs (0 + Int.toNat i * 4 + 1 + 1) (AV.tup [])))
 (AV.toI (List.getD qs (0 + Int.toNat i * 4 + 1 + 1 + 1) (AV.tup [])))
 (AV.toB (List.getD bs (0 + Int.toNat i * 1) (AV.tup []))) now ≥
 reqEnd L C T R F W U (AV.toI (List.getD qs (0 + Int.toNat i * 4) (AV.tup [])))
 (AV.toI (List.getD qs (0 + Int.toNat i * 4 + 1) (AV.tup [])))
 (AV.toI (List.getD qs (0 + Int.toNat i * 4 + 1 + 1) (AV.tup [])))
 (AV.toI (List.getD qs (0 + Int.toNat i * 4 + 1 + 1 + 1) (AV.tup [])))
 (AV.toB (List.getD bs (0 + Int.toNat i * 1) (AV.tup []))) now)) = true ∧
 ((!decide
 (reqAt L C T R F W U (AV.toI (List.getD qs (0 + Int.toNat i * 4) (AV.tup [])))
 (AV.toI (List.getD qs (0 + Int.toNat i * 4 + 1) (AV.tup [])))
 (AV.toI (List.getD qs (0 + Int.toNat i * 4 + 1 + 1) (AV.tup [])))
 (AV.toI (List.getD qs (0 + Int.toNat i * 4 + 1 + 1 + 1) (AV.tup [])))
 (AV.toB (List.getD bs (0 + Int.toNat i * 1) (AV.tup []))) now ≥
 reqEnd L C T R F W U (AV.toI (List.getD qs (0 + Int.toNat i * 4) (AV.tup [])))
 (AV.toI (List.getD qs (0 + Int.toNat i * 4 + 1) (AV.tup [])))
 (AV.toI (List.getD qs (0 + Int.toNat i * 4 + 1 + 1) (AV.tup [])))
 (AV.toI (List.getD qs (0 + Int.toNat i * 4 + 1 + 1 + 1) (AV.tup [])))
 (AV.toB (List.getD bs (0 + Int.toNat i * 1) (AV.tup []))) now)) = true ∧
 ((decide
 (reqAt L C T R F W U (AV.toI (List.getD qs (0 + Int.toNat i * 4) (AV.tup [])))
 (AV.toI (List.getD qs (0 + Int.toNat i * 4 + 1) (AV.tup [])))
 (AV.toI (List.getD qs (0 + Int.toNat i * 4 + 1 + 1) (AV.tup [])))
 (AV.toI (List.getD qs (0 + Int.toNat i * 4 + 1 + 1 + 1) (AV.tup [])))
 (AV.toB (List.getD bs (0 + Int.toNat i * 1) (AV.tup []))) now ≥
 reqEnd L C T R F W U (AV.toI (List.getD qs (0 + Int.toNat i * 4) (AV.tup [])))
 (AV.toI (List.getD qs (0 + Int.toNat i * 4 + 1) (AV.tup [])))
 (AV.toI (List.getD qs (0 + Int.toNat i * 4 + 1 + 1) (AV.tup [])))
 (AV.toI (List.getD qs (0 + Int.toNat i * 4 + 1 + 1 + 1) (AV.tup [])))
 (AV.toB (List.getD bs (0 + Int.toNat i * 1) (AV.tup []))) now)) = false ∧
 (((!decide
 (reqEnd L C T R F W U (AV.toI (List.getD qs (0 + Int.toNat i * 4) (AV.tup [])))
 (AV.toI (List.getD qs (0 + Int.toNat i * 4 + 1) (AV.tup [])))
 (AV.toI (List.getD qs (0 + Int.toNat i * 4 + 1 + 1) (AV.tup [])))
 (AV.toI (List.getD qs (0 + Int.toNat i * 4 + 1 + 1 + 1) (AV.tup [])))
 (AV.toB (List.getD bs (0 + Int.toNat i * 1) (AV.tup []))) now <
 IntKind.wrap IntKind.i64
 (now + AV.toI (List.getD qs (0 + Int.toNat i * 4 + 3) (AV.tup []))))) = true →
 (!decide
 (reqEnd L C T R F W U (AV.toI (List.getD qs (0 + Int.toNat i * 4) (AV.tup [])))
 (AV.toI (List.getD qs (0 + Int.toNat i * 4 + 1) (AV.tup [])))
 (AV.toI (List.getD qs (0 + Int.toNat i * 4 + 1 + 1) (AV.tup [])))
 (AV.toI (List.getD qs (0 + Int.toNat i * 4 + 1 + 1 + 1) (AV.tup [])))
 (AV.toB (List.getD bs (0 + Int.toNat i * 1) (AV.tup []))) now <
 IntKind.wrap IntKind.i64
 (now + AV.toI (List.getD qs (0 + Int.toNat i * 4 + 3) (AV.tup []))))) = true ∧
 ((!decide
 (reqEnd L C T R F W U (AV.toI (List.getD qs (0 + Int.toNat i * 4) (AV.tup [])))
 (AV.toI (List.getD qs (0 + Int.toNat i * 4 + 1) (AV.tup [])))
 (AV.toI (List.getD qs (0 + Int.toNat i * 4 + 1 + 1) (AV.tup [])))
 (AV.toI (List.getD qs (0 + Int.toNat i * 4 + 1 + 1 + 1) (AV.tup [])))
 (AV.toB (List.getD bs (0 + Int.toNat i * 1) (AV.tup []))) now <
 IntKind.wrap IntKind.i64
 (now + AV.toI (List.getD qs (0 + Int.toNat i * 4 + 3) (AV.tup []))))) = true ∧
 ((!decide
 (reqEnd L C T R F W U (AV.toI (List.getD qs (0 + Int.toNat i * 4) (AV.tup [])))
 (AV.toI (List.getD qs (0 + Int.toNat i * 4 + 1) (AV.tup [])))
 (AV.toI (List.getD qs (0 + Int.toNat i * 4 + 1 + 1) (AV.tup [])))
 (AV.toI (List.getD qs (0 + Int.toNat i * 4 + 1 + 1 + 1) (AV.tup [])))
 (AV.toB (List.getD bs (0 + Int.toNat i * 1) (AV.tup []))) now <
 IntKind.wrap IntKind.i64
 (now + AV.toI (List.getD qs (0 + Int.toNat i * 4 + 3) (AV.tup []))))) = true ∧
 ((!decide
 (reqEnd L C T R F W U (AV.toI (List.getD qs (0 + Int.toNat i * 4) (AV.tup [])))
 (AV.toI (List.getD qs (0 + Int.toNat i * 4 + 1) (AV.tup [])))
 (AV.toI (List.getD qs (0 + Int.toNat i * 4 + 1 + 1) (AV.tup [])))
 (AV.toI (List.getD qs (0 + Int.toNat i * 4 + 1 + 1 + 1) (AV.tup [])))
 (AV.toB (List.getD bs (0 + Int.toNat i * 1) (AV.tup []))) now <
 IntKind.wrap IntKind.i64
 (now + AV.toI (List.getD qs (0 + Int.toNat i * 4 + 3) (AV.tup []))))) = true ∧
 ((decide ((0 : Int) ≤ i ∧ i < (↑n : Int))) = true ∧
 ((!decide
 (reqEnd L C T R F W U (AV.toI (List.getD qs (0 + Int.toNat i * 4) (AV.tup [])))
 (AV.toI (List.getD qs (0 + Int.toNat i * 4 + 1) (AV.tup [])))
 (AV.toI (List.getD qs (0 + Int.toNat i * 4 + 1 + 1) (AV.tup [])))
 (AV.toI (List.getD qs (0 + Int.toNat i * 4 + 1 + 1 + 1) (AV.tup [])))
 (AV.toB (List.getD bs (0 + Int.toNat i * 1) (AV.tup []))) now <
 IntKind.wrap IntKind.i64
 (now + AV.toI (List.getD qs (0 + Int.toNat i * 4 + 3) (AV.tup []))))) = true ∧
 ((!decide
 (reqEnd L C T R F W U (AV.toI (List.getD qs (0 + Int.toNat i * 4) (AV.tup [])))
 (AV.toI (List.getD qs (0 + Int.toNat i * 4 + 1) (AV.tup [])))
 (AV.toI (List.getD qs (0 + Int.toNat i * 4 + 1 + 1) (AV.tup [])))
 (AV.toI (List.getD qs (0 + Int.toNat i * 4 + 1 + 1 + 1) (AV.tup [])))
 (AV.toB (List.getD bs (0 + Int.toNat i * 1) (AV.tup []))) now <
 IntKind.wrap IntKind.i64
 (now + AV.toI (List.getD qs (0 + Int.toNat i * 4 + 3) (AV.tup []))))) = true ∧
 ((decide (0 + Int.toNat i * 4 + 3 < List.length qs)) = true ∧
 ((AV.isI IntKind.i64 (List.getD qs (0 + Int.toNat i * 4 + 3) (AV.tup []))) = true ∧
 ((!decide
 (reqEnd L C T R F W U (AV.toI (List.getD qs (0 + Int.toNat i * 4) (AV.tup [])))
 (AV.toI (List.getD qs (0 + Int.toNat i * 4 + 1) (AV.tup [])))
 (AV.toI (List.getD qs (0 + Int.toNat i * 4 + 1 + 1) (AV.tup [])))
 (AV.toI (List.getD qs (0 + Int.toNat i * 4 + 1 + 1 + 1) (AV.tup [])))
 (AV.toB (List.getD bs (0 + Int.toNat i * 1) (AV.tup []))) now <
 IntKind.wrap IntKind.i64
 (now + AV.toI (List.getD qs (0 + Int.toNat i * 4 + 3) (AV.tup []))))) = true ∧
 ((!decide
 (reqEnd L C T R F W U (AV.toI (List.getD qs (0 + Int.toNat i * 4) (AV.tup [])))
 (AV.toI (List.getD qs (0 + Int.toNat i * 4 + 1) (AV.tup [])))
 (AV.toI (List.getD qs (0 + Int.toNat i * 4 + 1 + 1) (AV.tup [])))
 (AV.toI (List.getD qs (0 + Int.toNat i * 4 + 1 + 1 + 1) (AV.tup [])))
 (AV.toB (List.getD bs (0 + Int.toNat i * 1) (AV.tup []))) now <
 IntKind.wrap IntKind.i64
 (now + AV.toI (List.getD qs (0 + Int.toNat i * 4 + 3) (AV.tup []))))) = true ∧
 ((!decide
 (reqEnd L C T R F W U (AV.toI (List.getD qs (0 + Int.toNat i * 4) (AV.tup [])))
 (AV.toI (List.getD qs (0 + Int.toNat i * 4 + 1) (AV.tup [])))
 (AV.toI (List.getD qs (0 + Int.toNat i * 4 + 1 + 1) (AV.tup [])))
 (AV.toI (List.getD qs (0 + Int.toNat i * 4 + 1 + 1 + 1) (AV.tup [])))
 (AV.toB (List.getD bs (0 + Int.toNat i * 1) (AV.tup []))) now <
 IntKind.wrap IntKind.i64
 (now + AV.toI (List.getD qs (0 + Int.toNat i * 4 + 3) (AV.tup []))))) = true ∧
 ((!decide
 (reqEnd L C T R F W U (AV.toI (List.getD qs (0 + Int.toNat i * 4) (AV.tup [])))
 (AV.toI (List.getD qs (0 + Int.toNat i * 4 + 1) (AV.tup [])))
 (AV.toI (List.getD qs (0 + Int.toNat i * 4 + 1 + 1) (AV.tup [])))
 (AV.toI (List.getD qs (0 + Int.toNat i * 4 + 1 + 1 + 1) (AV.tup [])))
 (AV.toB (List.getD bs (0 + Int.toNat i * 1) (AV.tup []))) now <
 IntKind.wrap IntKind.i64
 (now + AV.toI (List.getD qs (0 + Int.toNat i * 4 + 3) (AV.tup []))))) = true ∧
 ((decide ((0 : Int) ≤ i ∧ i < (↑n : Int))) = true ∧
 ((!decide
 (reqEnd L C T R F W U (AV.toI (List.getD qs (0 + Int.toNat i * 4) (AV.tup [])))
 (AV.toI (List.getD qs (0 + Int.toNat i * 4 + 1) (AV.tup [])))
 (AV.toI (List.getD qs (0 + Int.toNat i * 4 + 1 + 1) (AV.tup [])))
 (AV.toI (List.getD qs (0 + Int.toNat i * 4 + 1 + 1 + 1) (AV.tup [])))
 (AV.toB (List.getD bs (0 + Int.toNat i * 1) (AV.tup []))) now <
 IntKind.wrap IntKind.i64
 (now + AV.toI (List.getD qs (0 + Int.toNat i * 4 + 3) (AV.tup []))))) = true ∧
 ((decide (0 + Int.toNat i * 4 + 4 ≤ List.length qs)) = true ∧
 ((AV.isI IntKind.i64 (List.getD qs (0 + Int.toNat i * 4) (AV.tup []))) = true ∧
 ((AV.isI IntKind.u16 (List.getD qs (0 + Int.toNat i * 4 + 1) (AV.tup []))) = true ∧
 ((AV.isI IntKind.u8 (List.getD qs (0 + Int.toNat i * 4 + 1 + 1) (AV.tup []))) = true ∧
 ((AV.isI IntKind.i64 (List.getD qs (0 + Int.toNat i * 4 + 1 + 1 + 1) (AV.tup []))) = true ∧
 ((!decide
 (reqEnd L C T R F W U (AV.toI (List.getD qs (0 + Int.toNat i * 4) (AV.tup [])))
 (AV.toI (List.getD qs (0 + Int.toNat i * 4 + 1) (AV.tup [])))
 (AV.toI (List.getD qs (0 + Int.toNat i * 4 + 1 + 1) (AV.tup [])))
 (AV.toI (List.getD qs (0 + Int.toNat i * 4 + 1 + 1 + 1) (AV.tup [])))
 (AV.toB (List.getD bs (0 + Int.toNat i * 1) (AV.tup []))) now <
 IntKind.wrap IntKind.i64
 (now + AV.toI (List.getD qs (0 + Int.toNat i * 4 + 3) (AV.tup []))))) = true ∧
 ((!decide
 (reqEnd L C T R F W U (AV.toI (List.getD qs (0 + Int.toNat i * 4) (AV.tup [])))
 (AV.toI (List.getD qs (0 + Int.toNat i * 4 + 1) (AV.tup [])))
 (AV.toI (List.getD qs (0 + Int.toNat i * 4 + 1 + 1) (AV.tup [])))
 (AV.toI (List.getD qs (0 + Int.toNat i * 4 + 1 + 1 + 1) (AV.tup [])))
 (AV.toB (List.getD bs (0 + Int.toNat i * 1) (AV.tup []))) now <
 IntKind.wrap IntKind.i64
 (now + AV.toI (List.getD qs (0 + Int.toNat i * 4 + 3) (AV.tup []))))) = true ∧
 ((!decide
 (reqEnd L C T R F W U (AV.toI (List.getD qs (0 + Int.toNat i * 4) (AV.tup [])))
 (AV.toI (List.getD qs (0 + Int.toNat i * 4 + 1) (AV.tup [])))
 (AV.toI (List.getD qs (0 + Int.toNat i * 4 + 1 + 1) (AV.tup [])))
 (AV.toI (List.getD qs (0 + Int.toNat i * 4 + 1 + 1 + 1) (AV.tup [])))
 (AV.toB (List.getD bs (0 + Int.toNat i * 1) (AV.tup []))) now <
 IntKind.wrap IntKind.i64
 (now + AV.toI (List.getD qs (0 + Int.toNat i * 4 + 3) (AV.tup []))))) = true ∧
 ((!decide
 (reqEnd L C T R F W U (AV.toI (List.getD qs (0 + Int.toNat i * 4) (AV.tup [])))
 (AV.toI (List.getD qs (0 + Int.toNat i * 4 + 1) (AV.tup [])))
 (AV.toI (List.getD qs (0 + Int.toNat i * 4 + 1 + 1) (AV.tup [])))
 (AV.toI (List.getD qs (0 + Int.toNat i * 4 + 1 + 1 + 1) (AV.tup [])))
 (AV.toB (List.getD bs (0 + Int.toNat i * 1) (AV.tup []))) now <
 IntKind.wrap IntKind.i64
 (now + AV.toI (List.getD qs (0 + Int.toNat i * 4 + 3) (AV.tup []))))) = true ∧
 ((decide
 (reqEnd L C T R F W U (AV.toI (List.getD qs (0 + Int.toNat i * 4) (AV.tup [])))
 (AV.toI (List.getD qs (0 + Int.toNat i * 4 + 1) (AV.tup [])))
 (AV.toI (List.getD qs (0 + Int.toNat i * 4 + 1 + 1) (AV.tup [])))
 (AV.toI (List.getD qs (0 + Int.toNat i * 4 + 1 + 1 + 1) (AV.tup [])))
 (AV.toB (List.getD bs (0 + Int.toNat i * 1) (AV.tup []))) now <
 IntKind.wrap IntKind.i64
 (now + AV.toI (List.getD qs (0 + Int.toNat i * 4 + 3) (AV.tup []))))) = false ∧
 (((decide
 (reqEnd L C T R F W U (AV.toI (List.getD qs (0 + Int.toNat i * 4) (AV.tup [])))
 (AV.toI (List.getD qs (0 + Int.toNat i * 4 + 1) (AV.tup [])))
 (AV.toI (List.getD qs (0 + Int.toNat i * 4 + 1 + 1) (AV.tup [])))
 (AV.toI (List.getD qs (0 + Int.toNat i * 4 + 1 + 1 + 1) (AV.tup [])))
 (AV.toB (List.getD bs (0 + Int.toNat i * 1) (AV.tup []))) now >
 IntKind.wrap IntKind.i64
 (now +
 IntKind.wrap IntKind.i64
 (AV.toI (List.getD qs (0 + Int.toNat i * 4 + 3) (AV.tup [])) +
 mostN L C T R F W U (AV.toI (List.getD qs (0 + Int.toNat i * 4) (AV.tup []))))))) = true →
 Q Exit.ret 208
 [some (AV.slice 0 0 n (some c)), some (AV.slice 1 0 0 none),
 some (AV.ptr 2 0), some (AV.slice 3 0 n none), some (AV.int IntKind.i64 e),
 some (AV.int IntKind.i64 now), some (AV.int IntKind.i64 i)]
 { nx := 4, m :=
 [(3, AObj.opn 2 1 (encI IntKind.i64 acc)),
 (2,
 AObj.cells 23
 [AV.int IntKind.i64 L, AV.int IntKind.i64 C, AV.int IntKind.i64 T, AV.int IntKind.i64 R,
 AV.int IntKind.i64 F, AV.int IntKind.i64 W, AV.int IntKind.i64 U]),
 (1, AObj.ro bs), (0, AObj.ro qs)] }) ∧
 ((decide
 (reqEnd L C T R F W U (AV.toI (List.getD qs (0 + Int.toNat i * 4) (AV.tup [])))
 (AV.toI (List.getD qs (0 + Int.toNat i * 4 + 1) (AV.tup [])))
 (AV.toI (List.getD qs (0 + Int.toNat i * 4 + 1 + 1) (AV.tup [])))
 (AV.toI (List.getD qs (0 + Int.toNat i * 4 + 1 + 1 + 1) (AV.tup [])))
 (AV.toB (List.getD bs (0 + Int.toNat i * 1) (AV.tup []))) now >
 IntKind.wrap IntKind.i64
 (now +
 IntKind.wrap IntKind.i64
 (AV.toI (List.getD qs (0 + Int.toNat i * 4 + 3) (AV.tup [])) +
 mostN L C T R F W U (AV.toI (List.getD qs (0 + Int.toNat i * 4) (AV.tup []))))))) = false →
 N 208
 [some (AV.slice 0 0 n (some c)), some (AV.slice 1 0 0 none),
 some (AV.ptr 2 0), some (AV.slice 3 0 n none), some (AV.int IntKind.i64 e),
 some
 (AV.int IntKind.i64
 (reqEnd L C T R F W U (AV.toI (List.getD qs (0 + Int.toNat i * 4) (AV.tup [])))
 (AV.toI (List.getD qs (0 + Int.toNat i * 4 + 1) (AV.tup [])))
 (AV.toI (List.getD qs (0 + Int.toNat i * 4 + 1 + 1) (AV.tup [])))
 (AV.toI (List.getD qs (0 + Int.toNat i * 4 + 1 + 1 + 1) (AV.tup [])))
 (AV.toB (List.getD bs (0 + Int.toNat i * 1) (AV.tup []))) now)),
 some (AV.int IntKind.i64 (IntKind.wrap IntKind.i64 (i + (1 : Int))))]
 { nx := 4, m :=
 [(3, AObj.opn 2 1 (encI IntKind.i64 acc)),
 (2,
 AObj.cells 23
 [AV.int IntKind.i64 L, AV.int IntKind.i64 C, AV.int IntKind.i64 T, AV.int IntKind.i64 R,
 AV.int IntKind.i64 F, AV.int IntKind.i64 W, AV.int IntKind.i64 U]),
 (1, AObj.ro bs), (0, AObj.ro qs)] }))))))))))))))))))))))))))) ∧
 ((!decide
 (reqEnd L C T R F W U (AV.toI (List.getD qs (0 + Int.toNat i * 4) (AV.tup [])))
 (AV.toI (List.getD qs (0 + Int.toNat i * 4 + 1) (AV.tup [])))
 (AV.toI (List.getD qs (0 + Int.toNat i * 4 + 1 + 1) (AV.tup [])))
 (AV.toI (List.getD qs (0 + Int.toNat i * 4 + 1 + 1 + 1) (AV.tup [])))
 (AV.toB (List.getD bs (0 + Int.toNat i * 1) (AV.tup []))) now <
 IntKind.wrap IntKind.i64
 (now + AV.toI (List.getD qs (0 + Int.toNat i * 4 + 3) (AV.tup []))))) = false →
 (!decide
 (reqEnd L C T R F W U (AV.toI (List.getD qs (0 + Int.toNat i * 4) (AV.tup [])))
 (AV.toI (List.getD qs (0 + Int.toNat i * 4 + 1) (AV.tup [])))
 (AV.toI (List.getD qs (0 + Int.toNat i * 4 + 1 + 1) (AV.tup [])))
 (AV.toI (List.getD qs (0 + Int.toNat i * 4 + 1 + 1 + 1) (AV.tup [])))
 (AV.toB (List.getD bs (0 + Int.toNat i * 1) (AV.tup []))) now <
 IntKind.wrap IntKind.i64
 (now + AV.toI (List.getD qs (0 + Int.toNat i * 4 + 3) (AV.tup []))))) = false ∧
 ((!decide
 (reqEnd L C T R F W U (AV.toI (List.getD qs (0 + Int.toNat i * 4) (AV.tup [])))
 (AV.toI (List.getD qs (0 + Int.toNat i * 4 + 1) (AV.tup [])))
 (AV.toI (List.getD qs (0 + Int.toNat i * 4 + 1 + 1) (AV.tup [])))
 (AV.toI (List.getD qs (0 + Int.toNat i * 4 + 1 + 1 + 1) (AV.tup [])))
 (AV.toB (List.getD bs (0 + Int.toNat i * 1) (AV.tup []))) now <
 IntKind.wrap IntKind.i64
 (now + AV.toI (List.getD qs (0 + Int.toNat i * 4 + 3) (AV.tup []))))) = false ∧
 ((!decide
 (reqEnd L C T R F W U (AV.toI (List.getD qs (0 + Int.toNat i * 4) (AV.tup [])))
 (AV.toI (List.getD qs (0 + Int.toNat i * 4 + 1) (AV.tup [])))
 (AV.toI (List.getD qs (0 + Int.toNat i * 4 + 1 + 1) (AV.tup [])))
 (AV.toI (List.getD qs (0 + Int.toNat i * 4 + 1 + 1 + 1) (AV.tup [])))
 (AV.toB (List.getD bs (0 + Int.toNat i * 1) (AV.tup []))) now <
 IntKind.wrap IntKind.i64
 (now + AV.toI (List.getD qs (0 + Int.toNat i * 4 + 3) (AV.tup []))))) = false ∧
 ((!decide
 (reqEnd L C T R F W U (AV.toI (List.getD qs (0 + Int.toNat i * 4) (AV.tup [])))
 (AV.toI (List.getD qs (0 + Int.toNat i * 4 + 1) (AV.tup [])))
 (AV.toI (List.getD qs (0 + Int.toNat i * 4 + 1 + 1) (AV.tup [])))
 (AV.toI (List.getD qs (0 + Int.toNat i * 4 + 1 + 1 + 1) (AV.tup [])))
 (AV.toB (List.getD bs (0 + Int.toNat i * 1) (AV.tup []))) now <
 IntKind.wrap IntKind.i64
 (now + AV.toI (List.getD qs (0 + Int.toNat i * 4 + 3) (AV.tup []))))) = false ∧
 ((!decide
 (reqEnd L C T R F W U (AV.toI (List.getD qs (0 + Int.toNat i * 4) (AV.tup [])))
 (AV.toI (List.getD qs (0 + Int.toNat i * 4 + 1) (AV.tup [])))
 (AV.toI (List.getD qs (0 + Int.toNat i * 4 + 1 + 1) (AV.tup [])))
 (AV.toI (List.getD qs (0 + Int.toNat i * 4 + 1 + 1 + 1) (AV.tup [])))
 (AV.toB (List.getD bs (0 + Int.toNat i * 1) (AV.tup []))) now <
 IntKind.wrap IntKind.i64
 (now + AV.toI (List.getD qs (0 + Int.toNat i * 4 + 3) (AV.tup []))))) = false ∧
 ((!decide
 (reqEnd L C T R F W U (AV.toI (List.getD qs (0 + Int.toNat i * 4) (AV.tup [])))
 (AV.toI (List.getD qs (0 + Int.toNat i * 4 + 1) (AV.tup [])))
 (AV.toI (List.getD qs (0 + Int.toNat i * 4 + 1 + 1) (AV.tup [])))
 (AV.toI (List.getD qs (0 + Int.toNat i * 4 + 1 + 1 + 1) (AV.tup [])))
 (AV.toB (List.getD bs (0 + Int.toNat i * 1) (AV.tup []))) now <
 IntKind.wrap IntKind.i64
 (now + AV.toI (List.getD qs (0 + Int.toNat i * 4 + 3) (AV.tup []))))) = false ∧
 ((!decide
 (reqEnd L C T R F W U (AV.toI (List.getD qs (0 + Int.toNat i * 4) (AV.tup [])))
 (AV.toI (List.getD qs (0 + Int.toNat i * 4 + 1) (AV.tup [])))
 (AV.toI (List.getD qs (0 + Int.toNat i * 4 + 1 + 1) (AV.tup [])))
 (AV.toI (List.getD qs (0 + Int.toNat i * 4 + 1 + 1 + 1) (AV.tup [])))
 (AV.toB (List.getD bs (0 + Int.toNat i * 1) (AV.tup []))) now <
 IntKind.wrap IntKind.i64
 (now + AV.toI (List.getD qs (0 + Int.toNat i * 4 + 3) (AV.tup []))))) = false ∧
 ((!decide
 (reqEnd L C T R F W U (AV.toI (List.getD qs (0 + Int.toNat i * 4) (AV.tup [])))
 (AV.toI (List.getD qs (0 + Int.toNat i * 4 + 1) (AV.tup [])))
 (AV.toI (List.getD qs (0 + Int.toNat i * 4 + 1 + 1) (AV.tup [])))
 (AV.toI (List.getD qs (0 + Int.toNat i * 4 + 1 + 1 + 1) (AV.tup [])))
 (AV.toB (List.getD bs (0 + Int.toNat i * 1) (AV.tup []))) now <
 IntKind.wrap IntKind.i64
 (now + AV.toI (List.getD qs (0 + Int.toNat i * 4 + 3) (AV.tup []))))) = false ∧
 ((!decide
 (reqEnd L C T R F W U (AV.toI (List.getD qs (0 + Int.toNat i * 4) (AV.tup [])))
 (AV.toI (List.getD qs (0 + Int.toNat i * 4 + 1) (AV.tup [])))
 (AV.toI (List.getD qs (0 + Int.toNat i * 4 + 1 + 1) (AV.tup [])))
 (AV.toI (List.getD qs (0 + Int.toNat i * 4 + 1 + 1 + 1) (AV.tup [])))
 (AV.toB (List.getD bs (0 + Int.toNat i * 1) (AV.tup []))) now <
 IntKind.wrap IntKind.i64
 (now + AV.toI (List.getD qs (0 + Int.toNat i * 4 + 3) (AV.tup []))))) = false ∧
 ((!decide
 (reqEnd L C T R F W U (AV.toI (List.getD qs (0 + Int.toNat i * 4) (AV.tup [])))
 (AV.toI (List.getD qs (0 + Int.toNat i * 4 + 1) (AV.tup [])))
 (AV.toI (List.getD qs (0 + Int.toNat i * 4 + 1 + 1) (AV.tup [])))
 (AV.toI (List.getD qs (0 + Int.toNat i * 4 + 1 + 1 + 1) (AV.tup [])))
 (AV.toB (List.getD bs (0 + Int.toNat i * 1) (AV.tup []))) now <
 IntKind.wrap IntKind.i64
 (now + AV.toI (List.getD qs (0 + Int.toNat i * 4 + 3) (AV.tup []))))) = false ∧
 ((!decide
 (reqEnd L C T R F W U (AV.toI (List.getD qs (0 + Int.toNat i * 4) (AV.tup [])))
 (AV.toI (List.getD qs (0 + Int.toNat i * 4 + 1) (AV.tup [])))
 (AV.toI (List.getD qs (0 + Int.toNat i * 4 + 1 + 1) (AV.tup [])))
 (AV.toI (List.getD qs (0 + Int.toNat i * 4 + 1 + 1 + 1) (AV.tup [])))
 (AV.toB (List.getD bs (0 + Int.toNat i * 1) (AV.tup []))) now <
 IntKind.wrap IntKind.i64
 (now + AV.toI (List.getD qs (0 + Int.toNat i * 4 + 3) (AV.tup []))))) = false ∧
 ((!decide
 (reqEnd L C T R F W U (AV.toI (List.getD qs (0 + Int.toNat i * 4) (AV.tup [])))
 (AV.toI (List.getD qs (0 + Int.toNat i * 4 + 1) (AV.tup [])))
 (AV.toI (List.getD qs (0 + Int.toNat i * 4 + 1 + 1) (AV.tup [])))
 (AV.toI (List.getD qs (0 + Int.toNat i * 4 + 1 + 1 + 1) (AV.tup [])))
 (AV.toB (List.getD bs (0 + Int.toNat i * 1) (AV.tup []))) now <
 IntKind.wrap IntKind.i64
 (now + AV.toI (List.getD qs (0 + Int.toNat i * 4 + 3) (AV.tup []))))) = false ∧
 ((!decide
 (reqEnd L C T R F W U (AV.toI (List.getD qs (0 + Int.toNat i * 4) (AV.tup [])))
 (AV.toI (List.getD qs (0 + Int.toNat i * 4 + 1) (AV.tup [])))
 (AV.toI (List.getD qs (0 + Int.toNat i * 4 + 1 + 1) (AV.tup [])))
 (AV.toI (List.getD qs (0 + Int.toNat i * 4 + 1 + 1 + 1) (AV.tup [])))
 (AV.toB (List.getD bs (0 + Int.toNat i * 1) (AV.tup []))) now <
 IntKind.wrap IntKind.i64
 (now + AV.toI (List.getD qs (0 + Int.toNat i * 4 + 3) (AV.tup []))))) = false ∧
 ((!decide
 (reqEnd L C T R F W U (AV.toI (List.getD qs (0 + Int.toNat i * 4) (AV.tup [])))
 (AV.toI (List.getD qs (0 + Int.toNat i * 4 + 1) (AV.tup [])))
 (AV.toI (List.getD qs (0 + Int.toNat i * 4 + 1 + 1) (AV.tup [])))
 (AV.toI (List.getD qs (0 + Int.toNat i * 4 + 1 + 1 + 1) (AV.tup [])))
 (AV.toB (List.getD bs (0 + Int.toNat i * 1) (AV.tup []))) now <
 IntKind.wrap IntKind.i64
 (now + AV.toI (List.getD qs (0 + Int.toNat i * 4 + 3) (AV.tup []))))) = false ∧
 ((!decide
 (reqEnd L C T R F W U (AV.toI (List.getD qs (0 + Int.toNat i * 4) (AV.tup [])))
 (AV.toI (List.getD qs (0 + Int.toNat i * 4 + 1) (AV.tup [])))
 (AV.toI (List.getD qs (0 + Int.toNat i * 4 + 1 + 1) (AV.tup [])))
 (AV.toI (List.getD qs (0 + Int.toNat i * 4 + 1 + 1 + 1) (AV.tup [])))
 (AV.toB (List.getD bs (0 + Int.toNat i * 1) (AV.tup []))) now <
 IntKind.wrap IntKind.i64
 (now + AV.toI (List.getD qs (0 + Int.toNat i * 4 + 3) (AV.tup []))))) = false ∧
 ((decide
 (reqEnd L C T R F W U (AV.toI (List.getD qs (0 + Int.toNat i * 4) (AV.tup [])))
 (AV.toI (List.getD qs (0 + Int.toNat i * 4 + 1) (AV.tup [])))
 (AV.toI (List.getD qs (0 + Int.toNat i * 4 + 1 + 1) (AV.tup [])))
 (AV.toI (List.getD qs (0 + Int.toNat i * 4 + 1 + 1 + 1) (AV.tup [])))
 (AV.toB (List.getD bs (0 + Int.toNat i * 1) (AV.tup []))) now <
 IntKind.wrap IntKind.i64
 (now + AV.toI (List.getD qs (0 + Int.toNat i * 4 + 3) (AV.tup []))))) = true ∧
 (Q Exit.ret 208
 [some (AV.slice 0 0 n (some c)), some (AV.slice 1 0 0 none),
 some (AV.ptr 2 0), some (AV.slice 3 0 n none), some (AV.int IntKind.i64 e),
 some (AV.int IntKind.i64 now), some (AV.int IntKind.i64 i)]
 { nx := 4, m :=
 [(3, AObj.opn 2 1 (encI IntKind.i64 acc)),
 (2,
 AObj.cells 23
 [AV.int IntKind.i64 L, AV.int IntKind.i64 C, AV.int IntKind.i64 T, AV.int IntKind.i64 R,
 AV.int IntKind.i64 F, AV.int IntKind.i64 W, AV.int IntKind.i64 U]),
 (1, AObj.ro bs), (0, AObj.ro qs)] })))))))))))))))))))))))))))))) ∧
 ((!decide
 (reqAt L C T R F W U (AV.toI (List.getD qs (0 + Int.toNat i * 4) (AV.tup [])))
 (AV.toI (List.getD qs (0 + Int.toNat i * 4 + 1) (AV.tup [])))
 (AV.toI (List.getD qs (0 + Int.toNat i * 4 + 1 + 1) (AV.tup [])))
 (AV.toI (List.getD qs (0 + Int.toNat i * 4 + 1 + 1 + 1) (AV.tup [])))
 (AV.toB (List.getD bs (0 + Int.toNat i * 1) (AV.tup []))) now ≥
 reqEnd L C T R F W U (AV.toI (List.getD qs (0 + Int.toNat i * 4) (AV.tup [])))
 (AV.toI (List.getD qs (0 + Int.toNat i * 4 + 1) (AV.tup [])))
 (AV.toI (List.getD qs (0 + Int.toNat i * 4 + 1 + 1) (AV.tup [])))
 (AV.toI (List.getD qs (0 + Int.toNat i * 4 + 1 + 1 + 1) (AV.tup [])))
 (AV.toB (List.getD bs (0 + Int.toNat i * 1) (AV.tup []))) now)) = false →
 (!decide
 (reqAt L C T R F W U (AV.toI (List.getD qs (0 + Int.toNat i * 4) (AV.tup [])))
 (AV.toI (List.getD qs (0 + Int.toNat i * 4 + 1) (AV.tup [])))
 (AV.toI (List.getD qs (0 + Int.toNat i * 4 + 1 + 1) (AV.tup [])))
 (AV.toI (List.getD qs (0 + Int.toNat i * 4 + 1 + 1 + 1) (AV.tup [])))
 (AV.toB (List.getD bs (0 + Int.toNat i * 1) (AV.tup []))) now ≥
 reqEnd L C T R F W U (AV.toI (List.getD qs (0 + Int.toNat i * 4) (AV.tup [])))
 (AV.toI (List.getD qs (0 + Int.toNat i * 4 + 1) (AV.tup [])))
 (AV.toI (List.getD qs (0 + Int.toNat i * 4 + 1 + 1) (AV.tup [])))
 (AV.toI (List.getD qs (0 + Int.toNat i * 4 + 1 + 1 + 1) (AV.tup [])))
 (AV.toB (List.getD bs (0 + Int.toNat i * 1) (AV.tup []))) now)) = false ∧
 ((!decide
 (reqAt L C T R F W U (AV.toI (List.getD qs (0 + Int.toNat i * 4) (AV.tup [])))
 (AV.toI (List.getD qs (0 + Int.toNat i * 4 + 1) (AV.tup [])))
 (AV.toI (List.getD qs (0 + Int.toNat i * 4 + 1 + 1) (AV.tup [])))
 (AV.toI (List.getD qs (0 + Int.toNat i * 4 + 1 + 1 + 1) (AV.tup [])))
 (AV.toB (List.getD bs (0 + Int.toNat i * 1) (AV.tup []))) now ≥
 reqEnd L C T R F W U (AV.toI (List.getD qs (0 + Int.toNat i * 4) (AV.tup [])))
 (AV.toI (List.getD qs (0 + Int.toNat i * 4 + 1) (AV.tup [])))
 (AV.toI (List.getD qs (0 + Int.toNat i * 4 + 1 + 1) (AV.tup [])))
 (AV.toI (List.getD qs (0 + Int.toNat i * 4 + 1 + 1 + 1) (AV.tup [])))
 (AV.toB (List.getD bs (0 + Int.toNat i * 1) (AV.tup []))) now)) = false ∧
 ((!decide
 (reqAt L C T R F W U (AV.toI (List.getD qs (0 + Int.toNat i * 4) (AV.tup [])))
 (AV.toI (List.getD qs (0 + Int.toNat i * 4 + 1) (AV.tup [])))
 (AV.toI (List.getD qs (0 + Int.toNat i * 4 + 1 + 1) (AV.tup [])))
 (AV.toI (List.getD qs (0 + Int.toNat i * 4 + 1 + 1 + 1) (AV.tup [])))
 (AV.toB (List.getD bs (0 + Int.toNat i * 1) (AV.tup []))) now ≥
 reqEnd L C T R F W U (AV.toI (List.getD qs (0 + Int.toNat i * 4) (AV.tup [])))
 (AV.toI (List.getD qs (0 + Int.toNat i * 4 + 1) (AV.tup [])))
 (AV.toI (List.getD qs (0 + Int.toNat i * 4 + 1 + 1) (AV.tup [])))
 (AV.toI (List.getD qs (0 + Int.toNat i * 4 + 1 + 1 + 1) (AV.tup [])))
 (AV.toB (List.getD bs (0 + Int.toNat i * 1) (AV.tup []))) now)) = false ∧
 ((!decide
 (reqAt L C T R F W U (AV.toI (List.getD qs (0 + Int.toNat i * 4) (AV.tup [])))
 (AV.toI (List.getD qs (0 + Int.toNat i * 4 + 1) (AV.tup [])))
 (AV.toI (List.getD qs (0 + Int.toNat i * 4 + 1 + 1) (AV.tup [])))
 (AV.toI (List.getD qs (0 + Int.toNat i * 4 + 1 + 1 + 1) (AV.tup [])))
 (AV.toB (List.getD bs (0 + Int.toNat i * 1) (AV.tup []))) now ≥
 reqEnd L C T R F W U (AV.toI (List.getD qs (0 + Int.toNat i * 4) (AV.tup [])))
 (AV.toI (List.getD qs (0 + Int.toNat i * 4 + 1) (AV.tup [])))
 (AV.toI (List.getD qs (0 + Int.toNat i * 4 + 1 + 1) (AV.tup [])))
 (AV.toI (List.getD qs (0 + Int.toNat i * 4 + 1 + 1 + 1) (AV.tup [])))
 (AV.toB (List.getD bs (0 + Int.toNat i * 1) (AV.tup []))) now)) = false ∧
 ((!decide
 (reqAt L C T R F W U (AV.toI (List.getD qs (0 + Int.toNat i * 4) (AV.tup [])))
 (AV.toI (List.getD qs (0 + Int.toNat i * 4 + 1) (AV.tup [])))
 (AV.toI (List.getD qs (0 + Int.toNat i * 4 + 1 + 1) (AV.tup [])))
 (AV.toI (List.getD qs (0 + Int.toNat i * 4 + 1 + 1 + 1) (AV.tup [])))
 (AV.toB (List.getD bs (0 + Int.toNat i * 1) (AV.tup []))) now ≥
 reqEnd L C T R F W U (AV.toI (List.getD qs (0 + Int.toNat i * 4) (AV.tup [])))
 (AV.toI (List.getD qs (0 + Int.toNat i * 4 + 1) (AV.tup [])))
 (AV.toI (List.getD qs (0 + Int.toNat i * 4 + 1 + 1) (AV.tup [])))
 (AV.toI (List.getD qs (0 + Int.toNat i * 4 + 1 + 1 + 1) (AV.tup [])))
 (AV.toB (List.getD bs (0 + Int.toNat i * 1) (AV.tup []))) now)) = false ∧
 ((!decide
 (reqAt L C T R F W U (AV.toI (List.getD qs (0 + Int.toNat i * 4) (AV.tup [])))
 (AV.toI (List.getD qs (0 + Int.toNat i * 4 + 1) (AV.tup [])))
 (AV.toI (List.getD qs (0 + Int.toNat i * 4 + 1 + 1) (AV.tup [])))
 (AV.toI (List.getD qs (0 + Int.toNat i * 4 + 1 + 1 + 1) (AV.tup [])))
 (AV.toB (List.getD bs (0 + Int.toNat i * 1) (AV.tup []))) now ≥
 reqEnd L C T R F W U (AV.toI (List.getD qs (0 + Int.toNat i * 4) (AV.tup [])))
 (AV.toI (List.getD qs (0 + Int.toNat i * 4 + 1) (AV.tup [])))
 (AV.toI (List.getD qs (0 + Int.toNat i * 4 + 1 + 1) (AV.tup [])))
 (AV.toI (List.getD qs (0 + Int.toNat i * 4 + 1 + 1 + 1) (AV.tup [])))
 (AV.toB (List.getD bs (0 + Int.toNat i * 1) (AV.tup []))) now)) = false ∧
 ((!decide
 (reqAt L C T R F W U (AV.toI (List.getD qs (0 + Int.toNat i * 4) (AV.tup [])))
 (AV.toI (List.getD qs (0 + Int.toNat i * 4 + 1) (AV.tup [])))
 (AV.toI (List.getD qs (0 + Int.toNat i * 4 + 1 + 1) (AV.tup [])))
 (AV.toI (List.getD qs (0 + Int.toNat i * 4 + 1 + 1 + 1) (AV.tup [])))
 (AV.toB (List.getD bs (0 + Int.toNat i * 1) (AV.tup []))) now ≥
 reqEnd L C T R F W U (AV.toI (List.getD qs (0 + Int.toNat i * 4) (AV.tup [])))
 (AV.toI (List.getD qs (0 + Int.toNat i * 4 + 1) (AV.tup [])))
 (AV.toI (List.getD qs (0 + Int.toNat i * 4 + 1 + 1) (AV.tup [])))
 (AV.toI (List.getD qs (0 + Int.toNat i * 4 + 1 + 1 + 1) (AV.tup [])))
 (AV.toB (List.getD bs (0 + Int.toNat i * 1) (AV.tup []))) now)) = false ∧
 ((!decide
 (reqAt L C T R F W U (AV.toI (List.getD qs (0 + Int.toNat i * 4) (AV.tup [])))
 (AV.toI (List.getD qs (0 + Int.toNat i * 4 + 1) (AV.tup [])))
 (AV.toI (List.getD qs (0 + Int.toNat i * 4 + 1 + 1) (AV.tup [])))
 (AV.toI (List.getD qs (0 + Int.toNat i * 4 + 1 + 1 + 1) (AV.tup [])))
 (AV.toB (List.getD bs (0 + Int.toNat i * 1) (AV.tup []))) now ≥
 reqEnd L C T R F W U (AV.toI (List.getD qs (0 + Int.toNat i * 4) (AV.tup [])))
 (AV.toI (List.getD qs (0 + Int.toNat i * 4 + 1) (AV.tup [])))
 (AV.toI (List.getD qs (0 + Int.toNat i * 4 + 1 + 1) (AV.tup [])))
 (AV.toI (List.getD qs (0 + Int.toNat i * 4 + 1 + 1 + 1) (AV.tup [])))
 (AV.toB (List.getD bs (0 + Int.toNat i * 1) (AV.tup []))) now)) = false ∧
 ((decide
 (reqAt L C T R F W U (AV.toI (List.getD qs (0 + Int.toNat i * 4) (AV.tup [])))
 (AV.toI (List.getD qs (0 + Int.toNat i * 4 + 1) (AV.tup [])))
 (AV.toI (List.getD qs (0 + Int.toNat i * 4 + 1 + 1) (AV.tup [])))
 (AV.toI (List.getD qs (0 + Int.toNat i * 4 + 1 + 1 + 1) (AV.tup [])))
 (AV.toB (List.getD bs (0 + Int.toNat i * 1) (AV.tup []))) now ≥
 reqEnd L C T R F W U (AV.toI (List.getD qs (0 + Int.toNat i * 4) (AV.tup [])))
 (AV.toI (List.getD qs (0 + Int.toNat i * 4 + 1) (AV.tup [])))
 (AV.toI (List.getD qs (0 + Int.toNat i * 4 + 1 + 1) (AV.tup [])))
 (AV.toI (List.getD qs (0 + Int.toNat i * 4 + 1 + 1 + 1) (AV.tup [])))
 (AV.toB (List.getD bs (0 + Int.toNat i * 1) (AV.tup []))) now)) = true ∧
 (Q Exit.ret 208
 [some (AV.slice 0 0 n (some c)), some (AV.slice 1 0 0 none),
 some (AV.ptr 2 0), some (AV.slice 3 0 n none), some (AV.int IntKind.i64 e),
 some (AV.int IntKind.i64 now), some (AV.int IntKind.i64 i)]
 { nx := 4, m :=
 [(3, AObj.opn 2 1 (encI IntKind.i64 acc)),
 (2,
 AObj.cells 23
 [AV.int IntKind.i64 L, AV.int IntKind.i64 C, AV.int IntKind.i64 T, AV.int IntKind.i64 R,
 AV.int IntKind.i64 F, AV.int IntKind.i64 W, AV.int IntKind.i64 U]),
 (1, AObj.ro bs), (0, AObj.ro qs)] })))))))))))))) ∧
 ((!decide
 (reqAt L C T R F W U (AV.toI (List.getD qs (0 + Int.toNat i * 4) (AV.tup [])))
 (AV.toI (List.getD qs (0 + Int.toNat i * 4 + 1) (AV.tup [])))
 (AV.toI (List.getD qs (0 + Int.toNat i * 4 + 1 + 1) (AV.tup [])))
 (AV.toI (List.getD qs (0 + Int.toNat i * 4 + 1 + 1 + 1) (AV.tup [])))
 (AV.toB (List.getD bs (0 + Int.toNat i * 1) (AV.tup []))) now <
 now)) = false →
 (!decide
 (reqAt L C T R F W U (AV.toI (List.getD qs (0 + Int.toNat i * 4) (AV.tup [])))
 (AV.toI (List.getD qs (0 + Int.toNat i * 4 + 1) (AV.tup [])))
 (AV.toI (List.getD qs (0 + Int.toNat i * 4 + 1 + 1) (AV.tup [])))
 (AV.toI (List.getD qs (0 + Int.toNat i * 4 + 1 + 1 + 1) (AV.tup [])))
 (AV.toB (List.getD bs (0 + Int.toNat i * 1) (AV.tup []))) now <
 now)) = false ∧
 ((!decide
 (reqAt L C T R F W U (AV.toI (List.getD qs (0 + Int.toNat i * 4) (AV.tup [])))
 (AV.toI (List.getD qs (0 + Int.toNat i * 4 + 1) (AV.tup [])))
 (AV.toI (List.getD qs (0 + Int.toNat i * 4 + 1 + 1) (AV.tup [])))
 (AV.toI (List.getD qs (0 + Int.toNat i * 4 + 1 + 1 + 1) (AV.tup [])))
 (AV.toB (List.getD bs (0 + Int.toNat i * 1) (AV.tup []))) now <
 now)) = false ∧
 ((decide
 (reqAt L C T R F W U (AV.toI (List.getD qs (0 + Int.toNat i * 4) (AV.tup [])))
 (AV.toI (List.getD qs (0 + Int.toNat i * 4 + 1) (AV.tup [])))
 (AV.toI (List.getD qs (0 + Int.toNat i * 4 + 1 + 1) (AV.tup [])))
 (AV.toI (List.getD qs (0 + Int.toNat i * 4 + 1 + 1 + 1) (AV.tup [])))
 (AV.toB (List.getD bs (0 + Int.toNat i * 1) (AV.tup []))) now <
 now)) = true ∧
 (Q Exit.ret 208
 [some (AV.slice 0 0 n (some c)), some (AV.slice 1 0 0 none),
 some (AV.ptr 2 0), some (AV.slice 3 0 n none), some (AV.int IntKind.i64 e),
 some (AV.int IntKind.i64 now), some (AV.int IntKind.i64 i)]
 { nx := 4, m :=
 [(3, AObj.opn 2 1 (encI IntKind.i64 acc)),
 (2,
 AObj.cells 23
 [AV.int IntKind.i64 L, AV.int IntKind.i64 C, AV.int IntKind.i64 T, AV.int IntKind.i64 R,
 AV.int IntKind.i64 F, AV.int IntKind.i64 W, AV.int IntKind.i64 U]),
 (1, AObj.ro bs), (0, AObj.ro qs)] })))))))) ∧
 ((!!decide
 (reqAt L C T R F W U (AV.toI (List.getD qs (0 + Int.toNat i * 4) (AV.tup [])))
 (AV.toI (List.getD qs (0 + Int.toNat i * 4 + 1) (AV.tup [])))
 (AV.toI (List.getD qs (0 + Int.toNat i * 4 + 1 + 1) (AV.tup [])))
 (AV.toI (List.getD qs (0 + Int.toNat i * 4 + 1 + 1 + 1) (AV.tup [])))
 (AV.toB (List.getD bs (0 + Int.toNat i * 1) (AV.tup []))) now =
 AV.toI (List.getD (encI IntKind.i64 acc) (0 + Int.toNat i * 1) (AV.tup [])))) = false →
 (!!decide
 (reqAt L C T R F W U (AV.toI (List.getD qs (0 + Int.toNat i * 4) (AV.tup [])))
 (AV.toI (List.getD qs (0 + Int.toNat i * 4 + 1) (AV.tup [])))
 (AV.toI (List.getD qs (0 + Int.toNat i * 4 + 1 + 1) (AV.tup [])))
 (AV.toI (List.getD qs (0 + Int.toNat i * 4 + 1 + 1 + 1) (AV.tup [])))
 (AV.toB (List.getD bs (0 + Int.toNat i * 1) (AV.tup []))) now =
 AV.toI (List.getD (encI IntKind.i64 acc) (0 + Int.toNat i * 1) (AV.tup [])))) = false ∧
 ((!!decide
 (reqAt L C T R F W U (AV.toI (List.getD qs (0 + Int.toNat i * 4) (AV.tup [])))
 (AV.toI (List.getD qs (0 + Int.toNat i * 4 + 1) (AV.tup [])))
 (AV.toI (List.getD qs (0 + Int.toNat i * 4 + 1 + 1) (AV.tup [])))
 (AV.toI (List.getD qs (0 + Int.toNat i * 4 + 1 + 1 + 1) (AV.tup [])))
 (AV.toB (List.getD bs (0 + Int.toNat i * 1) (AV.tup []))) now =
 AV.toI (List.getD (encI IntKind.i64 acc) (0 + Int.toNat i * 1) (AV.tup [])))) = false ∧
 ((!decide
 (reqAt L C T R F W U (AV.toI (List.getD qs (0 + Int.toNat i * 4) (AV.tup [])))
 (AV.toI (List.getD qs (0 + Int.toNat i * 4 + 1) (AV.tup [])))
 (AV.toI (List.getD qs (0 + Int.toNat i * 4 + 1 + 1) (AV.tup [])))
 (AV.toI (List.getD qs (0 + Int.toNat i * 4 + 1 + 1 + 1) (AV.tup [])))
 (AV.toB (List.getD bs (0 + Int.toNat i * 1) (AV.tup []))) now =
 AV.toI (List.getD (encI IntKind.i64 acc) (0 + Int.toNat i * 1) (AV.tup [])))) = true ∧
 (Q Exit.ret 208
 [some (AV.slice 0 0 n (some c)), some (AV.slice 1 0 0 none),
 some (AV.ptr 2 0), some (AV.slice 3 0 n none), some (AV.int IntKind.i64 e),
 some (AV.int IntKind.i64 now), some (AV.int IntKind.i64 i)]
 { nx := 4, m :=
 [(3, AObj.opn 2 1 (encI IntKind.i64 acc)),
 (2,
 AObj.cells 23
 [AV.int IntKind.i64 L, AV.int IntKind.i64 C, AV.int IntKind.i64 T, AV.int IntKind.i64 R,
 AV.int IntKind.i64 F, AV.int IntKind.i64 W, AV.int IntKind.i64 U]),
 (1, AObj.ro bs), (0, AObj.ro qs)] })))))))))))))) ∧
 ((!!decide
 (reqErr L C T R F W U (AV.toI (List.getD qs (0 + Int.toNat i * 4) (AV.tup [])))
 (AV.toI (List.getD qs (0 + Int.toNat i * 4 + 1) (AV.tup [])))
 (AV.toI (List.getD qs (0 + Int.toNat i * 4 + 1 + 1) (AV.tup [])))
 (AV.toI (List.getD qs (0 + Int.toNat i * 4 + 1 + 1 + 1) (AV.tup [])))
 now =
 (0 : Int))) = false →
 (!!decide
 (reqErr L C T R F W U (AV.toI (List.getD qs (0 + Int.toNat i * 4) (AV.tup [])))
 (AV.toI (List.getD qs (0 + Int.toNat i * 4 + 1) (AV.tup [])))
 (AV.toI (List.getD qs (0 + Int.toNat i * 4 + 1 + 1) (AV.tup [])))
 (AV.toI (List.getD qs (0 + Int.toNat i * 4 + 1 + 1 + 1) (AV.tup [])))
 now =
 (0 : Int))) = false ∧
 ((!!decide
 (reqErr L C T R F W U (AV.toI (List.getD qs (0 + Int.toNat i * 4) (AV.tup [])))
 (AV.toI (List.getD qs (0 + Int.toNat i * 4 + 1) (AV.tup [])))
 (AV.toI (List.getD qs (0 + Int.toNat i * 4 + 1 + 1) (AV.tup [])))
 (AV.toI (List.getD qs (0 + Int.toNat i * 4 + 1 + 1 + 1) (AV.tup [])))
 now =
 (0 : Int))) = false ∧
 ((!!decide
 (reqErr L C T R F W U (AV.toI (List.getD qs (0 + Int.toNat i * 4) (AV.tup [])))
 (AV.toI (List.getD qs (0 + Int.toNat i * 4 + 1) (AV.tup [])))
 (AV.toI (List.getD qs (0 + Int.toNat i * 4 + 1 + 1) (AV.tup [])))
 (AV.toI (List.getD qs (0 + Int.toNat i * 4 + 1 + 1 + 1) (AV.tup [])))
 now =
 (0 : Int))) = false ∧
 ((!!decide
 (reqErr L C T R F W U (AV.toI (List.getD qs (0 + Int.toNat i * 4) (AV.tup [])))
 (AV.toI (List.getD qs (0 + Int.toNat i * 4 + 1) (AV.tup [])))
 (AV.toI (List.getD qs (0 + Int.toNat i * 4 + 1 + 1) (AV.tup [])))
 (AV.toI (List.getD qs (0 + Int.toNat i * 4 + 1 + 1 + 1) (AV.tup [])))
 now =
 (0 : Int))) = false ∧
 ((!!decide
 (reqErr L C T R F W U (AV.toI (List.getD qs (0 + Int.toNat i * 4) (AV.tup [])))
 (AV.toI (List.getD qs (0 + Int.toNat i * 4 + 1) (AV.tup [])))
 (AV.toI (List.getD qs (0 + Int.toNat i * 4 + 1 + 1) (AV.tup [])))
 (AV.toI (List.getD qs (0 + Int.toNat i * 4 + 1 + 1 + 1) (AV.tup [])))
 now =
 (0 : Int))) = false ∧
 ((!decide
 (reqErr L C T R F W U (AV.toI (List.getD qs (0 + Int.toNat i * 4) (AV.tup [])))
 (AV.toI (List.getD qs (0 + Int.toNat i * 4 + 1) (AV.tup [])))
 (AV.toI (List.getD qs (0 + Int.toNat i * 4 + 1 + 1) (AV.tup [])))
 (AV.toI (List.getD qs (0 + Int.toNat i * 4 + 1 + 1 + 1) (AV.tup [])))
 now =
 (0 : Int))) = true ∧
 (Q Exit.ret 208
 [some (AV.slice 0 0 n (some c)), some (AV.slice 1 0 0 none),
 some (AV.ptr 2 0), some (AV.slice 3 0 n none), some (AV.int IntKind.i64 e),
 some (AV.int IntKind.i64 now), some (AV.int IntKind.i64 i)]
 { nx := 4, m :=
 [(3, AObj.opn 2 1 (encI IntKind.i64 acc)),
 (2,
 AObj.cells 23
 [AV.int IntKind.i64 L, AV.int IntKind.i64 C, AV.int IntKind.i64 T, AV.int IntKind.i64 R,
 AV.int IntKind.i64 F, AV.int IntKind.i64 W, AV.int IntKind.i64 U]),
 (1, AObj.ro bs), (0, AObj.ro qs)] }))))))))))))))) ∧
 ((decide (i < (0 : Int))) = false →
 (decide (i < (0 : Int))) = false ∧
 ((decide (i < (0 : Int))) = false ∧
 ((decide (i < (0 : Int))) = false ∧
 ((decide (i < (0 : Int))) = false ∧
 (((!!decide
 (reqErr L C T R F W U (AV.toI (List.getD qs (0 + Int.toNat i * 4) (AV.tup [])))
 (AV.toI (List.getD qs (0 + Int.toNat i * 4 + 1) (AV.tup [])))
 (AV.toI (List.getD qs (0 + Int.toNat i * 4 + 1 + 1) (AV.tup [])))
 (AV.toI (List.getD qs (0 + Int.toNat i * 4 + 1 + 1 + 1) (AV.tup [])))
 now =
 (0 : Int))) = true →
 (!!decide
 (reqErr L C T R F W U (AV.toI (List.getD qs (0 + Int.toNat i * 4) (AV.tup [])))
 (AV.toI (List.getD qs (0 + Int.toNat i * 4 + 1) (AV.tup [])))
 (AV.toI (List.getD qs (0 + Int.toNat i * 4 + 1 + 1) (AV.tup [])))
 (AV.toI (List.getD qs (0 + Int.toNat i * 4 + 1 + 1 + 1) (AV.tup [])))
 now =
 (0 : Int))) = true ∧
 ((!!decide
 (reqErr L C T R F W U (AV.toI (List.getD qs (0 + Int.toNat i * 4) (AV.tup [])))
 (AV.toI (List.getD qs (0 + Int.toNat i * 4 + 1) (AV.tup [])))
 (AV.toI (List.getD qs (0 + Int.toNat i * 4 + 1 + 1) (AV.tup [])))
 (AV.toI (List.getD qs (0 + Int.toNat i * 4 + 1 + 1 + 1) (AV.tup [])))
 now =
 (0 : Int))) = true ∧
 ((!!decide
 (reqErr L C T R F W U (AV.toI (List.getD qs (0 + Int.toNat i * 4) (AV.tup [])))
 (AV.toI (List.getD qs (0 + Int.toNat i * 4 + 1) (AV.tup [])))
 (AV.toI (List.getD qs (0 + Int.toNat i * 4 + 1 + 1) (AV.tup [])))
 (AV.toI (List.getD qs (0 + Int.toNat i * 4 + 1 + 1 + 1) (AV.tup [])))
 now =
 (0 : Int))) = true ∧
 ((decide ((0 : Int) ≤ i ∧ i < (↑n : Int))) = true ∧
 ((!!decide
 (reqErr L C T R F W U (AV.toI (List.getD qs (0 + Int.toNat i * 4) (AV.tup [])))
 (AV.toI (List.getD qs (0 + Int.toNat i * 4 + 1) (AV.tup [])))
 (AV.toI (List.getD qs (0 + Int.toNat i * 4 + 1 + 1) (AV.tup [])))
 (AV.toI (List.getD qs (0 + Int.toNat i * 4 + 1 + 1 + 1) (AV.tup [])))
 now =
 (0 : Int))) = true ∧
 ((decide (0 + Int.toNat i * 1 < List.length (encI IntKind.i64 acc))) = true ∧
 ((AV.isI IntKind.i64 (List.getD (encI IntKind.i64 acc) (0 + Int.toNat i * 1) (AV.tup []))) = true ∧
 ((!!decide
 (reqErr L C T R F W U (AV.toI (List.getD qs (0 + Int.toNat i * 4) (AV.tup [])))
 (AV.toI (List.getD qs (0 + Int.toNat i * 4 + 1) (AV.tup [])))
 (AV.toI (List.getD qs (0 + Int.toNat i * 4 + 1 + 1) (AV.tup [])))
 (AV.toI (List.getD qs (0 + Int.toNat i * 4 + 1 + 1 + 1) (AV.tup [])))
 now =
 (0 : Int))) = true ∧
 ((!decide
 (reqErr L C T R F W U (AV.toI (List.getD qs (0 + Int.toNat i * 4) (AV.tup [])))
 (AV.toI (List.getD qs (0 + Int.toNat i * 4 + 1) (AV.tup [])))
 (AV.toI (List.getD qs (0 + Int.toNat i * 4 + 1 + 1) (AV.tup [])))
 (AV.toI (List.getD qs (0 + Int.toNat i * 4 + 1 + 1 + 1) (AV.tup [])))
 now =
 (0 : Int))) = false ∧
 (((!!decide
 (reqAt L C T R F W U (AV.toI (List.getD qs (0 + Int.toNat i * 4) (AV.tup [])))
 (AV.toI (List.getD qs (0 + Int.toNat i * 4 + 1) (AV.tup [])))
 (AV.toI (List.getD qs (0 + Int.toNat i * 4 + 1 + 1) (AV.tup [])))
 (AV.toI (List.getD qs (0 + Int.toNat i * 4 + 1 + 1 + 1) (AV.tup [])))
 false now =
 AV.toI (List.getD (encI IntKind.i64 acc) (0 + Int.toNat i * 1) (AV.tup [])))) = true →
 (!!decide
 (reqAt L C T R F W U (AV.toI (List.getD qs (0 + Int.toNat i * 4) (AV.tup [])))
 (AV.toI (List.getD qs (0 + Int.toNat i * 4 + 1) (AV.tup [])))
 (AV.toI (List.getD qs (0 + Int.toNat i * 4 + 1 + 1) (AV.tup [])))
 (AV.toI (List.getD qs (0 + Int.toNat i * 4 + 1 + 1 + 1) (AV.tup [])))
 false now =
 AV.toI (List.getD (encI IntKind.i64 acc) (0 + Int.toNat i * 1) (AV.tup [])))) = true ∧
 ((!!decide
 (reqAt L C T R F W U (AV.toI (List.getD qs (0 + Int.toNat i * 4) (AV.tup [])))
 (AV.toI (List.getD qs (0 + Int.toNat i * 4 + 1) (AV.tup [])))
 (AV.toI (List.getD qs (0 + Int.toNat i * 4 + 1 + 1) (AV.tup [])))
 (AV.toI (List.getD qs (0 + Int.toNat i * 4 + 1 + 1 + 1) (AV.tup [])))
 false now =
 AV.toI (List.getD (encI IntKind.i64 acc) (0 + Int.toNat i * 1) (AV.tup [])))) = true ∧
 ((!decide
 (reqAt L C T R F W U (AV.toI (List.getD qs (0 + Int.toNat i * 4) (AV.tup [])))
 (AV.toI (List.getD qs (0 + Int.toNat i * 4 + 1) (AV.tup [])))
 (AV.toI (List.getD qs (0 + Int.toNat i * 4 + 1 + 1) (AV.tup [])))
 (AV.toI (List.getD qs (0 + Int.toNat i * 4 + 1 + 1 + 1) (AV.tup [])))
 false now =
 AV.toI (List.getD (encI IntKind.i64 acc) (0 + Int.toNat i * 1) (AV.tup [])))) = false ∧
 (((!decide
 (reqAt L C T R F W U (AV.toI (List.getD qs (0 + Int.toNat i * 4) (AV.tup [])))
 (AV.toI (List.getD qs (0 + Int.toNat i * 4 + 1) (AV.tup [])))
 (AV.toI (List.getD qs (0 + Int.toNat i * 4 + 1 + 1) (AV.tup [])))
 (AV.toI (List.getD qs (0 + Int.toNat i * 4 + 1 + 1 + 1) (AV.tup [])))
 false now <
 now)) = true →
 (!decide
 (reqAt L C T R F W U (AV.toI (List.getD qs (0 + Int.toNat i * 4) (AV.tup [])))
 (AV.toI (List.getD qs (0 + Int.toNat i * 4 + 1) (AV.tup [])))
 (AV.toI (List.getD qs (0 + Int.toNat i * 4 + 1 + 1) (AV.tup [])))
 (AV.toI (List.getD qs (0 + Int.toNat i * 4 + 1 + 1 + 1) (AV.tup [])))
 false now <
 now)) = true ∧
 ((!decide
 (reqAt L C T R F W U (AV.toI (List.getD qs (0 + Int.toNat i * 4) (AV.tup [])))
 (AV.toI (List.getD qs (0 + Int.toNat i * 4 + 1) (AV.tup [])))
 (AV.toI (List.getD qs (0 + Int.toNat i * 4 + 1 + 1) (AV.tup [])))
 (AV.toI (List.getD qs (0 + Int.toNat i * 4 + 1 + 1 + 1) (AV.tup [])))
 false now <
 now)) = true ∧
 ((decide
 (reqAt L C T R F W U (AV.toI (List.getD qs (0 + Int.toNat i * 4) (AV.tup [])))
 (AV.toI (List.getD qs (0 + Int.toNat i * 4 + 1) (AV.tup [])))
 (AV.toI (List.getD qs (0 + Int.toNat i * 4 + 1 + 1) (AV.tup [])))
 (AV.toI (List.getD qs (0 + Int.toNat i * 4 + 1 + 1 + 1) (AV.tup [])))
 false now <
 now)) = false ∧
 (((!decide
 (reqAt L C T R F W U (AV.toI (List.getD qs (0 + Int.toNat i * 4) (AV.tup [])))
 (AV.toI (List.getD qs (0 + Int.toNat i * 4 + 1) (AV.tup [])))
 (AV.toI (List.getD qs (0 + Int.toNat i * 4 + 1 + 1) (AV.tup [])))
 (AV.toI (List.getD qs (0 + Int.toNat i * 4 + 1 + 1 + 1) (AV.tup [])))
 false now ≥
 reqEnd L C T R F W U (AV.toI (List.getD qs (0 + Int.toNat i * 4) (AV.tup [])))
 (AV.toI (List.getD qs (0 + Int.toNat i * 4 + 1) (AV.tup [])))
 (AV.toI (List.getD qs (0 + Int.toNat i * 4 + 1 + 1) (AV.tup [])))
 (AV.toI (List.getD qs (0 + Int.toNat i * 4 + 1 + 1 + 1) (AV.tup [])))
 false now)) = true →
 (!decide
 (reqAt L C T R F W U (AV.toI (List.getD qs (0 + Int.toNat i * 4) (AV.tup [])))
 (AV.toI (List.getD qs (0 + Int.toNat i * 4 + 1) (AV.tup [])))
 (AV.toI (List.getD qs (0 + Int.toNat i * 4 + 1 + 1) (AV.tup [])))
 (AV.toI (List.getD qs (0 + Int.toNat i * 4 + 1 + 1 + 1) (AV.tup [])))
 false now ≥
 reqEnd L C T R F W U (AV.toI (List.getD qs (0 + Int.toNat i * 4) (AV.tup [])))
 (AV.toI (List.getD qs (0 + Int.toNat i * 4 + 1) (AV.tup [])))
 (AV.toI (List.getD qs (0 + Int.toNat i * 4 + 1 + 1) (AV.tup [])))
 (AV.toI (List.getD qs (0 + Int.toNat i * 4 + 1 + 1 + 1) (AV.tup [])))
 false now)) = true ∧
 ((!decide
 (reqAt L C T R F W U (AV.toI (List.getD qs (0 + Int.toNat i * 4) (AV.tup [])))
 (AV.toI (List.getD qs (0 + Int.toNat i * 4 + 1) (AV.tup [])))
 (AV.toI (List.getD qs (0 + Int.toNat i * 4 + 1 + 1) (AV.tup [])))
 (AV.toI (List.getD qs (0 + Int.toNat i * 4 + 1 + 1 + 1) (AV.tup [])))
 false now ≥
 reqEnd L C T R F W U (AV.toI (List.getD qs (0 + Int.toNat i * 4) (AV.tup [])))
 (AV.toI (List.getD qs (0 + Int.toNat i * 4 + 1) (AV.tup [])))
 (AV.toI (List.getD qs (0 + Int.toNat i * 4 + 1 + 1) (AV.tup [])))
 (AV.toI (List.getD qs (0 + Int.toNat i * 4 + 1 + 1 + 1) (AV.tup [])))
 false now)) = true ∧
 ((!decide
 (reqAt L C T R F W U (AV.toI (List.getD qs (0 + Int.toNat i * 4) (AV.tup [])))
 (AV.toI (List.getD qs (0 + Int.toNat i * 4 + 1) (AV.tup [])))
 (AV.toI (List.getD qs (0 + Int.toNat i * 4 + 1 + 1) (AV.tup [])))
 (AV.toI (List.getD qs (0 + Int.toNat i * 4 + 1 + 1 + 1) (AV.tup [])))
 false now ≥
 reqEnd L C T R F W U (AV.toI (List.getD qs (0 + Int.toNat i * 4) (AV.tup [])))
 (AV.toI (List.getD qs (0 + Int.toNat i * 4 + 1) (AV.tup [])))
 (AV.toI (List.getD qs (0 + Int.toNat i * 4 + 1 + 1) (AV.tup [])))
 (AV.toI (List.getD qs (0 + Int.toNat i * 4 + 1 + 1 + 1) (AV.tup [])))
 false now)) = true ∧
 ((!decide
 (reqAt L C T R F W U (AV.toI (List.getD qs (0 + Int.toNat i * 4) (AV.tup [])))
 (AV.toI (List.getD qs (0 + Int.toNat i * 4 + 1) (AV.tup [])))
 (AV.toI (List.getD qs (0 + Int.toNat i * 4 + 1 + 1) (AV.tup [])))
 (AV.toI (List.getD qs (0 + Int.toNat i * 4 + 1 + 1 + 1) (AV.tup [])))
 false now ≥
 reqEnd L C T R F W U (AV.toI (List.getD qs (0 + Int.toNat i * 4) (AV.tup [])))
 (AV.toI (List.getD qs (0 + Int.toNat i * 4 + 1) (AV.tup [])))
 (AV.toI (List.getD qs (0 + Int.toNat i * 4 + 1 + 1) (AV.tup [])))
 (AV.toI (List.getD qs (0 + Int.toNat i * 4 + 1 + 1 + 1) (AV.tup [])))
 false now)) = true ∧
 ((decide ((0 : Int) ≤ i ∧ i < (↑n : Int))) = true ∧
 ((!decide
 (reqAt L C T R F W U (AV.toI (List.getD qs (0 + Int.toNat i * 4) (AV.tup [])))
 (AV.toI (List.getD qs (0 + Int.toNat i * 4 + 1) (AV.tup [])))
 (AV.toI (List.getD qs (0 + Int.toNat i * 4 + 1 + 1) (AV.tup [])))
 (AV.toI (List.getD qs (0 + Int.toNat i * 4 + 1 + 1 + 1) (AV.tup [])))
 false now ≥
 reqEnd L C T R F W U (AV.toI (List.getD qs (0 + Int.toNat i * 4) (AV.tup [])))
 (AV.toI (List.getD qs (0 + Int.toNat i * 4 + 1) (AV.tup [])))
 (AV.toI (List.getD qs (0 + Int.toNat i * 4 + 1 + 1) (AV.tup [])))
 (AV.toI (List.getD qs (0 + Int.toNat i * 4 + 1 + 1 + 1) (AV.tup [])))
 false now)) = true ∧
 ((!decide
 (reqAt L C T R F W U (AV.toI (List.getD qs (0 + Int.toNat i * 4) (AV.tup [])))
 (AV.toI (List.getD qs (0 + Int.toNat i * 4 + 1) (AV.tup [])))
 (AV.toI (List.getD qs (0 + Int.toNat i * 4 + 1 + 1) (AV.tup [])))
 (AV.toI (List.getD qs (0 + Int.toNat i * 4 + 1 + 1 + 1) (AV.tup [])))
 false now ≥
 reqEnd L C T R F W U (AV.toI (List.getD qs (0 + Int.toNat i * 4) (AV.tup [])))
 (AV.toI (List.getD qs (0 + Int.toNat i * 4 + 1) (AV.tup [])))
 (AV.toI (List.getD qs (0 + Int.toNat i * 4 + 1 + 1) (AV.tup [])))
 (AV.toI (List.getD qs (0 + Int.toNat i * 4 + 1 + 1 + 1) (AV.tup [])))
 false now)) = true ∧
 ((decide (0 + Int.toNat i * 4 + 3 < List.length qs)) = true ∧
 ((AV.isI IntKind.i64 (List.getD qs (0 + Int.toNat i * 4 + 3) (AV.tup []))) = true ∧
 ((!decide
 (reqAt L C T R F W U (AV.toI (List.getD qs (0 + Int.toNat i * 4) (AV.tup [])))
 (AV.toI (List.getD qs (0 + Int.toNat i * 4 + 1) (AV.tup [])))
 (AV.toI (List.getD qs (0 + Int.toNat i * 4 + 1 + 1) (AV.tup [])))
 (AV.toI (List.getD qs (0 + Int.toNat i * 4 + 1 + 1 + 1) (AV.tup [])))
 false now ≥
 reqEnd L C T R F W U (AV.toI (List.getD qs (0 + Int.toNat i * 4) (AV.tup [])))
 (AV.toI (List.getD qs (0 + Int.toNat i * 4 + 1) (AV.tup [])))
 (AV.toI (List.getD qs (0 + Int.toNat i * 4 + 1 + 1) (AV.tup [])))
 (AV.toI (List.getD qs (0 + Int.toNat i * 4 + 1 + 1 + 1) (AV.tup [])))
 false now)) = true ∧
 ((!decide
 (reqAt L C T R F W U (AV.toI (List.getD qs (0 + Int.toNat i * 4) (AV.tup [])))
 (AV.toI (List.getD qs (0 + Int.toNat i * 4 + 1) (AV.tup [])))
 (AV.toI (List.getD qs (0 + Int.toNat i * 4 + 1 + 1) (AV.tup [])))
 (AV.toI (List.getD qs (0 + Int.toNat i * 4 + 1 + 1 + 1) (AV.tup [])))
 false now ≥
 reqEnd L C T R F W U (AV.toI (List.getD qs (0 + Int.toNat i * 4) (AV.tup [])))
 (AV.toI (List.getD qs (0 + Int.toNat i * 4 + 1) (AV.tup [])))
 (AV.toI (List.getD qs (0 + Int.toNat i * 4 + 1 + 1) (AV.tup [])))
 (AV.toI (List.getD qs (0 + Int.toNat i * 4 + 1 + 1 + 1) (AV.tup [])))
 false now)) = true ∧
 ((decide
 (reqAt L C T R F W U (AV.toI (List.getD qs (0 + Int.toNat i * 4) (AV.tup [])))
 (AV.toI (List.getD qs (0 + Int.toNat i * 4 + 1) (AV.tup [])))
 (AV.toI (List.getD qs (0 + Int.toNat i * 4 + 1 + 1) (AV.tup [])))
 (AV.toI (List.getD qs (0 + Int.toNat i * 4 + 1 + 1 + 1) (AV.tup [])))
 false now ≥
 reqEnd L C T R F W U (AV.toI (List.getD qs (0 + Int.toNat i * 4) (AV.tup [])))
 (AV.toI (List.getD qs (0 + Int.toNat i * 4 + 1) (AV.tup [])))
 (AV.toI (List.getD qs (0 + Int.toNat i * 4 + 1 + 1) (AV.tup [])))
 (AV.toI (List.getD qs (0 + Int.toNat i * 4 + 1 + 1 + 1) (AV.tup [])))
 false now)) = false ∧
 (((!decide
 (reqEnd L C T R F W U (AV.toI (List.getD qs (0 + Int.toNat i * 4) (AV.tup [])))
 (AV.toI (List.getD qs (0 + Int.toNat i * 4 + 1) (AV.tup [])))
 (AV.toI (List.getD qs (0 + Int.toNat i * 4 + 1 + 1) (AV.tup [])))
 (AV.toI (List.getD qs (0 + Int.toNat i * 4 + 1 + 1 + 1) (AV.tup [])))
 false now <
 IntKind.wrap IntKind.i64
 (now + AV.toI (List.getD qs (0 + Int.toNat i * 4 + 3) (AV.tup []))))) = true →
 (!decide
 (reqEnd L C T R F W U (AV.toI (List.getD qs (0 + Int.toNat i * 4) (AV.tup [])))
 (AV.toI (List.getD qs (0 + Int.toNat i * 4 + 1) (AV.tup [])))
 (AV.toI (List.getD qs (0 + Int.toNat i * 4 + 1 + 1) (AV.tup [])))
 (AV.toI (List.getD qs (0 + Int.toNat i * 4 + 1 + 1 + 1) (AV.tup [])))
 false now <
 IntKind.wrap IntKind.i64
 (now + AV.toI (List.getD qs (0 + Int.toNat i * 4 + 3) (AV.tup []))))) = true ∧
 ((!decide
 (reqEnd L C T R F W U (AV.toI (List.getD qs (0 + Int.toNat i * 4) (AV.tup [])))
 (AV.toI (List.getD qs (0 + Int.toNat i * 4 + 1) (AV.tup [])))
 (AV.toI (List.getD qs (0 + Int.toNat i * 4 + 1 + 1) (AV.tup [])))
 (AV.toI (List.getD qs (0 + Int.toNat i * 4 + 1 + 1 + 1) (AV.tup [])))
 false now <
 IntKind.wrap IntKind.i64
 (now + AV.toI (List.getD qs (0 + Int.toNat i * 4 + 3) (AV.tup []))))) = true ∧
 ((!decide
 (reqEnd L C T R F W U (AV.toI (List.getD qs (0 + Int.toNat i * 4) (AV.tup [])))
 (AV.toI (List.getD qs (0 + Int.toNat i * 4 + 1) (AV.tup [])))
 (AV.toI (List.getD qs (0 + Int.toNat i * 4 + 1 + 1) (AV.tup [])))
 (AV.toI (List.getD qs (0 + Int.toNat i * 4 + 1 + 1 + 1) (AV.tup [])))
 false now <
 IntKind.wrap IntKind.i64
 (now + AV.toI (List.getD qs (0 + Int.toNat i * 4 + 3) (AV.tup []))))) = true ∧
 ((!decide
 (reqEnd L C T R F W U (AV.toI (List.getD qs (0 + Int.toNat i * 4) (AV.tup [])))
 (AV.toI (List.getD qs (0 + Int.toNat i * 4 + 1) (AV.tup [])))
 (AV.toI (List.getD qs (0 + Int.toNat i * 4 + 1 + 1) (AV.tup [])))
 (AV.toI (List.getD qs (0 + Int.toNat i * 4 + 1 + 1 + 1) (AV.tup [])))
 false now <
 IntKind.wrap IntKind.i64
 (now + AV.toI (List.getD qs (0 + Int.toNat i * 4 + 3) (AV.tup []))))) = true ∧
 ((decide ((0 : Int) ≤ i ∧ i < (↑n : Int))) = true ∧
 ((!decide
 (reqEnd L C T R F W U (AV.toI (List.getD qs (0 + Int.toNat i * 4) (AV.tup [])))
 (AV.toI (List.getD qs (0 + Int.toNat i * 4 + 1) (AV.tup [])))
 (AV.toI (List.getD qs (0 + Int.toNat i * 4 + 1 + 1) (AV.tup [])))
 (AV.toI (List.getD qs (0 + Int.toNat i * 4 + 1 + 1 + 1) (AV.tup [])))
 false now <
 IntKind.wrap IntKind.i64
 (now + AV.toI (List.getD qs (0 + Int.toNat i * 4 + 3) (AV.tup []))))) = true ∧
 ((!decide
 (reqEnd L C T R F W U (AV.toI (List.getD qs (0 + Int.toNat i * 4) (AV.tup [])))
 (AV.toI (List.getD qs (0 + Int.toNat i * 4 + 1) (AV.tup [])))
 (AV.toI (List.getD qs (0 + Int.toNat i * 4 + 1 + 1) (AV.tup [])))
 (AV.toI (List.getD qs (0 + Int.toNat i * 4 + 1 + 1 + 1) (AV.tup [])))
 false now <
 IntKind.wrap IntKind.i64
 (now + AV.toI (List.getD qs (0 + Int.toNat i * 4 + 3) (AV.tup []))))) = true ∧
 ((decide (0 + Int.toNat i * 4 + 3 < List.length qs)) = true ∧
 ((AV.isI IntKind.i64 (List.getD qs (0 + Int.toNat i * 4 + 3) (AV.tup []))) = true ∧
 ((!decide
 (reqEnd L C T R F W U (AV.toI (List.getD qs (0 + Int.toNat i * 4) (AV.tup [])))
 (AV.toI (List.getD qs (0 + Int.toNat i * 4 + 1) (AV.tup [])))
 (AV.toI (List.getD qs (0 + Int.toNat i * 4 + 1 + 1) (AV.tup [])))
 (AV.toI (List.getD qs (0 + Int.toNat i * 4 + 1 + 1 + 1) (AV.tup [])))
 false now <
 IntKind.wrap IntKind.i64
 (now + AV.toI (List.getD qs (0 + Int.toNat i * 4 + 3) (AV.tup []))))) = true ∧
 ((!decide
 (reqEnd L C T R F W U (AV.toI (List.getD qs (0 + Int.toNat i * 4) (AV.tup [])))
 (AV.toI (List.getD qs (0 + Int.toNat i * 4 + 1) (AV.tup [])))
 (AV.toI (List.getD qs (0 + Int.toNat i * 4 + 1 + 1) (AV.tup [])))
 (AV.toI (List.getD qs (0 + Int.toNat i * 4 + 1 + 1 + 1) (AV.tup [])))
 false now <
 IntKind.wrap IntKind.i64
 (now + AV.toI (List.getD qs (0 + Int.toNat i * 4 + 3) (AV.tup []))))) = true ∧
 ((!decide
 (reqEnd L C T R F W U (AV.toI (List.getD qs (0 + Int.toNat i * 4) (AV.tup [])))
 (AV.toI (List.getD qs (0 + Int.toNat i * 4 + 1) (AV.tup [])))
 (AV.toI (List.getD qs (0 + Int.toNat i * 4 + 1 + 1) (AV.tup [])))
 (AV.toI (List.getD qs (0 + Int.toNat i * 4 + 1 + 1 + 1) (AV.tup [])))
 false now <
 IntKind.wrap IntKind.i64
 (now + AV.toI (List.getD qs (0 + Int.toNat i * 4 + 3) (AV.tup []))))) = true ∧
 ((!decide
 (reqEnd L C T R F W U (AV.toI (List.getD qs (0 + Int.toNat i * 4) (AV.tup [])))
 (AV.toI (List.getD qs (0 + Int.toNat i * 4 + 1) (AV.tup [])))
 (AV.toI (List.getD qs (0 + Int.toNat i * 4 + 1 + 1) (AV.tup [])))
 (AV.toI (List.getD qs (0 + Int.toNat i * 4 + 1 + 1 + 1) (AV.tup [])))
 false now <
 IntKind.wrap IntKind.i64
 (now + AV.toI (List.getD qs (0 + Int.toNat i * 4 + 3) (AV.tup []))))) = true ∧
 ((decide ((0 : Int) ≤ i ∧ i < (↑n : Int))) = true ∧
 ((!decide
 (reqEnd L C T R F W U (AV.toI (List.getD qs (0 + Int.toNat i * 4) (AV.tup [])))
 (AV.toI (List.getD qs (0 + Int.toNat i * 4 + 1) (AV.tup [])))
 (AV.toI (List.getD qs (0 + Int.toNat i * 4 + 1 + 1) (AV.tup [])))
 (AV.toI (List.getD qs (0 + Int.toNat i * 4 + 1 + 1 + 1) (AV.tup [])))
 false now <
 IntKind.wrap IntKind.i64
 (now + AV.toI (List.getD qs (0 + Int.toNat i * 4 + 3) (AV.tup []))))) = true ∧
 ((decide (0 + Int.toNat i * 4 + 4 ≤ List.length qs)) = true ∧
 ((AV.isI IntKind.i64 (List.getD qs (0 + Int.toNat i * 4) (AV.tup []))) = true ∧
 ((AV.isI IntKind.u16 (List.getD qs (0 + Int.toNat i * 4 + 1) (AV.tup []))) = true ∧
 ((AV.isI IntKind.u8 (List.getD qs (0 + Int.toNat i * 4 + 1 + 1) (AV.tup []))) = true ∧
 ((AV.isI IntKind.i64 (List.getD qs (0 + Int.toNat i * 4 + 1 + 1 + 1) (AV.tup []))) = true ∧
 ((!decide
 (reqEnd L C T R F W U (AV.toI (List.getD qs (0 + Int.toNat i * 4) (AV.tup [])))
 (AV.toI (List.getD qs (0 + Int.toNat i * 4 + 1) (AV.tup [])))
 (AV.toI (List.getD qs (0 + Int.toNat i * 4 + 1 + 1) (AV.tup [])))
 (AV.toI (List.getD qs (0 + Int.toNat i * 4 + 1 + 1 + 1) (AV.tup [])))
 false now <
 IntKind.wrap IntKind.i64
 (now + AV.toI (List.getD qs (0 + Int.toNat i * 4 + 3) (AV.tup []))))) = true ∧
 ((!decide
 (reqEnd L C T R F W U (AV.toI (List.getD qs (0 + Int.toNat i * 4) (AV.tup [])))
 (AV.toI (List.getD qs (0 + Int.toNat i * 4 + 1) (AV.tup [])))
 (AV.toI (List.getD qs (0 + Int.toNat i * 4 + 1 + 1) (AV.tup [])))
 (AV.toI (List.getD qs (0 + Int.toNat i * 4 + 1 + 1 + 1) (AV.tup [])))
 false now <
 IntKind.wrap IntKind.i64
 (now + AV.toI (List.getD qs (0 + Int.toNat i * 4 + 3) (AV.tup []))))) = true ∧
 ((!decide
 (reqEnd L C T R F W U (AV.toI (List.getD qs (0 + Int.toNat i * 4) (AV.tup [])))
 (AV.toI (List.getD qs (0 + Int.toNat i * 4 + 1) (AV.tup [])))
 (AV.toI (List.getD qs (0 + Int.toNat i * 4 + 1 + 1) (AV.tup [])))
 (AV.toI (List.getD qs (0 + Int.toNat i * 4 + 1 + 1 + 1) (AV.tup [])))
 false now <
 IntKind.wrap IntKind.i64
 (now + AV.toI (List.getD qs (0 + Int.toNat i * 4 + 3) (AV.tup []))))) = true ∧
 ((!decide
 (reqEnd L C T R F W U (AV.toI (List.getD qs (0 + Int.toNat i * 4) (AV.tup [])))
 (AV.toI (List.getD qs (0 + Int.toNat i * 4 + 1) (AV.tup [])))
 (AV.toI (List.getD qs (0 + Int.toNat i * 4 + 1 + 1) (AV.tup [])))
 (AV.toI (List.getD qs (0 + Int.toNat i * 4 + 1 + 1 + 1) (AV.tup [])))
 false now <
 IntKind.wrap IntKind.i64
 (now + AV.toI (List.getD qs (0 + Int.toNat i * 4 + 3) (AV.tup []))))) = true ∧
 ((decide
 (reqEnd L C T R F W U (AV.toI (List.getD qs (0 + Int.toNat i * 4) (AV.tup [])))
 (AV.toI (List.getD qs (0 + Int.toNat i * 4 + 1) (AV.tup [])))
 (AV.toI (List.getD qs (0 + Int.toNat i * 4 + 1 + 1) (AV.tup [])))
 (AV.toI (List.getD qs (0 + Int.toNat i * 4 + 1 + 1 + 1) (AV.tup [])))
 false now <
 IntKind.wrap IntKind.i64
 (now + AV.toI (List.getD qs (0 + Int.toNat i * 4 + 3) (AV.tup []))))) = false ∧
 (((decide
 (reqEnd L C T R F W U (AV.toI (List.getD qs (0 + Int.toNat i * 4) (AV.tup [])))
 (AV.toI (List.getD qs (0 + Int.toNat i * 4 + 1) (AV.tup [])))
 (AV.toI (List.getD qs (0 + Int.toNat i * 4 + 1 + 1) (AV.tup [])))
 (AV.toI (List.getD qs (0 + Int.toNat i * 4 + 1 + 1 + 1) (AV.tup [])))
 false now >
 IntKind.wrap IntKind.i64
 (now +
 IntKind.wrap IntKind.i64
 (AV.toI (List.getD qs (0 + Int.toNat i * 4 + 3) (AV.tup [])) +
 mostN L C T R F W U (AV.toI (List.getD qs (0 + Int.toNat i * 4) (AV.tup []))))))) = true →
 Q Exit.ret 208
 [some (AV.slice 0 0 n (some c)), some (AV.slice 1 0 0 none),
 some (AV.ptr 2 0), some (AV.slice 3 0 n none), some (AV.int IntKind.i64 e),
 some (AV.int IntKind.i64 now), some (AV.int IntKind.i64 i)]
 { nx := 4, m :=
 [(3, AObj.opn 2 1 (encI IntKind.i64 acc)),
 (2,
 AObj.cells 23
 [AV.int IntKind.i64 L, AV.int IntKind.i64 C, AV.int IntKind.i64 T, AV.int IntKind.i64 R,
 AV.int IntKind.i64 F, AV.int IntKind.i64 W, AV.int IntKind.i64 U]),
 (1, AObj.ro bs), (0, AObj.ro qs)] }) ∧
 ((decide
 (reqEnd L C T R F W U (AV.toI (List.getD qs (0 + Int.toNat i * 4) (AV.tup [])))
 (AV.toI (List.getD qs (0 + Int.toNat i * 4 + 1) (AV.tup [])))
 (AV.toI (List.getD qs (0 + Int.toNat i * 4 + 1 + 1) (AV.tup [])))
 (AV.toI (List.getD qs (0 + Int.toNat i * 4 + 1 + 1 + 1) (AV.tup [])))
 false now >
 IntKind.wrap IntKind.i64
 (now +
 IntKind.wrap IntKind.i64
 (AV.toI (List.getD qs (0 + Int.toNat i * 4 + 3) (AV.tup [])) +
 mostN L C T R F W U (AV.toI (List.getD qs (0 + Int.toNat i * 4) (AV.tup []))))))) = false →
 N 208
 [some (AV.slice 0 0 n (some c)), some (AV.slice 1 0 0 none),
 some (AV.ptr 2 0), some (AV.slice 3 0 n none), some (AV.int IntKind.i64 e),
 some
 (AV.int IntKind.i64
 (reqEnd L C T R F W U (AV.toI (List.getD qs (0 + Int.toNat i * 4) (AV.tup [])))
 (AV.toI (List.getD qs (0 + Int.toNat i * 4 + 1) (AV.tup [])))
 (AV.toI (List.getD qs (0 + Int.toNat i * 4 + 1 + 1) (AV.tup [])))
 (AV.toI (List.getD qs (0 + Int.toNat i * 4 + 1 + 1 + 1) (AV.tup [])))
 false now)),
 some (AV.int IntKind.i64 (IntKind.wrap IntKind.i64 (i + (1 : Int))))]
 { nx := 4, m :=
 [(3, AObj.opn 2 1 (encI IntKind.i64 acc)),
 (2,
 AObj.cells 23
 [AV.int IntKind.i64 L, AV.int IntKind.i64 C, AV.int IntKind.i64 T, AV.int IntKind.i64 R,
 AV.int IntKind.i64 F, AV.int IntKind.i64 W, AV.int IntKind.i64 U]),
 (1, AObj.ro bs), (0, AObj.ro qs)] }))))))))))))))))))))))))))) ∧
 ((!decide
 (reqEnd L C T R F W U (AV.toI (List.getD qs (0 + Int.toNat i * 4) (AV.tup [])))
 (AV.toI (List.getD qs (0 + Int.toNat i * 4 + 1) (AV.tup [])))
 (AV.toI (List.getD qs (0 + Int.toNat i * 4 + 1 + 1) (AV.tup [])))
 (AV.toI (List.getD qs (0 + Int.toNat i * 4 + 1 + 1 + 1) (AV.tup [])))
 false now <
 IntKind.wrap IntKind.i64
 (now + AV.toI (List.getD qs (0 + Int.toNat i * 4 + 3) (AV.tup []))))) = false →
 (!decide
 (reqEnd L C T R F W U (AV.toI (List.getD qs (0 + Int.toNat i * 4) (AV.tup [])))
 (AV.toI (List.getD qs (0 + Int.toNat i * 4 + 1) (AV.tup [])))
 (AV.toI (List.getD qs (0 + Int.toNat i * 4 + 1 + 1) (AV.tup [])))
 (AV.toI (List.getD qs (0 + Int.toNat i * 4 + 1 + 1 + 1) (AV.tup [])))
 false now <
 IntKind.wrap IntKind.i64
 (now + AV.toI (List.getD qs (0 + Int.toNat i * 4 + 3) (AV.tup []))))) = false ∧
 ((!decide
 (reqEnd L C T R F W U (AV.toI (List.getD qs (0 + Int.toNat i * 4) (AV.tup [])))
 (AV.toI (List.getD qs (0 + Int.toNat i * 4 + 1) (AV.tup [])))
 (AV.toI (List.getD qs (0 + Int.toNat i * 4 + 1 + 1) (AV.tup [])))
 (AV.toI (List.getD qs (0 + Int.toNat i * 4 + 1 + 1 + 1) (AV.tup [])))
 false now <
 IntKind.wrap IntKind.i64
 (now + AV.toI (List.getD qs (0 + Int.toNat i * 4 + 3) (AV.tup []))))) = false ∧
 ((!decide
 (reqEnd L C T R F W U (AV.toI (List.getD qs (0 + Int.toNat i * 4) (AV.tup [])))
 (AV.toI (List.getD qs (0 + Int.toNat i * 4 + 1) (AV.tup [])))
 (AV.toI (List.getD qs (0 + Int.toNat i * 4 + 1 + 1) (AV.tup [])))
 (AV.toI (List.getD qs (0 + Int.toNat i * 4 + 1 + 1 + 1) (AV.tup [])))
 false now <
 IntKind.wrap IntKind.i64
 (now + AV.toI (List.getD qs (0 + Int.toNat i * 4 + 3) (AV.tup []))))) = false ∧
 ((!decide
 (reqEnd L C T R F W U (AV.toI (List.getD qs (0 + Int.toNat i * 4) (AV.tup [])))
 (AV.toI (List.getD qs (0 + Int.toNat i * 4 + 1) (AV.tup [])))
 (AV.toI (List.getD qs (0 + Int.toNat i * 4 + 1 + 1) (AV.tup [])))
 (AV.toI (List.getD qs (0 + Int.toNat i * 4 + 1 + 1 + 1) (AV.tup [])))
 false now <
 IntKind.wrap IntKind.i64
 (now + AV.toI (List.getD qs (0 + Int.toNat i * 4 + 3) (AV.tup []))))) = false ∧
 ((!decide
 (reqEnd L C T R F W U (AV.toI (List.getD qs (0 + Int.toNat i * 4) (AV.tup [])))
 (AV.toI (List.getD qs (0 + Int.toNat i * 4 + 1) (AV.tup [])))
 (AV.toI (List.getD qs (0 + Int.toNat i * 4 + 1 + 1) (AV.tup [])))
 (AV.toI (List.getD qs (0 + Int.toNat i * 4 + 1 + 1 + 1) (AV.tup [])))
 false now <
 IntKind.wrap IntKind.i64
 (now + AV.toI (List.getD qs (0 + Int.toNat i * 4 + 3) (AV.tup []))))) = false ∧
 ((!decide
 (reqEnd L C T R F W U (AV.toI (List.getD qs (0 + Int.toNat i * 4) (AV.tup [])))
 (AV.toI (List.getD qs (0 + Int.toNat i * 4 + 1) (AV.tup [])))
 (AV.toI (List.getD qs (0 + Int.toNat i * 4 + 1 + 1) (AV.tup [])))
 (AV.toI (List.getD qs (0 + Int.toNat i * 4 + 1 + 1 + 1) (AV.tup [])))
 false now <
 IntKind.wrap IntKind.i64
 (now + AV.toI (List.getD qs (0 + Int.toNat i * 4 + 3) (AV.tup []))))) = false ∧
 ((!decide
 (reqEnd L C T R F W U (AV.toI (List.getD qs (0 + Int.toNat i * 4) (AV.tup [])))
 (AV.toI (List.getD qs (0 + Int.toNat i * 4 + 1) (AV.tup [])))
 (AV.toI (List.getD qs (0 + Int.toNat i * 4 + 1 + 1) (AV.tup [])))
 (AV.toI (List.getD qs (0 + Int.toNat i * 4 + 1 + 1 + 1) (AV.tup [])))
 false now <
 IntKind.wrap IntKind.i64
 (now + AV.toI (List.getD qs (0 + Int.toNat i * 4 + 3) (AV.tup []))))) = false ∧
 ((!decide
 (reqEnd L C T R F W U (AV.toI (List.getD qs (0 + Int.toNat i * 4) (AV.tup [])))
 (AV.toI (List.getD qs (0 + Int.toNat i * 4 + 1) (AV.tup [])))
 (AV.toI (List.getD qs (0 + Int.toNat i * 4 + 1 + 1) (AV.tup [])))
 (AV.toI (List.getD qs (0 + Int.toNat i * 4 + 1 + 1 + 1) (AV.tup [])))
 false now <
 IntKind.wrap IntKind.i64
 (now + AV.toI (List.getD qs (0 + Int.toNat i * 4 + 3) (AV.tup []))))) = false ∧
 ((!decide
 (reqEnd L C T R F W U (AV.toI (List.getD qs (0 + Int.toNat i * 4) (AV.tup [])))
 (AV.toI (List.getD qs (0 + Int.toNat i * 4 + 1) (AV.tup [])))
 (AV.toI (List.getD qs (0 + Int.toNat i * 4 + 1 + 1) (AV.tup [])))
 (AV.toI (List.getD qs (0 + Int.toNat i * 4 + 1 + 1 + 1) (AV.tup [])))
 false now <
 IntKind.wrap IntKind.i64
 (now + AV.toI (List.getD qs (0 + Int.toNat i * 4 + 3) (AV.tup []))))) = false ∧
 ((!decide
 (reqEnd L C T R F W U (AV.toI (List.getD qs (0 + Int.toNat i * 4) (AV.tup [])))
 (AV.toI (List.getD qs (0 + Int.toNat i * 4 + 1) (AV.tup [])))
 (AV.toI (List.getD qs (0 + Int.toNat i * 4 + 1 + 1) (AV.tup [])))
 (AV.toI (List.getD qs (0 + Int.toNat i * 4 + 1 + 1 + 1) (AV.tup [])))
 false now <
 IntKind.wrap IntKind.i64
 (now + AV.toI (List.getD qs (0 + Int.toNat i * 4 + 3) (AV.tup []))))) = false ∧
 ((!decide
 (reqEnd L C T R F W U (AV.toI (List.getD qs (0 + Int.toNat i * 4) (AV.tup [])))
 (AV.toI (List.getD qs (0 + Int.toNat i * 4 + 1) (AV.tup [])))
 (AV.toI (List.getD qs (0 + Int.toNat i * 4 + 1 + 1) (AV.tup [])))
 (AV.toI (List.getD qs (0 + Int.toNat i * 4 + 1 + 1 + 1) (AV.tup [])))
 false now <
 IntKind.wrap IntKind.i64
 (now + AV.toI (List.getD qs (0 + Int.toNat i * 4 + 3) (AV.tup []))))) = false ∧
 ((!decide
 (reqEnd L C T R F W U (AV.toI (List.getD qs (0 + Int.toNat i * 4) (AV.tup [])))
 (AV.toI (List.getD qs (0 + Int.toNat i * 4 + 1) (AV.tup [])))
 (AV.toI (List.getD qs (0 + Int.toNat i * 4 + 1 + 1) (AV.tup [])))
 (AV.toI (List.getD qs (0 + Int.toNat i * 4 + 1 + 1 + 1) (AV.tup [])))
 false now <
 IntKind.wrap IntKind.i64
 (now + AV.toI (List.getD qs (0 + Int.toNat i * 4 + 3) (AV.tup []))))) = false ∧
 ((!decide
 (reqEnd L C T R F W U (AV.toI (List.getD qs (0 + Int.toNat i * 4) (AV.tup [])))
 (AV.toI (List.getD qs (0 + Int.toNat i * 4 + 1) (AV.tup [])))
 (AV.toI (List.getD qs (0 + Int.toNat i * 4 + 1 + 1) (AV.tup [])))
 (AV.toI (List.getD qs (0 + Int.toNat i * 4 + 1 + 1 + 1) (AV.tup [])))
 false now <
 IntKind.wrap IntKind.i64
 (now + AV.toI (List.getD qs (0 + Int.toNat i * 4 + 3) (AV.tup []))))) = false ∧
 ((!decide
 (reqEnd L C T R F W U (AV.toI (List.getD qs (0 + Int.toNat i * 4) (AV.tup [])))
 (AV.toI (List.getD qs (0 + Int.toNat i * 4 + 1) (AV.tup [])))
 (AV.toI (List.getD qs (0 + Int.toNat i * 4 + 1 + 1) (AV.tup [])))
 (AV.toI (List.getD qs (0 + Int.toNat i * 4 + 1 + 1 + 1) (AV.tup [])))
 false now <
 IntKind.wrap IntKind.i64
 (now + AV.toI (List.getD qs (0 + Int.toNat i * 4 + 3) (AV.tup []))))) = false ∧
 ((!decide
 (reqEnd L C T R F W U (AV.toI (List.getD qs (0 + Int.toNat i * 4) (AV.tup [])))
 (AV.toI (List.getD qs (0 + Int.toNat i * 4 + 1) (AV.tup [])))
 (AV.toI (List.getD qs (0 + Int.toNat i * 4 + 1 + 1) (AV.tup [])))
 (AV.toI (List.getD qs (0 + Int.toNat i * 4 + 1 + 1 + 1) (AV.tup [])))
 false now <
 IntKind.wrap IntKind.i64
 (now + AV.toI (List.getD qs (0 + Int.toNat i * 4 + 3) (AV.tup []))))) = false ∧
 ((decide
 (reqEnd L C T R F W U (AV.toI (List.getD qs (0 + Int.toNat i * 4) (AV.tup [])))
 (AV.toI (List.getD qs (0 + Int.toNat i * 4 + 1) (AV.tup [])))
 (AV.toI (List.getD qs (0 + Int.toNat i * 4 + 1 + 1) (AV.tup [])))
 (AV.toI (List.getD qs (0 + Int.toNat i * 4 + 1 + 1 + 1) (AV.tup [])))
 false now <
 IntKind.wrap IntKind.i64
 (now + AV.toI (List.getD qs (0 + Int.toNat i * 4 + 3) (AV.tup []))))) = true ∧
 (Q Exit.ret 208
 [some (AV.slice 0 0 n (some c)), some (AV.slice 1 0 0 none),
 some (AV.ptr 2 0), some (AV.slice 3 0 n none), some (AV.int IntKind.i64 e),
 some (AV.int IntKind.i64 now), some (AV.int IntKind.i64 i)]
 { nx := 4, m :=
 [(3, AObj.opn 2 1 (encI IntKind.i64 acc)),
 (2,
 AObj.cells 23
 [AV.int IntKind.i64 L, AV.int IntKind.i64 C, AV.int IntKind.i64 T, AV.int IntKind.i64 R,
 AV.int IntKind.i64 F, AV.int IntKind.i64 W, AV.int IntKind.i64 U]),
 (1, AObj.ro bs), (0, AObj.ro qs)] })))))))))))))))))))))))))))))) ∧
 ((!decide
 (reqAt L C T R F W U (AV.toI (List.getD qs (0 + Int.toNat i * 4) (AV.tup [])))
 (AV.toI (List.getD qs (0 + Int.toNat i * 4 + 1) (AV.tup [])))
 (AV.toI (List.getD qs (0 + Int.toNat i * 4 + 1 + 1) (AV.tup [])))
 (AV.toI (List.getD qs (0 + Int.toNat i * 4 + 1 + 1 + 1) (AV.tup [])))
 false now ≥
 reqEnd L C T R F W U (AV.toI (List.getD qs (0 + Int.toNat i * 4) (AV.tup [])))
 (AV.toI (List.getD qs (0 + Int.toNat i * 4 + 1) (AV.tup [])))
 (AV.toI (List.getD qs (0 + Int.toNat i * 4 + 1 + 1) (AV.tup [])))
 (AV.toI (List.getD qs (0 + Int.toNat i * 4 + 1 + 1 + 1) (AV.tup [])))
 false now)) = false →
 (!decide
 (reqAt L C T R F W U (AV.toI (List.getD qs (0 + Int.toNat i * 4) (AV.tup [])))
 (AV.toI (List.getD qs (0 + Int.toNat i * 4 + 1) (AV.tup [])))
 (AV.toI (List.getD qs (0 + Int.toNat i * 4 + 1 + 1) (AV.tup [])))
 (AV.toI (List.getD qs (0 + Int.toNat i * 4 + 1 + 1 + 1) (AV.tup [])))
 false now ≥
 reqEnd L C T R F W U (AV.toI (List.getD qs (0 + Int.toNat i * 4) (AV.tup [])))
 (AV.toI (List.getD qs (0 + Int.toNat i * 4 + 1) (AV.tup [])))
 (AV.toI (List.getD qs (0 + Int.toNat i * 4 + 1 + 1) (AV.tup [])))
 (AV.toI (List.getD qs (0 + Int.toNat i * 4 + 1 + 1 + 1) (AV.tup [])))
 false now)) = false ∧
 ((!decide
 (reqAt L C T R F W U (AV.toI (List.getD qs (0 + Int.toNat i * 4) (AV.tup [])))
 (AV.toI (List.getD qs (0 + Int.toNat i * 4 + 1) (AV.tup [])))
 (AV.toI (List.getD qs (0 + Int.toNat i * 4 + 1 + 1) (AV.tup [])))
 (AV.toI (List.getD qs (0 + Int.toNat i * 4 + 1 + 1 + 1) (AV.tup [])))
 false now ≥
 reqEnd L C T R F W U (AV.toI (List.getD qs (0 + Int.toNat i * 4) (AV.tup [])))
 (AV.toI (List.getD qs (0 + Int.toNat i * 4 + 1) (AV.tup [])))
 (AV.toI (List.getD qs (0 + Int.toNat i * 4 + 1 + 1) (AV.tup [])))
 (AV.toI (List.getD qs (0 + Int.toNat i * 4 + 1 + 1 + 1) (AV.tup [])))
 false now)) = false ∧
 ((!decide
 (reqAt L C T R F W U (AV.toI (List.getD qs (0 + Int.toNat i * 4) (AV.tup [])))
 (AV.toI (List.getD qs (0 + Int.toNat i * 4 + 1) (AV.tup [])))
 (AV.toI (List.getD qs (0 + Int.toNat i * 4 + 1 + 1) (AV.tup [])))
 (AV.toI (List.getD qs (0 + Int.toNat i * 4 + 1 + 1 + 1) (AV.tup [])))
 false now ≥
 reqEnd L C T R F W U (AV.toI (List.getD qs (0 + Int.toNat i * 4) (AV.tup [])))
 (AV.toI (List.getD qs (0 + Int.toNat i * 4 + 1) (AV.tup [])))
 (AV.toI (List.getD qs (0 + Int.toNat i * 4 + 1 + 1) (AV.tup [])))
 (AV.toI (List.getD qs (0 + Int.toNat i * 4 + 1 + 1 + 1) (AV.tup [])))
 false now)) = false ∧
 ((!decide
 (reqAt L C T R F W U (AV.toI (List.getD qs (0 + Int.toNat i * 4) (AV.tup [])))
 (AV.toI (List.getD qs (0 + Int.toNat i * 4 + 1) (AV.tup [])))
 (AV.toI (List.getD qs (0 + Int.toNat i * 4 + 1 + 1) (AV.tup [])))
 (AV.toI (List.getD qs (0 + Int.toNat i * 4 + 1 + 1 + 1) (AV.tup [])))
 false now ≥
 reqEnd L C T R F W U (AV.toI (List.getD qs (0 + Int.toNat i * 4) (AV.tup [])))
 (AV.toI (List.getD qs (0 + Int.toNat i * 4 + 1) (AV.tup [])))
 (AV.toI (List.getD qs (0 + Int.toNat i * 4 + 1 + 1) (AV.tup [])))
 (AV.toI (List.getD qs (0 + Int.toNat i * 4 + 1 + 1 + 1) (AV.tup [])))
 false now)) = false ∧
 ((!decide
 (reqAt L C T R F W U (AV.toI (List.getD qs (0 + Int.toNat i * 4) (AV.tup [])))
 (AV.toI (List.getD qs (0 + Int.toNat i * 4 + 1) (AV.tup [])))
 (AV.toI (List.getD qs (0 + Int.toNat i * 4 + 1 + 1) (AV.tup [])))
 (AV.toI (List.getD qs (0 + Int.toNat i * 4 + 1 + 1 + 1) (AV.tup [])))
 false now ≥
 reqEnd L C T R F W U (AV.toI (List.getD qs (0 + Int.toNat i * 4) (AV.tup [])))
 (AV.toI (List.getD qs (0 + Int.toNat i * 4 + 1) (AV.tup [])))
 (AV.toI (List.getD qs (0 + Int.toNat i * 4 + 1 + 1) (AV.tup [])))
 (AV.toI (List.getD qs (0 + Int.toNat i * 4 + 1 + 1 + 1) (AV.tup [])))
 false now)) = false ∧
 ((!decide
 (reqAt L C T R F W U (AV.toI (List.getD qs (0 + Int.toNat i * 4) (AV.tup [])))
 (AV.toI (List.getD qs (0 + Int.toNat i * 4 + 1) (AV.tup [])))
 (AV.toI (List.getD qs (0 + Int.toNat i * 4 + 1 + 1) (AV.tup [])))
 (AV.toI (List.getD qs (0 + Int.toNat i * 4 + 1 + 1 + 1) (AV.tup [])))
 false now ≥
 reqEnd L C T R F W U (AV.toI (List.getD qs (0 + Int.toNat i * 4) (AV.tup [])))
 (AV.toI (List.getD qs (0 + Int.toNat i * 4 + 1) (AV.tup [])))
 (AV.toI (List.getD qs (0 + Int.toNat i * 4 + 1 + 1) (AV.tup [])))
 (AV.toI (List.getD qs (0 + Int.toNat i * 4 + 1 + 1 + 1) (AV.tup [])))
 false now)) = false ∧
 ((!decide
 (reqAt L C T R F W U (AV.toI (List.getD qs (0 + Int.toNat i * 4) (AV.tup [])))
 (AV.toI (List.getD qs (0 + Int.toNat i * 4 + 1) (AV.tup [])))
 (AV.toI (List.getD qs (0 + Int.toNat i * 4 + 1 + 1) (AV.tup [])))
 (AV.toI (List.getD qs (0 + Int.toNat i * 4 + 1 + 1 + 1) (AV.tup [])))
 false now ≥
 reqEnd L C T R F W U (AV.toI (List.getD qs (0 + Int.toNat i * 4) (AV.tup [])))
 (AV.toI (List.getD qs (0 + Int.toNat i * 4 + 1) (AV.tup [])))
 (AV.toI (List.getD qs (0 + Int.toNat i * 4 + 1 + 1) (AV.tup [])))
 (AV.toI (List.getD qs (0 + Int.toNat i * 4 + 1 + 1 + 1) (AV.tup [])))
 false now)) = false ∧
 ((!decide
 (reqAt L C T R F W U (AV.toI (List.getD qs (0 + Int.toNat i * 4) (AV.tup [])))
 (AV.toI (List.getD qs (0 + Int.toNat i * 4 + 1) (AV.tup [])))
 (AV.toI (List.getD qs (0 + Int.toNat i * 4 + 1 + 1) (AV.tup [])))
 (AV.toI (List.getD qs (0 + Int.toNat i * 4 + 1 + 1 + 1) (AV.tup [])))
 false now ≥
 reqEnd L C T R F W U (AV.toI (List.getD qs (0 + Int.toNat i * 4) (AV.tup [])))
 (AV.toI (List.getD qs (0 + Int.toNat i * 4 + 1) (AV.tup [])))
 (AV.toI (List.getD qs (0 + Int.toNat i * 4 + 1 + 1) (AV.tup [])))
 (AV.toI (List.getD qs (0 + Int.toNat i * 4 + 1 + 1 + 1) (AV.tup [])))
 false now)) = false ∧
 ((decide
 (reqAt L C T R F W U (AV.toI (List.getD qs (0 + Int.toNat i * 4) (AV.tup [])))
 (AV.toI (List.getD qs (0 + Int.toNat i * 4 + 1) (AV.tup [])))
 (AV.toI (List.getD qs (0 + Int.toNat i * 4 + 1 + 1) (AV.tup [])))
 (AV.toI (List.getD qs (0 + Int.toNat i * 4 + 1 + 1 + 1) (AV.tup [])))
 false now ≥
 reqEnd L C T R F W U (AV.toI (List.getD qs (0 + Int.toNat i * 4) (AV.tup [])))
 (AV.toI (List.getD qs (0 + Int.toNat i * 4 + 1) (AV.tup [])))
 (AV.toI (List.getD qs (0 + Int.toNat i * 4 + 1 + 1) (AV.tup [])))
 (AV.toI (List.getD qs (0 + Int.toNat i * 4 + 1 + 1 + 1) (AV.tup [])))
 false now)) = true ∧
 (Q Exit.ret 208
 [some (AV.slice 0 0 n (some c)), some (AV.slice 1 0 0 none),
 some (AV.ptr 2 0), some (AV.slice 3 0 n none), some (AV.int IntKind.i64 e),
 some (AV.int IntKind.i64 now), some (AV.int IntKind.i64 i)]
 { nx := 4, m :=
 [(3, AObj.opn 2 1 (encI IntKind.i64 acc)),
 (2,
 AObj.cells 23
 [AV.int IntKind.i64 L, AV.int IntKind.i64 C, AV.int IntKind.i64 T, AV.int IntKind.i64 R,
 AV.int IntKind.i64 F, AV.int IntKind.i64 W, AV.int IntKind.i64 U]),
 (1, AObj.ro bs), (0, AObj.ro qs)] })))))))))))))) ∧
 ((!decide
 (reqAt L C T R F W U (AV.toI (List.getD qs (0 + Int.toNat i * 4) (AV.tup [])))
 (AV.toI (List.getD qs (0 + Int.toNat i * 4 + 1) (AV.tup [])))
 (AV.toI (List.getD qs (0 + Int.toNat i * 4 + 1 + 1) (AV.tup [])))
 (AV.toI (List.getD qs (0 + Int.toNat i * 4 + 1 + 1 + 1) (AV.tup [])))
 false now <
 now)) = false →
 (!decide
 (reqAt L C T R F W U (AV.toI (List.getD qs (0 + Int.toNat i * 4) (AV.tup [])))
 (AV.toI (List.getD qs (0 + Int.toNat i * 4 + 1) (AV.tup [])))
 (AV.toI (List.getD qs (0 + Int.toNat i * 4 + 1 + 1) (AV.tup [])))
 (AV.toI (List.getD qs (0 + Int.toNat i * 4 + 1 + 1 + 1) (AV.tup [])))
 false now <
 now)) = false ∧
 ((!decide
 (reqAt L C T R F W U (AV.toI (List.getD qs (0 + Int.toNat i * 4) (AV.tup [])))
 (AV.toI (List.getD qs (0 + Int.toNat i * 4 + 1) (AV.tup [])))
 (AV.toI (List.getD qs (0 + Int.toNat i * 4 + 1 + 1) (AV.tup [])))
 (AV.toI (List.getD qs (0 + Int.toNat i * 4 + 1 + 1 + 1) (AV.tup [])))
 false now <
 now)) = false ∧
 ((decide
 (reqAt L C T R F W U (AV.toI (List.getD qs (0 + Int.toNat i * 4) (AV.tup [])))
 (AV.toI (List.getD qs (0 + Int.toNat i * 4 + 1) (AV.tup [])))
 (AV.toI (List.getD qs (0 + Int.toNat i * 4 + 1 + 1) (AV.tup [])))
 (AV.toI (List.getD qs (0 + Int.toNat i * 4 + 1 + 1 + 1) (AV.tup [])))
 false now <
 now)) = true ∧
 (Q Exit.ret 208
 [some (AV.slice 0 0 n (some c)), some (AV.slice 1 0 0 none),
 some (AV.ptr 2 0), some (AV.slice 3 0 n none), some (AV.int IntKind.i64 e),
 some (AV.int IntKind.i64 now), some (AV.int IntKind.i64 i)]
 { nx := 4, m :=
 [(3, AObj.opn 2 1 (encI IntKind.i64 acc)),
 (2,
 AObj.cells 23
 [AV.int IntKind.i64 L, AV.int IntKind.i64 C, AV.int IntKind.i64 T, AV.int IntKind.i64 R,
 AV.int IntKind.i64 F, AV.int IntKind.i64 W, AV.int IntKind.i64 U]),
 (1, AObj.ro bs), (0, AObj.ro qs)] })))))))) ∧
 ((!!decide
 (reqAt L C T R F W U (AV.toI (List.getD qs (0 + Int.toNat i * 4) (AV.tup [])))
 (AV.toI (List.getD qs (0 + Int.toNat i * 4 + 1) (AV.tup [])))
 (AV.toI (List.getD qs (0 + Int.toNat i * 4 + 1 + 1) (AV.tup [])))
 (AV.toI (List.getD qs (0 + Int.toNat i * 4 + 1 + 1 + 1) (AV.tup [])))
 false now =
 AV.toI (List.getD (encI IntKind.i64 acc) (0 + Int.toNat i * 1) (AV.tup [])))) = false →
 (!!decide
 (reqAt L C T R F W U (AV.toI (List.getD qs (0 + Int.toNat i * 4) (AV.tup [])))
 (AV.toI (List.getD qs (0 + Int.toNat i * 4 + 1) (AV.tup [])))
 (AV.toI (List.getD qs (0 + Int.toNat i * 4 + 1 + 1) (AV.tup [])))
 (AV.toI (List.getD qs (0 + Int.toNat i * 4 + 1 + 1 + 1) (AV.tup [])))
 false now =
 AV.toI (List.getD (encI IntKind.i64 acc) (0 + Int.toNat i * 1) (AV.tup [])))) = false ∧
 ((!!decide
 (reqAt L C T R F W U (AV.toI (List.getD qs (0 + Int.toNat i * 4) (AV.tup [])))
 (AV.toI (List.getD qs (0 + Int.toNat i * 4 + 1) (AV.tup [])))
 (AV.toI (List.getD qs (0 + Int.toNat i * 4 + 1 + 1) (AV.tup [])))
 (AV.toI (List.getD qs (0 + Int.toNat i * 4 + 1 + 1 + 1) (AV.tup [])))
 false now =
 AV.toI (List.getD (encI IntKind.i64 acc) (0 + Int.toNat i * 1) (AV.tup [])))) = false ∧
 ((!decide
 (reqAt L C T R F W U (AV.toI (List.getD qs (0 + Int.toNat i * 4) (AV.tup [])))
 (AV.toI (List.getD qs (0 + Int.toNat i * 4 + 1) (AV.tup [])))
 (AV.toI (List.getD qs (0 + Int.toNat i * 4 + 1 + 1) (AV.tup [])))
 (AV.toI (List.getD qs (0 + Int.toNat i * 4 + 1 + 1 + 1) (AV.tup [])))
 false now =
 AV.toI (List.getD (encI IntKind.i64 acc) (0 + Int.toNat i * 1) (AV.tup [])))) = true ∧
 (Q Exit.ret 208
 [some (AV.slice 0 0 n (some c)), some (AV.slice 1 0 0 none),
 some (AV.ptr 2 0), some (AV.slice 3 0 n none), some (AV.int IntKind.i64 e),
 some (AV.int IntKind.i64 now), some (AV.int IntKind.i64 i)]
 { nx := 4, m :=
 [(3, AObj.opn 2 1 (encI IntKind.i64 acc)),
 (2,
 AObj.cells 23
 [AV.int IntKind.i64 L, AV.int IntKind.i64 C, AV.int IntKind.i64 T, AV.int IntKind.i64 R,
 AV.int IntKind.i64 F, AV.int IntKind.i64 W, AV.int IntKind.i64 U]),
 (1, AObj.ro bs), (0, AObj.ro qs)] })))))))))))))) ∧
 ((!!decide
 (reqErr L C T R F W U (AV.toI (List.getD qs (0 + Int.toNat i * 4) (AV.tup [])))
 (AV.toI (List.getD qs (0 + Int.toNat i * 4 + 1) (AV.tup [])))
 (AV.toI (List.getD qs (0 + Int.toNat i * 4 + 1 + 1) (AV.tup [])))
 (AV.toI (List.getD qs (0 + Int.toNat i * 4 + 1 + 1 + 1) (AV.tup [])))
 now =
 (0 : Int))) = false →
 (!!decide
 (reqErr L C T R F W U (AV.toI (List.getD qs (0 + Int.toNat i * 4) (AV.tup [])))
 (AV.toI (List.getD qs (0 + Int.toNat i * 4 + 1) (AV.tup [])))
 (AV.toI (List.getD qs (0 + Int.toNat i * 4 + 1 + 1) (AV.tup [])))
 (AV.toI (List.getD qs (0 + Int.toNat i * 4 + 1 + 1 + 1) (AV.tup [])))
 now =
 (0 : Int))) = false ∧
 ((!!decide
 (reqErr L C T R F W U (AV.toI (List.getD qs (0 + Int.toNat i * 4) (AV.tup [])))
 (AV.toI (List.getD qs (0 + Int.toNat i * 4 + 1) (AV.tup [])))
 (AV.toI (List.getD qs (0 + Int.toNat i * 4 + 1 + 1) (AV.tup [])))
 (AV.toI (List.getD qs (0 + Int.toNat i * 4 + 1 + 1 + 1) (AV.tup [])))
 now =
 (0 : Int))) = false ∧
 ((!!decide
 (reqErr L C T R F W U (AV.toI (List.getD qs (0 + Int.toNat i * 4) (AV.tup [])))
 (AV.toI (List.getD qs (0 + Int.toNat i * 4 + 1) (AV.tup [])))
 (AV.toI (List.getD qs (0 + Int.toNat i * 4 + 1 + 1) (AV.tup [])))
 (AV.toI (List.getD qs (0 + Int.toNat i * 4 + 1 + 1 + 1) (AV.tup [])))
 now =
 (0 : Int))) = false ∧
 ((!!decide
 (reqErr L C T R F W U (AV.toI (List.getD qs (0 + Int.toNat i * 4) (AV.tup [])))
 (AV.toI (List.getD qs (0 + Int.toNat i * 4 + 1) (AV.tup [])))
 (AV.toI (List.getD qs (0 + Int.toNat i * 4 + 1 + 1) (AV.tup [])))
 (AV.toI (List.getD qs (0 + Int.toNat i * 4 + 1 + 1 + 1) (AV.tup [])))
 now =
 (0 : Int))) = false ∧
 ((!!decide
 (reqErr L C T R F W U (AV.toI (List.getD qs (0 + Int.toNat i * 4) (AV.tup [])))
 (AV.toI (List.getD qs (0 + Int.toNat i * 4 + 1) (AV.tup [])))
 (AV.toI (List.getD qs (0 + Int.toNat i * 4 + 1 + 1) (AV.tup [])))
 (AV.toI (List.getD qs (0 + Int.toNat i * 4 + 1 + 1 + 1) (AV.tup [])))
 now =
 (0 : Int))) = false ∧
 ((!decide
 (reqErr L C T R F W U (AV.toI (List.getD qs (0 + Int.toNat i * 4) (AV.tup [])))
 (AV.toI (List.getD qs (0 + Int.toNat i * 4 + 1) (AV.tup [])))
 (AV.toI (List.getD qs (0 + Int.toNat i * 4 + 1 + 1) (AV.tup [])))
 (AV.toI (List.getD qs (0 + Int.toNat i * 4 + 1 + 1 + 1) (AV.tup [])))
 now =
 (0 : Int))) = true ∧
 (Q Exit.ret 208
 [some (AV.slice 0 0 n (some c)), some (AV.slice 1 0 0 none),
 some (AV.ptr 2 0), some (AV.slice 3 0 n none), some (AV.int IntKind.i64 e),
 some (AV.int IntKind.i64 now), some (AV.int IntKind.i64 i)]
 { nx := 4, m :=
 [(3, AObj.opn 2 1 (encI IntKind.i64 acc)),
 (2,
 AObj.cells 23
 [AV.int IntKind.i64 L, AV.int IntKind.i64 C, AV.int IntKind.i64 T, AV.int IntKind.i64 R,
 AV.int IntKind.i64 F, AV.int IntKind.i64 W, AV.int IntKind.i64 U]),
 (1, AObj.ro bs), (0, AObj.ro qs)] }))))))))))))))))))) ∧
 ((decide (i < (↑n : Int))) = false →
 Q (Exit.exit 2) 208
 [some (AV.slice 0 0 n (some c)), some (AV.slice 1 0 0 none),
 some (AV.ptr 2 0), some (AV.slice 3 0 n none), some (AV.int IntKind.i64 e),
 some (AV.int IntKind.i64 now), some (AV.int IntKind.i64 i)]
 { nx := 4, m :=
 [(3, AObj.opn 2 1 (encI IntKind.i64 acc)),
 (2,
 AObj.cells 23
 [AV.int IntKind.i64 L, AV.int IntKind.i64 C, AV.int IntKind.i64 T, AV.int IntKind.i64 R,
 AV.int IntKind.i64 F, AV.int IntKind.i64 W, AV.int IntKind.i64 U]),
 (1, AObj.ro bs), (0, AObj.ro qs)] })
def cmE_scr : Plan := .b (.t (.t (.t (.t (.t (.t (.b (.t (.t (.t (.t (.t (.t (.t (.b (.t (.t (.t (.t (.t (.t (.t (.t (.f (.b (.t (.t (.f (.b (.t (.t (.f (.b (.t (.t (.t (.t (.t (.t (.t (.t (.t (.t (.t (.f (.b (.t (.t (.t (.t (.t (.t (.t (.t (.t (.t (.t (.t (.t (.t (.t (.t (.t (.t (.t (.t (.t (.t (.t (.t (.f (.b (.z) (.z))))))))))))))))))))))))))) (.f (.f (.f (.f (.f (.f (.f (.f (.f (.f (.f (.f (.f (.f (.f (.t (.z)))))))))))))))))))))))))))))) (.f (.f (.f (.f (.f (.f (.f (.f (.t (.z)))))))))))))) (.f (.f (.t (.z)))))))) (.f (.f (.t (.z)))))))))))))) (.f (.f (.f (.f (.f (.t (.z))))))))))))))) (.f (.f (.f (.f (.b (.t (.t (.t (.t (.t (.t (.t (.t (.f (.b (.t (.t (.f (.b (.t (.t (.f (.b (.t (.t (.t (.t (.t (.t (.t (.t (.t (.t (.t (.f (.b (.t (.t (.t (.t (.t (.t (.t (.t (.t (.t (.t (.t (.t (.t (.t (.t (.t (.t (.t (.t (.t (.t (.t (.t (.f (.b (.z) (.z))))))))))))))))))))))))))) (.f (.f (.f (.f (.f (.f (.f (.f (.f (.f (.f (.f (.f (.f (.f (.t (.z)))))))))))))))))))))))))))))) (.f (.f (.f (.f (.f (.f (.f (.f (.t (.z)))))))))))))) (.f (.f (.t (.z)))))))) (.f (.f (.t (.z)))))))))))))) (.f (.f (.f (.f (.f (.t (.z))))))))))))))))))) (.z)
theorem cmE_vc (L C T R F W U e now i : Int) (n c : Nat) (qs bs : List AV) (acc : List Int) (N : NS) (Q : QS) (K : Unit) : (wpP XCo4 (symC Try.prog (bodyOf Try.prog 14) []) 2 (loopAt Try.prog 14 1) 2 (rndS [1, 2, 5, 12, 13, 22, 23] N Q) (cmT (.slice 1 0 0 none) L C T R F W U e now i n c qs bs acc).1 (cmT (.slice 1 0 0 none) L C T R F W U e now i n c qs bs acc).2 cmE_scr) = cmE_VC L C T R F W U e now i n c qs bs acc N Q K := by kernel_rfl
def chS_VC (L C T R F W U t u i : Int) (n c m cm : Nat) (qs bs : List AV) (N : NS) (Q : QS) (K : Unit) : Prop :=
 ((decide (i < (↑n : Int))) = true →
 (decide ((0 : Int) ≤ i ∧ i < (↑n : Int))) = true ∧
 ((decide (0 + Int.toNat i * 4 + 4 ≤ List.length qs)) = true ∧
 ((AV.isI IntKind.i64 (List.getD qs (0 + Int.toNat i * 4) (AV.tup []))) = true ∧
 ((AV.isI IntKind.u16 (List.getD qs (0 + Int.toNat i * 4 + 1) (AV.tup []))) = true ∧
 ((AV.isI IntKind.u8 (List.getD qs (0 + Int.toNat i * 4 + 1 + 1) (AV.tup []))) = true ∧
 ((AV.isI IntKind.i64 (List.getD qs (0 + Int.toNat i * 4 + 1 + 1 + 1) (AV.tup []))) = true ∧
 (((!decide
 (stepE (AV.toI (List.getD qs (0 + Int.toNat i * 4) (AV.tup [])))
 (AV.toI (List.getD qs (0 + Int.toNat i * 4 + 1) (AV.tup [])))
 (AV.toI (List.getD qs (0 + Int.toNat i * 4 + 1 + 1) (AV.tup [])))
 (AV.toI (List.getD qs (0 + Int.toNat i * 4 + 1 + 1 + 1) (AV.tup []))) =
 (0 : Int))) = true →
 Q Exit.ret 208
 [some (AV.slice 0 0 n (some c)), some (AV.slice 1 0 m (some cm)),
 some (AV.int IntKind.i64 t), some (AV.int IntKind.i64 u), some (AV.ptr 2 0), some (AV.bool true),
 some (AV.int IntKind.i64 i)]
 { nx := 3, m :=
 [(2,
 AObj.cells 23
 [AV.int IntKind.i64 L, AV.int IntKind.i64 C, AV.int IntKind.i64 T, AV.int IntKind.i64 R,
 AV.int IntKind.i64 F, AV.int IntKind.i64 W, AV.int IntKind.i64 U]),
 (1, AObj.ro bs), (0, AObj.ro qs)] }) ∧
 ((!decide
 (stepE (AV.toI (List.getD qs (0 + Int.toNat i * 4) (AV.tup [])))
 (AV.toI (List.getD qs (0 + Int.toNat i * 4 + 1) (AV.tup [])))
 (AV.toI (List.getD qs (0 + Int.toNat i * 4 + 1 + 1) (AV.tup [])))
 (AV.toI (List.getD qs (0 + Int.toNat i * 4 + 1 + 1 + 1) (AV.tup []))) =
 (0 : Int))) = false →
 N 208
 [some (AV.slice 0 0 n (some c)), some (AV.slice 1 0 m (some cm)),
 some (AV.int IntKind.i64 t), some (AV.int IntKind.i64 u), some (AV.ptr 2 0), none,
 some (AV.int IntKind.i64 (IntKind.wrap IntKind.i64 (i + (1 : Int))))]
 { nx := 3, m :=
 [(2,
 AObj.cells 23
 [AV.int IntKind.i64 L, AV.int IntKind.i64 C, AV.int IntKind.i64 T, AV.int IntKind.i64 R,
 AV.int IntKind.i64 F, AV.int IntKind.i64 W, AV.int IntKind.i64 U]),
 (1, AObj.ro bs), (0, AObj.ro qs)] })))))))) ∧
 ((decide (i < (↑n : Int))) = false →
 Q (Exit.exit 0) 208
 [some (AV.slice 0 0 n (some c)), some (AV.slice 1 0 m (some cm)),
 some (AV.int IntKind.i64 t), some (AV.int IntKind.i64 u), some (AV.ptr 2 0), none,
 some (AV.int IntKind.i64 i)]
 { nx := 3, m :=
 [(2,
 AObj.cells 23
 [AV.int IntKind.i64 L, AV.int IntKind.i64 C, AV.int IntKind.i64 T, AV.int IntKind.i64 R,
 AV.int IntKind.i64 F, AV.int IntKind.i64 W, AV.int IntKind.i64 U]),
 (1, AObj.ro bs), (0, AObj.ro qs)] })
def chS_scr : Plan := .b (.t (.t (.t (.t (.t (.t (.b (.z) (.z)))))))) (.z)
theorem chS_vc (L C T R F W U t u i : Int) (n c m cm : Nat) (qs bs : List AV) (N : NS) (Q : QS) (K : Unit) : (wpP XCo4 (symC Try.prog (bodyOf Try.prog 14) []) 2 (loopAt Try.prog 14 0) 0 (rndS [1, 2, 3, 4, 5, 10, 11] N Q) (chT (.slice 1 0 m (some cm)) L C T R F W U t u i n c qs bs).1 (chT (.slice 1 0 m (some cm)) L C T R F W U t u i n c qs bs).2 chS_scr) = chS_VC L C T R F W U t u i n c m cm qs bs N Q K := by kernel_rfl
def cmS_VC (L C T R F W U e now i : Int) (n c m cm : Nat) (qs bs : List AV) (acc : List Int) (N : NS) (Q : QS) (K : Unit) : Prop :=
 ((decide (i < (↑n : Int))) = true →
 (decide ((0 : Int) ≤ i ∧ i < (↑n : Int))) = true ∧
 ((decide (0 + Int.toNat i * 4 + 4 ≤ List.length qs)) = true ∧
 ((AV.isI IntKind.i64 (List.getD qs (0 + Int.toNat i * 4) (AV.tup []))) = true ∧
 ((AV.isI IntKind.u16 (List.getD qs (0 + Int.toNat i * 4 + 1) (AV.tup []))) = true ∧
 ((AV.isI IntKind.u8 (List.getD qs (0 + Int.toNat i * 4 + 1 + 1) (AV.tup []))) = true ∧
 ((AV.isI IntKind.i64 (List.getD qs (0 + Int.toNat i * 4 + 1 + 1 + 1) (AV.tup []))) = true ∧
 (((decide (i < (↑m : Int))) = true →
 (decide (i < (↑m : Int))) = true ∧
 ((decide (i < (↑m : Int))) = true ∧
 ((decide ((0 : Int) ≤ i ∧ i < (↑m : Int))) = true ∧
 ((decide (i < (↑m : Int))) = true ∧
 ((decide (0 + Int.toNat i * 1 < List.length bs)) = true ∧
 ((AV.isB (List.getD bs (0 + Int.toNat i * 1) (AV.tup []))) = true ∧
 ((decide (i < (↑m : Int))) = true ∧
 (((!!decide
 (reqErr L C T R F W U (AV.toI (List.getD qs (0 + Int.toNat i * 4) (AV.tup [])))
 (AV.toI (List.getD qs (0 + Int.toNat i * 4 + 1) (AV.tup [])))
 (AV.toI (List.getD qs (0 + Int.toNat i * 4 + 1 + 1) (AV.tup [])))
 (AV.toI (List.getD qs (0 + Int.toNat i * 4 + 1 + 1 + 1) (AV.tup [])))
 now =
 (0 : Int))) = true →
 (!!decide
 (reqErr L C T R F W U (AV.toI (List.getD qs (0 + Int.toNat i * 4) (AV.tup [])))
 (AV.toI (List.getD qs (0 + Int.toNat i * 4 + 1) (AV.tup [])))
 (AV.toI (List.getD qs (0 + Int.toNat i * 4 + 1 + 1) (AV.tup [])))
 (AV.toI (List.getD qs (0 + Int.toNat i * 4 + 1 + 1 + 1) (AV.tup [])))
 now =
 (0 : Int))) = true ∧
 ((!!decide
 (reqErr L C T R F W U (AV.toI (List.getD qs (0 + Int.toNat i * 4) (AV.tup [])))
 (AV.toI (List.getD qs (0 + Int.toNat i * 4 + 1) (AV.tup [])))
 (AV.toI (List.getD qs (0 + Int.toNat i * 4 + 1 + 1) (AV.tup [])))
 (AV.toI (List.getD qs (0 + Int.toNat i * 4 + 1 + 1 + 1) (AV.tup [])))
 now =
 (0 : Int))) = true ∧
 ((!!decide
 (reqErr L C T R F W U (AV.toI (List.getD qs (0 + Int.toNat i * 4) (AV.tup [])))
 (AV.toI (List.getD qs (0 + Int.toNat i * 4 + 1) (AV.tup [])))
 (AV.toI (List.getD qs (0 + Int.toNat i * 4 + 1 + 1) (AV.tup [])))
 (AV.toI (List.getD qs (0 + Int.toNat i * 4 + 1 + 1 + 1) (AV.tup [])))
 now =
 (0 : Int))) = true ∧
 ((decide ((0 : Int) ≤ i ∧ i < (↑n : Int))) = true ∧
 ((!!decide
 (reqErr L C T R F W U (AV.toI (List.getD qs (0 + Int.toNat i * 4) (AV.tup [])))
 (AV.toI (List.getD qs (0 + Int.toNat i * 4 + 1) (AV.tup [])))
 (AV.toI (List.getD qs (0 + Int.toNat i * 4 + 1 + 1) (AV.tup [])))
 (AV.toI (List.getD qs (0 + Int.toNat i * 4 + 1 + 1 + 1) (AV.tup [])))
 now =
 (0 : Int))) = true ∧
 ((decide (0 + Int.toNat i * 1 < List.length (encI IntKind.i64 acc))) = true ∧
 ((AV.isI IntKind.i64 (List.getD (encI IntKind.i64 acc) (0 + Int.toNat i * 1) (AV.tup []))) = true ∧
 ((!!decide
 (reqErr L C T R F W U (AV.toI (List.getD qs (0 + Int.toNat i * 4) (AV.tup [])))
 (AV.toI (List.getD qs (0 + Int.toNat i * 4 + 1) (AV.tup [])))
 (AV.toI (List.getD qs (0 + Int.toNat i * 4 + 1 + 1) (AV.tup [])))
 (AV.toI (List.getD qs (0 + Int.toNat i * 4 + 1 + 1 + 1) (AV.tup [])))
 now =
 (0 : Int))) = true ∧
 ((!decide
 (reqErr L C T R F W U (AV.toI (List.getD qs (0 + Int.toNat i * 4) (AV.tup [])))
 (AV.toI (List.getD qs (0 + Int.toNat i * 4 + 1) (AV.tup [])))
 (AV.toI (List.getD qs (0 + Int.toNat i * 4 + 1 + 1) (AV.tup [])))
 (AV.toI (List.getD qs (0 + Int.toNat i * 4 + 1 + 1 + 1) (AV.tup [])))
 now =
 (0 : Int))) = false ∧
 (((!!decide
 (reqAt L C T R F W U (AV.toI (List.getD qs (0 + Int.toNat i * 4) (AV.tup [])))
 (AV.toI (List.getD qs (0 + Int.toNat i * 4 + 1) (AV.tup [])))
 (AV.toI (List.getD qs (0 + Int.toNat i * 4 + 1 + 1) (AV.tup [])))
 (AV.toI (List.getD qs (0 + Int.toNat i * 4 + 1 + 1 + 1) (AV.tup [])))
 (AV.toB (List.getD bs (0 + Int.toNat i * 1) (AV.tup []))) now =
 AV.toI (List.getD (encI IntKind.i64 acc) (0 + Int.toNat i * 1) (AV.tup [])))) = true →
 (!!decide
 (reqAt L C T R F W U (AV.toI (List.getD qs (0 + Int.toNat i * 4) (AV.tup [])))
 (AV.toI (List.getD qs (0 + Int.toNat i * 4 + 1) (AV.tup [])))
 (AV.toI (List.getD qs (0 + Int.toNat i * 4 + 1 + 1) (AV.tup [])))
 (AV.toI (List.getD qs (0 + Int.toNat i * 4 + 1 + 1 + 1) (AV.tup [])))
 (AV.toB (List.getD bs (0 + Int.toNat i * 1) (AV.tup []))) now =
 AV.toI (List.getD (encI IntKind.i64 acc) (0 + Int.toNat i * 1) (AV.tup [])))) = true ∧
 ((!!decide
 (reqAt L C T R F W U (AV.toI (List.getD qs (0 + Int.toNat i * 4) (AV.tup [])))
 (AV.toI (List.getD qs (0 + Int.toNat i * 4 + 1) (AV.tup [])))
 (AV.toI (List.getD qs (0 + Int.toNat i * 4 + 1 + 1) (AV.tup [])))
 (AV.toI (List.getD qs (0 + Int.toNat i * 4 + 1 + 1 + 1) (AV.tup [])))
 (AV.toB (List.getD bs (0 + Int.toNat i * 1) (AV.tup []))) now =
 AV.toI (List.getD (encI IntKind.i64 acc) (0 + Int.toNat i * 1) (AV.tup [])))) = true ∧
 ((!decide
 (reqAt L C T R F W U (AV.toI (List.getD qs (0 + Int.toNat i * 4) (AV.tup [])))
 (AV.toI (List.getD qs (0 + Int.toNat i * 4 + 1) (AV.tup [])))
 (AV.toI (List.getD qs (0 + Int.toNat i * 4 + 1 + 1) (AV.tup [])))
 (AV.toI (List.getD qs (0 + Int.toNat i * 4 + 1 + 1 + 1) (AV.tup [])))
 (AV.toB (List.getD bs (0 + Int.toNat i * 1) (AV.tup []))) now =
 AV.toI (List.getD (encI IntKind.i64 acc) (0 + Int.toNat i * 1) (AV.tup [])))) = false ∧
 (((!decide
 (reqAt L C T R F W U (AV.toI (List.getD qs (0 + Int.toNat i * 4) (AV.tup [])))
 (AV.toI (List.getD qs (0 + Int.toNat i * 4 + 1) (AV.tup [])))
 (AV.toI (List.getD qs (0 + Int.toNat i * 4 + 1 + 1) (AV.tup [])))
 (AV.toI (List.getD qs (0 + Int.toNat i * 4 + 1 + 1 + 1) (AV.tup [])))
 (AV.toB (List.getD bs (0 + Int.toNat i * 1) (AV.tup []))) now <
 now)) = true →
 (!decide
 (reqAt L C T R F W U (AV.toI (List.getD qs (0 + Int.toNat i * 4) (AV.tup [])))
 (AV.toI (List.getD qs (0 + Int.toNat i * 4 + 1) (AV.tup [])))
 (AV.toI (List.getD qs (0 + Int.toNat i * 4 + 1 + 1) (AV.tup [])))
 (AV.toI (List.getD qs (0 + Int.toNat i * 4 + 1 + 1 + 1) (AV.tup [])))
 (AV.toB (List.getD bs (0 + Int.toNat i * 1) (AV.tup []))) now <
 now)) = true ∧
 ((!decide
 (reqAt L C T R F W U (AV.toI (List.getD qs (0 + Int.toNat i * 4) (AV.tup [])))
 (AV.toI (List.getD qs (0 + Int.toNat i * 4 + 1) (AV.tup [])))
 (AV.toI (List.getD qs (0 + Int.toNat i * 4 + 1 + 1) (AV.tup [])))
 (AV.toI (List.getD qs (0 + Int.toNat i * 4 + 1 + 1 + 1) (AV.tup [])))
 (AV.toB (List.getD bs (0 + Int.toNat i * 1) (AV.tup []))) now <
 now)) = true ∧
 ((decide
 (reqAt L C T R F W U (AV.toI (List.getD qs (0 + Int.toNat i * 4) (AV.tup [])))
 (AV.toI (List.getD qs (0 + Int.toNat i * 4 + 1) (AV.tup [])))
 (AV.toI (List.getD qs (0 + Int.toNat i * 4 + 1 + 1) (AV.tup [])))
 (AV.toI (List.getD qs (0 + Int.toNat i * 4 + 1 + 1 + 1) (AV.tup [])))
 (AV.toB (List.getD bs (0 + Int.toNat i * 1) (AV.tup []))) now <
 now)) = false ∧
 (((!decide
 (reqAt L C T R F W U (AV.toI (List.getD qs (0 + Int.toNat i * 4) (AV.tup [])))
 (AV.toI (List.getD qs (0 + Int.toNat i * 4 + 1) (AV.tup [])))
 (AV.toI (List.getD qs (0 + Int.toNat i * 4 + 1 + 1) (AV.tup [])))
 (AV.toI (List.getD qs (0 + Int.toNat i * 4 + 1 + 1 + 1) (AV.tup [])))
 (AV.toB (List.getD bs (0 + Int.toNat i * 1) (AV.tup []))) now ≥
 reqEnd L C T R F W U (AV.toI (List.getD qs (0 + Int.toNat i * 4) (AV.tup [])))
 (AV.toI (List.getD qs (0 + Int.toNat i * 4 + 1) (AV.tup [])))
 (AV.toI (List.getD qs (0 + Int.toNat i * 4 + 1 + 1) (AV.tup [])))
 (AV.toI (List.getD qs (0 + Int.toNat i * 4 + 1 + 1 + 1) (AV.tup [])))
 (AV.toB (List.getD bs (0 + Int.toNat i * 1) (AV.tup []))) now)) = true →
 (!decide
 (reqAt L C T R F W U (AV.toI (List.getD qs (0 + Int.toNat i * 4) (AV.tup [])))
 (AV.toI (List.getD qs (0 + Int.toNat i * 4 + 1) (AV.tup [])))
 (AV.toI (List.getD qs (0 + Int.toNat i * 4 + 1 + 1) (AV.tup [])))
 (AV.toI (List.getD qs (0 + Int.toNat i * 4 + 1 + 1 + 1) (AV.tup [])))
 (AV.toB (List.getD bs (0 + Int.toNat i * 1) (AV.tup []))) now ≥
 reqEnd L C T R F W U (AV.toI (List.getD qs (0 + Int.toNat i * 4) (AV.tup [])))
 (AV.toI (List.getD qs (0 + Int.toNat i * 4 + 1) (AV.tup [])))
 (AV.toI (List.getD qs (0 + Int.toNat i * 4 + 1 + 1) (AV.tup [])))
 (AV.toI (List.getD qs (0 + Int.toNat i * 4 + 1 + 1 + 1) (AV.tup [])))
 (AV.toB (List.getD bs (0 + Int.toNat i * 1) (AV.tup []))) now)) = true ∧
 ((!decide
 (reqAt L C T R F W U (AV.toI (List.getD qs (0 + Int.toNat i * 4) (AV.tup [])))
 (AV.toI (List.getD qs (0 + Int.toNat i * 4 + 1) (AV.tup [])))
 (AV.toI (List.getD qs (0 + Int.toNat i * 4 + 1 + 1) (AV.tup [])))
 (AV.toI (List.getD qs (0 + Int.toNat i * 4 + 1 + 1 + 1) (AV.tup [])))
 (AV.toB (List.getD bs (0 + Int.toNat i * 1) (AV.tup []))) now ≥
 reqEnd L C T R F W U (AV.toI (List.getD qs (0 + Int.toNat i * 4) (AV.tup [])))
 (AV.toI (List.getD qs (0 + Int.toNat i * 4 + 1) (AV.tup [])))
 (AV.toI (List.getD qs (0 + Int.toNat i * 4 + 1 + 1) (AV.tup [])))
 (AV.toI (List.getD qs (0 + Int.toNat i * 4 + 1 + 1 + 1) (AV.tup [])))
 (AV.toB (List.getD bs (0 + Int.toNat i * 1) (AV.tup []))) now)) = true ∧
 ((!decide
 (reqAt L C T R F W U (AV.toI (List.getD qs (0 + Int.toNat i * 4) (AV.tup [])))
 (AV.toI (List.getD qs (0 + Int.toNat i * 4 + 1) (AV.tup [])))
 (AV.toI (List.getD qs (0 + Int.toNat i * 4 + 1 + 1) (AV.tup [])))
 (AV.toI (List.getD qs (0 + Int.toNat i * 4 + 1 + 1 + 1) (AV.tup [])))
 (AV.toB (List.getD bs (0 + Int.toNat i * 1) (AV.tup []))) now ≥
 reqEnd L C T R F W U (AV.toI (List.getD qs (0 + Int.toNat i * 4) (AV.tup [])))
 (AV.toI (List.getD qs (0 + Int.toNat i * 4 + 1) (AV.tup [])))
 (AV.toI (List.getD qs (0 + Int.toNat i * 4 + 1 + 1) (AV.tup [])))
 (AV.toI (List.getD qs (0 + Int.toNat i * 4 + 1 + 1 + 1) (AV.tup [])))
 (AV.toB (List.getD bs (0 + Int.toNat i * 1) (AV.tup []))) now)) = true ∧
 ((!decide
 (reqAt L C T R F W U (AV.toI (List.getD qs (0 + Int.toNat i * 4) (AV.tup [])))
 (AV.toI (List.getD qs (0 + Int.toNat i * 4 + 1) (AV.tup [])))
 (AV.toI (List.getD qs (0 + Int.toNat i * 4 + 1 + 1) (AV.tup [])))
 (AV.toI (List.getD qs (0 + Int.toNat i * 4 + 1 + 1 + 1) (AV.tup [])))
 (AV.toB (List.getD bs (0 + Int.toNat i * 1) (AV.tup []))) now ≥
 reqEnd L C T R F W U (AV.toI (List.getD qs (0 + Int.toNat i * 4) (AV.tup [])))
 (AV.toI (List.getD qs (0 + Int.toNat i * 4 + 1) (AV.tup [])))
 (AV.toI (List.getD qs (0 + Int.toNat i * 4 + 1 + 1) (AV.tup [])))
 (AV.toI (List.getD qs (0 + Int.toNat i * 4 + 1 + 1 + 1) (AV.tup [])))
 (AV.toB (List.getD bs (0 + Int.toNat i * 1) (AV.tup []))) now)) = true ∧
 ((decide ((0 : Int) ≤ i ∧ i < (↑n : Int))) = true ∧
 ((!decide
 (reqAt L C T R F W U (AV.toI (List.getD qs (0 + Int.toNat i * 4) (AV.tup [])))
 (AV.toI (List.getD qs (0 + Int.toNat i * 4 + 1) (AV.tup [])))
 (AV.toI (List.getD qs (0 + Int.toNat i * 4 + 1 + 1) (AV.tup [])))
 (AV.toI (List.getD qs (0 + Int.toNat i * 4 + 1 + 1 + 1) (AV.tup [])))
 (AV.toB (List.getD bs (0 + Int.toNat i * 1) (AV.tup []))) now ≥
 reqEnd L C T R F W U (AV.toI (List.getD qs (0 + Int.toNat i * 4) (AV.tup [])))
 (AV.toI (List.getD qs (0 + Int.toNat i * 4 + 1) (AV.tup [])))
 (AV.toI (List.getD qs (0 + Int.toNat i * 4 + 1 + 1) (AV.tup [])))
 (AV.toI (List.getD qs (0 + Int.toNat i * 4 + 1 + 1 + 1) (AV.tup [])))
 (AV.toB (List.getD bs (0 + Int.toNat i * 1) (AV.tup []))) now)) = true ∧
 ((!decide
 (reqAt L C T R F W U (AV.toI (List.getD qs (0 + Int.toNat i * 4) (AV.tup [])))
 (AV.toI (List.getD qs (0 + Int.toNat i * 4 + 1) (AV.tup [])))
 (AV.toI (List.getD qs (0 + Int.toNat i * 4 + 1 + 1) (AV.tup [])))
 (AV.toI (List.getD qs (0 + Int.toNat i * 4 + 1 + 1 + 1) (AV.tup [])))
 (AV.toB (List.getD bs (0 + Int.toNat i * 1) (AV.tup []))) now ≥
 reqEnd L C T R F W U (AV.toI (List.getD qs (0 + Int.toNat i * 4) (AV.tup [])))
 (AV.toI (List.getD qs (0 + Int.toNat i * 4 + 1) (AV.tup [])))
 (AV.toI (List.getD qs (0 + Int.toNat i * 4 + 1 + 1) (AV.tup [])))
 (AV.toI (List.getD qs (0 + Int.toNat i * 4 + 1 + 1 + 1) (AV.tup [])))
 (AV.toB (List.getD bs (0 + Int.toNat i * 1) (AV.tup []))) now)) = true ∧
 ((decide (0 + Int.toNat i * 4 + 3 < List.length qs)) = true ∧
 ((AV.isI IntKind.i64 (List.getD qs (0 + Int.toNat i * 4 + 3) (AV.tup []))) = true ∧
 ((!decide
 (reqAt L C T R F W U (AV.toI (List.getD qs (0 + Int.toNat i * 4) (AV.tup [])))
 (AV.toI (List.getD qs (0 + Int.toNat i * 4 + 1) (AV.tup [])))
 (AV.toI (List.getD qs (0 + Int.toNat i * 4 + 1 + 1) (AV.tup [])))
 (AV.toI (List.getD qs (0 + Int.toNat i * 4 + 1 + 1 + 1) (AV.tup [])))
 (AV.toB (List.getD bs (0 + Int.toNat i * 1) (AV.tup []))) now ≥
 reqEnd L C T R F W U (AV.toI (List.getD qs (0 + Int.toNat i * 4) (AV.tup [])))
 (AV.toI (List.getD qs (0 + Int.toNat i * 4 + 1) (AV.tup [])))
 (AV.toI (List.getD qs (0 + Int.toNat i * 4 + 1 + 1) (AV.tup [])))
 (AV.toI (List.getD qs (0 + Int.toNat i * 4 + 1 + 1 + 1) (AV.tup [])))
 (AV.toB (List.getD bs (0 + Int.toNat i * 1) (AV.tup []))) now)) = true ∧
 ((!decide
 (reqAt L C T R F W U (AV.toI (List.getD qs (0 + Int.toNat i * 4) (AV.tup [])))
 (AV.toI (List.getD qs (0 + Int.toNat i * 4 + 1) (AV.tup [])))
 (AV.toI (List.getD qs (0 + Int.toNat i * 4 + 1 + 1) (AV.tup [])))
 (AV.toI (List.getD qs (0 + Int.toNat i * 4 + 1 + 1 + 1) (AV.tup [])))
 (AV.toB (List.getD bs (0 + Int.toNat i * 1) (AV.tup []))) now ≥
 reqEnd L C T R F W U (AV.toI (List.getD qs (0 + Int.toNat i * 4) (AV.tup [])))
 (AV.toI (List.getD qs (0 + Int.toNat i * 4 + 1) (AV.tup [])))
 (AV.toI (List.getD qs (0 + Int.toNat i * 4 + 1 + 1) (AV.tup [])))
 (AV.toI (List.getD qs (0 + Int.toNat i * 4 + 1 + 1 + 1) (AV.tup [])))
 (AV.toB (List.getD bs (0 + Int.toNat i * 1) (AV.tup []))) now)) = true ∧
 ((decide
 (reqAt L C T R F W U (AV.toI (List.getD qs (0 + Int.toNat i * 4) (AV.tup [])))
 (AV.toI (List.getD qs (0 + Int.toNat i * 4 + 1) (AV.tup [])))
 (AV.toI (List.getD qs (0 + Int.toNat i * 4 + 1 + 1) (AV.tup [])))
 (AV.toI (List.getD qs (0 + Int.toNat i * 4 + 1 + 1 + 1) (AV.tup [])))
 (AV.toB (List.getD bs (0 + Int.toNat i * 1) (AV.tup []))) now ≥
 reqEnd L C T R F W U (AV.toI (List.getD qs (0 + Int.toNat i * 4) (AV.tup [])))
 (AV.toI (List.getD qs (0 + Int.toNat i * 4 + 1) (AV.tup [])))
 (AV.toI (List.getD qs (0 + Int.toNat i * 4 + 1 + 1) (AV.tup [])))
 (AV.toI (List.getD qs (0 + Int.toNat i * 4 + 1 + 1 + 1) (AV.tup [])))
 (AV.toB (List.getD bs (0 + Int.toNat i * 1) (AV.tup []))) now)) = false ∧
 (((!decide
 (reqEnd L C T R F W U (AV.toI (List.getD qs (0 + Int.toNat i * 4) (AV.tup [])))
 (AV.toI (List.getD qs (0 + Int.toNat i * 4 + 1) (AV.tup [])))
 (AV.toI (List.getD qs (0 + Int.toNat i * 4 + 1 + 1) (AV.tup [])))
 (AV.toI (List.getD qs (0 + Int.toNat i * 4 + 1 + 1 + 1) (AV.tup [])))
 (AV.toB (List.getD bs (0 + Int.toNat i * 1) (AV.tup []))) now <
 IntKind.wrap IntKind.i64
 (now + AV.toI (List.getD qs (0 + Int.toNat i * 4 + 3) (AV.tup []))))) = true →
 (!decide
 (reqEnd L C T R F W U (AV.toI (List.getD qs (0 + Int.toNat i * 4) (AV.tup [])))
 (AV.toI (List.getD qs (0 + Int.toNat i * 4 + 1) (AV.tup [])))
 (AV.toI (List.getD qs (0 + Int.toNat i * 4 + 1 + 1) (AV.tup [])))
 (AV.toI (List.getD qs (0 + Int.toNat i * 4 + 1 + 1 + 1) (AV.tup [])))
 (AV.toB (List.getD bs (0 + Int.toNat i * 1) (AV.tup []))) now <
 IntKind.wrap IntKind.i64
 (now + AV.toI (List.getD qs (0 + Int.toNat i * 4 + 3) (AV.tup []))))) = true ∧
 ((!decide
 (reqEnd L C T R F W U (AV.toI (List.getD qs (0 + Int.toNat i * 4) (AV.tup [])))
 (AV.toI (List.getD qs (0 + Int.toNat i * 4 + 1) (AV.tup [])))
 (AV.toI (List.getD qs (0 + Int.toNat i * 4 + 1 + 1) (AV.tup [])))
 (AV.toI (List.getD qs (0 + Int.toNat i * 4 + 1 + 1 + 1) (AV.tup [])))
 (AV.toB (List.getD bs (0 + Int.toNat i * 1) (AV.tup []))) now <
 IntKind.wrap IntKind.i64
 (now + AV.toI (List.getD qs (0 + Int.toNat i * 4 + 3) (AV.tup []))))) = true ∧
 ((!decide
 (reqEnd L C T R F W U (AV.toI (List.getD qs (0 + Int.toNat i * 4) (AV.tup [])))
 (AV.toI (List.getD qs (0 + Int.toNat i * 4 + 1) (AV.tup [])))
 (AV.toI (List.getD qs (0 + Int.toNat i * 4 + 1 + 1) (AV.tup [])))
 (AV.toI (List.getD qs (0 + Int.toNat i * 4 + 1 + 1 + 1) (AV.tup [])))
 (AV.toB (List.getD bs (0 + Int.toNat i * 1) (AV.tup []))) now <
 IntKind.wrap IntKind.i64
 (now + AV.toI (List.getD qs (0 + Int.toNat i * 4 + 3) (AV.tup []))))) = true ∧
 ((!decide
 (reqEnd L C T R F W U (AV.toI (List.getD qs (0 + Int.toNat i * 4) (AV.tup [])))
 (AV.toI (List.getD qs (0 + Int.toNat i * 4 + 1) (AV.tup [])))
 (AV.toI (List.getD qs (0 + Int.toNat i * 4 + 1 + 1) (AV.tup [])))
 (AV.toI (List.getD qs (0 + Int.toNat i * 4 + 1 + 1 + 1) (AV.tup [])))
 (AV.toB (List.getD bs (0 + Int.toNat i * 1) (AV.tup []))) now <
 IntKind.wrap IntKind.i64
 (now + AV.toI (List.getD qs (0 + Int.toNat i * 4 + 3) (AV.tup []))))) = true ∧
 ((decide ((0 : Int) ≤ i ∧ i < (↑n : Int))) = true ∧
 ((!decide
 (reqEnd L C T R F W U (AV.toI (List.getD qs (0 + Int.toNat i * 4) (AV.tup [])))
 (AV.toI (List.getD qs (0 + Int.toNat i * 4 + 1) (AV.tup [])))
 (AV.toI (List.getD qs (0 + Int.toNat i * 4 + 1 + 1) (AV.tup [])))
 (AV.toI (List.getD qs (0 + Int.toNat i * 4 + 1 + 1 + 1) (AV.tup [])))
 (AV.toB (List.getD bs (0 + Int.toNat i * 1) (AV.tup []))) now <
 IntKind.wrap IntKind.i64
 (now + AV.toI (List.getD qs (0 + Int.toNat i * 4 + 3) (AV.tup []))))) = true ∧
 ((!decide
 (reqEnd L C T R F W U (AV.toI (List.getD qs (0 + Int.toNat i * 4) (AV.tup [])))
 (AV.toI (List.getD qs (0 + Int.toNat i * 4 + 1) (AV.tup [])))
 (AV.toI (List.getD qs (0 + Int.toNat i * 4 + 1 + 1) (AV.tup [])))
 (AV.toI (List.getD qs (0 + Int.toNat i * 4 + 1 + 1 + 1) (AV.tup [])))
 (AV.toB (List.getD bs (0 + Int.toNat i * 1) (AV.tup []))) now <
 IntKind.wrap IntKind.i64
 (now + AV.toI (List.getD qs (0 + Int.toNat i * 4 + 3) (AV.tup []))))) = true ∧
 ((decide (0 + Int.toNat i * 4 + 3 < List.length qs)) = true ∧
 ((AV.isI IntKind.i64 (List.getD qs (0 + Int.toNat i * 4 + 3) (AV.tup []))) = true ∧
 ((!decide
 (reqEnd L C T R F W U (AV.toI (List.getD qs (0 + Int.toNat i * 4) (AV.tup [])))
 (AV.toI (List.getD qs (0 + Int.toNat i * 4 + 1) (AV.tup [])))
 (AV.toI (List.getD qs (0 + Int.toNat i * 4 + 1 + 1) (AV.tup [])))
 (AV.toI (List.getD qs (0 + Int.toNat i * 4 + 1 + 1 + 1) (AV.tup [])))
 (AV.toB (List.getD bs (0 + Int.toNat i * 1) (AV.tup []))) now <
 IntKind.wrap IntKind.i64
 (now + AV.toI (List.getD qs (0 + Int.toNat i * 4 + 3) (AV.tup []))))) = true ∧
 ((!decide
 (reqEnd L C T R F W U (AV.toI (List.getD qs (0 + Int.toNat i * 4) (AV.tup [])))
 (AV.toI (List.getD qs (0 + Int.toNat i * 4 + 1) (AV.tup [])))
 (AV.toI (List.getD qs (0 + Int.toNat i * 4 + 1 + 1) (AV.tup [])))
 (AV.toI (List.getD qs (0 + Int.toNat i * 4 + 1 + 1 + 1) (AV.tup [])))
 (AV.toB (List.getD bs (0 + Int.toNat i * 1) (AV.tup []))) now <
 IntKind.wrap IntKind.i64
 (now + AV.toI (List.getD qs (0 + Int.toNat i * 4 + 3) (AV.tup []))))) = true ∧
 ((!decide
 (reqEnd L C T R F W U (AV.toI (List.getD qs (0 + Int.toNat i * 4) (AV.tup [])))
 (AV.toI (List.getD qs (0 + Int.toNat i * 4 + 1) (AV.tup [])))
 (AV.toI (List.getD qs (0 + Int.toNat i * 4 + 1 + 1) (AV.tup [])))
 (AV.toI (List.getD qs (0 + Int.toNat i * 4 + 1 + 1 + 1) (AV.tup [])))
 (AV.toB (List.getD bs (0 + Int.toNat i * 1) (AV.tup []))) now <
 IntKind.wrap IntKind.i64
 (now + AV.toI (List.getD qs (0 + Int.toNat i * 4 + 3) (AV.tup []))))) = true ∧
 ((!decide
 (reqEnd L C T R F W U (AV.toI (List.getD qs (0 + Int.toNat i * 4) (AV.tup [])))
 (AV.toI (List.getD qs (0 + Int.toNat i * 4 + 1) (AV.tup [])))
 (AV.toI (List.getD qs (0 + Int.toNat i * 4 + 1 + 1) (AV.tup [])))
 (AV.toI (List.getD qs (0 + Int.toNat i * 4 + 1 + 1 + 1) (AV.tup [])))
 (AV.toB (List.getD bs (0 + Int.toNat i * 1) (AV.tup []))) now <
 IntKind.wrap IntKind.i64
 (now + AV.toI (List.getD qs (0 + Int.toNat i * 4 + 3) (AV.tup []))))) = true ∧
 ((decide ((0 : Int) ≤ i ∧ i < (↑n : Int))) = true ∧
 ((!decide
 (reqEnd L C T R F W U (AV.toI (List.getD qs (0 + Int.toNat i * 4) (AV.tup [])))
 (AV.toI (List.getD qs (0 + Int.toNat i * 4 + 1) (AV.tup [])))
 (AV.toI (List.getD qs (0 + Int.toNat i * 4 + 1 + 1) (AV.tup [])))
 (AV.toI (List.getD qs (0 + Int.toNat i * 4 + 1 + 1 + 1) (AV.tup [])))
 (AV.toB (List.getD bs (0 + Int.toNat i * 1) (AV.tup []))) now <
 IntKind.wrap IntKind.i64
 (now + AV.toI (List.getD qs (0 + Int.toNat i * 4 + 3) (AV.tup []))))) = true ∧
 ((decide (0 + Int.toNat i * 4 + 4 ≤ List.length qs)) = true ∧
 ((AV.isI IntKind.i64 (List.getD qs (0 + Int.toNat i * 4) (AV.tup []))) = true ∧
 ((AV.isI IntKind.u16 (List.getD qs (0 + Int.toNat i * 4 + 1) (AV.tup []))) = true ∧
 ((AV.isI IntKind.u8 (List.getD qs (0 + Int.toNat i * 4 + 1 + 1) (AV.tup []))) = true ∧
 ((AV.isI IntKind.i64 (List.getD qs (0 + Int.toNat i * 4 + 1 + 1 + 1) (AV.tup []))) = true ∧
 ((!decide
 (reqEnd L C T R F W U (AV.toI (List.getD qs (0 + Int.toNat i * 4) (AV.tup [])))
 (AV.toI (List.getD qs (0 + Int.toNat i * 4 + 1) (AV.tup [])))
 (AV.toI (List.getD qs (0 + Int.toNat i * 4 + 1 + 1) (AV.tup [])))
 (AV.toI (List.getD qs (0 + Int.toNat i * 4 + 1 + 1 + 1) (AV.tup [])))
 (AV.toB (List.getD bs (0 + Int.toNat i * 1) (AV.tup []))) now <
 IntKind.wrap IntKind.i64
 (now + AV.toI (List.getD qs (0 + Int.toNat i * 4 + 3) (AV.tup []))))) = true ∧
 ((!decide
 (reqEnd L C T R F W U (AV.toI (List.getD qs (0 + Int.toNat i * 4) (AV.tup [])))
 (AV.toI (List.getD qs (0 + Int.toNat i * 4 + 1) (AV.tup [])))
 (AV.toI (List.getD qs (0 + Int.toNat i * 4 + 1 + 1) (AV.tup [])))
 (AV.toI (List.getD qs (0 + Int.toNat i * 4 + 1 + 1 + 1) (AV.tup [])))
 (AV.toB (List.getD bs (0 + Int.toNat i * 1) (AV.tup []))) now <
 IntKind.wrap IntKind.i64
 (now + AV.toI (List.getD qs (0 + Int.toNat i * 4 + 3) (AV.tup []))))) = true ∧
 ((!decide
 (reqEnd L C T R F W U (AV.toI (List.getD qs (0 + Int.toNat i * 4) (AV.tup [])))
 (AV.toI (List.getD qs (0 + Int.toNat i * 4 + 1) (AV.tup [])))
 (AV.toI (List.getD qs (0 + Int.toNat i * 4 + 1 + 1) (AV.tup [])))
 (AV.toI (List.getD qs (0 + Int.toNat i * 4 + 1 + 1 + 1) (AV.tup [])))
 (AV.toB (List.getD bs (0 + Int.toNat i * 1) (AV.tup []))) now <
 IntKind.wrap IntKind.i64
 (now + AV.toI (List.getD qs (0 + Int.toNat i * 4 + 3) (AV.tup []))))) = true ∧
 ((!decide
 (reqEnd L C T R F W U (AV.toI (List.getD qs (0 + Int.toNat i * 4) (AV.tup [])))
 (AV.toI (List.getD qs (0 + Int.toNat i * 4 + 1) (AV.tup [])))
 (AV.toI (List.getD qs (0 + Int.toNat i * 4 + 1 + 1) (AV.tup [])))
 (AV.toI (List.getD qs (0 + Int.toNat i * 4 + 1 + 1 + 1) (AV.tup [])))
 (AV.toB (List.getD bs (0 + Int.toNat i * 1) (AV.tup []))) now <
 IntKind.wrap IntKind.i64
 (now + AV.toI (List.getD qs (0 + Int.toNat i * 4 + 3) (AV.tup []))))) = true ∧
 ((decide
 (reqEnd L C T R F W U (AV.toI (List.getD qs (0 + Int.toNat i * 4) (AV.tup [])))
 (AV.toI (List.getD qs (0 + Int.toNat i * 4 + 1) (AV.tup [])))
 (AV.toI (List.getD qs (0 + Int.toNat i * 4 + 1 + 1) (AV.tup [])))
 (AV.toI (List.getD qs (0 + Int.toNat i * 4 + 1 + 1 + 1) (AV.tup [])))
 (AV.toB (List.getD bs (0 + Int.toNat i * 1) (AV.tup []))) now <
 IntKind.wrap IntKind.i64
 (now + AV.toI (List.getD qs (0 + Int.toNat i * 4 + 3) (AV.tup []))))) = false ∧
 (((decide
 (reqEnd L C T R F W U (AV.toI (List.getD qs (0 + Int.toNat i * 4) (AV.tup [])))
 (AV.toI (List.getD qs (0 + Int.toNat i * 4 + 1) (AV.tup [])))
 (AV.toI (List.getD qs (0 + Int.toNat i * 4 + 1 + 1) (AV.tup [])))
 (AV.toI (List.getD qs (0 + Int.toNat i * 4 + 1 + 1 + 1) (AV.tup [])))
 (AV.toB (List.getD bs (0 + Int.toNat i * 1) (AV.tup []))) now >
 IntKind.wrap IntKind.i64
 (now +
 IntKind.wrap IntKind.i64
 (AV.toI (List.getD qs (0 + Int.toNat i * 4 + 3) (AV.tup [])) +
 mostN L C T R F W U (AV.toI (List.getD qs (0 + Int.toNat i * 4) (AV.tup []))))))) = true →
 Q Exit.ret 208
 [some (AV.slice 0 0 n (some c)), some (AV.slice 1 0 m (some cm)),
 some (AV.ptr 2 0), some (AV.slice 3 0 n none), some (AV.int IntKind.i64 e),
 some (AV.int IntKind.i64 now), some (AV.int IntKind.i64 i)]
 { nx := 4, m :=
 [(3, AObj.opn 2 1 (encI IntKind.i64 acc)),
 (2,
 AObj.cells 23
 [AV.int IntKind.i64 L, AV.int IntKind.i64 C, AV.int IntKind.i64 T, AV.int IntKind.i64 R,
 AV.int IntKind.i64 F, AV.int IntKind.i64 W, AV.int IntKind.i64 U]),
 (1, AObj.ro bs), (0, AObj.ro qs)] }) ∧
 ((decide
 (reqEnd L C T R F W U (AV.toI (List.getD qs (0 + Int.toNat i * 4) (AV.tup [])))
 (AV.toI (List.getD qs (0 + Int.toNat i * 4 + 1) (AV.tup [])))
 (AV.toI (List.getD qs (0 + Int.toNat i * 4 + 1 + 1) (AV.tup [])))
 (AV.toI (List.getD qs (0 + Int.toNat i * 4 + 1 + 1 + 1) (AV.tup [])))
 (AV.toB (List.getD bs (0 + Int.toNat i * 1) (AV.tup []))) now >
 IntKind.wrap IntKind.i64
 (now +
 IntKind.wrap IntKind.i64
 (AV.toI (List.getD qs (0 + Int.toNat i * 4 + 3) (AV.tup [])) +
 mostN L C T R F W U (AV.toI (List.getD qs (0 + Int.toNat i * 4) (AV.tup []))))))) = false →
 N 208
 [some (AV.slice 0 0 n (some c)), some (AV.slice 1 0 m (some cm)),
 some (AV.ptr 2 0), some (AV.slice 3 0 n none), some (AV.int IntKind.i64 e),
 some
 (AV.int IntKind.i64
 (reqEnd L C T R F W U (AV.toI (List.getD qs (0 + Int.toNat i * 4) (AV.tup [])))
 (AV.toI (List.getD qs (0 + Int.toNat i * 4 + 1) (AV.tup [])))
 (AV.toI (List.getD qs (0 + Int.toNat i * 4 + 1 + 1) (AV.tup [])))
 (AV.toI (List.getD qs (0 + Int.toNat i * 4 + 1 + 1 + 1) (AV.tup [])))
 (AV.toB (List.getD bs (0 + Int.toNat i * 1) (AV.tup []))) now)),
 some (AV.int IntKind.i64 (IntKind.wrap IntKind.i64 (i + (1 : Int))))]
 { nx := 4, m :=
 [(3, AObj.opn 2 1 (encI IntKind.i64 acc)),
 (2,
 AObj.cells 23
 [AV.int IntKind.i64 L, AV.int IntKind.i64 C, AV.int IntKind.i64 T, AV.int IntKind.i64 R,
 AV.int IntKind.i64 F, AV.int IntKind.i64 W, AV.int IntKind.i64 U]),
 (1, AObj.ro bs), (0, AObj.ro qs)] }))))))))))))))))))))))))))) ∧
 ((!decide
 (reqEnd L C T R F W U (AV.toI (List.getD qs (0 + Int.toNat i * 4) (AV.tup [])))
 (AV.toI (List.getD qs (0 + Int.toNat i * 4 + 1) (AV.tup [])))
 (AV.toI (List.getD qs (0 + Int.toNat i * 4 + 1 + 1) (AV.tup [])))
 (AV.toI (List.getD qs (0 + Int.toNat i * 4 + 1 + 1 + 1) (AV.tup [])))
 (AV.toB (List.getD bs (0 + Int.toNat i * 1) (AV.tup []))) now <
 IntKind.wrap IntKind.i64
 (now + AV.toI (List.getD qs (0 + Int.toNat i * 4 + 3) (AV.tup []))))) = false →
 (!decide
 (reqEnd L C T R F W U (AV.toI (List.getD qs (0 + Int.toNat i * 4) (AV.tup [])))
 (AV.toI (List.getD qs (0 + Int.toNat i * 4 + 1) (AV.tup [])))
 (AV.toI (List.getD qs (0 + Int.toNat i * 4 + 1 + 1) (AV.tup [])))
 (AV.toI (List.getD qs (0 + Int.toNat i * 4 + 1 + 1 + 1) (AV.tup [])))
 (AV.toB (List.getD bs (0 + Int.toNat i * 1) (AV.tup []))) now <
 IntKind.wrap IntKind.i64
 (now + AV.toI (List.getD qs (0 + Int.toNat i * 4 + 3) (AV.tup []))))) = false ∧
 ((!decide
 (reqEnd L C T R F W U (AV.toI (List.getD qs (0 + Int.toNat i * 4) (AV.tup [])))
 (AV.toI (List.getD qs (0 + Int.toNat i * 4 + 1) (AV.tup [])))
 (AV.toI (List.getD qs (0 + Int.toNat i * 4 + 1 + 1) (AV.tup [])))
 (AV.toI (List.getD qs (0 + Int.toNat i * 4 + 1 + 1 + 1) (AV.tup [])))
 (AV.toB (List.getD bs (0 + Int.toNat i * 1) (AV.tup []))) now <
 IntKind.wrap IntKind.i64
 (now + AV.toI (List.getD qs (0 + Int.toNat i * 4 + 3) (AV.tup []))))) = false ∧
 ((!decide
 (reqEnd L C T R F W U (AV.toI (List.getD qs (0 + Int.toNat i * 4) (AV.tup [])))
 (AV.toI (List.getD qs (0 + Int.toNat i * 4 + 1) (AV.tup [])))
 (AV.toI (List.getD qs (0 + Int.toNat i * 4 + 1 + 1) (AV.tup [])))
 (AV.toI (List.getD qs (0 + Int.toNat i * 4 + 1 + 1 + 1) (AV.tup [])))
 (AV.toB (List.getD bs (0 + Int.toNat i * 1) (AV.tup []))) now <
 IntKind.wrap IntKind.i64
 (now + AV.toI (List.getD qs (0 + Int.toNat i * 4 + 3) (AV.tup []))))) = false ∧
 ((!decide
 (reqEnd L C T R F W U (AV.toI (List.getD qs (0 + Int.toNat i * 4) (AV.tup [])))
 (AV.toI (List.getD qs (0 + Int.toNat i * 4 + 1) (AV.tup [])))
 (AV.toI (List.getD qs (0 + Int.toNat i * 4 + 1 + 1) (AV.tup [])))
 (AV.toI (List.getD qs (0 + Int.toNat i * 4 + 1 + 1 + 1) (AV.tup [])))
 (AV.toB (List.getD bs (0 + Int.toNat i * 1) (AV.tup []))) now <
 IntKind.wrap IntKind.i64
 (now + AV.toI (List.getD qs (0 + Int.toNat i * 4 + 3) (AV.tup []))))) = false ∧
 ((!decide
 (reqEnd L C T R F W U (AV.toI (List.getD qs (0 + Int.toNat i * 4) (AV.tup [])))
 (AV.toI (List.getD qs (0 + Int.toNat i * 4 + 1) (AV.tup [])))
 (AV.toI (List.getD qs (0 + Int.toNat i * 4 + 1 + 1) (AV.tup [])))
 (AV.toI (List.getD qs (0 + Int.toNat i * 4 + 1 + 1 + 1) (AV.tup [])))
 (AV.toB (List.getD bs (0 + Int.toNat i * 1) (AV.tup []))) now <
 IntKind.wrap IntKind.i64
 (now + AV.toI (List.getD qs (0 + Int.toNat i * 4 + 3) (AV.tup []))))) = false ∧
 ((!decide
 (reqEnd L C T R F W U (AV.toI (List.getD qs (0 + Int.toNat i * 4) (AV.tup [])))
 (AV.toI (List.getD qs (0 + Int.toNat i * 4 + 1) (AV.tup [])))
 (AV.toI (List.getD qs (0 + Int.toNat i * 4 + 1 + 1) (AV.tup [])))
 (AV.toI (List.getD qs (0 + Int.toNat i * 4 + 1 + 1 + 1) (AV.tup [])))
 (AV.toB (List.getD bs (0 + Int.toNat i * 1) (AV.tup []))) now <
 IntKind.wrap IntKind.i64
 (now + AV.toI (List.getD qs (0 + Int.toNat i * 4 + 3) (AV.tup []))))) = false ∧
 ((!decide
 (reqEnd L C T R F W U (AV.toI (List.getD qs (0 + Int.toNat i * 4) (AV.tup [])))
 (AV.toI (List.getD qs (0 + Int.toNat i * 4 + 1) (AV.tup [])))
 (AV.toI (List.getD qs (0 + Int.toNat i * 4 + 1 + 1) (AV.tup [])))
 (AV.toI (List.getD qs (0 + Int.toNat i * 4 + 1 + 1 + 1) (AV.tup [])))
 (AV.toB (List.getD bs (0 + Int.toNat i * 1) (AV.tup []))) now <
 IntKind.wrap IntKind.i64
 (now + AV.toI (List.getD qs (0 + Int.toNat i * 4 + 3) (AV.tup []))))) = false ∧
 ((!decide
 (reqEnd L C T R F W U (AV.toI (List.getD qs (0 + Int.toNat i * 4) (AV.tup [])))
 (AV.toI (List.getD qs (0 + Int.toNat i * 4 + 1) (AV.tup [])))
 (AV.toI (List.getD qs (0 + Int.toNat i * 4 + 1 + 1) (AV.tup [])))
 (AV.toI (List.getD qs (0 + Int.toNat i * 4 + 1 + 1 + 1) (AV.tup [])))
 (AV.toB (List.getD bs (0 + Int.toNat i * 1) (AV.tup []))) now <
 IntKind.wrap IntKind.i64
 (now + AV.toI (List.getD qs (0 + Int.toNat i * 4 + 3) (AV.tup []))))) = false ∧
 ((!decide
 (reqEnd L C T R F W U (AV.toI (List.getD qs (0 + Int.toNat i * 4) (AV.tup [])))
 (AV.toI (List.getD qs (0 + Int.toNat i * 4 + 1) (AV.tup [])))
 (AV.toI (List.getD qs (0 + Int.toNat i * 4 + 1 + 1) (AV.tup [])))
 (AV.toI (List.getD qs (0 + Int.toNat i * 4 + 1 + 1 + 1) (AV.tup [])))
 (AV.toB (List.getD bs (0 + Int.toNat i * 1) (AV.tup []))) now <
 IntKind.wrap IntKind.i64
 (now + AV.toI (List.getD qs (0 + Int.toNat i * 4 + 3) (AV.tup []))))) = false ∧
 ((!decide
 (reqEnd L C T R F W U (AV.toI (List.getD qs (0 + Int.toNat i * 4) (AV.tup [])))
 (AV.toI (List.getD qs (0 + Int.toNat i * 4 + 1) (AV.tup [])))
 (AV.toI (List.getD qs (0 + Int.toNat i * 4 + 1 + 1) (AV.tup [])))
 (AV.toI (List.getD qs (0 + Int.toNat i * 4 + 1 + 1 + 1) (AV.tup [])))
 (AV.toB (List.getD bs (0 + Int.toNat i * 1) (AV.tup []))) now <
 IntKind.wrap IntKind.i64
 (now + AV.toI (List.getD qs (0 + Int.toNat i * 4 + 3) (AV.tup []))))) = false ∧
 ((!decide
 (reqEnd L C T R F W U (AV.toI (List.getD qs (0 + Int.toNat i * 4) (AV.tup [])))
 (AV.toI (List.getD qs (0 + Int.toNat i * 4 + 1) (AV.tup [])))
 (AV.toI (List.getD qs (0 + Int.toNat i * 4 + 1 + 1) (AV.tup [])))
 (AV.toI (List.getD qs (0 + Int.toNat i * 4 + 1 + 1 + 1) (AV.tup [])))
 (AV.toB (List.getD bs (0 + Int.toNat i * 1) (AV.tup []))) now <
 IntKind.wrap IntKind.i64
 (now + AV.toI (List.getD qs (0 + Int.toNat i * 4 + 3) (AV.tup []))))) = false ∧
 ((!decide
 (reqEnd L C T R F W U (AV.toI (List.getD qs (0 + Int.toNat i * 4) (AV.tup [])))
 (AV.toI (List.getD qs (0 + Int.toNat i * 4 + 1) (AV.tup [])))
 (AV.toI (List.getD qs (0 + Int.toNat i * 4 + 1 + 1) (AV.tup [])))
 (AV.toI (List.getD qs (0 + Int.toNat i * 4 + 1 + 1 + 1) (AV.tup [])))
 (AV.toB (List.getD bs (0 + Int.toNat i * 1) (AV.tup []))) now <
 IntKind.wrap IntKind.i64
 (now + AV.toI (List.getD qs (0 + Int.toNat i * 4 + 3) (AV.tup []))))) = false ∧
 ((!decide
 (reqEnd L C T R F W U (AV.toI (List.getD qs (0 + Int.toNat i * 4) (AV.tup [])))
 (AV.toI (List.getD qs (0 + Int.toNat i * 4 + 1) (AV.tup [])))
 (AV.toI (List.getD qs (0 + Int.toNat i * 4 + 1 + 1) (AV.tup [])))
 (AV.toI (List.getD qs (0 + Int.toNat i * 4 + 1 + 1 + 1) (AV.tup [])))
 (AV.toB (List.getD bs (0 + Int.toNat i * 1) (AV.tup []))) now <
 IntKind.wrap IntKind.i64
 (now + AV.toI (List.getD qs (0 + Int.toNat i * 4 + 3) (AV.tup []))))) = false ∧
 ((!decide
 (reqEnd L C T R F W U (AV.toI (List.getD qs (0 + Int.toNat i * 4) (AV.tup [])))
 (AV.toI (List.getD qs (0 + Int.toNat i * 4 + 1) (AV.tup [])))
 (AV.toI (List.getD qs (0 + Int.toNat i * 4 + 1 + 1) (AV.tup [])))
 (AV.toI (List.getD qs (0 + Int.toNat i * 4 + 1 + 1 + 1) (AV.tup [])))
 (AV.toB (List.getD bs (0 + Int.toNat i * 1) (AV.tup []))) now <
 IntKind.wrap IntKind.i64
 (now + AV.toI (List.getD qs (0 + Int.toNat i * 4 + 3) (AV.tup []))))) = false ∧
 ((!decide
 (reqEnd L C T R F W U (AV.toI (List.getD qs (0 + Int.toNat i * 4) (AV.tup [])))
 (AV.toI (List.getD qs (0 + Int.toNat i * 4 + 1) (AV.tup [])))
 (AV.toI (List.getD qs (0 + Int.toNat i * 4 + 1 + 1) (AV.tup [])))
 (AV.toI (List.getD qs (0 + Int.toNat i * 4 + 1 + 1 + 1) (AV.tup [])))
 (AV.toB (List.getD bs (0 + Int.toNat i * 1) (AV.tup []))) now <
 IntKind.wrap IntKind.i64
 (now + AV.toI (List.getD qs (0 + Int.toNat i * 4 + 3) (AV.tup []))))) = false ∧
 ((decide
 (reqEnd L C T R F W U (AV.toI (List.getD qs (0 + Int.toNat i * 4) (AV.tup [])))
 (AV.toI (List.getD qs (0 + Int.toNat i * 4 + 1) (AV.tup [])))
 (AV.toI (List.getD qs (0 + Int.toNat i * 4 + 1 + 1) (AV.tup [])))
 (AV.toI (List.getD qs (0 + Int.toNat i * 4 + 1 + 1 + 1) (AV.tup [])))
 (AV.toB (List.getD bs (0 + Int.toNat i * 1) (AV.tup []))) now <
 IntKind.wrap IntKind.i64
 (now + AV.toI (List.getD qs (0 + Int.toNat i * 4 + 3) (AV.tup []))))) = true ∧
 (Q Exit.ret 208
 [some (AV.slice 0 0 n (some c)), some (AV.slice 1 0 m (some cm)),
 some (AV.ptr 2 0), some (AV.slice 3 0 n none), some (AV.int IntKind.i64 e),
 some (AV.int IntKind.i64 now), some (AV.int IntKind.i64 i)]
 { nx := 4, m :=
 [(3, AObj.opn 2 1 (encI IntKind.i64 acc)),
 (2,
 AObj.cells 23
 [AV.int IntKind.i64 L, AV.int IntKind.i64 C, AV.int IntKind.i64 T, AV.int IntKind.i64 R,
 AV.int IntKind.i64 F, AV.int IntKind.i64 W, AV.int IntKind.i64 U]),
 (1, AObj.ro bs), (0, AObj.ro qs)] })))))))))))))))))))))))))))))) ∧
 ((!decide
 (reqAt L C T R F W U (AV.toI (List.getD qs (0 + Int.toNat i * 4) (AV.tup [])))
 (AV.toI (List.getD qs (0 + Int.toNat i * 4 + 1) (AV.tup [])))
 (AV.toI (List.getD qs (0 + Int.toNat i * 4 + 1 + 1) (AV.tup [])))
 (AV.toI (List.getD qs (0 + Int.toNat i * 4 + 1 + 1 + 1) (AV.tup [])))
 (AV.toB (List.getD bs (0 + Int.toNat i * 1) (AV.tup []))) now ≥
 reqEnd L C T R F W U (AV.toI (List.getD qs (0 + Int.toNat i * 4) (AV.tup [])))
 (AV.toI (List.getD qs (0 + Int.toNat i * 4 + 1) (AV.tup [])))
 (AV.toI (List.getD qs (0 + Int.toNat i * 4 + 1 + 1) (AV.tup [])))
 (AV.toI (List.getD qs (0 + Int.toNat i * 4 + 1 + 1 + 1) (AV.tup [])))
 (AV.toB (List.getD bs (0 + Int.toNat i * 1) (AV.tup []))) now)) = false →
 (!decide
 (reqAt L C T R F W U (AV.toI (List.getD qs (0 + Int.toNat i * 4) (AV.tup [])))
 (AV.toI (List.getD qs (0 + Int.toNat i * 4 + 1) (AV.tup [])))
 (AV.toI (List.getD qs (0 + Int.toNat i * 4 + 1 + 1) (AV.tup [])))
 (AV.toI (List.getD qs (0 + Int.toNat i * 4 + 1 + 1 + 1) (AV.tup [])))
 (AV.toB (List.getD bs (0 + Int.toNat i * 1) (AV.tup []))) now ≥
 reqEnd L C T R F W U (AV.toI (List.getD qs (0 + Int.toNat i * 4) (AV.tup [])))
 (AV.toI (List.getD qs (0 + Int.toNat i * 4 + 1) (AV.tup [])))
 (AV.toI (List.getD qs (0 + Int.toNat i * 4 + 1 + 1) (AV.tup [])))
 (AV.toI (List.getD qs (0 + Int.toNat i * 4 + 1 + 1 + 1) (AV.tup [])))
 (AV.toB (List.getD bs (0 + Int.toNat i * 1) (AV.tup []))) now)) = false ∧
 ((!decide
 (reqAt L C T R F W U (AV.toI (List.getD qs (0 + Int.toNat i * 4) (AV.tup [])))
 (AV.toI (List.getD qs (0 + Int.toNat i * 4 + 1) (AV.tup [])))
 (AV.toI (List.getD qs (0 + Int.toNat i * 4 + 1 + 1) (AV.tup [])))
 (AV.toI (List.getD qs (0 + Int.toNat i * 4 + 1 + 1 + 1) (AV.tup [])))
 (AV.toB (List.getD bs (0 + Int.toNat i * 1) (AV.tup []))) now ≥
 reqEnd L C T R F W U (AV.toI (List.getD qs (0 + Int.toNat i * 4) (AV.tup [])))
 (AV.toI (List.getD qs (0 + Int.toNat i * 4 + 1) (AV.tup [])))
 (AV.toI (List.getD qs (0 + Int.toNat i * 4 + 1 + 1) (AV.tup [])))
 (AV.toI (List.getD qs (0 + Int.toNat i * 4 + 1 + 1 + 1) (AV.tup [])))
 (AV.toB (List.getD bs (0 + Int.toNat i * 1) (AV.tup []))) now)) = false ∧
 ((!decide
 (reqAt L C T R F W U (AV.toI (List.getD qs (0 + Int.toNat i * 4) (AV.tup [])))
 (AV.toI (List.getD qs (0 + Int.toNat i * 4 + 1) (AV.tup [])))
 (AV.toI (List.getD qs (0 + Int.toNat i * 4 + 1 + 1) (AV.tup [])))
 (AV.toI (List.getD qs (0 + Int.toNat i * 4 + 1 + 1 + 1) (AV.tup [])))
 (AV.toB (List.getD bs (0 + Int.toNat i * 1) (AV.tup []))) now ≥
 reqEnd L C T R F W U (AV.toI (List.getD qs (0 + Int.toNat i * 4) (AV.tup [])))
 (AV.toI (List.getD qs (0 + Int.toNat i * 4 + 1) (AV.tup [])))
 (AV.toI (List.getD qs (0 + Int.toNat i * 4 + 1 + 1) (AV.tup [])))
 (AV.toI (List.getD qs (0 + Int.toNat i * 4 + 1 + 1 + 1) (AV.tup [])))
 (AV.toB (List.getD bs (0 + Int.toNat i * 1) (AV.tup []))) now)) = false ∧
 ((!decide
 (reqAt L C T R F W U (AV.toI (List.getD qs (0 + Int.toNat i * 4) (AV.tup [])))
 (AV.toI (List.getD qs (0 + Int.toNat i * 4 + 1) (AV.tup [])))
 (AV.toI (List.getD qs (0 + Int.toNat i * 4 + 1 + 1) (AV.tup [])))
 (AV.toI (List.getD qs (0 + Int.toNat i * 4 + 1 + 1 + 1) (AV.tup [])))
 (AV.toB (List.getD bs (0 + Int.toNat i * 1) (AV.tup []))) now ≥
 reqEnd L C T R F W U (AV.toI (List.getD qs (0 + Int.toNat i * 4) (AV.tup [])))
 (AV.toI (List.getD qs (0 + Int.toNat i * 4 + 1) (AV.tup [])))
 (AV.toI (List.getD qs (0 + Int.toNat i * 4 + 1 + 1) (AV.tup [])))
 (AV.toI (List.getD qs (0 + Int.toNat i * 4 + 1 + 1 + 1) (AV.tup [])))
 (AV.toB (List.getD bs (0 + Int.toNat i * 1) (AV.tup []))) now)) = false ∧
 ((!decide
 (reqAt L C T R F W U (AV.toI (List.getD qs (0 + Int.toNat i * 4) (AV.tup [])))
 (AV.toI (List.getD qs (0 + Int.toNat i * 4 + 1) (AV.tup [])))
 (AV.toI (List.getD qs (0 + Int.toNat i * 4 + 1 + 1) (AV.tup [])))
 (AV.toI (List.getD qs (0 + Int.toNat i * 4 + 1 + 1 + 1) (AV.tup [])))
 (AV.toB (List.getD bs (0 + Int.toNat i * 1) (AV.tup []))) now ≥
 reqEnd L C T R F W U (AV.toI (List.getD qs (0 + Int.toNat i * 4) (AV.tup [])))
 (AV.toI (List.getD qs (0 + Int.toNat i * 4 + 1) (AV.tup [])))
 (AV.toI (List.getD qs (0 + Int.toNat i * 4 + 1 + 1) (AV.tup [])))
 (AV.toI (List.getD qs (0 + Int.toNat i * 4 + 1 + 1 + 1) (AV.tup [])))
 (AV.toB (List.getD bs (0 + Int.toNat i * 1) (AV.tup []))) now)) = false ∧
 ((!decide
 (reqAt L C T R F W U (AV.toI (List.getD qs (0 + Int.toNat i * 4) (AV.tup [])))
 (AV.toI (List.getD qs (0 + Int.toNat i * 4 + 1) (AV.tup [])))
 (AV.toI (List.getD qs (0 + Int.toNat i * 4 + 1 + 1) (AV.tup [])))
 (AV.toI (List.getD qs (0 + Int.toNat i * 4 + 1 + 1 + 1) (AV.tup [])))
 (AV.toB (List.getD bs (0 + Int.toNat i * 1) (AV.tup []))) now ≥
 reqEnd L C T R F W U (AV.toI (List.getD qs (0 + Int.toNat i * 4) (AV.tup [])))
 (AV.toI (List.getD qs (0 + Int.toNat i * 4 + 1) (AV.tup [])))
 (AV.toI (List.getD qs (0 + Int.toNat i * 4 + 1 + 1) (AV.tup [])))
 (AV.toI (List.getD qs (0 + Int.toNat i * 4 + 1 + 1 + 1) (AV.tup [])))
 (AV.toB (List.getD bs (0 + Int.toNat i * 1) (AV.tup []))) now)) = false ∧
 ((!decide
 (reqAt L C T R F W U (AV.toI (List.getD qs (0 + Int.toNat i * 4) (AV.tup [])))
 (AV.toI (List.getD qs (0 + Int.toNat i * 4 + 1) (AV.tup [])))
 (AV.toI (List.getD qs (0 + Int.toNat i * 4 + 1 + 1) (AV.tup [])))
 (AV.toI (List.getD qs (0 + Int.toNat i * 4 + 1 + 1 + 1) (AV.tup [])))
 (AV.toB (List.getD bs (0 + Int.toNat i * 1) (AV.tup []))) now ≥
 reqEnd L C T R F W U (AV.toI (List.getD qs (0 + Int.toNat i * 4) (AV.tup [])))
 (AV.toI (List.getD qs (0 + Int.toNat i * 4 + 1) (AV.tup [])))
 (AV.toI (List.getD qs (0 + Int.toNat i * 4 + 1 + 1) (AV.tup [])))
 (AV.toI (List.getD qs (0 + Int.toNat i * 4 + 1 + 1 + 1) (AV.tup [])))
 (AV.toB (List.getD bs (0 + Int.toNat i * 1) (AV.tup []))) now)) = false ∧
 ((!decide
 (reqAt L C T R F W U (AV.toI (List.getD qs (0 + Int.toNat i * 4) (AV.tup [])))
 (AV.toI (List.getD qs (0 + Int.toNat i * 4 + 1) (AV.tup [])))
 (AV.toI (List.getD qs (0 + Int.toNat i * 4 + 1 + 1) (AV.tup [])))
 (AV.toI (List.getD qs (0 + Int.toNat i * 4 + 1 + 1 + 1) (AV.tup [])))
 (AV.toB (List.getD bs (0 + Int.toNat i * 1) (AV.tup []))) now ≥
 reqEnd L C T R F W U (AV.toI (List.getD qs (0 + Int.toNat i * 4) (AV.tup [])))
 (AV.toI (List.getD qs (0 + Int.toNat i * 4 + 1) (AV.tup [])))
 (AV.toI (List.getD qs (0 + Int.toNat i * 4 + 1 + 1) (AV.tup [])))
 (AV.toI (List.getD qs (0 + Int.toNat i * 4 + 1 + 1 + 1) (AV.tup [])))
 (AV.toB (List.getD bs (0 + Int.toNat i * 1) (AV.tup []))) now)) = false ∧
 ((decide
 (reqAt L C T R F W U (AV.toI (List.getD qs (0 + Int.toNat i * 4) (AV.tup [])))
 (AV.toI (List.getD qs (0 + Int.toNat i * 4 + 1) (AV.tup [])))
 (AV.toI (List.getD qs (0 + Int.toNat i * 4 + 1 + 1) (AV.tup [])))
 (AV.toI (List.getD qs (0 + Int.toNat i * 4 + 1 + 1 + 1) (AV.tup [])))
 (AV.toB (List.getD bs (0 + Int.toNat i * 1) (AV.tup []))) now ≥
 reqEnd L C T R F W U (AV.toI (List.getD qs (0 + Int.toNat i * 4) (AV.tup [])))
 (AV.toI (List.getD qs (0 + Int.toNat i * 4 + 1) (AV.tup [])))
 (AV.toI (List.getD qs (0 + Int.toNat i * 4 + 1 + 1) (AV.tup [])))
 (AV.toI (List.getD qs (0 + Int.toNat i * 4 + 1 + 1 + 1) (AV.tup [])))
 (AV.toB (List.getD bs (0 + Int.toNat i * 1) (AV.tup []))) now)) = true ∧
 (Q Exit.ret 208
 [some (AV.slice 0 0 n (some c)), some (AV.slice 1 0 m (some cm)),
 some (AV.ptr 2 0), some (AV.slice 3 0 n none), some (AV.int IntKind.i64 e),
 some (AV.int IntKind.i64 now), some (AV.int IntKind.i64 i)]
 { nx := 4, m :=
 [(3, AObj.opn 2 1 (encI IntKind.i64 acc)),
 (2,
 AObj.cells 23
 [AV.int IntKind.i64 L, AV.int IntKind.i64 C, AV.int IntKind.i64 T, AV.int IntKind.i64 R,
 AV.int IntKind.i64 F, AV.int IntKind.i64 W, AV.int IntKind.i64 U]),
 (1, AObj.ro bs), (0, AObj.ro qs)] })))))))))))))) ∧
 ((!decide
 (reqAt L C T R F W U (AV.toI (List.getD qs (0 + Int.toNat i * 4) (AV.tup [])))
 (AV.toI (List.getD qs (0 + Int.toNat i * 4 + 1) (AV.tup [])))
 (AV.toI (List.getD qs (0 + Int.toNat i * 4 + 1 + 1) (AV.tup [])))
 (AV.toI (List.getD qs (0 + Int.toNat i * 4 + 1 + 1 + 1) (AV.tup [])))
 (AV.toB (List.getD bs (0 + Int.toNat i * 1) (AV.tup []))) now <
 now)) = false →
 (!decide
 (reqAt L C T R F W U (AV.toI (List.getD qs (0 + Int.toNat i * 4) (AV.tup [])))
 (AV.toI (List.getD qs (0 + Int.toNat i * 4 + 1) (AV.tup [])))
 (AV.toI (List.getD qs (0 + Int.toNat i * 4 + 1 + 1) (AV.tup [])))
 (AV.toI (List.getD qs (0 + Int.toNat i * 4 + 1 + 1 + 1) (AV.tup [])))
 (AV.toB (List.getD bs (0 + Int.toNat i * 1) (AV.tup []))) now <
 now)) = false ∧
 ((!decide
 (reqAt L C T R F W U (AV.toI (List.getD qs (0 + Int.toNat i * 4) (AV.tup [])))
 (AV.toI (List.getD qs (0 + Int.toNat i * 4 + 1) (AV.tup [])))
 (AV.toI (List.getD qs (0 + Int.toNat i * 4 + 1 + 1) (AV.tup [])))
 (AV.toI (List.getD qs (0 + Int.toNat i * 4 + 1 + 1 + 1) (AV.tup [])))
 (AV.toB (List.getD bs (0 + Int.toNat i * 1) (AV.tup []))) now <
 now)) = false ∧
 ((decide
 (reqAt L C T R F W U (AV.toI (List.getD qs (0 + Int.toNat i * 4) (AV.tup [])))
 (AV.toI (List.getD qs (0 + Int.toNat i * 4 + 1) (AV.tup [])))
 (AV.toI (List.getD qs (0 + Int.toNat i * 4 + 1 + 1) (AV.tup [])))
 (AV.toI (List.getD qs (0 + Int.toNat i * 4 + 1 + 1 + 1) (AV.tup [])))
 (AV.toB (List.getD bs (0 + Int.toNat i * 1) (AV.tup []))) now <
 now)) = true ∧
 (Q Exit.ret 208
 [some (AV.slice 0 0 n (some c)), some (AV.slice 1 0 m (some cm)),
 some (AV.ptr 2 0), some (AV.slice 3 0 n none), some (AV.int IntKind.i64 e),
 some (AV.int IntKind.i64 now), some (AV.int IntKind.i64 i)]
 { nx := 4, m :=
 [(3, AObj.opn 2 1 (encI IntKind.i64 acc)),
 (2,
 AObj.cells 23
 [AV.int IntKind.i64 L, AV.int IntKind.i64 C, AV.int IntKind.i64 T, AV.int IntKind.i64 R,
 AV.int IntKind.i64 F, AV.int IntKind.i64 W, AV.int IntKind.i64 U]),
 (1, AObj.ro bs), (0, AObj.ro qs)] })))))))) ∧
 ((!!decide
 (reqAt L C T R F W U (AV.toI (List.getD qs (0 + Int.toNat i * 4) (AV.tup [])))
 (AV.toI (List.getD qs (0 + Int.toNat i * 4 + 1) (AV.tup [])))
 (AV.toI (List.getD qs (0 + Int.toNat i * 4 + 1 + 1) (AV.tup [])))
 (AV.toI (List.getD qs (0 + Int.toNat i * 4 + 1 + 1 + 1) (AV.tup [])))
 (AV.toB (List.getD bs (0 + Int.toNat i * 1) (AV.tup []))) now =
 AV.toI (List.getD (encI IntKind.i64 acc) (0 + Int.toNat i * 1) (AV.tup [])))) = false →
 (!!decide
 (reqAt L C T R F W U (AV.toI (List.getD qs (0 + Int.toNat i * 4) (AV.tup [])))
 (AV.toI (List.getD qs (0 + Int.toNat i * 4 + 1) (AV.tup [])))
 (AV.toI (List.getD qs (0 + Int.toNat i * 4 + 1 + 1) (AV.tup [])))
 (AV.toI (List.getD qs (0 + Int.toNat i * 4 + 1 + 1 + 1) (AV.tup [])))
 (AV.toB (List.getD bs (0 + Int.toNat i * 1) (AV.tup []))) now =
 AV.toI (List.getD (encI IntKind.i64 acc) (0 + Int.toNat i * 1) (AV.tup [])))) = false ∧
 ((!!decide
 (reqAt L C T R F W U (AV.toI (List.getD qs (0 + Int.toNat i * 4) (AV.tup [])))
 (AV.toI (List.getD qs (0 + Int.toNat i * 4 + 1) (AV.tup [])))
 (AV.toI (List.getD qs (0 + Int.toNat i * 4 + 1 + 1) (AV.tup [])))
 (AV.toI (List.getD qs (0 + Int.toNat i * 4 + 1 + 1 + 1) (AV.tup [])))
 (AV.toB (List.getD bs (0 + Int.toNat i * 1) (AV.tup []))) now =
 AV.toI (List.getD (encI IntKind.i64 acc) (0 + Int.toNat i * 1) (AV.tup [])))) = false ∧
 ((!decide
 (reqAt L C T R F W U (AV.toI (List.getD qs (0 + Int.toNat i * 4) (AV.tup [])))
 (AV.toI (List.getD qs (0 + Int.toNat i * 4 + 1) (AV.tup [])))
 (AV.toI (List.getD qs (0 + Int.toNat i * 4 + 1 + 1) (AV.tup [])))
 (AV.toI (List.getD qs (0 + Int.toNat i * 4 + 1 + 1 + 1) (AV.tup [])))
 (AV.toB (List.getD bs (0 + Int.toNat i * 1) (AV.tup []))) now =
 AV.toI (List.getD (encI IntKind.i64 acc) (0 + Int.toNat i * 1) (AV.tup [])))) = true ∧
 (Q Exit.ret 208
 [some (AV.slice 0 0 n (some c)), some (AV.slice 1 0 m (some cm)),
 some (AV.ptr 2 0), some (AV.slice 3 0 n none), some (AV.int IntKind.i64 e),
 some (AV.int IntKind.i64 now), some (AV.int IntKind.i64 i)]
 { nx := 4, m :=
 [(3, AObj.opn 2 1 (encI IntKind.i64 acc)),
 (2,
 AObj.cells 23
 [AV.int IntKind.i64 L, AV.int IntKind.i64 C, AV.int IntKind.i64 T, AV.int IntKind.i64 R,
 AV.int IntKind.i64 F, AV.int IntKind.i64 W, AV.int IntKind.i64 U]),
 (1, AObj.ro bs), (0, AObj.ro qs)] })))))))))))))) ∧
 ((!!decide
 (reqErr L C T R F W U (AV.toI (List.getD qs (0 + Int.toNat i * 4) (AV.tup [])))
 (AV.toI (List.getD qs (0 + Int.toNat i * 4 + 1) (AV.tup [])))
 (AV.toI (List.getD qs (0 + Int.toNat i * 4 + 1 + 1) (AV.tup [])))
 (AV.toI (List.getD qs (0 + Int.toNat i * 4 + 1 + 1 + 1) (AV.tup [])))
 now =
 (0 : Int))) = false →
 (!!decide
 (reqErr L C T R F W U (AV.toI (List.getD qs (0 + Int.toNat i * 4) (AV.tup [])))
 (AV.toI (List.getD qs (0 + Int.toNat i * 4 + 1) (AV.tup [])))
 (AV.toI (List.getD qs (0 + Int.toNat i * 4 + 1 + 1) (AV.tup [])))
 (AV.toI (List.getD qs (0 + Int.toNat i * 4 + 1 + 1 + 1) (AV.tup [])))
 now =
 (0 : Int))) = false ∧
 ((!!decide
 (reqErr L C T R F W U (AV.toI (List.getD qs (0 + Int.toNat i * 4) (AV.tup [])))
 (AV.toI (List.getD qs (0 + Int.toNat i * 4 + 1) (AV.tup [])))
 (AV.toI (List.getD qs (0 + Int.toNat i * 4 + 1 + 1) (AV.tup [])))
 (AV.toI (List.getD qs (0 + Int.toNat i * 4 + 1 + 1 + 1) (AV.tup [])))
 now =
 (0 : Int))) = false ∧
 ((!!decide
 (reqErr L C T R F W U (AV.toI (List.getD qs (0 + Int.toNat i * 4) (AV.tup [])))
 (AV.toI (List.getD qs (0 + Int.toNat i * 4 + 1) (AV.tup [])))
 (AV.toI (List.getD qs (0 + Int.toNat i * 4 + 1 + 1) (AV.tup [])))
 (AV.toI (List.getD qs (0 + Int.toNat i * 4 + 1 + 1 + 1) (AV.tup [])))
 now =
 (0 : Int))) = false ∧
 ((!!decide
 (reqErr L C T R F W U (AV.toI (List.getD qs (0 + Int.toNat i * 4) (AV.tup [])))
 (AV.toI (List.getD qs (0 + Int.toNat i * 4 + 1) (AV.tup [])))
 (AV.toI (List.getD qs (0 + Int.toNat i * 4 + 1 + 1) (AV.tup [])))
 (AV.toI (List.getD qs (0 + Int.toNat i * 4 + 1 + 1 + 1) (AV.tup [])))
 now =
 (0 : Int))) = false ∧
 ((!!decide
 (reqErr L C T R F W U (AV.toI (List.getD qs (0 + Int.toNat i * 4) (AV.tup [])))
 (AV.toI (List.getD qs (0 + Int.toNat i * 4 + 1) (AV.tup [])))
 (AV.toI (List.getD qs (0 + Int.toNat i * 4 + 1 + 1) (AV.tup [])))
 (AV.toI (List.getD qs (0 + Int.toNat i * 4 + 1 + 1 + 1) (AV.tup [])))
 now =
 (0 : Int))) = false ∧
 ((!decide
 (reqErr L C T R F W U (AV.toI (List.getD qs (0 + Int.toNat i * 4) (AV.tup [])))
 (AV.toI (List.getD qs (0 + Int.toNat i * 4 + 1) (AV.tup [])))
 (AV.toI (List.getD qs (0 + Int.toNat i * 4 + 1 + 1) (AV.tup [])))
 (AV.toI (List.getD qs (0 + Int.toNat i * 4 + 1 + 1 + 1) (AV.tup [])))
 now =
 (0 : Int))) = true ∧
 (Q Exit.ret 208
 [some (AV.slice 0 0 n (some c)), some (AV.slice 1 0 m (some cm)),
 some (AV.ptr 2 0), some (AV.slice 3 0 n none), some (AV.int IntKind.i64 e),
 some (AV.int IntKind.i64 now), some (AV.int IntKind.i64 i)]
 { nx := 4, m :=
 [(3, AObj.opn 2 1 (encI IntKind.i64 acc)),
 (2,
 AObj.cells 23
 [AV.int IntKind.i64 L, AV.int IntKind.i64 C, AV.int IntKind.i64 T, AV.int IntKind.i64 R,
 AV.int IntKind.i64 F, AV.int IntKind.i64 W, AV.int IntKind.i64 U]),
 (1, AObj.ro bs), (0, AObj.ro qs)] }))))))))))))))) ∧
 ((decide (i < (↑m : Int))) = false →
 (decide (i < (↑m : Int))) = false ∧
 ((decide (i < (↑m : Int))) = false ∧
 ((decide (i < (↑m : Int))) = false ∧
 ((decide (i < (↑m : Int))) = false ∧
 (((!!decide
 (reqErr L C T R F W U (AV.toI (List.getD qs (0 + Int.toNat i * 4) (AV.tup [])))
 (AV.toI (List.getD qs (0 + Int.toNat i * 4 + 1) (AV.tup [])))
 (AV.toI (List.getD qs (0 + Int.toNat i * 4 + 1 + 1) (AV.tup [])))
 (AV.toI (List.getD qs (0 + Int.toNat i * 4 + 1 + 1 + 1) (AV.tup [])))
 now =
 (0 : Int))) = true →
 (!!decide
 (reqErr L C T R F W U (AV.toI (List.getD qs (0 + Int.toNat i * 4) (AV.tup [])))
 (AV.toI (List.getD qs (0 + Int.toNat i * 4 + 1) (AV.tup [])))
 (AV.toI (List.getD qs (0 + Int.toNat i * 4 + 1 + 1) (AV.tup [])))
 (AV.toI (List.getD qs (0 + Int.toNat i * 4 + 1 + 1 + 1) (AV.tup [])))
 now =
 (0 : Int))) = true ∧
 ((!!decide
 (reqErr L C T R F W U (AV.toI (List.getD qs (0 + Int.toNat i * 4) (AV.tup [])))
 (AV.toI (List.getD qs (0 + Int.toNat i * 4 + 1) (AV.tup [])))
 (AV.toI (List.getD qs (0 + Int.toNat i * 4 + 1 + 1) (AV.tup [])))
 (AV.toI (List.getD qs (0 + Int.toNat i * 4 + 1 + 1 + 1) (AV.tup [])))
 now =
 (0 : Int))) = true ∧
 ((!!decide
 (reqErr L C T R F W U (AV.toI (List.getD qs (0 + Int.toNat i * 4) (AV.tup [])))
 (AV.toI (List.getD qs (0 + Int.toNat i * 4 + 1) (AV.tup [])))
 (AV.toI (List.getD qs (0 + Int.toNat i * 4 + 1 + 1) (AV.tup [])))
 (AV.toI (List.getD qs (0 + Int.toNat i * 4 + 1 + 1 + 1) (AV.tup [])))
 now =
 (0 : Int))) = true ∧
 ((decide ((0 : Int) ≤ i ∧ i < (↑n : Int))) = true ∧
 ((!!decide
 (reqErr L C T R F W U (AV.toI (List.getD qs (0 + Int.toNat i * 4) (AV.tup [])))
 (AV.toI (List.getD qs (0 + Int.toNat i * 4 + 1) (AV.tup [])))
 (AV.toI (List.getD qs (0 + Int.toNat i * 4 + 1 + 1) (AV.tup [])))
 (AV.toI (List.getD qs (0 + Int.toNat i * 4 + 1 + 1 + 1) (AV.tup [])))
 now =
 (0 : Int))) = true ∧
 ((decide (0 + Int.toNat i * 1 < List.length (encI IntKind.i64 acc))) = true ∧
 ((AV.isI IntKind.i64 (List.getD (encI IntKind.i64 acc) (0 + Int.toNat i * 1) (AV.tup []))) = true ∧
 ((!!decide
 (reqErr L C T R F W U (AV.toI (List.getD qs (0 + Int.toNat i * 4) (AV.tup [])))
 (AV.toI (List.getD qs (0 + Int.toNat i * 4 + 1) (AV.tup [])))
 (AV.toI (List.getD qs (0 + Int.toNat i * 4 + 1 + 1) (AV.tup [])))
 (AV.toI (List.getD qs (0 + Int.toNat i * 4 + 1 + 1 + 1) (AV.tup [])))
 now =
 (0 : Int))) = true ∧
 ((!decide
 (reqErr L C T R F W U (AV.toI (List.getD qs (0 + Int.toNat i * 4) (AV.tup [])))
 (AV.toI (List.getD qs (0 + Int.toNat i * 4 + 1) (AV.tup [])))
 (AV.toI (List.getD qs (0 + Int.toNat i * 4 + 1 + 1) (AV.tup [])))
 (AV.toI (List.getD qs (0 + Int.toNat i * 4 + 1 + 1 + 1) (AV.tup [])))
 now =
 (0 : Int))) = false ∧
 (((!!decide
 (reqAt L C T R F W U (AV.toI (List.getD qs (0 + Int.toNat i * 4) (AV.tup [])))
 (AV.toI (List.getD qs (0 + Int.toNat i * 4 + 1) (AV.tup [])))
 (AV.toI (List.getD qs (0 + Int.toNat i * 4 + 1 + 1) (AV.tup [])))
 (AV.toI (List.getD qs (0 + Int.toNat i * 4 + 1 + 1 + 1) (AV.tup [])))
 false now =
 AV.toI (List.getD (encI IntKind.i64 acc) (0 + Int.toNat i * 1) (AV.tup [])))) = true →
 (!!decide
 (reqAt L C T R F W U (AV.toI (List.getD qs (0 + Int.toNat i * 4) (AV.tup [])))
 (AV.toI (List.getD qs (0 + Int.toNat i * 4 + 1) (AV.tup [])))
 (AV.toI (List.getD qs (0 + Int.toNat i * 4 + 1 + 1) (AV.tup [])))
 (AV.toI (List.getD qs (0 + Int.toNat i * 4 + 1 + 1 + 1) (AV.tup [])))
 false now =
 AV.toI (List.getD (encI IntKind.i64 acc) (0 + Int.toNat i * 1) (AV.tup [])))) = true ∧
 ((!!decide
 (reqAt L C T R F W U (AV.toI (List.getD qs (0 + Int.toNat i * 4) (AV.tup [])))
 (AV.toI (List.getD qs (0 + Int.toNat i * 4 + 1) (AV.tup [])))
 (AV.toI (List.getD qs (0 + Int.toNat i * 4 + 1 + 1) (AV.tup [])))
 (AV.toI (List.getD qs (0 + Int.toNat i * 4 + 1 + 1 + 1) (AV.tup [])))
 false now =
 AV.toI (List.getD (encI IntKind.i64 acc) (0 + Int.toNat i * 1) (AV.tup [])))) = true ∧
 ((!decide
 (reqAt L C T R F W U (AV.toI (List.getD qs (0 + Int.toNat i * 4) (AV.tup [])))
 (AV.toI (List.getD qs (0 + Int.toNat i * 4 + 1) (AV.tup [])))
 (AV.toI (List.getD qs (0 + Int.toNat i * 4 + 1 + 1) (AV.tup [])))
 (AV.toI (List.getD qs (0 + Int.toNat i * 4 + 1 + 1 + 1) (AV.tup [])))
 false now =
 AV.toI (List.getD (encI IntKind.i64 acc) (0 + Int.toNat i * 1) (AV.tup [])))) = false ∧
 (((!decide
 (reqAt L C T R F W U (AV.toI (List.getD qs (0 + Int.toNat i * 4) (AV.tup [])))
 (AV.toI (List.getD qs (0 + Int.toNat i * 4 + 1) (AV.tup [])))
 (AV.toI (List.getD qs (0 + Int.toNat i * 4 + 1 + 1) (AV.tup [])))
 (AV.toI (List.getD qs (0 + Int.toNat i * 4 + 1 + 1 + 1) (AV.tup [])))
 false now <
 now)) = true →
 (!decide
 (reqAt L C T R F W U (AV.toI (List.getD qs (0 + Int.toNat i * 4) (AV.tup [])))
 (AV.toI (List.getD qs (0 + Int.toNat i * 4 + 1) (AV.tup [])))
 (AV.toI (List.getD qs (0 + Int.toNat i * 4 + 1 + 1) (AV.tup [])))
 (AV.toI (List.getD qs (0 + Int.toNat i * 4 + 1 + 1 + 1) (AV.tup [])))
 false now <
 now)) = true ∧
 ((!decide
 (reqAt L C T R F W U (AV.toI (List.getD qs (0 + Int.toNat i * 4) (AV.tup [])))
 (AV.toI (List.getD qs (0 + Int.toNat i * 4 + 1) (AV.tup [])))
 (AV.toI (List.getD qs (0 + Int.toNat i * 4 + 1 + 1) (AV.tup [])))
 (AV.toI (List.getD qs (0 + Int.toNat i * 4 + 1 + 1 + 1) (AV.tup [])))
 false now <
 now)) = true ∧
 ((decide
 (reqAt L C T R F W U (AV.toI (List.getD qs (0 + Int.toNat i * 4) (AV.tup [])))
 (AV.toI (List.getD qs (0 + Int.toNat i * 4 + 1) (AV.tup [])))
 (AV.toI (List.getD qs (0 + Int.toNat i * 4 + 1 + 1) (AV.tup [])))
 (AV.toI (List.getD qs (0 + Int.toNat i * 4 + 1 + 1 + 1) (AV.tup [])))
 false now <
 now)) = false ∧
 (((!decide
 (reqAt L C T R F W U (AV.toI (List.getD qs (0 + Int.toNat i * 4) (AV.tup [])))
 (AV.toI (List.getD qs (0 + Int.toNat i * 4 + 1) (AV.tup [])))
 (AV.toI (List.getD qs (0 + Int.toNat i * 4 + 1 + 1) (AV.tup [])))
 (AV.toI (List.getD qs (0 + Int.toNat i * 4 + 1 + 1 + 1) (AV.tup [])))
 false now ≥
 reqEnd L C T R F W U (AV.toI (List.getD qs (0 + Int.toNat i * 4) (AV.tup [])))
 (AV.toI (List.getD qs (0 + Int.toNat i * 4 + 1) (AV.tup [])))
 (AV.toI (List.getD qs (0 + Int.toNat i * 4 + 1 + 1) (AV.tup [])))
 (AV.toI (List.getD qs (0 + Int.toNat i * 4 + 1 + 1 + 1) (AV.tup [])))
 false now)) = true →
 (!decide
 (reqAt L C T R F W U (AV.toI (List.getD qs (0 + Int.toNat i * 4) (AV.tup [])))
 (AV.toI (List.getD qs (0 + Int.toNat i * 4 + 1) (AV.tup [])))
 (AV.toI (List.getD qs (0 + Int.toNat i * 4 + 1 + 1) (AV.tup [])))
 (AV.toI (List.getD qs (0 + Int.toNat i * 4 + 1 + 1 + 1) (AV.tup [])))
 false now ≥
 reqEnd L C T R F W U (AV.toI (List.getD qs (0 + Int.toNat i * 4) (AV.tup [])))
 (AV.toI (List.getD qs (0 + Int.toNat i * 4 + 1) (AV.tup [])))
 (AV.toI (List.getD qs (0 + Int.toNat i * 4 + 1 + 1) (AV.tup [])))
 (AV.toI (List.getD qs (0 + Int.toNat i * 4 + 1 + 1 + 1) (AV.tup [])))
 false now)) = true ∧
 ((!decide
 (reqAt L C T R F W U (AV.toI (List.getD qs (0 + Int.toNat i * 4) (AV.tup [])))
 (AV.toI (List.getD qs (0 + Int.toNat i * 4 + 1) (AV.tup [])))
 (AV.toI (List.getD qs (0 + Int.toNat i * 4 + 1 + 1) (AV.tup [])))
 (AV.toI (List.getD qs (0 + Int.toNat i * 4 + 1 + 1 + 1) (AV.tup [])))
 false now ≥
 reqEnd L C T R F W U (AV.toI (List.getD qs (0 + Int.toNat i * 4) (AV.tup [])))
 (AV.toI (List.getD qs (0 + Int.toNat i * 4 + 1) (AV.tup [])))
 (AV.toI (List.getD qs (0 + Int.toNat i * 4 + 1 + 1) (AV.tup [])))
 (AV.toI (List.getD qs (0 + Int.toNat i * 4 + 1 + 1 + 1) (AV.tup [])))
 false now)) = true ∧
 ((!decide
 (reqAt L C T R F W U (AV.toI (List.getD qs (0 + Int.toNat i * 4) (AV.tup [])))
 (AV.toI (List.getD qs (0 + Int.toNat i * 4 + 1) (AV.tup [])))
 (AV.toI (List.getD qs (0 + Int.toNat i * 4 + 1 + 1) (AV.tup [])))
 (AV.toI (List.getD qs (0 + Int.toNat i * 4 + 1 + 1 + 1) (AV.tup [])))
 false now ≥
 reqEnd L C T R F W U (AV.toI (List.getD qs (0 + Int.toNat i * 4) (AV.tup [])))
 (AV.toI (List.getD qs (0 + Int.toNat i * 4 + 1) (AV.tup [])))
 (AV.toI (List.getD qs (0 + Int.toNat i * 4 + 1 + 1) (AV.tup [])))
 (AV.toI (List.getD qs (0 + Int.toNat i * 4 + 1 + 1 + 1) (AV.tup [])))
 false now)) = true ∧
 ((!decide
 (reqAt L C T R F W U (AV.toI (List.getD qs (0 + Int.toNat i * 4) (AV.tup [])))
 (AV.toI (List.getD qs (0 + Int.toNat i * 4 + 1) (AV.tup [])))
 (AV.toI (List.getD qs (0 + Int.toNat i * 4 + 1 + 1) (AV.tup [])))
 (AV.toI (List.getD qs (0 + Int.toNat i * 4 + 1 + 1 + 1) (AV.tup [])))
 false now ≥
 reqEnd L C T R F W U (AV.toI (List.getD qs (0 + Int.toNat i * 4) (AV.tup [])))
 (AV.toI (List.getD qs (0 + Int.toNat i * 4 + 1) (AV.tup [])))
 (AV.toI (List.getD qs (0 + Int.toNat i * 4 + 1 + 1) (AV.tup [])))
 (AV.toI (List.getD qs (0 + Int.toNat i * 4 + 1 + 1 + 1) (AV.tup [])))
 false now)) = true ∧
 ((decide ((0 : Int) ≤ i ∧ i < (↑n : Int))) = true ∧
 ((!decide
 (reqAt L C T R F W U (AV.toI (List.getD qs (0 + Int.toNat i * 4) (AV.tup [])))
 (AV.toI (List.getD qs (0 + Int.toNat i * 4 + 1) (AV.tup [])))
 (AV.toI (List.getD qs (0 + Int.toNat i * 4 + 1 + 1) (AV.tup [])))
 (AV.toI (List.getD qs (0 + Int.toNat i * 4 + 1 + 1 + 1) (AV.tup [])))
 false now ≥
 reqEnd L C T R F W U (AV.toI (List.getD qs (0 + Int.toNat i * 4) (AV.tup [])))
 (AV.toI (List.getD qs (0 + Int.toNat i * 4 + 1) (AV.tup [])))
 (AV.toI (List.getD qs (0 + Int.toNat i * 4 + 1 + 1) (AV.tup [])))
 (AV.toI (List.getD qs (0 + Int.toNat i * 4 + 1 + 1 + 1) (AV.tup [])))
 false now)) = true ∧
 ((!decide
 (reqAt L C T R F W U (AV.toI (List.getD qs (0 + Int.toNat i * 4) (AV.tup [])))
 (AV.toI (List.getD qs (0 + Int.toNat i * 4 + 1) (AV.tup [])))
 (AV.toI (List.getD qs (0 + Int.toNat i * 4 + 1 + 1) (AV.tup [])))
 (AV.toI (List.getD qs (0 + Int.toNat i * 4 + 1 + 1 + 1) (AV.tup [])))
 false now ≥
 reqEnd L C T R F W U (AV.toI (List.getD qs (0 + Int.toNat i * 4) (AV.tup [])))
 (AV.toI (List.getD qs (0 + Int.toNat i * 4 + 1) (AV.tup [])))
 (AV.toI (List.getD qs (0 + Int.toNat i * 4 + 1 + 1) (AV.tup [])))
 (AV.toI (List.getD qs (0 + Int.toNat i * 4 + 1 + 1 + 1) (AV.tup [])))
 false now)) = true ∧
 ((decide (0 + Int.toNat i * 4 + 3 < List.length qs)) = true ∧
 ((AV.isI IntKind.i64 (List.getD qs (0 + Int.toNat i * 4 + 3) (AV.tup []))) = true ∧
 ((!decide
 (reqAt L C T R F W U (AV.toI (List.getD qs (0 + Int.toNat i * 4) (AV.tup [])))
 (AV.toI (List.getD qs (0 + Int.toNat i * 4 + 1) (AV.tup [])))
 (AV.toI (List.getD qs (0 + Int.toNat i * 4 + 1 + 1) (AV.tup [])))
 (AV.toI (List.getD qs (0 + Int.toNat i * 4 + 1 + 1 + 1) (AV.tup [])))
 false now ≥
 reqEnd L C T R F W U (AV.toI (List.getD qs (0 + Int.toNat i * 4) (AV.tup [])))
 (AV.toI (List.getD qs (0 + Int.toNat i * 4 + 1) (AV.tup [])))
 (AV.toI (List.getD qs (0 + Int.toNat i * 4 + 1 + 1) (AV.tup [])))
 (AV.toI (List.getD qs (0 + Int.toNat i * 4 + 1 + 1 + 1) (AV.tup [])))
 false now)) = true ∧
 ((!decide
 (reqAt L C T R F W U (AV.toI (List.getD qs (0 + Int.toNat i * 4) (AV.tup [])))
 (AV.toI (List.getD qs (0 + Int.toNat i * 4 + 1) (AV.tup [])))
 (AV.toI (List.getD qs (0 + Int.toNat i * 4 + 1 + 1) (AV.tup [])))
 (AV.toI (List.getD qs (0 + Int.toNat i * 4 + 1 + 1 + 1) (AV.tup [])))
 false now ≥
 reqEnd L C T R F W U (AV.toI (List.getD qs (0 + Int.toNat i * 4) (AV.tup [])))
 (AV.toI (List.getD qs (0 + Int.toNat i * 4 + 1) (AV.tup [])))
 (AV.toI (List.getD qs (0 + Int.toNat i * 4 + 1 + 1) (AV.tup [])))
 (AV.toI (List.getD qs (0 + Int.toNat i * 4 + 1 + 1 + 1) (AV.tup [])))
 false now)) = true ∧
 ((decide
 (reqAt L C T R F W U (AV.toI (List.getD qs (0 + Int.toNat i * 4) (AV.tup [])))
 (AV.toI (List.getD qs (0 + Int.toNat i * 4 + 1) (AV.tup [])))
 (AV.toI (List.getD qs (0 + Int.toNat i * 4 + 1 + 1) (AV.tup [])))
 (AV.toI (List.getD qs (0 + Int.toNat i * 4 + 1 + 1 + 1) (AV.tup [])))
 false now ≥
 reqEnd L C T R F W U (AV.toI (List.getD qs (0 + Int.toNat i * 4) (AV.tup [])))
 (AV.toI (List.getD qs (0 + Int.toNat i * 4 + 1) (AV.tup [])))
 (AV.toI (List.getD qs (0 + Int.toNat i * 4 + 1 + 1) (AV.tup [])))
 (AV.toI (List.getD qs (0 + Int.toNat i * 4 + 1 + 1 + 1) (AV.tup [])))
 false now)) = false ∧
 (((!decide
 (reqEnd L C T R F W U (AV.toI (List.getD qs (0 + Int.toNat i * 4) (AV.tup [])))
 (AV.toI (List.getD qs (0 + Int.toNat i * 4 + 1) (AV.tup [])))
 (AV.toI (List.getD qs (0 + Int.toNat i * 4 + 1 + 1) (AV.tup [])))
 (AV.toI (List.getD qs (0 + Int.toNat i * 4 + 1 + 1 + 1) (AV.tup [])))
 false now <
 IntKind.wrap IntKind.i64
 (now + AV.toI (List.getD qs (0 + Int.toNat i * 4 + 3) (AV.tup []))))) = true →
 (!decide
 (reqEnd L C T R F W U (AV.toI (List.getD qs (0 + Int.toNat i * 4) (AV.tup [])))
 (AV.toI (List.getD qs (0 + Int.toNat i * 4 + 1) (AV.tup [])))
 (AV.toI (List.getD qs (0 + Int.toNat i * 4 + 1 + 1) (AV.tup [])))
 (AV.toI (List.getD qs (0 + Int.toNat i * 4 + 1 + 1 + 1) (AV.tup [])))
 false now <
 IntKind.wrap IntKind.i64
 (now + AV.toI (List.getD qs (0 + Int.toNat i * 4 + 3) (AV.tup []))))) = true ∧
 ((!decide
 (reqEnd L C T R F W U (AV.toI (List.getD qs (0 + Int.toNat i * 4) (AV.tup [])))
 (AV.toI (List.getD qs (0 + Int.toNat i * 4 + 1) (AV.tup [])))
 (AV.toI (List.getD qs (0 + Int.toNat i * 4 + 1 + 1) (AV.tup [])))
 (AV.toI (List.getD qs (0 + Int.toNat i * 4 + 1 + 1 + 1) (AV.tup [])))
 false now <
 IntKind.wrap IntKind.i64
 (now + AV.toI (List.getD qs (0 + Int.toNat i * 4 + 3) (AV.tup []))))) = true ∧
 ((!decide
 (reqEnd L C T R F W U (AV.toI (List.getD qs (0 + Int.toNat i * 4) (AV.tup [])))
 (AV.toI (List.getD qs (0 + Int.toNat i * 4 + 1) (AV.tup [])))
 (AV.toI (List.getD qs (0 + Int.toNat i * 4 + 1 + 1) (AV.tup [])))
 (AV.toI (List.getD qs (0 + Int.toNat i * 4 + 1 + 1 + 1) (AV.tup [])))
 false now <
 IntKind.wrap IntKind.i64
 (now + AV.toI (List.getD qs (0 + Int.toNat i * 4 + 3) (AV.tup []))))) = true ∧
 ((!decide
 (reqEnd L C T R F W U (AV.toI (List.getD qs (0 + Int.toNat i * 4) (AV.tup [])))
 (AV.toI (List.getD qs (0 + Int.toNat i * 4 + 1) (AV.tup [])))
 (AV.toI (List.getD qs (0 + Int.toNat i * 4 + 1 + 1) (AV.tup [])))
 (AV.toI (List.getD qs (0 + Int.toNat i * 4 + 1 + 1 + 1) (AV.tup [])))
 false now <
 IntKind.wrap IntKind.i64
 (now + AV.toI (List.getD qs (0 + Int.toNat i * 4 + 3) (AV.tup []))))) = true ∧
 ((decide ((0 : Int) ≤ i ∧ i < (↑n : Int))) = true ∧
 ((!decide
 (reqEnd L C T R F W U (AV.toI (List.getD qs (0 + Int.toNat i * 4) (AV.tup [])))
 (AV.toI (List.getD qs (0 + Int.toNat i * 4 + 1) (AV.tup [])))
 (AV.toI (List.getD qs (0 + Int.toNat i * 4 + 1 + 1) (AV.tup [])))
 (AV.toI (List.getD qs (0 + Int.toNat i * 4 + 1 + 1 + 1) (AV.tup [])))
 false now <
 IntKind.wrap IntKind.i64
 (now + AV.toI (List.getD qs (0 + Int.toNat i * 4 + 3) (AV.tup []))))) = true ∧
 ((!decide
 (reqEnd L C T R F W U (AV.toI (List.getD qs (0 + Int.toNat i * 4) (AV.tup [])))
 (AV.toI (List.getD qs (0 + Int.toNat i * 4 + 1) (AV.tup [])))
 (AV.toI (List.getD qs (0 + Int.toNat i * 4 + 1 + 1) (AV.tup [])))
 (AV.toI (List.getD qs (0 + Int.toNat i * 4 + 1 + 1 + 1) (AV.tup [])))
 false now <
 IntKind.wrap IntKind.i64
 (now + AV.toI (List.getD qs (0 + Int.toNat i * 4 + 3) (AV.tup []))))) = true ∧
 ((decide (0 + Int.toNat i * 4 + 3 < List.length qs)) = true ∧
 ((AV.isI IntKind.i64 (List.getD qs (0 + Int.toNat i * 4 + 3) (AV.tup []))) = true ∧
 ((!decide
 (reqEnd L C T R F W U (AV.toI (List.getD qs (0 + Int.toNat i * 4) (AV.tup [])))
 (AV.toI (List.getD qs (0 + Int.toNat i * 4 + 1) (AV.tup [])))
 (AV.toI (List.getD qs (0 + Int.toNat i * 4 + 1 + 1) (AV.tup [])))
 (AV.toI (List.getD qs (0 + Int.toNat i * 4 + 1 + 1 + 1) (AV.tup [])))
 false now <
 IntKind.wrap IntKind.i64
 (now + AV.toI (List.getD qs (0 + Int.toNat i * 4 + 3) (AV.tup []))))) = true ∧
 ((!decide
 (reqEnd L C T R F W U (AV.toI (List.getD qs (0 + Int.toNat i * 4) (AV.tup [])))
 (AV.toI (List.getD qs (0 + Int.toNat i * 4 + 1) (AV.tup [])))
 (AV.toI (List.getD qs (0 + Int.toNat i * 4 + 1 + 1) (AV.tup [])))
 (AV.toI (List.getD qs (0 + Int.toNat i * 4 + 1 + 1 + 1) (AV.tup [])))
 false now <
 IntKind.wrap IntKind.i64
 (now + AV.toI (List.getD qs (0 + Int.toNat i * 4 + 3) (AV.tup []))))) = true ∧
 ((!decide
 (reqEnd L C T R F W U (AV.toI (List.getD qs (0 + Int.toNat i * 4) (AV.tup [])))
 (AV.toI (List.getD qs (0 + Int.toNat i * 4 + 1) (AV.tup [])))
 (AV.toI (List.getD qs (0 + Int.toNat i * 4 + 1 + 1) (AV.tup [])))
 (AV.toI (List.getD qs (0 + Int.toNat i * 4 + 1 + 1 + 1) (AV.tup [])))
 false now <
 IntKind.wrap IntKind.i64
 (now + AV.toI (List.getD qs (0 + Int.toNat i * 4 + 3) (AV.tup []))))) = true ∧
 ((!decide
 (reqEnd L C T R F W U (AV.toI (List.getD qs (0 + Int.toNat i * 4) (AV.tup [])))
 (AV.toI (List.getD qs (0 + Int.toNat i * 4 + 1) (AV.tup [])))
 (AV.toI (List.getD qs (0 + Int.toNat i * 4 + 1 + 1) (AV.tup [])))
 (AV.toI (List.getD qs (0 + Int.toNat i * 4 + 1 + 1 + 1) (AV.tup [])))
 false now <
 IntKind.wrap IntKind.i64
 (now + AV.toI (List.getD qs (0 + Int.toNat i * 4 + 3) (AV.tup []))))) = true ∧
 ((decide ((0 : Int) ≤ i ∧ i < (↑n : Int))) = true ∧
 ((!decide
 (reqEnd L C T R F W U (AV.toI (List.getD qs (0 + Int.toNat i * 4) (AV.tup [])))
 (AV.toI (List.getD qs (0 + Int.toNat i * 4 + 1) (AV.tup [])))
 (AV.toI (List.getD qs (0 + Int.toNat i * 4 + 1 + 1) (AV.tup [])))
 (AV.toI (List.getD qs (0 + Int.toNat i * 4 + 1 + 1 + 1) (AV.tup [])))
 false now <
 IntKind.wrap IntKind.i64
 (now + AV.toI (List.getD qs (0 + Int.toNat i * 4 + 3) (AV.tup []))))) = true ∧
 ((decide (0 + Int.toNat i * 4 + 4 ≤ List.length qs)) = true ∧
 ((AV.isI IntKind.i64 (List.getD qs (0 + Int.toNat i * 4) (AV.tup []))) = true ∧
 ((AV.isI IntKind.u16 (List.getD qs (0 + Int.toNat i * 4 + 1) (AV.tup []))) = true ∧
 ((AV.isI IntKind.u8 (List.getD qs (0 + Int.toNat i * 4 + 1 + 1) (AV.tup []))) = true ∧
 ((AV.isI IntKind.i64 (List.getD qs (0 + Int.toNat i * 4 + 1 + 1 + 1) (AV.tup []))) = true ∧
 ((!decide
 (reqEnd L C T R F W U (AV.toI (List.getD qs (0 + Int.toNat i * 4) (AV.tup [])))
 (AV.toI (List.getD qs (0 + Int.toNat i * 4 + 1) (AV.tup [])))
 (AV.toI (List.getD qs (0 + Int.toNat i * 4 + 1 + 1) (AV.tup [])))
 (AV.toI (List.getD qs (0 + Int.toNat i * 4 + 1 + 1 + 1) (AV.tup [])))
 false now <
 IntKind.wrap IntKind.i64
 (now + AV.toI (List.getD qs (0 + Int.toNat i * 4 + 3) (AV.tup []))))) = true ∧
 ((!decide
 (reqEnd L C T R F W U (AV.toI (List.getD qs (0 + Int.toNat i * 4) (AV.tup [])))
 (AV.toI (List.getD qs (0 + Int.toNat i * 4 + 1) (AV.tup [])))
 (AV.toI (List.getD qs (0 + Int.toNat i * 4 + 1 + 1) (AV.tup [])))
 (AV.toI (List.getD qs (0 + Int.toNat i * 4 + 1 + 1 + 1) (AV.tup [])))
 false now <
 IntKind.wrap IntKind.i64
 (now + AV.toI (List.getD qs (0 + Int.toNat i * 4 + 3) (AV.tup []))))) = true ∧
 ((!decide
 (reqEnd L C T R F W U (AV.toI (List.getD qs (0 + Int.toNat i * 4) (AV.tup [])))
 (AV.toI (List.getD qs (0 + Int.toNat i * 4 + 1) (AV.tup [])))
 (AV.toI (List.getD qs (0 + Int.toNat i * 4 + 1 + 1) (AV.tup [])))
 (AV.toI (List.getD qs (0 + Int.toNat i * 4 + 1 + 1 + 1) (AV.tup [])))
 false now <
 IntKind.wrap IntKind.i64
 (now + AV.toI (List.getD qs (0 + Int.toNat i * 4 + 3) (AV.tup []))))) = true ∧
 ((!decide
 (reqEnd L C T R F W U (AV.toI (List.getD qs (0 + Int.toNat i * 4) (AV.tup [])))
 (AV.toI (List.getD qs (0 + Int.toNat i * 4 + 1) (AV.tup [])))
 (AV.toI (List.getD qs (0 + Int.toNat i * 4 + 1 + 1) (AV.tup [])))
 (AV.toI (List.getD qs (0 + Int.toNat i * 4 + 1 + 1 + 1) (AV.tup [])))
 false now <
 IntKind.wrap IntKind.i64
 (now + AV.toI (List.getD qs (0 + Int.toNat i * 4 + 3) (AV.tup []))))) = true ∧
 ((decide
 (reqEnd L C T R F W U (AV.toI (List.getD qs (0 + Int.toNat i * 4) (AV.tup [])))
 (AV.toI (List.getD qs (0 + Int.toNat i * 4 + 1) (AV.tup [])))
 (AV.toI (List.getD qs (0 + Int.toNat i * 4 + 1 + 1) (AV.tup [])))
 (AV.toI (List.getD qs (0 + Int.toNat i * 4 + 1 + 1 + 1) (AV.tup [])))
 false now <
 IntKind.wrap IntKind.i64
 (now + AV.toI (List.getD qs (0 + Int.toNat i * 4 + 3) (AV.tup []))))) = false ∧
 (((decide
 (reqEnd L C T R F W U (AV.toI (List.getD qs (0 + Int.toNat i * 4) (AV.tup [])))
 (AV.toI (List.getD qs (0 + Int.toNat i * 4 + 1) (AV.tup [])))
 (AV.toI (List.getD qs (0 + Int.toNat i * 4 + 1 + 1) (AV.tup [])))
 (AV.toI (List.getD qs (0 + Int.toNat i * 4 + 1 + 1 + 1) (AV.tup [])))
 false now >
 IntKind.wrap IntKind.i64
 (now +
 IntKind.wrap IntKind.i64
 (AV.toI (List.getD qs (0 + Int.toNat i * 4 + 3) (AV.tup [])) +
 mostN L C T R F W U (AV.toI (List.getD qs (0 + Int.toNat i * 4) (AV.tup []))))))) = true →
 Q Exit.ret 208
 [some (AV.slice 0 0 n (some c)), some (AV.slice 1 0 m (some cm)),
 some (AV.ptr 2 0), some (AV.slice 3 0 n none), some (AV.int IntKind.i64 e),
 some (AV.int IntKind.i64 now), some (AV.int IntKind.i64 i)]
 { nx := 4, m :=
 [(3, AObj.opn 2 1 (encI IntKind.i64 acc)),
 (2,
 AObj.cells 23
 [AV.int IntKind.i64 L, AV.int IntKind.i64 C, AV.int IntKind.i64 T, AV.int IntKind.i64 R,
 AV.int IntKind.i64 F, AV.int IntKind.i64 W, AV.int IntKind.i64 U]),
 (1, AObj.ro bs), (0, AObj.ro qs)] }) ∧
 ((decide
 (reqEnd L C T R F W U (AV.toI (List.getD qs (0 + Int.toNat i * 4) (AV.tup [])))
 (AV.toI (List.getD qs (0 + Int.toNat i * 4 + 1) (AV.tup [])))
 (AV.toI (List.getD qs (0 + Int.toNat i * 4 + 1 + 1) (AV.tup [])))
 (AV.toI (List.getD qs (0 + Int.toNat i * 4 + 1 + 1 + 1) (AV.tup [])))
 false now >
 IntKind.wrap IntKind.i64
 (now +
 IntKind.wrap IntKind.i64
 (AV.toI (List.getD qs (0 + Int.toNat i * 4 + 3) (AV.tup [])) +
 mostN L C T R F W U (AV.toI (List.getD qs (0 + Int.toNat i * 4) (AV.tup []))))))) = false →
 N 208
 [some (AV.slice 0 0 n (some c)), some (AV.slice 1 0 m (some cm)),
 some (AV.ptr 2 0), some (AV.slice 3 0 n none), some (AV.int IntKind.i64 e),
 some
 (AV.int IntKind.i64
 (reqEnd L C T R F W U (AV.toI (List.getD qs (0 + Int.toNat i * 4) (AV.tup [])))
 (AV.toI (List.getD qs (0 + Int.toNat i * 4 + 1) (AV.tup [])))
 (AV.toI (List.getD qs (0 + Int.toNat i * 4 + 1 + 1) (AV.tup [])))
 (AV.toI (List.getD qs (0 + Int.toNat i * 4 + 1 + 1 + 1) (AV.tup [])))
 false now)),
 some (AV.int IntKind.i64 (IntKind.wrap IntKind.i64 (i + (1 : Int))))]
 { nx := 4, m :=
 [(3, AObj.opn 2 1 (encI IntKind.i64 acc)),
 (2,
 AObj.cells 23
 [AV.int IntKind.i64 L, AV.int IntKind.i64 C, AV.int IntKind.i64 T, AV.int IntKind.i64 R,
 AV.int IntKind.i64 F, AV.int IntKind.i64 W, AV.int IntKind.i64 U]),
 (1, AObj.ro bs), (0, AObj.ro qs)] }))))))))))))))))))))))))))) ∧
 ((!decide
 (reqEnd L C T R F W U (AV.toI (List.getD qs (0 + Int.toNat i * 4) (AV.tup [])))
 (AV.toI (List.getD qs (0 + Int.toNat i * 4 + 1) (AV.tup [])))
 (AV.toI (List.getD qs (0 + Int.toNat i * 4 + 1 + 1) (AV.tup [])))
 (AV.toI (List.getD qs (0 + Int.toNat i * 4 + 1 + 1 + 1) (AV.tup [])))
 false now <
 IntKind.wrap IntKind.i64
 (now + AV.toI (List.getD qs (0 + Int.toNat i * 4 + 3) (AV.tup []))))) = false →
 (!decide
 (reqEnd L C T R F W U (AV.toI (List.getD qs (0 + Int.toNat i * 4) (AV.tup [])))
 (AV.toI (List.getD qs (0 + Int.toNat i * 4 + 1) (AV.tup [])))
 (AV.toI (List.getD qs (0 + Int.toNat i * 4 + 1 + 1) (AV.tup [])))
 (AV.toI (List.getD qs (0 + Int.toNat i * 4 + 1 + 1 + 1) (AV.tup [])))
 false now <
 IntKind.wrap IntKind.i64
 (now + AV.toI (List.getD qs (0 + Int.toNat i * 4 + 3) (AV.tup []))))) = false ∧
 ((!decide
 (reqEnd L C T R F W U (AV.toI (List.getD qs (0 + Int.toNat i * 4) (AV.tup [])))
 (AV.toI (List.getD qs (0 + Int.toNat i * 4 + 1) (AV.tup [])))
 (AV.toI (List.getD qs (0 + Int.toNat i * 4 + 1 + 1) (AV.tup [])))
 (AV.toI (List.getD qs (0 + Int.toNat i * 4 + 1 + 1 + 1) (AV.tup [])))
 false now <
 IntKind.wrap IntKind.i64
 (now + AV.toI (List.getD qs (0 + Int.toNat i * 4 + 3) (AV.tup []))))) = false ∧
 ((!decide
 (reqEnd L C T R F W U (AV.toI (List.getD qs (0 + Int.toNat i * 4) (AV.tup [])))
 (AV.toI (List.getD qs (0 + Int.toNat i * 4 + 1) (AV.tup [])))
 (AV.toI (List.getD qs (0 + Int.toNat i * 4 + 1 + 1) (AV.tup [])))
 (AV.toI (List.getD qs (0 + Int.toNat i * 4 + 1 + 1 + 1) (AV.tup [])))
 false now <
 IntKind.wrap IntKind.i64
 (now + AV.toI (List.getD qs (0 + Int.toNat i * 4 + 3) (AV.tup []))))) = false ∧
 ((!decide
 (reqEnd L C T R F W U (AV.toI (List.getD qs (0 + Int.toNat i * 4) (AV.tup [])))
 (AV.toI (List.getD qs (0 + Int.toNat i * 4 + 1) (AV.tup [])))
 (AV.toI (List.getD qs (0 + Int.toNat i * 4 + 1 + 1) (AV.tup [])))
 (AV.toI (List.getD qs (0 + Int.toNat i * 4 + 1 + 1 + 1) (AV.tup [])))
 false now <
 IntKind.wrap IntKind.i64
 (now + AV.toI (List.getD qs (0 + Int.toNat i * 4 + 3) (AV.tup []))))) = false ∧
 ((!decide
 (reqEnd L C T R F W U (AV.toI (List.getD qs (0 + Int.toNat i * 4) (AV.tup [])))
 (AV.toI (List.getD qs (0 + Int.toNat i * 4 + 1) (AV.tup [])))
 (AV.toI (List.getD qs (0 + Int.toNat i * 4 + 1 + 1) (AV.tup [])))
 (AV.toI (List.getD qs (0 + Int.toNat i * 4 + 1 + 1 + 1) (AV.tup [])))
 false now <
 IntKind.wrap IntKind.i64
 (now + AV.toI (List.getD qs (0 + Int.toNat i * 4 + 3) (AV.tup []))))) = false ∧
 ((!decide
 (reqEnd L C T R F W U (AV.toI (List.getD qs (0 + Int.toNat i * 4) (AV.tup [])))
 (AV.toI (List.getD qs (0 + Int.toNat i * 4 + 1) (AV.tup [])))
 (AV.toI (List.getD qs (0 + Int.toNat i * 4 + 1 + 1) (AV.tup [])))
 (AV.toI (List.getD qs (0 + Int.toNat i * 4 + 1 + 1 + 1) (AV.tup [])))
 false now <
 IntKind.wrap IntKind.i64
 (now + AV.toI (List.getD qs (0 + Int.toNat i * 4 + 3) (AV.tup []))))) = false ∧
 ((!decide
 (reqEnd L C T R F W U (AV.toI (List.getD qs (0 + Int.toNat i * 4) (AV.tup [])))
 (AV.toI (List.getD qs (0 + Int.toNat i * 4 + 1) (AV.tup [])))
 (AV.toI (List.getD qs (0 + Int.toNat i * 4 + 1 + 1) (AV.tup [])))
 (AV.toI (List.getD qs (0 + Int.toNat i * 4 + 1 + 1 + 1) (AV.tup [])))
 false now <
 IntKind.wrap IntKind.i64
 (now + AV.toI (List.getD qs (0 + Int.toNat i * 4 + 3) (AV.tup []))))) = false ∧
 ((!decide
 (reqEnd L C T R F W U (AV.toI (List.getD qs (0 + Int.toNat i * 4) (AV.tup [])))
 (AV.toI (List.getD qs (0 + Int.toNat i * 4 + 1) (AV.tup [])))
 (AV.toI (List.getD qs (0 + Int.toNat i * 4 + 1 + 1) (AV.tup [])))
 (AV.toI (List.getD qs (0 + Int.toNat i * 4 + 1 + 1 + 1) (AV.tup [])))
 false now <
 IntKind.wrap IntKind.i64
 (now + AV.toI (List.getD qs (0 + Int.toNat i * 4 + 3) (AV.tup []))))) = false ∧
 ((!decide
 (reqEnd L C T R F W U (AV.toI (List.getD qs (0 + Int.toNat i * 4) (AV.tup [])))
 (AV.toI (List.getD qs (0 + Int.toNat i * 4 + 1) (AV.tup [])))
 (AV.toI (List.getD qs (0 + Int.toNat i * 4 + 1 + 1) (AV.tup [])))
 (AV.toI (List.getD qs (0 + Int.toNat i * 4 + 1 + 1 + 1) (AV.tup [])))
 false now <
 IntKind.wrap IntKind.i64
 (now + AV.toI (List.getD qs (0 + Int.toNat i * 4 + 3) (AV.tup []))))) = false ∧
 ((!decide
 (reqEnd L C T R F W U (AV.toI (List.getD qs (0 + Int.toNat i * 4) (AV.tup [])))
 (AV.toI (List.getD qs (0 + Int.toNat i * 4 + 1) (AV.tup [])))
 (AV.toI (List.getD qs (0 + Int.toNat i * 4 + 1 + 1) (AV.tup [])))
 (AV.toI (List.getD qs (0 + Int.toNat i * 4 + 1 + 1 + 1) (AV.tup [])))
 false now <
 IntKind.wrap IntKind.i64
 (now + AV.toI (List.getD qs (0 + Int.toNat i * 4 + 3) (AV.tup []))))) = false ∧
 ((!decide
 (reqEnd L C T R F W U (AV.toI (List.getD qs (0 + Int.toNat i * 4) (AV.tup [])))
 (AV.toI (List.getD qs (0 + Int.toNat i * 4 + 1) (AV.tup [])))
 (AV.toI (List.getD qs (0 + Int.toNat i * 4 + 1 + 1) (AV.tup [])))
 (AV.toI (List.getD qs (0 + Int.toNat i * 4 + 1 + 1 + 1) (AV.tup [])))
 false now <
 IntKind.wrap IntKind.i64
 (now + AV.toI (List.getD qs (0 + Int.toNat i * 4 + 3) (AV.tup []))))) = false ∧
 ((!decide
 (reqEnd L C T R F W U (AV.toI (List.getD qs (0 + Int.toNat i * 4) (AV.tup [])))
 (AV.toI (List.getD qs (0 + Int.toNat i * 4 + 1) (AV.tup [])))
 (AV.toI (List.getD qs (0 + Int.toNat i * 4 + 1 + 1) (AV.tup [])))
 (AV.toI (List.getD qs (0 + Int.toNat i * 4 + 1 + 1 + 1) (AV.tup [])))
 false now <
 IntKind.wrap IntKind.i64
 (now + AV.toI (List.getD qs (0 + Int.toNat i * 4 + 3) (AV.tup []))))) = false ∧
 ((!decide
 (reqEnd L C T R F W U (AV.toI (List.getD qs (0 + Int.toNat i * 4) (AV.tup [])))
 (AV.toI (List.getD qs (0 + Int.toNat i * 4 + 1) (AV.tup [])))
 (AV.toI (List.getD qs (0 + Int.toNat i * 4 + 1 + 1) (AV.tup [])))
 (AV.toI (List.getD qs (0 + Int.toNat i * 4 + 1 + 1 + 1) (AV.tup [])))
 false now <
 IntKind.wrap IntKind.i64
 (now + AV.toI (List.getD qs (0 + Int.toNat i * 4 + 3) (AV.tup []))))) = false ∧
 ((!decide
 (reqEnd L C T R F W U (AV.toI (List.getD qs (0 + Int.toNat i * 4) (AV.tup [])))
 (AV.toI (List.getD qs (0 + Int.toNat i * 4 + 1) (AV.tup [])))
 (AV.toI (List.getD qs (0 + Int.toNat i * 4 + 1 + 1) (AV.tup [])))
 (AV.toI (List.getD qs (0 + Int.toNat i * 4 + 1 + 1 + 1) (AV.tup [])))
 false now <
 IntKind.wrap IntKind.i64
 (now + AV.toI (List.getD qs (0 + Int.toNat i * 4 + 3) (AV.tup []))))) = false ∧
 ((!decide
 (reqEnd L C T R F W U (AV.toI (List.getD qs (0 + Int.toNat i * 4) (AV.tup [])))
 (AV.toI (List.getD qs (0 + Int.toNat i * 4 + 1) (AV.tup [])))
 (AV.toI (List.getD qs (0 + Int.toNat i * 4 + 1 + 1) (AV.tup [])))
 (AV.toI (List.getD qs (0 + Int.toNat i * 4 + 1 + 1 + 1) (AV.tup [])))
 false now <
 IntKind.wrap IntKind.i64
 (now + AV.toI (List.getD qs (0 + Int.toNat i * 4 + 3) (AV.tup []))))) = false ∧
 ((decide
 (reqEnd L C T R F W U (AV.toI (List.getD qs (0 + Int.toNat i * 4) (AV.tup [])))
 (AV.toI (List.getD qs (0 + Int.toNat i * 4 + 1) (AV.tup [])))
 (AV.toI (List.getD qs (0 + Int.toNat i * 4 + 1 + 1) (AV.tup [])))
 (AV.toI (List.getD qs (0 + Int.toNat i * 4 + 1 + 1 + 1) (AV.tup [])))
 false now <
 IntKind.wrap IntKind.i64
 (now + AV.toI (List.getD qs (0 + Int.toNat i * 4 + 3) (AV.tup []))))) = true ∧
 (Q Exit.ret 208
 [some (AV.slice 0 0 n (some c)), some (AV.slice 1 0 m (some cm)),
 some (AV.ptr 2 0), some (AV.slice 3 0 n none), some (AV.int IntKind.i64 e),
 some (AV.int IntKind.i64 now), some (AV.int IntKind.i64 i)]
 { nx := 4, m :=
 [(3, AObj.opn 2 1 (encI IntKind.i64 acc)),
 (2,
 AObj.cells 23
 [AV.int IntKind.i64 L, AV.int IntKind.i64 C, AV.int IntKind.i64 T, AV.int IntKind.i64 R,
 AV.int IntKind.i64 F, AV.int IntKind.i64 W, AV.int IntKind.i64 U]),
 (1, AObj.ro bs), (0, AObj.ro qs)] })))))))))))))))))))))))))))))) ∧
 ((!decide
 (reqAt L C T R F W U (AV.toI (List.getD qs (0 + Int.toNat i * 4) (AV.tup [])))
 (AV.toI (List.getD qs (0 + Int.toNat i * 4 + 1) (AV.tup [])))
 (AV.toI (List.getD qs (0 + Int.toNat i * 4 + 1 + 1) (AV.tup [])))
 (AV.toI (List.getD qs (0 + Int.toNat i * 4 + 1 + 1 + 1) (AV.tup [])))
 false now ≥
 reqEnd L C T R F W U (AV.toI (List.getD qs (0 + Int.toNat i * 4) (AV.tup [])))
 (AV.toI (List.getD qs (0 + Int.toNat i * 4 + 1) (AV.tup [])))
 (AV.toI (List.getD qs (0 + Int.toNat i * 4 + 1 + 1) (AV.tup [])))
 (AV.toI (List.getD qs (0 + Int.toNat i * 4 + 1 + 1 + 1) (AV.tup [])))
 false now)) = false →
 (!decide
 (reqAt L C T R F W U (AV.toI (List.getD qs (0 + Int.toNat i * 4) (AV.tup [])))
 (AV.toI (List.getD qs (0 + Int.toNat i * 4 + 1) (AV.tup [])))
 (AV.toI (List.getD qs (0 + Int.toNat i * 4 + 1 + 1) (AV.tup [])))
 (AV.toI (List.getD qs (0 + Int.toNat i * 4 + 1 + 1 + 1) (AV.tup [])))
 false now ≥
 reqEnd L C T R F W U (AV.toI (List.getD qs (0 + Int.toNat i * 4) (AV.tup [])))
 (AV.toI (List.getD qs (0 + Int.toNat i * 4 + 1) (AV.tup [])))
 (AV.toI (List.getD qs (0 + Int.toNat i * 4 + 1 + 1) (AV.tup [])))
 (AV.toI (List.getD qs (0 + Int.toNat i * 4 + 1 + 1 + 1) (AV.tup [])))
 false now)) = false ∧
 ((!decide
 (reqAt L C T R F W U (AV.toI (List.getD qs (0 + Int.toNat i * 4) (AV.tup [])))
 (AV.toI (List.getD qs (0 + Int.toNat i * 4 + 1) (AV.tup [])))
 (AV.toI (List.getD qs (0 + Int.toNat i * 4 + 1 + 1) (AV.tup [])))
 (AV.toI (List.getD qs (0 + Int.toNat i * 4 + 1 + 1 + 1) (AV.tup [])))
 false now ≥
 reqEnd L C T R F W U (AV.toI (List.getD qs (0 + Int.toNat i * 4) (AV.tup [])))
 (AV.toI (List.getD qs (0 + Int.toNat i * 4 + 1) (AV.tup [])))
 (AV.toI (List.getD qs (0 + Int.toNat i * 4 + 1 + 1) (AV.tup [])))
 (AV.toI (List.getD qs (0 + Int.toNat i * 4 + 1 + 1 + 1) (AV.tup [])))
 false now)) = false ∧
 ((!decide
 (reqAt L C T R F W U (AV.toI (List.getD qs (0 + Int.toNat i * 4) (AV.tup [])))
 (AV.toI (List.getD qs (0 + Int.toNat i * 4 + 1) (AV.tup [])))
 (AV.toI (List.getD qs (0 + Int.toNat i * 4 + 1 + 1) (AV.tup [])))
 (AV.toI (List.getD qs (0 + Int.toNat i * 4 + 1 + 1 + 1) (AV.tup [])))
 false now ≥
 reqEnd L C T R F W U (AV.toI (List.getD qs (0 + Int.toNat i * 4) (AV.tup [])))
 (AV.toI (List.getD qs (0 + Int.toNat i * 4 + 1) (AV.tup [])))
 (AV.toI (List.getD qs (0 + Int.toNat i * 4 + 1 + 1) (AV.tup [])))
 (AV.toI (List.getD qs (0 + Int.toNat i * 4 + 1 + 1 + 1) (AV.tup [])))
 false now)) = false ∧
 ((!decide
 (reqAt L C T R F W U (AV.toI (List.getD qs (0 + Int.toNat i * 4) (AV.tup [])))
 (AV.toI (List.getD qs (0 + Int.toNat i * 4 + 1) (AV.tup [])))
 (AV.toI (List.getD qs (0 + Int.toNat i * 4 + 1 + 1) (AV.tup [])))
 (AV.toI (List.getD qs (0 + Int.toNat i * 4 + 1 + 1 + 1) (AV.tup [])))
 false now ≥
 reqEnd L C T R F W U (AV.toI (List.getD qs (0 + Int.toNat i * 4) (AV.tup [])))
 (AV.toI (List.getD qs (0 + Int.toNat i * 4 + 1) (AV.tup [])))
 (AV.toI (List.getD qs (0 + Int.toNat i * 4 + 1 + 1) (AV.tup [])))
 (AV.toI (List.getD qs (0 + Int.toNat i * 4 + 1 + 1 + 1) (AV.tup [])))
 false now)) = false ∧
 ((!decide
 (reqAt L C T R F W U (AV.toI (List.getD qs (0 + Int.toNat i * 4) (AV.tup [])))
 (AV.toI (List.getD qs (0 + Int.toNat i * 4 + 1) (AV.tup [])))
 (AV.toI (List.getD qs (0 + Int.toNat i * 4 + 1 + 1) (AV.tup [])))
 (AV.toI (List.getD qs (0 + Int.toNat i * 4 + 1 + 1 + 1) (AV.tup [])))
 false now ≥
 reqEnd L C T R F W U (AV.toI (List.getD qs (0 + Int.toNat i * 4) (AV.tup [])))
 (AV.toI (List.getD qs (0 + Int.toNat i * 4 + 1) (AV.tup [])))
 (AV.toI (List.getD qs (0 + Int.toNat i * 4 + 1 + 1) (AV.tup [])))
 (AV.toI (List.getD qs (0 + Int.toNat i * 4 + 1 + 1 + 1) (AV.tup [])))
 false now)) = false ∧
 ((!decide
 (reqAt L C T R F W U (AV.toI (List.getD qs (0 + Int.toNat i * 4) (AV.tup [])))
 (AV.toI (List.getD qs (0 + Int.toNat i * 4 + 1) (AV.tup [])))
 (AV.toI (List.getD qs (0 + Int.toNat i * 4 + 1 + 1) (AV.tup [])))
 (AV.toI (List.getD qs (0 + Int.toNat i * 4 + 1 + 1 + 1) (AV.tup [])))
 false now ≥
 reqEnd L C T R F W U (AV.toI (List.getD qs (0 + Int.toNat i * 4) (AV.tup [])))
 (AV.toI (List.getD qs (0 + Int.toNat i * 4 + 1) (AV.tup [])))
 (AV.toI (List.getD qs (0 + Int.toNat i * 4 + 1 + 1) (AV.tup [])))
 (AV.toI (List.getD qs (0 + Int.toNat i * 4 + 1 + 1 + 1) (AV.tup [])))
 false now)) = false ∧
 ((!decide
 (reqAt L C T R F W U (AV.toI (List.getD qs (0 + Int.toNat i * 4) (AV.tup [])))
 (AV.toI (List.getD qs (0 + Int.toNat i * 4 + 1) (AV.tup [])))
 (AV.toI (List.getD qs (0 + Int.toNat i * 4 + 1 + 1) (AV.tup [])))
 (AV.toI (List.getD qs (0 + Int.toNat i * 4 + 1 + 1 + 1) (AV.tup [])))
 false now ≥
 reqEnd L C T R F W U (AV.toI (List.getD qs (0 + Int.toNat i * 4) (AV.tup [])))
 (AV.toI (List.getD qs (0 + Int.toNat i * 4 + 1) (AV.tup [])))
 (AV.toI (List.getD qs (0 + Int.toNat i * 4 + 1 + 1) (AV.tup [])))
 (AV.toI (List.getD qs (0 + Int.toNat i * 4 + 1 + 1 + 1) (AV.tup [])))
 false now)) = false ∧
 ((!decide
 (reqAt L C T R F W U (AV.toI (List.getD qs (0 + Int.toNat i * 4) (AV.tup [])))
 (AV.toI (List.getD qs (0 + Int.toNat i * 4 + 1) (AV.tup [])))
 (AV.toI (List.getD qs (0 + Int.toNat i * 4 + 1 + 1) (AV.tup [])))
 (AV.toI (List.getD qs (0 + Int.toNat i * 4 + 1 + 1 + 1) (AV.tup [])))
 false now ≥
 reqEnd L C T R F W U (AV.toI (List.getD qs (0 + Int.toNat i * 4) (AV.tup [])))
 (AV.toI (List.getD qs (0 + Int.toNat i * 4 + 1) (AV.tup [])))
 (AV.toI (List.getD qs (0 + Int.toNat i * 4 + 1 + 1) (AV.tup [])))
 (AV.toI (List.getD qs (0 + Int.toNat i * 4 + 1 + 1 + 1) (AV.tup [])))
 false now)) = false ∧
 ((decide
 (reqAt L C T R F W U (AV.toI (List.getD qs (0 + Int.toNat i * 4) (AV.tup [])))
 (AV.toI (List.getD qs (0 + Int.toNat i * 4 + 1) (AV.tup [])))
 (AV.toI (List.getD qs (0 + Int.toNat i * 4 + 1 + 1) (AV.tup [])))
 (AV.toI (List.getD qs (0 + Int.toNat i * 4 + 1 + 1 + 1) (AV.tup [])))
 false now ≥
 reqEnd L C T R F W U (AV.toI (List.getD qs (0 + Int.toNat i * 4) (AV.tup [])))
 (AV.toI (List.getD qs (0 + Int.toNat i * 4 + 1) (AV.tup [])))
 (AV.toI (List.getD qs (0 + Int.toNat i * 4 + 1 + 1) (AV.tup [])))
 (AV.toI (List.getD qs (0 + Int.toNat i * 4 + 1 + 1 + 1) (AV.tup [])))
 false now)) = true ∧
 (Q Exit.ret 208
 [some (AV.slice 0 0 n (some c)), some (AV.slice 1 0 m (some cm)),
 some (AV.ptr 2 0), some (AV.slice 3 0 n none), some (AV.int IntKind.i64 e),
 some (AV.int IntKind.i64 now), some (AV.int IntKind.i64 i)]
 { nx := 4, m :=
 [(3, AObj.opn 2 1 (encI IntKind.i64 acc)),
 (2,
 AObj.cells 23
 [AV.int IntKind.i64 L, AV.int IntKind.i64 C, AV.int IntKind.i64 T, AV.int IntKind.i64 R,
 AV.int IntKind.i64 F, AV.int IntKind.i64 W, AV.int IntKind.i64 U]),
 (1, AObj.ro bs), (0, AObj.ro qs)] })))))))))))))) ∧
 ((!decide
 (reqAt L C T R F W U (AV.toI (List.getD qs (0 + Int.toNat i * 4) (AV.tup [])))
 (AV.toI (List.getD qs (0 + Int.toNat i * 4 + 1) (AV.tup [])))
 (AV.toI (List.getD qs (0 + Int.toNat i * 4 + 1 + 1) (AV.tup [])))
 (AV.toI (List.getD qs (0 + Int.toNat i * 4 + 1 + 1 + 1) (AV.tup [])))
 false now <
 now)) = false →
 (!decide
 (reqAt L C T R F W U (AV.toI (List.getD qs (0 + Int.toNat i * 4) (AV.tup [])))
 (AV.toI (List.getD qs (0 + Int.toNat i * 4 + 1) (AV.tup [])))
 (AV.toI (List.getD qs (0 + Int.toNat i * 4 + 1 + 1) (AV.tup [])))
 (AV.toI (List.getD qs (0 + Int.toNat i * 4 + 1 + 1 + 1) (AV.tup [])))
 false now <
 now)) = false ∧
 ((!decide
 (reqAt L C T R F W U (AV.toI (List.getD qs (0 + Int.toNat i * 4) (AV.tup [])))
 (AV.toI (List.getD qs (0 + Int.toNat i * 4 + 1) (AV.tup [])))
 (AV.toI (List.getD qs (0 + Int.toNat i * 4 + 1 + 1) (AV.tup [])))
 (AV.toI (List.getD qs (0 + Int.toNat i * 4 + 1 + 1 + 1) (AV.tup [])))
 false now <
 now)) = false ∧
 ((decide
 (reqAt L C T R F W U (AV.toI (List.getD qs (0 + Int.toNat i * 4) (AV.tup [])))
 (AV.toI (List.getD qs (0 + Int.toNat i * 4 + 1) (AV.tup [])))
 (AV.toI (List.getD qs (0 + Int.toNat i * 4 + 1 + 1) (AV.tup [])))
 (AV.toI (List.getD qs (0 + Int.toNat i * 4 + 1 + 1 + 1) (AV.tup [])))
 false now <
 now)) = true ∧
 (Q Exit.ret 208
 [some (AV.slice 0 0 n (some c)), some (AV.slice 1 0 m (some cm)),
 some (AV.ptr 2 0), some (AV.slice 3 0 n none), some (AV.int IntKind.i64 e),
 some (AV.int IntKind.i64 now), some (AV.int IntKind.i64 i)]
 { nx := 4, m :=
 [(3, AObj.opn 2 1 (encI IntKind.i64 acc)),
 (2,
 AObj.cells 23
 [AV.int IntKind.i64 L, AV.int IntKind.i64 C, AV.int IntKind.i64 T, AV.int IntKind.i64 R,
 AV.int IntKind.i64 F, AV.int IntKind.i64 W, AV.int IntKind.i64 U]),
 (1, AObj.ro bs), (0, AObj.ro qs)] })))))))) ∧
 ((!!decide
 (reqAt L C T R F W U (AV.toI (List.getD qs (0 + Int.toNat i * 4) (AV.tup [])))
 (AV.toI (List.getD qs (0 + Int.toNat i * 4 + 1) (AV.tup [])))
 (AV.toI (List.getD qs (0 + Int.toNat i * 4 + 1 + 1) (AV.tup [])))
 (AV.toI (List.getD qs (0 + Int.toNat i * 4 + 1 + 1 + 1) (AV.tup [])))
 false now =
 AV.toI (List.getD (encI IntKind.i64 acc) (0 + Int.toNat i * 1) (AV.tup [])))) = false →
 (!!decide
 (reqAt L C T R F W U (AV.toI (List.getD qs (0 + Int.toNat i * 4) (AV.tup [])))
 (AV.toI (List.getD qs (0 + Int.toNat i * 4 + 1) (AV.tup [])))
 (AV.toI (List.getD qs (0 + Int.toNat i * 4 + 1 + 1) (AV.tup [])))
 (AV.toI (List.getD qs (0 + Int.toNat i * 4 + 1 + 1 + 1) (AV.tup [])))
 false now =
 AV.toI (List.getD (encI IntKind.i64 acc) (0 + Int.toNat i * 1) (AV.tup [])))) = false ∧
 ((!!decide
 (reqAt L C T R F W U (AV.toI (List.getD qs (0 + Int.toNat i * 4) (AV.tup [])))
 (AV.toI (List.getD qs (0 + Int.toNat i * 4 + 1) (AV.tup [])))
 (AV.toI (List.getD qs (0 + Int.toNat i * 4 + 1 + 1) (AV.tup [])))
 (AV.toI (List.getD qs (0 + Int.toNat i * 4 + 1 + 1 + 1) (AV.tup [])))
 false now =
 AV.toI (List.getD (encI IntKind.i64 acc) (0 + Int.toNat i * 1) (AV.tup [])))) = false ∧
 ((!decide
 (reqAt L C T R F W U (AV.toI (List.getD qs (0 + Int.toNat i * 4) (AV.tup [])))
 (AV.toI (List.getD qs (0 + Int.toNat i * 4 + 1) (AV.tup [])))
 (AV.toI (List.getD qs (0 + Int.toNat i * 4 + 1 + 1) (AV.tup [])))
 (AV.toI (List.getD qs (0 + Int.toNat i * 4 + 1 + 1 + 1) (AV.tup [])))
 false now =
 AV.toI (List.getD (encI IntKind.i64 acc) (0 + Int.toNat i * 1) (AV.tup [])))) = true ∧
 (Q Exit.ret 208
 [some (AV.slice 0 0 n (some c)), some (AV.slice 1 0 m (some cm)),
 some (AV.ptr 2 0), some (AV.slice 3 0 n none), some (AV.int IntKind.i64 e),
 some (AV.int IntKind.i64 now), some (AV.int IntKind.i64 i)]
 { nx := 4, m :=
 [(3, AObj.opn 2 1 (encI IntKind.i64 acc)),
 (2,
 AObj.cells 23
 [AV.int IntKind.i64 L, AV.int IntKind.i64 C, AV.int IntKind.i64 T, AV.int IntKind.i64 R,
 AV.int IntKind.i64 F, AV.int IntKind.i64 W, AV.int IntKind.i64 U]),
 (1, AObj.ro bs), (0, AObj.ro qs)] })))))))))))))) ∧
 ((!!decide
 (reqErr L C T R F W U (AV.toI (List.getD qs (0 + Int.toNat i * 4) (AV.tup [])))
 (AV.toI (List.getD qs (0 + Int.toNat i * 4 + 1) (AV.tup [])))
 (AV.toI (List.getD qs (0 + Int.toNat i * 4 + 1 + 1) (AV.tup [])))
 (AV.toI (List.getD qs (0 + Int.toNat i * 4 + 1 + 1 + 1) (AV.tup [])))
 now =
 (0 : Int))) = false →
 (!!decide
 (reqErr L C T R F W U (AV.toI (List.getD qs (0 + Int.toNat i * 4) (AV.tup [])))
 (AV.toI (List.getD qs (0 + Int.toNat i * 4 + 1) (AV.tup [])))
 (AV.toI (List.getD qs (0 + Int.toNat i * 4 + 1 + 1) (AV.tup [])))
 (AV.toI (List.getD qs (0 + Int.toNat i * 4 + 1 + 1 + 1) (AV.tup [])))
 now =
 (0 : Int))) = false ∧
 ((!!decide
 (reqErr L C T R F W U (AV.toI (List.getD qs (0 + Int.toNat i * 4) (AV.tup [])))
 (AV.toI (List.getD qs (0 + Int.toNat i * 4 + 1) (AV.tup [])))
 (AV.toI (List.getD qs (0 + Int.toNat i * 4 + 1 + 1) (AV.tup [])))
 (AV.toI (List.getD qs (0 + Int.toNat i * 4 + 1 + 1 + 1) (AV.tup [])))
 now =
 (0 : Int))) = false ∧
 ((!!decide
 (reqErr L C T R F W U (AV.toI (List.getD qs (0 + Int.toNat i * 4) (AV.tup [])))
 (AV.toI (List.getD qs (0 + Int.toNat i * 4 + 1) (AV.tup [])))
 (AV.toI (List.getD qs (0 + Int.toNat i * 4 + 1 + 1) (AV.tup [])))
 (AV.toI (List.getD qs (0 + Int.toNat i * 4 + 1 + 1 + 1) (AV.tup [])))
 now =
 (0 : Int))) = false ∧
 ((!!decide
 (reqErr L C T R F W U (AV.toI (List.getD qs (0 + Int.toNat i * 4) (AV.tup [])))
 (AV.toI (List.getD qs (0 + Int.toNat i * 4 + 1) (AV.tup [])))
 (AV.toI (List.getD qs (0 + Int.toNat i * 4 + 1 + 1) (AV.tup [])))
 (AV.toI (List.getD qs (0 + Int.toNat i * 4 + 1 + 1 + 1) (AV.tup [])))
 now =
 (0 : Int))) = false ∧
 ((!!decide
 (reqErr L C T R F W U (AV.toI (List.getD qs (0 + Int.toNat i * 4) (AV.tup [])))
 (AV.toI (List.getD qs (0 + Int.toNat i * 4 + 1) (AV.tup [])))
 (AV.toI (List.getD qs (0 + Int.toNat i * 4 + 1 + 1) (AV.tup [])))
 (AV.toI (List.getD qs (0 + Int.toNat i * 4 + 1 + 1 + 1) (AV.tup [])))
 now =
 (0 : Int))) = false ∧
 ((!decide
 (reqErr L C T R F W U (AV.toI (List.getD qs (0 + Int.toNat i * 4) (AV.tup [])))
 (AV.toI (List.getD qs (0 + Int.toNat i * 4 + 1) (AV.tup [])))
 (AV.toI (List.getD qs (0 + Int.toNat i * 4 + 1 + 1) (AV.tup [])))
 (AV.toI (List.getD qs (0 + Int.toNat i * 4 + 1 + 1 + 1) (AV.tup [])))
 now =
 (0 : Int))) = true ∧
 (Q Exit.ret 208
 [some (AV.slice 0 0 n (some c)), some (AV.slice 1 0 m (some cm)),
 some (AV.ptr 2 0), some (AV.slice 3 0 n none), some (AV.int IntKind.i64 e),
 some (AV.int IntKind.i64 now), some (AV.int IntKind.i64 i)]
 { nx := 4, m :=
 [(3, AObj.opn 2 1 (encI IntKind.i64 acc)),
 (2,
 AObj.cells 23
 [AV.int IntKind.i64 L, AV.int IntKind.i64 C, AV.int IntKind.i64 T, AV.int IntKind.i64 R,
 AV.int IntKind.i64 F, AV.int IntKind.i64 W, AV.int IntKind.i64 U]),
 (1, AObj.ro bs), (0, AObj.ro qs)] }))))))))))))))))))) ∧
 ((decide (i < (↑n : Int))) = false →
 Q (Exit.exit 2) 208
 [some (AV.slice 0 0 n (some c)), some (AV.slice 1 0 m (some cm)),
 some (AV.ptr 2 0), some (AV.slice 3 0 n none), some (AV.int IntKind.i64 e),
 some (AV.int IntKind.i64 now), some (AV.int IntKind.i64 i)]
 { nx := 4, m :=
 [(3, AObj.opn 2 1 (encI IntKind.i64 acc)),
 (2,
 AObj.cells 23
 [AV.int IntKind.i64 L, AV.int IntKind.i64 C, AV.int IntKind.i64 T, AV.int IntKind.i64 R,
 AV.int IntKind.i64 F, AV.int IntKind.i64 W, AV.int IntKind.i64 U]),
 (1, AObj.ro bs), (0, AObj.ro qs)] })
def cmS_scr : Plan := .b (.t (.t (.t (.t (.t (.t (.b (.t (.t (.t (.t (.t (.t (.t (.b (.t (.t (.t (.t (.t (.t (.t (.t (.f (.b (.t (.t (.f (.b (.t (.t (.f (.b (.t (.t (.t (.t (.t (.t (.t (.t (.t (.t (.t (.f (.b (.t (.t (.t (.t (.t (.t (.t (.t (.t (.t (.t (.t (.t (.t (.t (.t (.t (.t (.t (.t (.t (.t (.t (.t (.f (.b (.z) (.z))))))))))))))))))))))))))) (.f (.f (.f (.f (.f (.f (.f (.f (.f (.f (.f (.f (.f (.f (.f (.t (.z)))))))))))))))))))))))))))))) (.f (.f (.f (.f (.f (.f (.f (.f (.t (.z)))))))))))))) (.f (.f (.t (.z)))))))) (.f (.f (.t (.z)))))))))))))) (.f (.f (.f (.f (.f (.t (.z))))))))))))))) (.f (.f (.f (.f (.b (.t (.t (.t (.t (.t (.t (.t (.t (.f (.b (.t (.t (.f (.b (.t (.t (.f (.b (.t (.t (.t (.t (.t (.t (.t (.t (.t (.t (.t (.f (.b (.t (.t (.t (.t (.t (.t (.t (.t (.t (.t (.t (.t (.t (.t (.t (.t (.t (.t (.t (.t (.t (.t (.t (.t (.f (.b (.z) (.z))))))))))))))))))))))))))) (.f (.f (.f (.f (.f (.f (.f (.f (.f (.f (.f (.f (.f (.f (.f (.t (.z)))))))))))))))))))))))))))))) (.f (.f (.f (.f (.f (.f (.f (.f (.t (.z)))))))))))))) (.f (.f (.t (.z)))))))) (.f (.f (.t (.z)))))))))))))) (.f (.f (.f (.f (.f (.t (.z))))))))))))))))))) (.z)
theorem cmS_vc (L C T R F W U e now i : Int) (n c m cm : Nat) (qs bs : List AV) (acc : List Int) (N : NS) (Q : QS) (K : Unit) : (wpP XCo4 (symC Try.prog (bodyOf Try.prog 14) []) 2 (loopAt Try.prog 14 1) 2 (rndS [1, 2, 5, 12, 13, 22, 23] N Q) (cmT (.slice 1 0 m (some cm)) L C T R F W U e now i n c qs bs acc).1 (cmT (.slice 1 0 m (some cm)) L C T R F W U e now i n c qs bs acc).2 cmS_scr) = cmS_VC L C T R F W U e now i n c m cm qs bs acc N Q K := by kernel_rfl
end Go.Proofs.Ytnfelncgeihihaa.V
