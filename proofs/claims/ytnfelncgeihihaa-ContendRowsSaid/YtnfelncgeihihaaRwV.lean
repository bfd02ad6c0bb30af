/- contend: rows of requests (part 1): states. The slow ones' shape (nil, empty, there) is `sv`; block 1 always is there (the requests' own row again, where there are no slow ones). Printed by vc.py: what must hold for functions' ways (RwV). -/
import Derived.Test.YtnfelncgeihihaaCoD
import Derived.Test.YtnfelncgeihihaaV26
namespace Go.Proofs.Ytnfelncgeihihaa.V
open Go Go.Proofs
set_option maxRecDepth 100000
set_option linter.unusedSimpArgs false
set_option linter.unusedVariables false
abbrev rwH (L C T R F W U : Int) (qs bs : List AV) : List (Nat × AObj) := [(2, .cells 23 [.int .i64 L, .int .i64 C, .int .i64 T, .int .i64 R, .int .i64 F, .int .i64 W, .int .i64 U]), (1, .ro bs), (0, .ro qs)]
/-- A row's loop, once something is kept: at request i, so far ended at e. -/
def rwT (sv : AV) (L C T R F W U e i : Int) (n c k : Nat) (qs bs : List AV) (acc : List Int) : AF × AH :=
 (⟨50, [(2, sv), (4, .ptr 2 0), (8, .slice 3 0 k none), (9, .int .i64 e), (15, .slice 0 0 n (some c)), (16, .int .i64 n), (17, .int .i64 i)]⟩,
 ⟨4, (3, .opn 2 1 (encI .i64 acc)) :: rwH L C T R F W U qs bs⟩)
/-- The same, as long as nothing is kept. -/
def rwT0 (sv : AV) (L C T R F W U e : Int) (n c : Nat) (qs bs : List AV) : AF × AH :=
 (⟨50, [(2, sv), (4, .ptr 2 0), (8, .nilslice), (9, .int .i64 e), (15, .slice 0 0 n (some c)), (16, .int .i64 n), (17, .int .i64 0)]⟩, ⟨3, rwH L C T R F W U qs bs⟩)
end Go.Proofs.Ytnfelncgeihihaa.V
namespace Go.Proofs.Ytnfelncgeihihaa.V
open Go Go.Proofs
set_option maxRecDepth 100000
set_option linter.unusedVariables false
def rwRN_VC (L C T R F W U e i : Int) (n c k : Nat) (qs bs : List AV) (acc : List Int) (N : NS) (Q : QS) (K : Unit) : Prop :=
 ((decide (i < (↑n : Int))) = true →
 (decide ((0 : Int) ≤ i ∧ i < (↑n : Int))) = true ∧
 ((decide (0 + Int.toNat i * 4 + 4 ≤ List.length qs)) = true ∧
 ((AV.isI IntKind.i64 (List.getD qs (0 + Int.toNat i * 4) (AV.tup []))) = true ∧
 ((AV.isI IntKind.u16 (List.getD qs (0 + Int.toNat i * 4 + 1) (AV.tup []))) = true ∧
 ((AV.isI IntKind.u8 (List.getD qs (0 + Int.toNat i * 4 + 1 + 1) (AV.tup []))) = true ∧
 ((AV.isI IntKind.i64 (List.getD qs (0 + Int.toNat i * 4 + 1 + 1 + 1) (AV.tup []))) = true ∧
 (((decide (i < (0 : Int))) = true →
 (decide (i < (0 : Int))) = true ∧
 ((decide (i < (0 : Int))) = true ∧
 (False))) ∧
 ((decide (i < (0 : Int))) = false →
 (decide (i < (0 : Int))) = false ∧
 ((decide (i < (0 : Int))) = false ∧
 ((decide (i < (0 : Int))) = false ∧
 ((decide (i < (0 : Int))) = false ∧
 (((!decide
 (reqErr L C T R F W U (AV.toI (List.getD qs (0 + Int.toNat i * 4) (AV.tup [])))
 (AV.toI (List.getD qs (0 + Int.toNat i * 4 + 1) (AV.tup [])))
 (AV.toI (List.getD qs (0 + Int.toNat i * 4 + 1 + 1) (AV.tup [])))
 (AV.toI (List.getD qs (0 + Int.toNat i * 4 + 1 + 1 + 1) (AV.tup [])))
 e =
 (0 : Int))) = true →
 Q Exit.ret 50
 [some AV.nilslice, some (AV.ptr 2 0), some AV.nilslice, some (AV.int IntKind.i64 (0 : Int)),
 some
 (AV.int IntKind.i64
 (reqErr L C T R F W U (AV.toI (List.getD qs (0 + Int.toNat i * 4) (AV.tup [])))
 (AV.toI (List.getD qs (0 + Int.toNat i * 4 + 1) (AV.tup [])))
 (AV.toI (List.getD qs (0 + Int.toNat i * 4 + 1 + 1) (AV.tup [])))
 (AV.toI (List.getD qs (0 + Int.toNat i * 4 + 1 + 1 + 1) (AV.tup [])))
 e)),
 some (AV.slice 0 0 n (some c)), some (AV.int IntKind.i64 (↑n : Int)), some (AV.int IntKind.i64 i)]
 { nx := 5, m :=
 [(4,
 AObj.cells 58
 [AV.int IntKind.i64 (AV.toI (List.getD qs (0 + Int.toNat i * 4) (AV.tup []))),
 AV.int IntKind.u16 (AV.toI (List.getD qs (0 + Int.toNat i * 4 + 1) (AV.tup []))),
 AV.int IntKind.u8
 (AV.toI (List.getD qs (0 + Int.toNat i * 4 + 1 + 1) (AV.tup []))),
 AV.int IntKind.i64
 (AV.toI
 (List.getD qs (0 + Int.toNat i * 4 + 1 + 1 + 1)
 (AV.tup [])))]),
 (3, AObj.opn 2 1 (encI IntKind.i64 acc)),
 (2,
 AObj.cells 23
 [AV.int IntKind.i64 L, AV.int IntKind.i64 C, AV.int IntKind.i64 T, AV.int IntKind.i64 R,
 AV.int IntKind.i64 F, AV.int IntKind.i64 W, AV.int IntKind.i64 U]),
 (1, AObj.ro bs), (0, AObj.ro qs)] }) ∧
 ((!decide
 (reqErr L C T R F W U (AV.toI (List.getD qs (0 + Int.toNat i * 4) (AV.tup [])))
 (AV.toI (List.getD qs (0 + Int.toNat i * 4 + 1) (AV.tup [])))
 (AV.toI (List.getD qs (0 + Int.toNat i * 4 + 1 + 1) (AV.tup [])))
 (AV.toI (List.getD qs (0 + Int.toNat i * 4 + 1 + 1 + 1) (AV.tup [])))
 e =
 (0 : Int))) = false →
 (decide (0 < k)) = true ∧
 ((decide (k * 1 = List.length (encI IntKind.i64 acc))) = true ∧
 ((decide ((k + 1) * 8 ≤ 140737488355328)) = true ∧
 ((decide (k + 1 ≤ 140737488355328)) = true ∧
 (N 50
 [some AV.nilslice, some (AV.ptr 2 0), some (AV.slice 6 0 (k + 1) none),
 some
 (AV.int IntKind.i64
 (reqEnd L C T R F W U (AV.toI (List.getD qs (0 + Int.toNat i * 4) (AV.tup [])))
 (AV.toI (List.getD qs (0 + Int.toNat i * 4 + 1) (AV.tup [])))
 (AV.toI (List.getD qs (0 + Int.toNat i * 4 + 1 + 1) (AV.tup [])))
 (AV.toI (List.getD qs (0 + Int.toNat i * 4 + 1 + 1 + 1) (AV.tup [])))
 false e)),
 some
 (AV.int IntKind.i64
 (reqErr L C T R F W U (AV.toI (List.getD qs (0 + Int.toNat i * 4) (AV.tup [])))
 (AV.toI (List.getD qs (0 + Int.toNat i * 4 + 1) (AV.tup [])))
 (AV.toI (List.getD qs (0 + Int.toNat i * 4 + 1 + 1) (AV.tup [])))
 (AV.toI (List.getD qs (0 + Int.toNat i * 4 + 1 + 1 + 1) (AV.tup [])))
 e)),
 some (AV.slice 0 0 n (some c)), some (AV.int IntKind.i64 (↑n : Int)),
 some (AV.int IntKind.i64 (IntKind.wrap IntKind.i64 (i + (1 : Int))))]
 { nx := 7, m :=
 [(6,
 AObj.opn 2 1
 (encI IntKind.i64 acc ++
 [AV.int IntKind.i64
 (reqAt L C T R F W U (AV.toI (List.getD qs (0 + Int.toNat i * 4) (AV.tup [])))
 (AV.toI (List.getD qs (0 + Int.toNat i * 4 + 1) (AV.tup [])))
 (AV.toI (List.getD qs (0 + Int.toNat i * 4 + 1 + 1) (AV.tup [])))
 (AV.toI
 (List.getD qs (0 + Int.toNat i * 4 + 1 + 1 + 1)
 (AV.tup [])))
 false e)])),
 (5,
 AObj.cells 2
 [AV.int IntKind.i64
 (reqAt L C T R F W U (AV.toI (List.getD qs (0 + Int.toNat i * 4) (AV.tup [])))
 (AV.toI (List.getD qs (0 + Int.toNat i * 4 + 1) (AV.tup [])))
 (AV.toI (List.getD qs (0 + Int.toNat i * 4 + 1 + 1) (AV.tup [])))
 (AV.toI
 (List.getD qs (0 + Int.toNat i * 4 + 1 + 1 + 1)
 (AV.tup [])))
 false e)]),
 (4,
 AObj.cells 58
 [AV.int IntKind.i64 (AV.toI (List.getD qs (0 + Int.toNat i * 4) (AV.tup []))),
 AV.int IntKind.u16 (AV.toI (List.getD qs (0 + Int.toNat i * 4 + 1) (AV.tup []))),
 AV.int IntKind.u8
 (AV.toI (List.getD qs (0 + Int.toNat i * 4 + 1 + 1) (AV.tup []))),
 AV.int IntKind.i64
 (AV.toI
 (List.getD qs (0 + Int.toNat i * 4 + 1 + 1 + 1)
 (AV.tup [])))]),
 (3, AObj.dead),
 (2,
 AObj.cells 23
 [AV.int IntKind.i64 L, AV.int IntKind.i64 C, AV.int IntKind.i64 T, AV.int IntKind.i64 R,
 AV.int IntKind.i64 F, AV.int IntKind.i64 W, AV.int IntKind.i64 U]),
 (1, AObj.ro bs), (0, AObj.ro qs)] }))))))))))))))))) ∧
 ((decide (i < (↑n : Int))) = false →
 Q (Exit.exit 0) 50
 [some AV.nilslice, some (AV.ptr 2 0), some (AV.slice 3 0 k none),
 some (AV.int IntKind.i64 e), none, some (AV.slice 0 0 n (some c)),
 some (AV.int IntKind.i64 (↑n : Int)), some (AV.int IntKind.i64 i)]
 { nx := 4, m :=
 [(3, AObj.opn 2 1 (encI IntKind.i64 acc)),
 (2,
 AObj.cells 23
 [AV.int IntKind.i64 L, AV.int IntKind.i64 C, AV.int IntKind.i64 T, AV.int IntKind.i64 R,
 AV.int IntKind.i64 F, AV.int IntKind.i64 W, AV.int IntKind.i64 U]),
 (1, AObj.ro bs), (0, AObj.ro qs)] })
def rwRN_scr : Plan := .b (.t (.t (.t (.t (.t (.t (.b (.t (.t (.z))) (.f (.f (.f (.f (.b (.z) (.t (.t (.t (.t (.z))))))))))))))))) (.z)
theorem rwRN_vc (L C T R F W U e i : Int) (n c k : Nat) (qs bs : List AV) (acc : List Int) (N : NS) (Q : QS) (K : Unit) : (wpP XCo3 (symC Try.prog (bodyOf Try.prog 45) []) 2 (loopAt Try.prog 45 0) 0 (rndS [2, 4, 8, 9, 10, 15, 16, 17] N Q) (rwT .nilslice L C T R F W U e i n c k qs bs acc).1 (rwT .nilslice L C T R F W U e i n c k qs bs acc).2 rwRN_scr) = rwRN_VC L C T R F W U e i n c k qs bs acc N Q K := by kernel_rfl
def rwFN_VC (L C T R F W U e : Int) (n c : Nat) (qs bs : List AV) (N : NS) (Q : QS) (K : Unit) : Prop :=
 ((decide ((0 : Int) < (↑n : Int))) = true →
 (decide ((0 : Int) ≤ (0 : Int) ∧ (0 : Int) < (↑n : Int))) = true ∧
 ((decide (4 ≤ List.length qs)) = true ∧
 ((AV.isI IntKind.i64 (List.getD qs 0 (AV.tup []))) = true ∧
 ((AV.isI IntKind.u16 (List.getD qs 1 (AV.tup []))) = true ∧
 ((AV.isI IntKind.u8 (List.getD qs 2 (AV.tup []))) = true ∧
 ((AV.isI IntKind.i64 (List.getD qs 3 (AV.tup []))) = true ∧
 (((!decide
 (reqErr L C T R F W U (AV.toI (List.getD qs 0 (AV.tup []))) (AV.toI (List.getD qs 1 (AV.tup [])))
 (AV.toI (List.getD qs 2 (AV.tup []))) (AV.toI (List.getD qs 3 (AV.tup []))) e =
 (0 : Int))) = true →
 Q Exit.ret 50
 [some AV.nilslice, some (AV.ptr 2 0), some AV.nilslice, some (AV.int IntKind.i64 (0 : Int)),
 some
 (AV.int IntKind.i64
 (reqErr L C T R F W U (AV.toI (List.getD qs 0 (AV.tup [])))
 (AV.toI (List.getD qs 1 (AV.tup []))) (AV.toI (List.getD qs 2 (AV.tup [])))
 (AV.toI (List.getD qs 3 (AV.tup []))) e)),
 some (AV.slice 0 0 n (some c)), some (AV.int IntKind.i64 (↑n : Int)),
 some (AV.int IntKind.i64 (0 : Int))]
 { nx := 4, m :=
 [(3,
 AObj.cells 58
 [AV.int IntKind.i64 (AV.toI (List.getD qs 0 (AV.tup []))),
 AV.int IntKind.u16 (AV.toI (List.getD qs 1 (AV.tup []))),
 AV.int IntKind.u8 (AV.toI (List.getD qs 2 (AV.tup []))),
 AV.int IntKind.i64 (AV.toI (List.getD qs 3 (AV.tup [])))]),
 (2,
 AObj.cells 23
 [AV.int IntKind.i64 L, AV.int IntKind.i64 C, AV.int IntKind.i64 T, AV.int IntKind.i64 R,
 AV.int IntKind.i64 F, AV.int IntKind.i64 W, AV.int IntKind.i64 U]),
 (1, AObj.ro bs), (0, AObj.ro qs)] }) ∧
 ((!decide
 (reqErr L C T R F W U (AV.toI (List.getD qs 0 (AV.tup []))) (AV.toI (List.getD qs 1 (AV.tup [])))
 (AV.toI (List.getD qs 2 (AV.tup []))) (AV.toI (List.getD qs 3 (AV.tup []))) e =
 (0 : Int))) = false →
 N 50
 [some AV.nilslice, some (AV.ptr 2 0), some (AV.slice 5 0 1 none),
 some
 (AV.int IntKind.i64
 (reqEnd L C T R F W U (AV.toI (List.getD qs 0 (AV.tup [])))
 (AV.toI (List.getD qs 1 (AV.tup []))) (AV.toI (List.getD qs 2 (AV.tup [])))
 (AV.toI (List.getD qs 3 (AV.tup []))) false e)),
 some
 (AV.int IntKind.i64
 (reqErr L C T R F W U (AV.toI (List.getD qs 0 (AV.tup [])))
 (AV.toI (List.getD qs 1 (AV.tup []))) (AV.toI (List.getD qs 2 (AV.tup [])))
 (AV.toI (List.getD qs 3 (AV.tup []))) e)),
 some (AV.slice 0 0 n (some c)), some (AV.int IntKind.i64 (↑n : Int)),
 some (AV.int IntKind.i64 (1 : Int))]
 { nx := 6, m :=
 [(5,
 AObj.opn 2 1
 [AV.int IntKind.i64
 (reqAt L C T R F W U (AV.toI (List.getD qs 0 (AV.tup [])))
 (AV.toI (List.getD qs 1 (AV.tup []))) (AV.toI (List.getD qs 2 (AV.tup [])))
 (AV.toI (List.getD qs 3 (AV.tup []))) false e)]),
 (4,
 AObj.cells 2
 [AV.int IntKind.i64
 (reqAt L C T R F W U (AV.toI (List.getD qs 0 (AV.tup [])))
 (AV.toI (List.getD qs 1 (AV.tup []))) (AV.toI (List.getD qs 2 (AV.tup [])))
 (AV.toI (List.getD qs 3 (AV.tup []))) false e)]),
 (3,
 AObj.cells 58
 [AV.int IntKind.i64 (AV.toI (List.getD qs 0 (AV.tup []))),
 AV.int IntKind.u16 (AV.toI (List.getD qs 1 (AV.tup []))),
 AV.int IntKind.u8 (AV.toI (List.getD qs 2 (AV.tup []))),
 AV.int IntKind.i64 (AV.toI (List.getD qs 3 (AV.tup [])))]),
 (2,
 AObj.cells 23
 [AV.int IntKind.i64 L, AV.int IntKind.i64 C, AV.int IntKind.i64 T, AV.int IntKind.i64 R,
 AV.int IntKind.i64 F, AV.int IntKind.i64 W, AV.int IntKind.i64 U]),
 (1, AObj.ro bs), (0, AObj.ro qs)] })))))))) ∧
 ((decide ((0 : Int) < (↑n : Int))) = false →
 Q (Exit.exit 0) 50
 [some AV.nilslice, some (AV.ptr 2 0), some AV.nilslice, some (AV.int IntKind.i64 e), none,
 some (AV.slice 0 0 n (some c)), some (AV.int IntKind.i64 (↑n : Int)),
 some (AV.int IntKind.i64 (0 : Int))]
 { nx := 3, m :=
 [(2,
 AObj.cells 23
 [AV.int IntKind.i64 L, AV.int IntKind.i64 C, AV.int IntKind.i64 T, AV.int IntKind.i64 R,
 AV.int IntKind.i64 F, AV.int IntKind.i64 W, AV.int IntKind.i64 U]),
 (1, AObj.ro bs), (0, AObj.ro qs)] })
def rwFN_scr : Plan := .b (.t (.t (.t (.t (.t (.t (.k (.k (.k (.k (.k (.b (.z) (.z))))))))))))) (.z)
theorem rwFN_vc (L C T R F W U e : Int) (n c : Nat) (qs bs : List AV) (N : NS) (Q : QS) (K : Unit) : (wpP XCo3 (symC Try.prog (bodyOf Try.prog 45) []) 2 (loopAt Try.prog 45 0) 0 (rndS [2, 4, 8, 9, 10, 15, 16, 17] N Q) (rwT0 .nilslice L C T R F W U e n c qs bs).1 (rwT0 .nilslice L C T R F W U e n c qs bs).2 rwFN_scr) = rwFN_VC L C T R F W U e n c qs bs N Q K := by kernel_rfl
def rwRE_VC (L C T R F W U e i : Int) (n c k : Nat) (qs bs : List AV) (acc : List Int) (N : NS) (Q : QS) (K : Unit) : Prop :=
 ((decide (i < (↑n : Int))) = true →
 (decide ((0 : Int) ≤ i ∧ i < (↑n : Int))) = true ∧
 ((decide (0 + Int.toNat i * 4 + 4 ≤ List.length qs)) = true ∧
 ((AV.isI IntKind.i64 (List.getD qs (0 + Int.toNat i * 4) (AV.tup []))) = true ∧
 ((AV.isI IntKind.u16 (List.getD qs (0 + Int.toNat i * 4 + 1) (AV.tup []))) = true ∧
 ((AV.isI IntKind.u8 (List.getD qs (0 + Int.toNat i * 4 + 1 + 1) (AV.tup []))) = true ∧
 ((AV.isI IntKind.i64 (List.getD qs (0 + Int.toNat i * 4 + 1 + 1 + 1) (AV.tup []))) = true ∧
 (((decide (i < (0 : Int))) = true →
 (decide (i < (0 : Int))) = true ∧
 ((decide (i < (0 : Int))) = true ∧
 ((decide ((0 : Int) ≤ i ∧ i < (0 : Int))) = true ∧
 ((decide (i < (0 : Int))) = true ∧
 ((decide (0 + Int.toNat i * 1 < List.length bs)) = true ∧
 ((AV.isB (List.getD bs (0 + Int.toNat i * 1) (AV.tup []))) = true ∧
 ((decide (i < (0 : Int))) = true ∧
 (((!decide
 (reqErr L C T R F W U (AV.toI (List.getD qs (0 + Int.toNat i * 4) (AV.tup [])))
 (AV.toI (List.getD qs (0 + Int.toNat i * 4 + 1) (AV.tup [])))
 (AV.toI (List.getD qs (0 + Int.toNat i * 4 + 1 + 1) (AV.tup [])))
 (AV.toI (List.getD qs (0 + Int.toNat i * 4 + 1 + 1 + 1) (AV.tup [])))
 e =
 (0 : Int))) = true →
 Q Exit.ret 50
 [some (AV.slice 1 0 0 none), some (AV.ptr 2 0), some AV.nilslice,
 some (AV.int IntKind.i64 (0 : Int)),
 some
 (AV.int IntKind.i64
 (reqErr L C T R F W U (AV.toI (List.getD qs (0 + Int.toNat i * 4) (AV.tup [])))
 (AV.toI (List.getD qs (0 + Int.toNat i * 4 + 1) (AV.tup [])))
 (AV.toI (List.getD qs (0 + Int.toNat i * 4 + 1 + 1) (AV.tup [])))
 (AV.toI (List.getD qs (0 + Int.toNat i * 4 + 1 + 1 + 1) (AV.tup [])))
 e)),
 some (AV.slice 0 0 n (some c)), some (AV.int IntKind.i64 (↑n : Int)), some (AV.int IntKind.i64 i)]
 { nx := 5, m :=
 [(4,
 AObj.cells 58
 [AV.int IntKind.i64 (AV.toI (List.getD qs (0 + Int.toNat i * 4) (AV.tup []))),
 AV.int IntKind.u16 (AV.toI (List.getD qs (0 + Int.toNat i * 4 + 1) (AV.tup []))),
 AV.int IntKind.u8
 (AV.toI (List.getD qs (0 + Int.toNat i * 4 + 1 + 1) (AV.tup []))),
 AV.int IntKind.i64
 (AV.toI
 (List.getD qs (0 + Int.toNat i * 4 + 1 + 1 + 1)
 (AV.tup [])))]),
 (3, AObj.opn 2 1 (encI IntKind.i64 acc)),
 (2,
 AObj.cells 23
 [AV.int IntKind.i64 L, AV.int IntKind.i64 C, AV.int IntKind.i64 T, AV.int IntKind.i64 R,
 AV.int IntKind.i64 F, AV.int IntKind.i64 W, AV.int IntKind.i64 U]),
 (1, AObj.ro bs), (0, AObj.ro qs)] }) ∧
 ((!decide
 (reqErr L C T R F W U (AV.toI (List.getD qs (0 + Int.toNat i * 4) (AV.tup [])))
 (AV.toI (List.getD qs (0 + Int.toNat i * 4 + 1) (AV.tup [])))
 (AV.toI (List.getD qs (0 + Int.toNat i * 4 + 1 + 1) (AV.tup [])))
 (AV.toI (List.getD qs (0 + Int.toNat i * 4 + 1 + 1 + 1) (AV.tup [])))
 e =
 (0 : Int))) = false →
 (decide (0 < k)) = true ∧
 ((decide (k * 1 = List.length (encI IntKind.i64 acc))) = true ∧
 ((decide ((k + 1) * 8 ≤ 140737488355328)) = true ∧
 ((decide (k + 1 ≤ 140737488355328)) = true ∧
 (N 50
 [some (AV.slice 1 0 0 none), some (AV.ptr 2 0),
 some (AV.slice 6 0 (k + 1) none),
 some
 (AV.int IntKind.i64
 (reqEnd L C T R F W U (AV.toI (List.getD qs (0 + Int.toNat i * 4) (AV.tup [])))
 (AV.toI (List.getD qs (0 + Int.toNat i * 4 + 1) (AV.tup [])))
 (AV.toI (List.getD qs (0 + Int.toNat i * 4 + 1 + 1) (AV.tup [])))
 (AV.toI (List.getD qs (0 + Int.toNat i * 4 + 1 + 1 + 1) (AV.tup [])))
 (AV.toB (List.getD bs (0 + Int.toNat i * 1) (AV.tup []))) e)),
 some
 (AV.int IntKind.i64
 (reqErr L C T R F W U (AV.toI (List.getD qs (0 + Int.toNat i * 4) (AV.tup [])))
 (AV.toI (List.getD qs (0 + Int.toNat i * 4 + 1) (AV.tup [])))
 (AV.toI (List.getD qs (0 + Int.toNat i * 4 + 1 + 1) (AV.tup [])))
 (AV.toI (List.getD qs (0 + Int.toNat i * 4 + 1 + 1 + 1) (AV.tup [])))
 e)),
 some (AV.slice 0 0 n (some c)), some (AV.int IntKind.i64 (↑n : Int)),
 some (AV.int IntKind.i64 (IntKind.wrap IntKind.i64 (i + (1 : Int))))]
 { nx := 7, m :=
 [(6,
 AObj.opn 2 1
 (encI IntKind.i64 acc ++
 [AV.int IntKind.i64
 (reqAt L C T R F W U (AV.toI (List.getD qs (0 + Int.toNat i * 4) (AV.tup [])))
 (AV.toI (List.getD qs (0 + Int.toNat i * 4 + 1) (AV.tup [])))
 (AV.toI (List.getD qs (0 + Int.toNat i * 4 + 1 + 1) (AV.tup [])))
 (AV.toI
 (List.getD qs (0 + Int.toNat i * 4 + 1 + 1 + 1)
 (AV.tup [])))
 (AV.toB (List.getD bs (0 + Int.toNat i * 1) (AV.tup []))) e)])),
 (5,
 AObj.cells 2
 [AV.int IntKind.i64
 (reqAt L C T R F W U (AV.toI (List.getD qs (0 + Int.toNat i * 4) (AV.tup [])))
 (AV.toI (List.getD qs (0 + Int.toNat i * 4 + 1) (AV.tup [])))
 (AV.toI (List.getD qs (0 + Int.toNat i * 4 + 1 + 1) (AV.tup [])))
 (AV.toI
 (List.getD qs (0 + Int.toNat i * 4 + 1 + 1 + 1)
 (AV.tup [])))
 (AV.toB (List.getD bs (0 + Int.toNat i * 1) (AV.tup []))) e)]),
 (4,
 AObj.cells 58
 [AV.int IntKind.i64 (AV.toI (List.getD qs (0 + Int.toNat i * 4) (AV.tup []))),
 AV.int IntKind.u16 (AV.toI (List.getD qs (0 + Int.toNat i * 4 + 1) (AV.tup []))),
 AV.int IntKind.u8
 (AV.toI (List.getD qs (0 + Int.toNat i * 4 + 1 + 1) (AV.tup []))),
 AV.int IntKind.i64
 (AV.toI
 (List.getD qs (0 + Int.toNat i * 4 + 1 + 1 + 1)
 (AV.tup [])))]),
 (3, AObj.dead),
 (2,
 AObj.cells 23
 [AV.int IntKind.i64 L, AV.int IntKind.i64 C, AV.int IntKind.i64 T, AV.int IntKind.i64 R,
 AV.int IntKind.i64 F, AV.int IntKind.i64 W, AV.int IntKind.i64 U]),
 (1, AObj.ro bs), (0, AObj.ro qs)] }))))))))))))) ∧
 ((decide (i < (0 : Int))) = false →
 (decide (i < (0 : Int))) = false ∧
 ((decide (i < (0 : Int))) = false ∧
 ((decide (i < (0 : Int))) = false ∧
 ((decide (i < (0 : Int))) = false ∧
 (((!decide
 (reqErr L C T R F W U (AV.toI (List.getD qs (0 + Int.toNat i * 4) (AV.tup [])))
 (AV.toI (List.getD qs (0 + Int.toNat i * 4 + 1) (AV.tup [])))
 (AV.toI (List.getD qs (0 + Int.toNat i * 4 + 1 + 1) (AV.tup [])))
 (AV.toI (List.getD qs (0 + Int.toNat i * 4 + 1 + 1 + 1) (AV.tup [])))
 e =
 (0 : Int))) = true →
 Q Exit.ret 50
 [some (AV.slice 1 0 0 none), some (AV.ptr 2 0), some AV.nilslice,
 some (AV.int IntKind.i64 (0 : Int)),
 some
 (AV.int IntKind.i64
 (reqErr L C T R F W U (AV.toI (List.getD qs (0 + Int.toNat i * 4) (AV.tup [])))
 (AV.toI (List.getD qs (0 + Int.toNat i * 4 + 1) (AV.tup [])))
 (AV.toI (List.getD qs (0 + Int.toNat i * 4 + 1 + 1) (AV.tup [])))
 (AV.toI (List.getD qs (0 + Int.toNat i * 4 + 1 + 1 + 1) (AV.tup [])))
 e)),
 some (AV.slice 0 0 n (some c)), some (AV.int IntKind.i64 (↑n : Int)), some (AV.int IntKind.i64 i)]
 { nx := 5, m :=
 [(4,
 AObj.cells 58
 [AV.int IntKind.i64 (AV.toI (List.getD qs (0 + Int.toNat i * 4) (AV.tup []))),
 AV.int IntKind.u16 (AV.toI (List.getD qs (0 + Int.toNat i * 4 + 1) (AV.tup []))),
 AV.int IntKind.u8
 (AV.toI (List.getD qs (0 + Int.toNat i * 4 + 1 + 1) (AV.tup []))),
 AV.int IntKind.i64
 (AV.toI
 (List.getD qs (0 + Int.toNat i * 4 + 1 + 1 + 1)
 (AV.tup [])))]),
 (3, AObj.opn 2 1 (encI IntKind.i64 acc)),
 (2,
 AObj.cells 23
 [AV.int IntKind.i64 L, AV.int IntKind.i64 C, AV.int IntKind.i64 T, AV.int IntKind.i64 R,
 AV.int IntKind.i64 F, AV.int IntKind.i64 W, AV.int IntKind.i64 U]),
 (1, AObj.ro bs), (0, AObj.ro qs)] }) ∧
 ((!decide
 (reqErr L C T R F W U (AV.toI (List.getD qs (0 + Int.toNat i * 4) (AV.tup [])))
 (AV.toI (List.getD qs (0 + Int.toNat i * 4 + 1) (AV.tup [])))
 (AV.toI (List.getD qs (0 + Int.toNat i * 4 + 1 + 1) (AV.tup [])))
 (AV.toI (List.getD qs (0 + Int.toNat i * 4 + 1 + 1 + 1) (AV.tup [])))
 e =
 (0 : Int))) = false →
 (decide (0 < k)) = true ∧
 ((decide (k * 1 = List.length (encI IntKind.i64 acc))) = true ∧
 ((decide ((k + 1) * 8 ≤ 140737488355328)) = true ∧
 ((decide (k + 1 ≤ 140737488355328)) = true ∧
 (N 50
 [some (AV.slice 1 0 0 none), some (AV.ptr 2 0),
 some (AV.slice 6 0 (k + 1) none),
 some
 (AV.int IntKind.i64
 (reqEnd L C T R F W U (AV.toI (List.getD qs (0 + Int.toNat i * 4) (AV.tup [])))
 (AV.toI (List.getD qs (0 + Int.toNat i * 4 + 1) (AV.tup [])))
 (AV.toI (List.getD qs (0 + Int.toNat i * 4 + 1 + 1) (AV.tup [])))
 (AV.toI (List.getD qs (0 + Int.toNat i * 4 + 1 + 1 + 1) (AV.tup [])))
 false e)),
 some
 (AV.int IntKind.i64
 (reqErr L C T R F W U (AV.toI (List.getD qs (0 + Int.toNat i * 4) (AV.tup [])))
 (AV.toI (List.getD qs (0 + Int.toNat i * 4 + 1) (AV.tup [])))
 (AV.toI (List.getD qs (0 + Int.toNat i * 4 + 1 + 1) (AV.tup [])))
 (AV.toI (List.getD qs (0 + Int.toNat i * 4 + 1 + 1 + 1) (AV.tup [])))
 e)),
 some (AV.slice 0 0 n (some c)), some (AV.int IntKind.i64 (↑n : Int)),
 some (AV.int IntKind.i64 (IntKind.wrap IntKind.i64 (i + (1 : Int))))]
 { nx := 7, m :=
 [(6,
 AObj.opn 2 1
 (encI IntKind.i64 acc ++
 [AV.int IntKind.i64
 (reqAt L C T R F W U (AV.toI (List.getD qs (0 + Int.toNat i * 4) (AV.tup [])))
 (AV.toI (List.getD qs (0 + Int.toNat i * 4 + 1) (AV.tup [])))
 (AV.toI (List.getD qs (0 + Int.toNat i * 4 + 1 + 1) (AV.tup [])))
 (AV.toI
 (List.getD qs (0 + Int.toNat i * 4 + 1 + 1 + 1)
 (AV.tup [])))
 false e)])),
 (5,
 AObj.cells 2
 [AV.int IntKind.i64
 (reqAt L C T R F W U (AV.toI (List.getD qs (0 + Int.toNat i * 4) (AV.tup [])))
 (AV.toI (List.getD qs (0 + Int.toNat i * 4 + 1) (AV.tup [])))
 (AV.toI (List.getD qs (0 + Int.toNat i * 4 + 1 + 1) (AV.tup [])))
 (AV.toI
 (List.getD qs (0 + Int.toNat i * 4 + 1 + 1 + 1)
 (AV.tup [])))
 false e)]),
 (4,
 AObj.cells 58
 [AV.int IntKind.i64 (AV.toI (List.getD qs (0 + Int.toNat i * 4) (AV.tup []))),
 AV.int IntKind.u16 (AV.toI (List.getD qs (0 + Int.toNat i * 4 + 1) (AV.tup []))),
 AV.int IntKind.u8
 (AV.toI (List.getD qs (0 + Int.toNat i * 4 + 1 + 1) (AV.tup []))),
 AV.int IntKind.i64
 (AV.toI
 (List.getD qs (0 + Int.toNat i * 4 + 1 + 1 + 1)
 (AV.tup [])))]),
 (3, AObj.dead),
 (2,
 AObj.cells 23
 [AV.int IntKind.i64 L, AV.int IntKind.i64 C, AV.int IntKind.i64 T, AV.int IntKind.i64 R,
 AV.int IntKind.i64 F, AV.int IntKind.i64 W, AV.int IntKind.i64 U]),
 (1, AObj.ro bs), (0, AObj.ro qs)] }))))))))))))))))) ∧
 ((decide (i < (↑n : Int))) = false →
 Q (Exit.exit 0) 50
 [some (AV.slice 1 0 0 none), some (AV.ptr 2 0),
 some (AV.slice 3 0 k none), some (AV.int IntKind.i64 e), none,
 some (AV.slice 0 0 n (some c)), some (AV.int IntKind.i64 (↑n : Int)), some (AV.int IntKind.i64 i)]
 { nx := 4, m :=
 [(3, AObj.opn 2 1 (encI IntKind.i64 acc)),
 (2,
 AObj.cells 23
 [AV.int IntKind.i64 L, AV.int IntKind.i64 C, AV.int IntKind.i64 T, AV.int IntKind.i64 R,
 AV.int IntKind.i64 F, AV.int IntKind.i64 W, AV.int IntKind.i64 U]),
 (1, AObj.ro bs), (0, AObj.ro qs)] })
def rwRE_scr : Plan := .b (.t (.t (.t (.t (.t (.t (.b (.t (.t (.t (.t (.t (.t (.t (.b (.z) (.t (.t (.t (.t (.z))))))))))))) (.f (.f (.f (.f (.b (.z) (.t (.t (.t (.t (.z))))))))))))))))) (.z)
theorem rwRE_vc (L C T R F W U e i : Int) (n c k : Nat) (qs bs : List AV) (acc : List Int) (N : NS) (Q : QS) (K : Unit) : (wpP XCo3 (symC Try.prog (bodyOf Try.prog 45) []) 2 (loopAt Try.prog 45 0) 0 (rndS [2, 4, 8, 9, 10, 15, 16, 17] N Q) (rwT (.slice 1 0 0 none) L C T R F W U e i n c k qs bs acc).1 (rwT (.slice 1 0 0 none) L C T R F W U e i n c k qs bs acc).2 rwRE_scr) = rwRE_VC L C T R F W U e i n c k qs bs acc N Q K := by kernel_rfl
def rwFE_VC (L C T R F W U e : Int) (n c : Nat) (qs bs : List AV) (N : NS) (Q : QS) (K : Unit) : Prop :=
 ((decide ((0 : Int) < (↑n : Int))) = true →
 (decide ((0 : Int) ≤ (0 : Int) ∧ (0 : Int) < (↑n : Int))) = true ∧
 ((decide (4 ≤ List.length qs)) = true ∧
 ((AV.isI IntKind.i64 (List.getD qs 0 (AV.tup []))) = true ∧
 ((AV.isI IntKind.u16 (List.getD qs 1 (AV.tup []))) = true ∧
 ((AV.isI IntKind.u8 (List.getD qs 2 (AV.tup []))) = true ∧
 ((AV.isI IntKind.i64 (List.getD qs 3 (AV.tup []))) = true ∧
 (((!decide
 (reqErr L C T R F W U (AV.toI (List.getD qs 0 (AV.tup []))) (AV.toI (List.getD qs 1 (AV.tup [])))
 (AV.toI (List.getD qs 2 (AV.tup []))) (AV.toI (List.getD qs 3 (AV.tup []))) e =
 (0 : Int))) = true →
 Q Exit.ret 50
 [some (AV.slice 1 0 0 none), some (AV.ptr 2 0), some AV.nilslice,
 some (AV.int IntKind.i64 (0 : Int)),
 some
 (AV.int IntKind.i64
 (reqErr L C T R F W U (AV.toI (List.getD qs 0 (AV.tup [])))
 (AV.toI (List.getD qs 1 (AV.tup []))) (AV.toI (List.getD qs 2 (AV.tup [])))
 (AV.toI (List.getD qs 3 (AV.tup []))) e)),
 some (AV.slice 0 0 n (some c)), some (AV.int IntKind.i64 (↑n : Int)),
 some (AV.int IntKind.i64 (0 : Int))]
 { nx := 4, m :=
 [(3,
 AObj.cells 58
 [AV.int IntKind.i64 (AV.toI (List.getD qs 0 (AV.tup []))),
 AV.int IntKind.u16 (AV.toI (List.getD qs 1 (AV.tup []))),
 AV.int IntKind.u8 (AV.toI (List.getD qs 2 (AV.tup []))),
 AV.int IntKind.i64 (AV.toI (List.getD qs 3 (AV.tup [])))]),
 (2,
 AObj.cells 23
 [AV.int IntKind.i64 L, AV.int IntKind.i64 C, AV.int IntKind.i64 T, AV.int IntKind.i64 R,
 AV.int IntKind.i64 F, AV.int IntKind.i64 W, AV.int IntKind.i64 U]),
 (1, AObj.ro bs), (0, AObj.ro qs)] }) ∧
 ((!decide
 (reqErr L C T R F W U (AV.toI (List.getD qs 0 (AV.tup []))) (AV.toI (List.getD qs 1 (AV.tup [])))
 (AV.toI (List.getD qs 2 (AV.tup []))) (AV.toI (List.getD qs 3 (AV.tup []))) e =
 (0 : Int))) = false →
 N 50
 [some (AV.slice 1 0 0 none), some (AV.ptr 2 0),
 some (AV.slice 5 0 1 none),
 some
 (AV.int IntKind.i64
 (reqEnd L C T R F W U (AV.toI (List.getD qs 0 (AV.tup [])))
 (AV.toI (List.getD qs 1 (AV.tup []))) (AV.toI (List.getD qs 2 (AV.tup [])))
 (AV.toI (List.getD qs 3 (AV.tup []))) false e)),
 some
 (AV.int IntKind.i64
 (reqErr L C T R F W U (AV.toI (List.getD qs 0 (AV.tup [])))
 (AV.toI (List.getD qs 1 (AV.tup []))) (AV.toI (List.getD qs 2 (AV.tup [])))
 (AV.toI (List.getD qs 3 (AV.tup []))) e)),
 some (AV.slice 0 0 n (some c)), some (AV.int IntKind.i64 (↑n : Int)),
 some (AV.int IntKind.i64 (1 : Int))]
 { nx := 6, m :=
 [(5,
 AObj.opn 2 1
 [AV.int IntKind.i64
 (reqAt L C T R F W U (AV.toI (List.getD qs 0 (AV.tup [])))
 (AV.toI (List.getD qs 1 (AV.tup []))) (AV.toI (List.getD qs 2 (AV.tup [])))
 (AV.toI (List.getD qs 3 (AV.tup []))) false e)]),
 (4,
 AObj.cells 2
 [AV.int IntKind.i64
 (reqAt L C T R F W U (AV.toI (List.getD qs 0 (AV.tup [])))
 (AV.toI (List.getD qs 1 (AV.tup []))) (AV.toI (List.getD qs 2 (AV.tup [])))
 (AV.toI (List.getD qs 3 (AV.tup []))) false e)]),
 (3,
 AObj.cells 58
 [AV.int IntKind.i64 (AV.toI (List.getD qs 0 (AV.tup []))),
 AV.int IntKind.u16 (AV.toI (List.getD qs 1 (AV.tup []))),
 AV.int IntKind.u8 (AV.toI (List.getD qs 2 (AV.tup []))),
 AV.int IntKind.i64 (AV.toI (List.getD qs 3 (AV.tup [])))]),
 (2,
 AObj.cells 23
 [AV.int IntKind.i64 L, AV.int IntKind.i64 C, AV.int IntKind.i64 T, AV.int IntKind.i64 R,
 AV.int IntKind.i64 F, AV.int IntKind.i64 W, AV.int IntKind.i64 U]),
 (1, AObj.ro bs), (0, AObj.ro qs)] })))))))) ∧
 ((decide ((0 : Int) < (↑n : Int))) = false →
 Q (Exit.exit 0) 50
 [some (AV.slice 1 0 0 none), some (AV.ptr 2 0), some AV.nilslice,
 some (AV.int IntKind.i64 e), none, some (AV.slice 0 0 n (some c)),
 some (AV.int IntKind.i64 (↑n : Int)), some (AV.int IntKind.i64 (0 : Int))]
 { nx := 3, m :=
 [(2,
 AObj.cells 23
 [AV.int IntKind.i64 L, AV.int IntKind.i64 C, AV.int IntKind.i64 T, AV.int IntKind.i64 R,
 AV.int IntKind.i64 F, AV.int IntKind.i64 W, AV.int IntKind.i64 U]),
 (1, AObj.ro bs), (0, AObj.ro qs)] })
def rwFE_scr : Plan := .b (.t (.t (.t (.t (.t (.t (.k (.k (.k (.k (.k (.b (.z) (.z))))))))))))) (.z)
theorem rwFE_vc (L C T R F W U e : Int) (n c : Nat) (qs bs : List AV) (N : NS) (Q : QS) (K : Unit) : (wpP XCo3 (symC Try.prog (bodyOf Try.prog 45) []) 2 (loopAt Try.prog 45 0) 0 (rndS [2, 4, 8, 9, 10, 15, 16, 17] N Q) (rwT0 (.slice 1 0 0 none) L C T R F W U e n c qs bs).1 (rwT0 (.slice 1 0 0 none) L C T R F W U e n c qs bs).2 rwFE_scr) = rwFE_VC L C T R F W U e n c qs bs N Q K := by kernel_rfl
def rwRS_VC (L C T R F W U e i : Int) (n c m cm k : Nat) (qs bs : List AV) (acc : List Int) (N : NS) (Q : QS) (K : Unit) : Prop :=
 ((decide (i < (↑n : Int))) = true →
 (decide ((0 : Int) ≤ i ∧ i < (↑n : Int))) = true ∧
 ((decide (0 + Int.toNat i * 4 + 4 ≤ List.length qs)) = true ∧
 ((AV.isI IntKind.i64 (List.getD qs (0 + Int.toNat i * 4) (AV.tup []))) = true ∧
 ((AV.isI IntKind.u16 (List.getD qs (0 + Int.toNat i * 4 + 1) (AV.tup []))) = true ∧
 ((AV.isI IntKind.u8 (List.getD qs (0 + Int.toNat i * 4 + 1 + 1) (AV.tup []))) = true ∧
 ((AV.isI IntKind.i64 (List.getD qs (0 + Int.toNat i * 4 + 1 + 1 + 1) (AV.tup []))) = true ∧
 (((decide (i < (↑m : Int))) = true →
 (decide (i < (↑m : Int))) = true ∧
 ((decide (i < (↑m : Int))) = true ∧
 ((decide ((0 : Int) ≤ i ∧ i < (↑m : Int))) = true ∧
 ((decide (i < (↑m : Int))) = true ∧
 ((decide (0 + Int.toNat i * 1 < List.length bs)) = true ∧
 ((AV.isB (List.getD bs (0 + Int.toNat i * 1) (AV.tup []))) = true ∧
 ((decide (i < (↑m : Int))) = true ∧
 (((!decide
 (reqErr L C T R F W U (AV.toI (List.getD qs (0 + Int.toNat i * 4) (AV.tup [])))
 (AV.toI (List.getD qs (0 + Int.toNat i * 4 + 1) (AV.tup [])))
 (AV.toI (List.getD qs (0 + Int.toNat i * 4 + 1 + 1) (AV.tup [])))
 (AV.toI (List.getD qs (0 + Int.toNat i * 4 + 1 + 1 + 1) (AV.tup [])))
 e =
 (0 : Int))) = true →
 Q Exit.ret 50
 [some (AV.slice 1 0 m (some cm)), some (AV.ptr 2 0), some AV.nilslice,
 some (AV.int IntKind.i64 (0 : Int)),
 some
 (AV.int IntKind.i64
 (reqErr L C T R F W U (AV.toI (List.getD qs (0 + Int.toNat i * 4) (AV.tup [])))
 (AV.toI (List.getD qs (0 + Int.toNat i * 4 + 1) (AV.tup [])))
 (AV.toI (List.getD qs (0 + Int.toNat i * 4 + 1 + 1) (AV.tup [])))
 (AV.toI (List.getD qs (0 + Int.toNat i * 4 + 1 + 1 + 1) (AV.tup [])))
 e)),
 some (AV.slice 0 0 n (some c)), some (AV.int IntKind.i64 (↑n : Int)), some (AV.int IntKind.i64 i)]
 { nx := 5, m :=
 [(4,
 AObj.cells 58
 [AV.int IntKind.i64 (AV.toI (List.getD qs (0 + Int.toNat i * 4) (AV.tup []))),
 AV.int IntKind.u16 (AV.toI (List.getD qs (0 + Int.toNat i * 4 + 1) (AV.tup []))),
 AV.int IntKind.u8
 (AV.toI (List.getD qs (0 + Int.toNat i * 4 + 1 + 1) (AV.tup []))),
 AV.int IntKind.i64
 (AV.toI
 (List.getD qs (0 + Int.toNat i * 4 + 1 + 1 + 1)
 (AV.tup [])))]),
 (3, AObj.opn 2 1 (encI IntKind.i64 acc)),
 (2,
 AObj.cells 23
 [AV.int IntKind.i64 L, AV.int IntKind.i64 C, AV.int IntKind.i64 T, AV.int IntKind.i64 R,
 AV.int IntKind.i64 F, AV.int IntKind.i64 W, AV.int IntKind.i64 U]),
 (1, AObj.ro bs), (0, AObj.ro qs)] }) ∧
 ((!decide
 (reqErr L C T R F W U (AV.toI (List.getD qs (0 + Int.toNat i * 4) (AV.tup [])))
 (AV.toI (List.getD qs (0 + Int.toNat i * 4 + 1) (AV.tup [])))
 (AV.toI (List.getD qs (0 + Int.toNat i * 4 + 1 + 1) (AV.tup [])))
 (AV.toI (List.getD qs (0 + Int.toNat i * 4 + 1 + 1 + 1) (AV.tup [])))
 e =
 (0 : Int))) = false →
 (decide (0 < k)) = true ∧
 ((decide (k * 1 = List.length (encI IntKind.i64 acc))) = true ∧
 ((decide ((k + 1) * 8 ≤ 140737488355328)) = true ∧
 ((decide (k + 1 ≤ 140737488355328)) = true ∧
 (N 50
 [some (AV.slice 1 0 m (some cm)), some (AV.ptr 2 0),
 some (AV.slice 6 0 (k + 1) none),
 some
 (AV.int IntKind.i64
 (reqEnd L C T R F W U (AV.toI (List.getD qs (0 + Int.toNat i * 4) (AV.tup [])))
 (AV.toI (List.getD qs (0 + Int.toNat i * 4 + 1) (AV.tup [])))
 (AV.toI (List.getD qs (0 + Int.toNat i * 4 + 1 + 1) (AV.tup [])))
 (AV.toI (List.getD qs (0 + Int.toNat i * 4 + 1 + 1 + 1) (AV.tup [])))
 (AV.toB (List.getD bs (0 + Int.toNat i * 1) (AV.tup []))) e)),
 some
 (AV.int IntKind.i64
 (reqErr L C T R F W U (AV.toI (List.getD qs (0 + Int.toNat i * 4) (AV.tup [])))
 (AV.toI (List.getD qs (0 + Int.toNat i * 4 + 1) (AV.tup [])))
 (AV.toI (List.getD qs (0 + Int.toNat i * 4 + 1 + 1) (AV.tup [])))
 (AV.toI (List.getD qs (0 + Int.toNat i * 4 + 1 + 1 + 1) (AV.tup [])))
 e)),
 some (AV.slice 0 0 n (some c)), some (AV.int IntKind.i64 (↑n : Int)),
 some (AV.int IntKind.i64 (IntKind.wrap IntKind.i64 (i + (1 : Int))))]
 { nx := 7, m :=
 [(6,
 AObj.opn 2 1
 (encI IntKind.i64 acc ++
 [AV.int IntKind.i64
 (reqAt L C T R F W U (AV.toI (List.getD qs (0 + Int.toNat i * 4) (AV.tup [])))
 (AV.toI (List.getD qs (0 + Int.toNat i * 4 + 1) (AV.tup [])))
 (AV.toI (List.getD qs (0 + Int.toNat i * 4 + 1 + 1) (AV.tup [])))
 (AV.toI
 (List.getD qs (0 + Int.toNat i * 4 + 1 + 1 + 1)
 (AV.tup [])))
 (AV.toB (List.getD bs (0 + Int.toNat i * 1) (AV.tup []))) e)])),
 (5,
 AObj.cells 2
 [AV.int IntKind.i64
 (reqAt L C T R F W U (AV.toI (List.getD qs (0 + Int.toNat i * 4) (AV.tup [])))
 (AV.toI (List.getD qs (0 + Int.toNat i * 4 + 1) (AV.tup [])))
 (AV.toI (List.getD qs (0 + Int.toNat i * 4 + 1 + 1) (AV.tup [])))
 (AV.toI
 (List.getD qs (0 + Int.toNat i * 4 + 1 + 1 + 1)
 (AV.tup [])))
 (AV.toB (List.getD bs (0 + Int.toNat i * 1) (AV.tup []))) e)]),
 (4,
 AObj.cells 58
 [AV.int IntKind.i64 (AV.toI (List.getD qs (0 + Int.toNat i * 4) (AV.tup []))),
 AV.int IntKind.u16 (AV.toI (List.getD qs (0 + Int.toNat i * 4 + 1) (AV.tup []))),
 AV.int IntKind.u8
 (AV.toI (List.getD qs (0 + Int.toNat i * 4 + 1 + 1) (AV.tup []))),
 AV.int IntKind.i64
 (AV.toI
 (List.getD qs (0 + Int.toNat i * 4 + 1 + 1 + 1)
 (AV.tup [])))]),
 (3, AObj.dead),
 (2,
 AObj.cells 23
 [AV.int IntKind.i64 L, AV.int IntKind.i64 C, AV.int IntKind.i64 T, AV.int IntKind.i64 R,
 AV.int IntKind.i64 F, AV.int IntKind.i64 W, AV.int IntKind.i64 U]),
 (1, AObj.ro bs), (0, AObj.ro qs)] }))))))))))))) ∧
 ((decide (i < (↑m : Int))) = false →
 (decide (i < (↑m : Int))) = false ∧
 ((decide (i < (↑m : Int))) = false ∧
 ((decide (i < (↑m : Int))) = false ∧
 ((decide (i < (↑m : Int))) = false ∧
 (((!decide
 (reqErr L C T R F W U (AV.toI (List.getD qs (0 + Int.toNat i * 4) (AV.tup [])))
 (AV.toI (List.getD qs (0 + Int.toNat i * 4 + 1) (AV.tup [])))
 (AV.toI (List.getD qs (0 + Int.toNat i * 4 + 1 + 1) (AV.tup [])))
 (AV.toI (List.getD qs (0 + Int.toNat i * 4 + 1 + 1 + 1) (AV.tup [])))
 e =
 (0 : Int))) = true →
 Q Exit.ret 50
 [some (AV.slice 1 0 m (some cm)), some (AV.ptr 2 0), some AV.nilslice,
 some (AV.int IntKind.i64 (0 : Int)),
 some
 (AV.int IntKind.i64
 (reqErr L C T R F W U (AV.toI (List.getD qs (0 + Int.toNat i * 4) (AV.tup [])))
 (AV.toI (List.getD qs (0 + Int.toNat i * 4 + 1) (AV.tup [])))
 (AV.toI (List.getD qs (0 + Int.toNat i * 4 + 1 + 1) (AV.tup [])))
 (AV.toI (List.getD qs (0 + Int.toNat i * 4 + 1 + 1 + 1) (AV.tup [])))
 e)),
 some (AV.slice 0 0 n (some c)), some (AV.int IntKind.i64 (↑n : Int)), some (AV.int IntKind.i64 i)]
 { nx := 5, m :=
 [(4,
 AObj.cells 58
 [AV.int IntKind.i64 (AV.toI (List.getD qs (0 + Int.toNat i * 4) (AV.tup []))),
 AV.int IntKind.u16 (AV.toI (List.getD qs (0 + Int.toNat i * 4 + 1) (AV.tup []))),
 AV.int IntKind.u8
 (AV.toI (List.getD qs (0 + Int.toNat i * 4 + 1 + 1) (AV.tup []))),
 AV.int IntKind.i64
 (AV.toI
 (List.getD qs (0 + Int.toNat i * 4 + 1 + 1 + 1)
 (AV.tup [])))]),
 (3, AObj.opn 2 1 (encI IntKind.i64 acc)),
 (2,
 AObj.cells 23
 [AV.int IntKind.i64 L, AV.int IntKind.i64 C, AV.int IntKind.i64 T, AV.int IntKind.i64 R,
 AV.int IntKind.i64 F, AV.int IntKind.i64 W, AV.int IntKind.i64 U]),
 (1, AObj.ro bs), (0, AObj.ro qs)] }) ∧
 ((!decide
 (reqErr L C T R F W U (AV.toI (List.getD qs (0 + Int.toNat i * 4) (AV.tup [])))
 (AV.toI (List.getD qs (0 + Int.toNat i * 4 + 1) (AV.tup [])))
 (AV.toI (List.getD qs (0 + Int.toNat i * 4 + 1 + 1) (AV.tup [])))
 (AV.toI (List.getD qs (0 + Int.toNat i * 4 + 1 + 1 + 1) (AV.tup [])))
 e =
 (0 : Int))) = false →
 (decide (0 < k)) = true ∧
 ((decide (k * 1 = List.length (encI IntKind.i64 acc))) = true ∧
 ((decide ((k + 1) * 8 ≤ 140737488355328)) = true ∧
 ((decide (k + 1 ≤ 140737488355328)) = true ∧
 (N 50
 [some (AV.slice 1 0 m (some cm)), some (AV.ptr 2 0),
 some (AV.slice 6 0 (k + 1) none),
 some
 (AV.int IntKind.i64
 (reqEnd L C T R F W U (AV.toI (List.getD qs (0 + Int.toNat i * 4) (AV.tup [])))
 (AV.toI (List.getD qs (0 + Int.toNat i * 4 + 1) (AV.tup [])))
 (AV.toI (List.getD qs (0 + Int.toNat i * 4 + 1 + 1) (AV.tup [])))
 (AV.toI (List.getD qs (0 + Int.toNat i * 4 + 1 + 1 + 1) (AV.tup [])))
 false e)),
 some
 (AV.int IntKind.i64
 (reqErr L C T R F W U (AV.toI (List.getD qs (0 + Int.toNat i * 4) (AV.tup [])))
 (AV.toI (List.getD qs (0 + Int.toNat i * 4 + 1) (AV.tup [])))
 (AV.toI (List.getD qs (0 + Int.toNat i * 4 + 1 + 1) (AV.tup [])))
 (AV.toI (List.getD qs (0 + Int.toNat i * 4 + 1 + 1 + 1) (AV.tup [])))
 e)),
 some (AV.slice 0 0 n (some c)), some (AV.int IntKind.i64 (↑n : Int)),
 some (AV.int IntKind.i64 (IntKind.wrap IntKind.i64 (i + (1 : Int))))]
 { nx := 7, m :=
 [(6,
 AObj.opn 2 1
 (encI IntKind.i64 acc ++
 [AV.int IntKind.i64
 (reqAt L C T R F W U (AV.toI (List.getD qs (0 + Int.toNat i * 4) (AV.tup [])))
 (AV.toI (List.getD qs (0 + Int.toNat i * 4 + 1) (AV.tup [])))
 (AV.toI (List.getD qs (0 + Int.toNat i * 4 + 1 + 1) (AV.tup [])))
 (AV.toI
 (List.getD qs (0 + Int.toNat i * 4 + 1 + 1 + 1)
 (AV.tup [])))
 false e)])),
 (5,
 AObj.cells 2
 [AV.int IntKind.i64
 (reqAt L C T R F W U (AV.toI (List.getD qs (0 + Int.toNat i * 4) (AV.tup [])))
 (AV.toI (List.getD qs (0 + Int.toNat i * 4 + 1) (AV.tup [])))
 (AV.toI (List.getD qs (0 + Int.toNat i * 4 + 1 + 1) (AV.tup [])))
 (AV.toI
 (List.getD qs (0 + Int.toNat i * 4 + 1 + 1 + 1)
 (AV.tup [])))
 false e)]),
 (4,
 AObj.cells 58
 [AV.int IntKind.i64 (AV.toI (List.getD qs (0 + Int.toNat i * 4) (AV.tup []))),
 AV.int IntKind.u16 (AV.toI (List.getD qs (0 + Int.toNat i * 4 + 1) (AV.tup []))),
 AV.int IntKind.u8
 (AV.toI (List.getD qs (0 + Int.toNat i * 4 + 1 + 1) (AV.tup []))),
 AV.int IntKind.i64
 (AV.toI
 (List.getD qs (0 + Int.toNat i * 4 + 1 + 1 + 1)
 (AV.tup [])))]),
 (3, AObj.dead),
 (2,
 AObj.cells 23
 [AV.int IntKind.i64 L, AV.int IntKind.i64 C, AV.int IntKind.i64 T, AV.int IntKind.i64 R,
 AV.int IntKind.i64 F, AV.int IntKind.i64 W, AV.int IntKind.i64 U]),
 (1, AObj.ro bs), (0, AObj.ro qs)] }))))))))))))))))) ∧
 ((decide (i < (↑n : Int))) = false →
 Q (Exit.exit 0) 50
 [some (AV.slice 1 0 m (some cm)), some (AV.ptr 2 0),
 some (AV.slice 3 0 k none), some (AV.int IntKind.i64 e), none,
 some (AV.slice 0 0 n (some c)), some (AV.int IntKind.i64 (↑n : Int)), some (AV.int IntKind.i64 i)]
 { nx := 4, m :=
 [(3, AObj.opn 2 1 (encI IntKind.i64 acc)),
 (2,
 AObj.cells 23
 [AV.int IntKind.i64 L, AV.int IntKind.i64 C, AV.int IntKind.i64 T, AV.int IntKind.i64 R,
 AV.int IntKind.i64 F, AV.int IntKind.i64 W, AV.int IntKind.i64 U]),
 (1, AObj.ro bs), (0, AObj.ro qs)] })
def rwRS_scr : Plan := .b (.t (.t (.t (.t (.t (.t (.b (.t (.t (.t (.t (.t (.t (.t (.b (.z) (.t (.t (.t (.t (.z))))))))))))) (.f (.f (.f (.f (.b (.z) (.t (.t (.t (.t (.z))))))))))))))))) (.z)
theorem rwRS_vc (L C T R F W U e i : Int) (n c m cm k : Nat) (qs bs : List AV) (acc : List Int) (N : NS) (Q : QS) (K : Unit) : (wpP XCo3 (symC Try.prog (bodyOf Try.prog 45) []) 2 (loopAt Try.prog 45 0) 0 (rndS [2, 4, 8, 9, 10, 15, 16, 17] N Q) (rwT (.slice 1 0 m (some cm)) L C T R F W U e i n c k qs bs acc).1 (rwT (.slice 1 0 m (some cm)) L C T R F W U e i n c k qs bs acc).2 rwRS_scr) = rwRS_VC L C T R F W U e i n c m cm k qs bs acc N Q K := by kernel_rfl
def rwFS_VC (L C T R F W U e : Int) (n c m cm : Nat) (qs bs : List AV) (N : NS) (Q : QS) (K : Unit) : Prop :=
 ((decide ((0 : Int) < (↑n : Int))) = true →
 (decide ((0 : Int) ≤ (0 : Int) ∧ (0 : Int) < (↑n : Int))) = true ∧
 ((decide (4 ≤ List.length qs)) = true ∧
 ((AV.isI IntKind.i64 (List.getD qs 0 (AV.tup []))) = true ∧
 ((AV.isI IntKind.u16 (List.getD qs 1 (AV.tup []))) = true ∧
 ((AV.isI IntKind.u8 (List.getD qs 2 (AV.tup []))) = true ∧
 ((AV.isI IntKind.i64 (List.getD qs 3 (AV.tup []))) = true ∧
 (((decide ((0 : Int) < (↑m : Int))) = true →
 (decide ((0 : Int) < (↑m : Int))) = true ∧
 ((decide ((0 : Int) < (↑m : Int))) = true ∧
 ((decide ((0 : Int) ≤ (0 : Int) ∧ (0 : Int) < (↑m : Int))) = true ∧
 ((decide ((0 : Int) < (↑m : Int))) = true ∧
 ((decide (0 < List.length bs)) = true ∧
 ((AV.isB (List.getD bs 0 (AV.tup []))) = true ∧
 ((decide ((0 : Int) < (↑m : Int))) = true ∧
 (((!decide
 (reqErr L C T R F W U (AV.toI (List.getD qs 0 (AV.tup []))) (AV.toI (List.getD qs 1 (AV.tup [])))
 (AV.toI (List.getD qs 2 (AV.tup []))) (AV.toI (List.getD qs 3 (AV.tup []))) e =
 (0 : Int))) = true →
 Q Exit.ret 50
 [some (AV.slice 1 0 m (some cm)), some (AV.ptr 2 0), some AV.nilslice,
 some (AV.int IntKind.i64 (0 : Int)),
 some
 (AV.int IntKind.i64
 (reqErr L C T R F W U (AV.toI (List.getD qs 0 (AV.tup [])))
 (AV.toI (List.getD qs 1 (AV.tup []))) (AV.toI (List.getD qs 2 (AV.tup [])))
 (AV.toI (List.getD qs 3 (AV.tup []))) e)),
 some (AV.slice 0 0 n (some c)), some (AV.int IntKind.i64 (↑n : Int)),
 some (AV.int IntKind.i64 (0 : Int))]
 { nx := 4, m :=
 [(3,
 AObj.cells 58
 [AV.int IntKind.i64 (AV.toI (List.getD qs 0 (AV.tup []))),
 AV.int IntKind.u16 (AV.toI (List.getD qs 1 (AV.tup []))),
 AV.int IntKind.u8 (AV.toI (List.getD qs 2 (AV.tup []))),
 AV.int IntKind.i64 (AV.toI (List.getD qs 3 (AV.tup [])))]),
 (2,
 AObj.cells 23
 [AV.int IntKind.i64 L, AV.int IntKind.i64 C, AV.int IntKind.i64 T, AV.int IntKind.i64 R,
 AV.int IntKind.i64 F, AV.int IntKind.i64 W, AV.int IntKind.i64 U]),
 (1, AObj.ro bs), (0, AObj.ro qs)] }) ∧
 ((!decide
 (reqErr L C T R F W U (AV.toI (List.getD qs 0 (AV.tup []))) (AV.toI (List.getD qs 1 (AV.tup [])))
 (AV.toI (List.getD qs 2 (AV.tup []))) (AV.toI (List.getD qs 3 (AV.tup []))) e =
 (0 : Int))) = false →
 N 50
 [some (AV.slice 1 0 m (some cm)), some (AV.ptr 2 0),
 some (AV.slice 5 0 1 none),
 some
 (AV.int IntKind.i64
 (reqEnd L C T R F W U (AV.toI (List.getD qs 0 (AV.tup [])))
 (AV.toI (List.getD qs 1 (AV.tup []))) (AV.toI (List.getD qs 2 (AV.tup [])))
 (AV.toI (List.getD qs 3 (AV.tup []))) (AV.toB (List.getD bs 0 (AV.tup []))) e)),
 some
 (AV.int IntKind.i64
 (reqErr L C T R F W U (AV.toI (List.getD qs 0 (AV.tup [])))
 (AV.toI (List.getD qs 1 (AV.tup []))) (AV.toI (List.getD qs 2 (AV.tup [])))
 (AV.toI (List.getD qs 3 (AV.tup []))) e)),
 some (AV.slice 0 0 n (some c)), some (AV.int IntKind.i64 (↑n : Int)),
 some (AV.int IntKind.i64 (1 : Int))]
 { nx := 6, m :=
 [(5,
 AObj.opn 2 1
 [AV.int IntKind.i64
 (reqAt L C T R F W U (AV.toI (List.getD qs 0 (AV.tup [])))
 (AV.toI (List.getD qs 1 (AV.tup []))) (AV.toI (List.getD qs 2 (AV.tup [])))
 (AV.toI (List.getD qs 3 (AV.tup []))) (AV.toB (List.getD bs 0 (AV.tup []))) e)]),
 (4,
 AObj.cells 2
 [AV.int IntKind.i64
 (reqAt L C T R F W U (AV.toI (List.getD qs 0 (AV.tup [])))
 (AV.toI (List.getD qs 1 (AV.tup []))) (AV.toI (List.getD qs 2 (AV.tup [])))
 (AV.toI (List.getD qs 3 (AV.tup []))) (AV.toB (List.getD bs 0 (AV.tup []))) e)]),
 (3,
 AObj.cells 58
 [AV.int IntKind.i64 (AV.toI (List.getD qs 0 (AV.tup []))),
 AV.int IntKind.u16 (AV.toI (List.getD qs 1 (AV.tup []))),
 AV.int IntKind.u8 (AV.toI (List.getD qs 2 (AV.tup []))),
 AV.int IntKind.i64 (AV.toI (List.getD qs 3 (AV.tup [])))]),
 (2,
 AObj.cells 23
 [AV.int IntKind.i64 L, AV.int IntKind.i64 C, AV.int IntKind.i64 T, AV.int IntKind.i64 R,
 AV.int IntKind.i64 F, AV.int IntKind.i64 W, AV.int IntKind.i64 U]),
 (1, AObj.ro bs), (0, AObj.ro qs)] }))))))))) ∧
 ((decide ((0 : Int) < (↑m : Int))) = false →
 (decide ((0 : Int) < (↑m : Int))) = false ∧
 ((decide ((0 : Int) < (↑m : Int))) = false ∧
 ((decide ((0 : Int) < (↑m : Int))) = false ∧
 ((decide ((0 : Int) < (↑m : Int))) = false ∧
 (((!decide
 (reqErr L C T R F W U (AV.toI (List.getD qs 0 (AV.tup []))) (AV.toI (List.getD qs 1 (AV.tup [])))
 (AV.toI (List.getD qs 2 (AV.tup []))) (AV.toI (List.getD qs 3 (AV.tup []))) e =
 (0 : Int))) = true →
 Q Exit.ret 50
 [some (AV.slice 1 0 m (some cm)), some (AV.ptr 2 0), some AV.nilslice,
 some (AV.int IntKind.i64 (0 : Int)),
 some
 (AV.int IntKind.i64
 (reqErr L C T R F W U (AV.toI (List.getD qs 0 (AV.tup [])))
 (AV.toI (List.getD qs 1 (AV.tup []))) (AV.toI (List.getD qs 2 (AV.tup [])))
 (AV.toI (List.getD qs 3 (AV.tup []))) e)),
 some (AV.slice 0 0 n (some c)), some (AV.int IntKind.i64 (↑n : Int)),
 some (AV.int IntKind.i64 (0 : Int))]
 { nx := 4, m :=
 [(3,
 AObj.cells 58
 [AV.int IntKind.i64 (AV.toI (List.getD qs 0 (AV.tup []))),
 AV.int IntKind.u16 (AV.toI (List.getD qs 1 (AV.tup []))),
 AV.int IntKind.u8 (AV.toI (List.getD qs 2 (AV.tup []))),
 AV.int IntKind.i64 (AV.toI (List.getD qs 3 (AV.tup [])))]),
 (2,
 AObj.cells 23
 [AV.int IntKind.i64 L, AV.int IntKind.i64 C, AV.int IntKind.i64 T, AV.int IntKind.i64 R,
 AV.int IntKind.i64 F, AV.int IntKind.i64 W, AV.int IntKind.i64 U]),
 (1, AObj.ro bs), (0, AObj.ro qs)] }) ∧
 ((!decide
 (reqErr L C T R F W U (AV.toI (List.getD qs 0 (AV.tup []))) (AV.toI (List.getD qs 1 (AV.tup [])))
 (AV.toI (List.getD qs 2 (AV.tup []))) (AV.toI (List.getD qs 3 (AV.tup []))) e =
 (0 : Int))) = false →
 N 50
 [some (AV.slice 1 0 m (some cm)), some (AV.ptr 2 0),
 some (AV.slice 5 0 1 none),
 some
 (AV.int IntKind.i64
 (reqEnd L C T R F W U (AV.toI (List.getD qs 0 (AV.tup [])))
 (AV.toI (List.getD qs 1 (AV.tup []))) (AV.toI (List.getD qs 2 (AV.tup [])))
 (AV.toI (List.getD qs 3 (AV.tup []))) false e)),
 some
 (AV.int IntKind.i64
 (reqErr L C T R F W U (AV.toI (List.getD qs 0 (AV.tup [])))
 (AV.toI (List.getD qs 1 (AV.tup []))) (AV.toI (List.getD qs 2 (AV.tup [])))
 (AV.toI (List.getD qs 3 (AV.tup []))) e)),
 some (AV.slice 0 0 n (some c)), some (AV.int IntKind.i64 (↑n : Int)),
 some (AV.int IntKind.i64 (1 : Int))]
 { nx := 6, m :=
 [(5,
 AObj.opn 2 1
 [AV.int IntKind.i64
 (reqAt L C T R F W U (AV.toI (List.getD qs 0 (AV.tup [])))
 (AV.toI (List.getD qs 1 (AV.tup []))) (AV.toI (List.getD qs 2 (AV.tup [])))
 (AV.toI (List.getD qs 3 (AV.tup []))) false e)]),
 (4,
 AObj.cells 2
 [AV.int IntKind.i64
 (reqAt L C T R F W U (AV.toI (List.getD qs 0 (AV.tup [])))
 (AV.toI (List.getD qs 1 (AV.tup []))) (AV.toI (List.getD qs 2 (AV.tup [])))
 (AV.toI (List.getD qs 3 (AV.tup []))) false e)]),
 (3,
 AObj.cells 58
 [AV.int IntKind.i64 (AV.toI (List.getD qs 0 (AV.tup []))),
 AV.int IntKind.u16 (AV.toI (List.getD qs 1 (AV.tup []))),
 AV.int IntKind.u8 (AV.toI (List.getD qs 2 (AV.tup []))),
 AV.int IntKind.i64 (AV.toI (List.getD qs 3 (AV.tup [])))]),
 (2,
 AObj.cells 23
 [AV.int IntKind.i64 L, AV.int IntKind.i64 C, AV.int IntKind.i64 T, AV.int IntKind.i64 R,
 AV.int IntKind.i64 F, AV.int IntKind.i64 W, AV.int IntKind.i64 U]),
 (1, AObj.ro bs), (0, AObj.ro qs)] }))))))))))))) ∧
 ((decide ((0 : Int) < (↑n : Int))) = false →
 Q (Exit.exit 0) 50
 [some (AV.slice 1 0 m (some cm)), some (AV.ptr 2 0), some AV.nilslice,
 some (AV.int IntKind.i64 e), none, some (AV.slice 0 0 n (some c)),
 some (AV.int IntKind.i64 (↑n : Int)), some (AV.int IntKind.i64 (0 : Int))]
 { nx := 3, m :=
 [(2,
 AObj.cells 23
 [AV.int IntKind.i64 L, AV.int IntKind.i64 C, AV.int IntKind.i64 T, AV.int IntKind.i64 R,
 AV.int IntKind.i64 F, AV.int IntKind.i64 W, AV.int IntKind.i64 U]),
 (1, AObj.ro bs), (0, AObj.ro qs)] })
def rwFS_scr : Plan := .b (.t (.t (.t (.t (.t (.t (.b (.t (.t (.t (.t (.t (.t (.t (.b (.z) (.z))))))))) (.f (.f (.f (.f (.b (.z) (.z))))))))))))) (.z)
theorem rwFS_vc (L C T R F W U e : Int) (n c m cm : Nat) (qs bs : List AV) (N : NS) (Q : QS) (K : Unit) : (wpP XCo3 (symC Try.prog (bodyOf Try.prog 45) []) 2 (loopAt Try.prog 45 0) 0 (rndS [2, 4, 8, 9, 10, 15, 16, 17] N Q) (rwT0 (.slice 1 0 m (some cm)) L C T R F W U e n c qs bs).1 (rwT0 (.slice 1 0 m (some cm)) L C T R F W U e n c qs bs).2 rwFS_scr) = rwFS_VC L C T R F W U e n c m cm qs bs N Q K := by kernel_rfl
end Go.Proofs.Ytnfelncgeihihaa.V
