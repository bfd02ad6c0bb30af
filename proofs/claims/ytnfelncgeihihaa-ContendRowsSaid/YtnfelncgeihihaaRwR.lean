/- Printed by vc.py: what must hold for functions' ways (RwR). -/
import Derived.Test.YtnfelncgeihihaaRwQ
namespace Go.Proofs.Ytnfelncgeihihaa.V
open Go Go.Proofs
set_option maxRecDepth 100000
set_option linter.unusedVariables false
def lwN_VC (L C T R F W U t u : Int) (rq : List Rq) (bs : List AV) (c : Nat) (K : AV → AH → Prop) : Prop :=
 ((!decide ((↑(List.length rq) : Int) > (40 : Int))) = true →
 (!decide ((↑(List.length rq) : Int) > (40 : Int))) = true ∧
 ((!decide ((↑(List.length rq) : Int) > (40 : Int))) = true ∧
 ((decide ((↑(List.length rq) : Int) > (40 : Int))) = false ∧
 (((!!decide ((if okF L C T R F W U = true then (0 : Int) else (2 : Int)) = (0 : Int))) = true →
 (!!decide ((if okF L C T R F W U = true then (0 : Int) else (2 : Int)) = (0 : Int))) = true ∧
 ((!decide ((if okF L C T R F W U = true then (0 : Int) else (2 : Int)) = (0 : Int))) = false ∧
 (((!decide (t < (0 : Int))) = true →
 (!decide (t < (0 : Int))) = true ∧
 ((!decide (t < (0 : Int))) = true ∧
 ((decide (t < (0 : Int))) = false ∧
 (((!decide (t > u)) = true →
 (!decide (t > u)) = true ∧
 ((decide (t > u)) = false ∧
 (((decide (u > (549755813888 : Int))) = true →
 K (AV.bool true)
 { nx := 3, m :=
 [(2,
 AObj.cells 23
 [AV.int IntKind.i64 L, AV.int IntKind.i64 C, AV.int IntKind.i64 T, AV.int IntKind.i64 R,
 AV.int IntKind.i64 F, AV.int IntKind.i64 W, AV.int IntKind.i64 U]),
 (1, AObj.ro bs), (0, AObj.ro (qF rq))] }) ∧
 ((decide (u > (549755813888 : Int))) = false →
 need (2 = 2) ∧
 (need (Fits 2 [(0, 0), (1, 1), (2, 2)]
 { n := 208, l :=
 [(11, AV.int IntKind.i64 (0 : Int)), (54, AV.bool (decide (u > (549755813888 : Int)))),
 (53, AV.bool (decide (u > (549755813888 : Int)))), (52, AV.int IntKind.i64 u),
 (51, AV.bool (decide (t > u))), (50, AV.bool (decide (t > u))),
 (49, AV.bool (decide (t > u))), (48, AV.int IntKind.i64 u), (47, AV.int IntKind.i64 t),
 (46, AV.bool (decide (t < (0 : Int)))), (45, AV.bool (decide (t < (0 : Int)))),
 (44, AV.bool (decide (t < (0 : Int)))), (43, AV.int IntKind.i64 t),
 (42, AV.bool !decide ((if okF L C T R F W U = true then (0 : Int) else (2 : Int)) = (0 : Int))),
 (41, AV.bool !decide ((if okF L C T R F W U = true then (0 : Int) else (2 : Int)) = (0 : Int))),
 (40, AV.bool !decide ((if okF L C T R F W U = true then (0 : Int) else (2 : Int)) = (0 : Int))),
 (39, AV.int IntKind.i64 (if okF L C T R F W U = true then (0 : Int) else (2 : Int))),
 (38,
 AV.agg
 [AV.int IntKind.i64 L, AV.int IntKind.i64 C, AV.int IntKind.i64 T, AV.int IntKind.i64 R,
 AV.int IntKind.i64 F, AV.int IntKind.i64 W, AV.int IntKind.i64 U]),
 (37, AV.bool false), (36, AV.bool false), (35, AV.bool false),
 (34, AV.int IntKind.i64 (0 : Int)), (33, AV.nilslice),
 (32, AV.bool (decide ((↑(List.length rq) : Int) > (40 : Int)))),
 (31, AV.bool (decide ((↑(List.length rq) : Int) > (40 : Int)))),
 (30, AV.int IntKind.i64 (↑(List.length rq) : Int)),
 (29, AV.slice 0 0 (List.length rq) (some c)), (28, AV.bool false),
 (27, AV.bool true), (10, AV.bool false), (5, AV.ptr 2 0),
 (0,
 AV.agg
 [AV.int IntKind.i64 L, AV.int IntKind.i64 C, AV.int IntKind.i64 T, AV.int IntKind.i64 R,
 AV.int IntKind.i64 F, AV.int IntKind.i64 W, AV.int IntKind.i64 U]),
 (1, AV.slice 0 0 (List.length rq) (some c)), (2, AV.nilslice),
 (3, AV.int IntKind.i64 t), (4, AV.int IntKind.i64 u)] }
 { nx := 3, m :=
 [(2,
 AObj.cells 23
 [AV.int IntKind.i64 L, AV.int IntKind.i64 C, AV.int IntKind.i64 T, AV.int IntKind.i64 R,
 AV.int IntKind.i64 F, AV.int IntKind.i64 W, AV.int IntKind.i64 U]),
 (1, AObj.ro bs), (0, AObj.ro (qF rq))] }
 { n := 208, l :=
 [(1, AV.slice 0 0 (List.length rq) (some c)), (2, AV.nilslice),
 (3, AV.int IntKind.i64 t), (4, AV.int IntKind.i64 u), (5, AV.ptr 2 0),
 (11, AV.int IntKind.i64 (0 : Int))] }
 { nx := 3, m :=
 [(2,
 AObj.cells 23
 [AV.int IntKind.i64 L, AV.int IntKind.i64 C, AV.int IntKind.i64 T, AV.int IntKind.i64 R,
 AV.int IntKind.i64 F, AV.int IntKind.i64 W, AV.int IntKind.i64 U]),
 (1, AObj.ro bs), (0, AObj.ro (qF rq))] }) ∧
 (need (pfs bs = true ∧ List.length rq ≤ 60 ∧ rqsOk rq) ∧
 (need ([AV.agg
 [AV.int IntKind.i64 L, AV.int IntKind.i64 C, AV.int IntKind.i64 T, AV.int IntKind.i64 R, AV.int IntKind.i64 F,
 AV.int IntKind.i64 W, AV.int IntKind.i64 U],
 AV.slice 0 0 (List.length rq) (some c), AV.nilslice, AV.int IntKind.i64 t] =
 [AV.agg
 [AV.int IntKind.i64 L, AV.int IntKind.i64 C, AV.int IntKind.i64 T, AV.int IntKind.i64 R, AV.int IntKind.i64 F,
 AV.int IntKind.i64 W, AV.int IntKind.i64 U],
 AV.slice 0 0 (List.length rq) (some c), AV.nilslice, AV.int IntKind.i64 t]) ∧
 (need (AH.get (Prod.snd (chT AV.nilslice L C T R F W U t u (↑(List.length rq) : Int) (List.length rq) c (qF rq) bs))
 0 =
 AObj.ro (qF rq)) ∧
 (need (AH.get (Prod.snd (chT AV.nilslice L C T R F W U t u (↑(List.length rq) : Int) (List.length rq) c (qF rq) bs))
 1 =
 AObj.ro bs) ∧
 (need (2 ≤ 3) ∧
 (need (rowOksN L C T R F W U t rq bs) ∧
 (need ([AV.agg
 [AV.int IntKind.i64 L, AV.int IntKind.i64 C, AV.int IntKind.i64 T, AV.int IntKind.i64 R, AV.int IntKind.i64 F,
 AV.int IntKind.i64 W, AV.int IntKind.i64 U],
 AV.slice 0 0 (List.length rq) (some c), AV.nilslice, AV.int IntKind.i64 u] =
 [AV.agg
 [AV.int IntKind.i64 L, AV.int IntKind.i64 C, AV.int IntKind.i64 T, AV.int IntKind.i64 R, AV.int IntKind.i64 F,
 AV.int IntKind.i64 W, AV.int IntKind.i64 U],
 AV.slice 0 0 (List.length rq) (some c), AV.nilslice, AV.int IntKind.i64 u]) ∧
 (need (AH.get
 (AH.push (Prod.snd (chT AV.nilslice L C T R F W U t u (↑(List.length rq) : Int) (List.length rq) c (qF rq) bs))
 (AObj.opn 2 1 (encI IntKind.i64 (rowAcc L C T R F W U rq (fun x => false) t (List.length rq)))))
 0 =
 AObj.ro (qF rq)) ∧
 (need (AH.get
 (AH.push (Prod.snd (chT AV.nilslice L C T R F W U t u (↑(List.length rq) : Int) (List.length rq) c (qF rq) bs))
 (AObj.opn 2 1 (encI IntKind.i64 (rowAcc L C T R F W U rq (fun x => false) t (List.length rq)))))
 1 =
 AObj.ro bs) ∧
 (need (2 ≤ 4) ∧
 (need (rowOksN L C T R F W U u rq bs) ∧
 (need ([AV.agg
 [AV.int IntKind.i64 L, AV.int IntKind.i64 C, AV.int IntKind.i64 T, AV.int IntKind.i64 R, AV.int IntKind.i64 F,
 AV.int IntKind.i64 W, AV.int IntKind.i64 U],
 AV.slice 0 0 (List.length rq) (some c), AV.nilslice,
 AV.int IntKind.i64 (IntKind.wrap IntKind.i64 (t + lenF L C T R F W U))] =
 [AV.agg
 [AV.int IntKind.i64 L, AV.int IntKind.i64 C, AV.int IntKind.i64 T, AV.int IntKind.i64 R, AV.int IntKind.i64 F,
 AV.int IntKind.i64 W, AV.int IntKind.i64 U],
 AV.slice 0 0 (List.length rq) (some c), AV.nilslice,
 AV.int IntKind.i64 (IntKind.wrap IntKind.i64 (t + lenF L C T R F W U))]) ∧
 (need (AH.get
 (AH.push
 (AH.push (Prod.snd (chT AV.nilslice L C T R F W U t u (↑(List.length rq) : Int) (List.length rq) c (qF rq) bs))
 (AObj.opn 2 1 (encI IntKind.i64 (rowAcc L C T R F W U rq (fun x => false) t (List.length rq)))))
 (AObj.opn 2 1 (encI IntKind.i64 (rowAcc L C T R F W U rq (fun x => false) u (List.length rq)))))
 0 =
 AObj.ro (qF rq)) ∧
 (need (AH.get
 (AH.push
 (AH.push (Prod.snd (chT AV.nilslice L C T R F W U t u (↑(List.length rq) : Int) (List.length rq) c (qF rq) bs))
 (AObj.opn 2 1 (encI IntKind.i64 (rowAcc L C T R F W U rq (fun x => false) t (List.length rq)))))
 (AObj.opn 2 1 (encI IntKind.i64 (rowAcc L C T R F W U rq (fun x => false) u (List.length rq)))))
 1 =
 AObj.ro bs) ∧
 (need (2 ≤ 5) ∧
 (need (rowOksN L C T R F W U (IntKind.wrap IntKind.i64 (t + lenF L C T R F W U)) rq bs) ∧
 (((!!decide ((↑(List.length rq) : Int) = (↑(List.length rq) : Int))) = true →
 (!!decide ((↑(List.length rq) : Int) = (↑(List.length rq) : Int))) = true ∧
 ((!!decide ((↑(List.length rq) : Int) = (↑(List.length rq) : Int))) = true ∧
 ((!decide ((↑(List.length rq) : Int) = (↑(List.length rq) : Int))) = false ∧
 (((!decide
 (rowE L C T R F W U rq (fun x => false) u (List.length rq) <
 rowE L C T R F W U rq (fun x => false) t (List.length rq))) = true →
 (!decide
 (rowE L C T R F W U rq (fun x => false) u (List.length rq) <
 rowE L C T R F W U rq (fun x => false) t (List.length rq))) = true ∧
 ((!decide
 (rowE L C T R F W U rq (fun x => false) u (List.length rq) <
 rowE L C T R F W U rq (fun x => false) t (List.length rq))) = true ∧
 ((!decide
 (rowE L C T R F W U rq (fun x => false) u (List.length rq) <
 rowE L C T R F W U rq (fun x => false) t (List.length rq))) = true ∧
 ((!decide
 (rowE L C T R F W U rq (fun x => false) u (List.length rq) <
 rowE L C T R F W U rq (fun x => false) t (List.length rq))) = true ∧
 ((decide
 (rowE L C T R F W U rq (fun x => false) u (List.length rq) <
 rowE L C T R F W U rq (fun x => false) t (List.length rq))) = false ∧
 (((!decide
 (rowE L C T R F W U rq (fun x => false) (IntKind.wrap IntKind.i64 (t + lenF L C T R F W U)) (List.length rq) =
 IntKind.wrap IntKind.i64 (rowE L C T R F W U rq (fun x => false) t (List.length rq) + lenF L C T R F W U))) = true →
 K (AV.bool false)
 { nx := 6, m :=
 [(5,
 AObj.opn 2 1
 (encI IntKind.i64
 (rowAcc L C T R F W U rq (fun x => false) (IntKind.wrap IntKind.i64 (t + lenF L C T R F W U))
 (List.length rq)))),
 (4,
 AObj.opn 2 1
 (encI IntKind.i64 (rowAcc L C T R F W U rq (fun x => false) u (List.length rq)))),
 (3,
 AObj.opn 2 1
 (encI IntKind.i64 (rowAcc L C T R F W U rq (fun x => false) t (List.length rq)))),
 (2,
 AObj.cells 23
 [AV.int IntKind.i64 L, AV.int IntKind.i64 C, AV.int IntKind.i64 T, AV.int IntKind.i64 R,
 AV.int IntKind.i64 F, AV.int IntKind.i64 W, AV.int IntKind.i64 U]),
 (1, AObj.ro bs), (0, AObj.ro (qF rq))] }) ∧
 ((!decide
 (rowE L C T R F W U rq (fun x => false) (IntKind.wrap IntKind.i64 (t + lenF L C T R F W U)) (List.length rq) =
 IntKind.wrap IntKind.i64 (rowE L C T R F W U rq (fun x => false) t (List.length rq) + lenF L C T R F W U))) = false →
 need (2 = 2) ∧
 (need (Fits 2 [(0, 0), (1, 1), (2, 2), (3, 3)]
 { n := 208, l :=
 [(23, AV.int IntKind.i64 (0 : Int)), (22, AV.int IntKind.i64 t),
 (127, AV.int IntKind.i64 t),
 (126,
 AV.bool
 !decide
 (rowE L C T R F W U rq (fun x => false) (IntKind.wrap IntKind.i64 (t + lenF L C T R F W U))
 (List.length rq) =
 IntKind.wrap IntKind.i64
 (rowE L C T R F W U rq (fun x => false) t (List.length rq) + lenF L C T R F W U))),
 (125,
 AV.bool
 !decide
 (rowE L C T R F W U rq (fun x => false) (IntKind.wrap IntKind.i64 (t + lenF L C T R F W U))
 (List.length rq) =
 IntKind.wrap IntKind.i64
 (rowE L C T R F W U rq (fun x => false) t (List.length rq) + lenF L C T R F W U))),
 (124,
 AV.int IntKind.i64
 (IntKind.wrap IntKind.i64
 (rowE L C T R F W U rq (fun x => false) t (List.length rq) + lenF L C T R F W U))),
 (123, AV.int IntKind.i64 (lenF L C T R F W U)),
 (122, AV.int IntKind.i64 (rowE L C T R F W U rq (fun x => false) t (List.length rq))),
 (121,
 AV.int IntKind.i64
 (rowE L C T R F W U rq (fun x => false) (IntKind.wrap IntKind.i64 (t + lenF L C T R F W U))
 (List.length rq))),
 (120,
 AV.bool
 (decide
 (rowE L C T R F W U rq (fun x => false) u (List.length rq) <
 rowE L C T R F W U rq (fun x => false) t (List.length rq)))),
 (119,
 AV.bool
 (decide
 (rowE L C T R F W U rq (fun x => false) u (List.length rq) <
 rowE L C T R F W U rq (fun x => false) t (List.length rq)))),
 (118,
 AV.bool
 (decide
 (rowE L C T R F W U rq (fun x => false) u (List.length rq) <
 rowE L C T R F W U rq (fun x => false) t (List.length rq)))),
 (117, AV.int IntKind.i64 (rowE L C T R F W U rq (fun x => false) t (List.length rq))),
 (116, AV.int IntKind.i64 (rowE L C T R F W U rq (fun x => false) u (List.length rq))),
 (115, AV.bool !decide ((↑(List.length rq) : Int) = (↑(List.length rq) : Int))),
 (114, AV.bool !decide ((↑(List.length rq) : Int) = (↑(List.length rq) : Int))),
 (113, AV.bool !decide ((↑(List.length rq) : Int) = (↑(List.length rq) : Int))),
 (112, AV.int IntKind.i64 (↑(List.length rq) : Int)),
 (111, AV.slice 0 0 (List.length rq) (some c)),
 (110, AV.int IntKind.i64 (↑(List.length rq) : Int)),
 (109, AV.slice 3 0 (List.length rq) none), (108, AV.bool false),
 (107, AV.bool false), (106, AV.bool false), (105, AV.int IntKind.i64 (0 : Int)),
 (104, AV.bool false), (103, AV.bool false), (102, AV.bool false),
 (101, AV.int IntKind.i64 (0 : Int)), (100, AV.bool false), (99, AV.bool false),
 (98, AV.int IntKind.i64 (0 : Int)), (21, AV.int IntKind.i64 (0 : Int)),
 (20,
 AV.int IntKind.i64
 (rowE L C T R F W U rq (fun x => false) (IntKind.wrap IntKind.i64 (t + lenF L C T R F W U))
 (List.length rq))),
 (19, AV.slice 5 0 (List.length rq) none), (97, AV.int IntKind.i64 (0 : Int)),
 (96,
 AV.int IntKind.i64
 (rowE L C T R F W U rq (fun x => false) (IntKind.wrap IntKind.i64 (t + lenF L C T R F W U))
 (List.length rq))),
 (95, AV.slice 5 0 (List.length rq) none),
 (87,
 AV.tup
 [AV.slice 5 0 (List.length rq) none,
 AV.int IntKind.i64
 (rowE L C T R F W U rq (fun x => false) (IntKind.wrap IntKind.i64 (t + lenF L C T R F W U))
 (List.length rq)),
 AV.int IntKind.i64 (0 : Int)]),
 (94,
 AV.tup
 [AV.slice 5 0 (List.length rq) none,
 AV.int IntKind.i64
 (rowE L C T R F W U rq (fun x => false) (IntKind.wrap IntKind.i64 (t + lenF L C T R F W U))
 (List.length rq)),
 AV.int IntKind.i64 (0 : Int)]),
 (93, AV.int IntKind.i64 (IntKind.wrap IntKind.i64 (t + lenF L C T R F W U))),
 (92, AV.int IntKind.i64 (lenF L C T R F W U)), (91, AV.int IntKind.i64 t),
 (90, AV.nilslice), (89, AV.slice 0 0 (List.length rq) (some c)),
 (88,
 AV.agg
 [AV.int IntKind.i64 L, AV.int IntKind.i64 C, AV.int IntKind.i64 T, AV.int IntKind.i64 R,
 AV.int IntKind.i64 F, AV.int IntKind.i64 W, AV.int IntKind.i64 U]),
 (18, AV.int IntKind.i64 (lenF L C T R F W U)), (86, AV.int IntKind.i64 (lenF L C T R F W U)),
 (85,
 AV.agg
 [AV.int IntKind.i64 L, AV.int IntKind.i64 C, AV.int IntKind.i64 T, AV.int IntKind.i64 R,
 AV.int IntKind.i64 F, AV.int IntKind.i64 W, AV.int IntKind.i64 U]),
 (17, AV.int IntKind.i64 (0 : Int)),
 (16, AV.int IntKind.i64 (rowE L C T R F W U rq (fun x => false) u (List.length rq))),
 (15, AV.slice 4 0 (List.length rq) none), (84, AV.int IntKind.i64 (0 : Int)),
 (83, AV.int IntKind.i64 (rowE L C T R F W U rq (fun x => false) u (List.length rq))),
 (82, AV.slice 4 0 (List.length rq) none),
 (76,
 AV.tup
 [AV.slice 4 0 (List.length rq) none,
 AV.int IntKind.i64 (rowE L C T R F W U rq (fun x => false) u (List.length rq)),
 AV.int IntKind.i64 (0 : Int)]),
 (81,
 AV.tup
 [AV.slice 4 0 (List.length rq) none,
 AV.int IntKind.i64 (rowE L C T R F W U rq (fun x => false) u (List.length rq)),
 AV.int IntKind.i64 (0 : Int)]),
 (80, AV.int IntKind.i64 u), (79, AV.nilslice),
 (78, AV.slice 0 0 (List.length rq) (some c)),
 (77,
 AV.agg
 [AV.int IntKind.i64 L, AV.int IntKind.i64 C, AV.int IntKind.i64 T, AV.int IntKind.i64 R,
 AV.int IntKind.i64 F, AV.int IntKind.i64 W, AV.int IntKind.i64 U]),
 (14, AV.int IntKind.i64 (0 : Int)),
 (13, AV.int IntKind.i64 (rowE L C T R F W U rq (fun x => false) t (List.length rq))),
 (12, AV.slice 3 0 (List.length rq) none), (75, AV.int IntKind.i64 (0 : Int)),
 (74, AV.int IntKind.i64 (rowE L C T R F W U rq (fun x => false) t (List.length rq))),
 (73, AV.slice 3 0 (List.length rq) none),
 (67,
 AV.tup
 [AV.slice 3 0 (List.length rq) none,
 AV.int IntKind.i64 (rowE L C T R F W U rq (fun x => false) t (List.length rq)),
 AV.int IntKind.i64 (0 : Int)]),
 (72,
 AV.tup
 [AV.slice 3 0 (List.length rq) none,
 AV.int IntKind.i64 (rowE L C T R F W U rq (fun x => false) t (List.length rq)),
 AV.int IntKind.i64 (0 : Int)]),
 (71, AV.int IntKind.i64 t), (70, AV.nilslice),
 (69, AV.slice 0 0 (List.length rq) (some c)),
 (68,
 AV.agg
 [AV.int IntKind.i64 L, AV.int IntKind.i64 C, AV.int IntKind.i64 T, AV.int IntKind.i64 R,
 AV.int IntKind.i64 F, AV.int IntKind.i64 W, AV.int IntKind.i64 U]),
 (1, AV.slice 0 0 (List.length rq) (some c)), (2, AV.nilslice),
 (3, AV.int IntKind.i64 t), (4, AV.int IntKind.i64 u), (5, AV.ptr 2 0),
 (11, AV.int IntKind.i64 (↑(List.length rq) : Int))] }
 { nx := 6, m :=
 [(5,
 AObj.opn 2 1
 (encI IntKind.i64
 (rowAcc L C T R F W U rq (fun x => false) (IntKind.wrap IntKind.i64 (t + lenF L C T R F W U))
 (List.length rq)))),
 (4,
 AObj.opn 2 1
 (encI IntKind.i64 (rowAcc L C T R F W U rq (fun x => false) u (List.length rq)))),
 (3,
 AObj.opn 2 1
 (encI IntKind.i64 (rowAcc L C T R F W U rq (fun x => false) t (List.length rq)))),
 (2,
 AObj.cells 23
 [AV.int IntKind.i64 L, AV.int IntKind.i64 C, AV.int IntKind.i64 T, AV.int IntKind.i64 R,
 AV.int IntKind.i64 F, AV.int IntKind.i64 W, AV.int IntKind.i64 U]),
 (1, AObj.ro bs), (0, AObj.ro (qF rq))] }
 { n := 208, l :=
 [(1, AV.slice 0 0 (List.length rq) (some c)), (2, AV.nilslice),
 (5, AV.ptr 2 0), (12, AV.slice 3 0 (List.length rq) none),
 (13, AV.int IntKind.i64 (rowE L C T R F W U rq (fun x => false) t (List.length rq))),
 (22, AV.int IntKind.i64 t), (23, AV.int IntKind.i64 (0 : Int))] }
 { nx := 4, m :=
 [(3,
 AObj.opn 2 1
 (encI IntKind.i64 (rowAcc L C T R F W U rq (fun x => false) t (List.length rq)))),
 (2,
 AObj.cells 23
 [AV.int IntKind.i64 L, AV.int IntKind.i64 C, AV.int IntKind.i64 T, AV.int IntKind.i64 R,
 AV.int IntKind.i64 F, AV.int IntKind.i64 W, AV.int IntKind.i64 U]),
 (1, AObj.ro bs), (0, AObj.ro (qF rq))] }) ∧
 (need (pfs bs = true ∧
 List.length rq ≤ 60 ∧
 rqsOk rq ∧
 okF L C T R F W U = true ∧ (0 : Int) ≤ t ∧ t + (31 : Int) * (↑(List.length rq) : Int) ≤ (1099511626776 : Int)) ∧
 (K
 (AV.bool
 (decide
 (rowE L C T R F W U rq (fun x => false) t (List.length rq) =
 rowE L C T R F W U rq (fun x => false) t (List.length rq))))
 { nx := 4, m :=
 [(3,
 AObj.opn 2 1
 (encI IntKind.i64 (rowAcc L C T R F W U rq (fun x => false) t (List.length rq)))),
 (2,
 AObj.cells 23
 [AV.int IntKind.i64 L, AV.int IntKind.i64 C, AV.int IntKind.i64 T, AV.int IntKind.i64 R,
 AV.int IntKind.i64 F, AV.int IntKind.i64 W, AV.int IntKind.i64 U]),
 (1, AObj.ro bs), (0, AObj.ro (qF rq))] })))))))))) ∧
 ((!decide
 (rowE L C T R F W U rq (fun x => false) u (List.length rq) <
 rowE L C T R F W U rq (fun x => false) t (List.length rq))) = false →
 (!decide
 (rowE L C T R F W U rq (fun x => false) u (List.length rq) <
 rowE L C T R F W U rq (fun x => false) t (List.length rq))) = false ∧
 ((!decide
 (rowE L C T R F W U rq (fun x => false) u (List.length rq) <
 rowE L C T R F W U rq (fun x => false) t (List.length rq))) = false ∧
 ((!decide
 (rowE L C T R F W U rq (fun x => false) u (List.length rq) <
 rowE L C T R F W U rq (fun x => false) t (List.length rq))) = false ∧
 ((!decide
 (rowE L C T R F W U rq (fun x => false) u (List.length rq) <
 rowE L C T R F W U rq (fun x => false) t (List.length rq))) = false ∧
 ((decide
 (rowE L C T R F W U rq (fun x => false) u (List.length rq) <
 rowE L C T R F W U rq (fun x => false) t (List.length rq))) = true ∧
 (K (AV.bool false)
 { nx := 6, m :=
 [(5,
 AObj.opn 2 1
 (encI IntKind.i64
 (rowAcc L C T R F W U rq (fun x => false) (IntKind.wrap IntKind.i64 (t + lenF L C T R F W U))
 (List.length rq)))),
 (4,
 AObj.opn 2 1
 (encI IntKind.i64 (rowAcc L C T R F W U rq (fun x => false) u (List.length rq)))),
 (3,
 AObj.opn 2 1
 (encI IntKind.i64 (rowAcc L C T R F W U rq (fun x => false) t (List.length rq)))),
 (2,
 AObj.cells 23
 [AV.int IntKind.i64 L, AV.int IntKind.i64 C, AV.int IntKind.i64 T, AV.int IntKind.i64 R,
 AV.int IntKind.i64 F, AV.int IntKind.i64 W, AV.int IntKind.i64 U]),
 (1, AObj.ro bs), (0, AObj.ro (qF rq))] })))))))))) ∧
 ((!!decide ((↑(List.length rq) : Int) = (↑(List.length rq) : Int))) = false →
 (!!decide ((↑(List.length rq) : Int) = (↑(List.length rq) : Int))) = false ∧
 ((!!decide ((↑(List.length rq) : Int) = (↑(List.length rq) : Int))) = false ∧
 ((!decide ((↑(List.length rq) : Int) = (↑(List.length rq) : Int))) = true ∧
 (K (AV.bool false)
 { nx := 6, m :=
 [(5,
 AObj.opn 2 1
 (encI IntKind.i64
 (rowAcc L C T R F W U rq (fun x => false) (IntKind.wrap IntKind.i64 (t + lenF L C T R F W U))
 (List.length rq)))),
 (4,
 AObj.opn 2 1
 (encI IntKind.i64 (rowAcc L C T R F W U rq (fun x => false) u (List.length rq)))),
 (3,
 AObj.opn 2 1
 (encI IntKind.i64 (rowAcc L C T R F W U rq (fun x => false) t (List.length rq)))),
 (2,
 AObj.cells 23
 [AV.int IntKind.i64 L, AV.int IntKind.i64 C, AV.int IntKind.i64 T, AV.int IntKind.i64 R,
 AV.int IntKind.i64 F, AV.int IntKind.i64 W, AV.int IntKind.i64 U]),
 (1, AObj.ro bs), (0, AObj.ro (qF rq))] })))))))))))))))))))))))))) ∧
 ((!decide (t > u)) = false →
 (!decide (t > u)) = false ∧
 ((decide (t > u)) = true ∧
 (K (AV.bool true)
 { nx := 3, m :=
 [(2,
 AObj.cells 23
 [AV.int IntKind.i64 L, AV.int IntKind.i64 C, AV.int IntKind.i64 T, AV.int IntKind.i64 R,
 AV.int IntKind.i64 F, AV.int IntKind.i64 W, AV.int IntKind.i64 U]),
 (1, AObj.ro bs), (0, AObj.ro (qF rq))] }))))))) ∧
 ((!decide (t < (0 : Int))) = false →
 (!decide (t < (0 : Int))) = false ∧
 ((!decide (t < (0 : Int))) = false ∧
 ((decide (t < (0 : Int))) = true ∧
 (K (AV.bool true)
 { nx := 3, m :=
 [(2,
 AObj.cells 23
 [AV.int IntKind.i64 L, AV.int IntKind.i64 C, AV.int IntKind.i64 T, AV.int IntKind.i64 R,
 AV.int IntKind.i64 F, AV.int IntKind.i64 W, AV.int IntKind.i64 U]),
 (1, AObj.ro bs), (0, AObj.ro (qF rq))] }))))))) ∧
 ((!!decide ((if okF L C T R F W U = true then (0 : Int) else (2 : Int)) = (0 : Int))) = false →
 (!!decide ((if okF L C T R F W U = true then (0 : Int) else (2 : Int)) = (0 : Int))) = false ∧
 ((!decide ((if okF L C T R F W U = true then (0 : Int) else (2 : Int)) = (0 : Int))) = true ∧
 (K (AV.bool true)
 { nx := 3, m :=
 [(2,
 AObj.cells 23
 [AV.int IntKind.i64 L, AV.int IntKind.i64 C, AV.int IntKind.i64 T, AV.int IntKind.i64 R,
 AV.int IntKind.i64 F, AV.int IntKind.i64 W, AV.int IntKind.i64 U]),
 (1, AObj.ro bs), (0, AObj.ro (qF rq))] }))))))) ∧
 ((!decide ((↑(List.length rq) : Int) > (40 : Int))) = false →
 (!decide ((↑(List.length rq) : Int) > (40 : Int))) = false ∧
 ((!decide ((↑(List.length rq) : Int) > (40 : Int))) = false ∧
 ((decide ((↑(List.length rq) : Int) > (40 : Int))) = true ∧
 (K (AV.bool true)
 { nx := 3, m :=
 [(2,
 AObj.cells 23
 [AV.int IntKind.i64 L, AV.int IntKind.i64 C, AV.int IntKind.i64 T, AV.int IntKind.i64 R,
 AV.int IntKind.i64 F, AV.int IntKind.i64 W, AV.int IntKind.i64 U]),
 (1, AObj.ro bs), (0, AObj.ro (qF rq))] }))))
def lwN_scr : Plan := .k (.b (.t (.t (.f (.k (.k (.k (.k (.b (.t (.f (.b (.t (.t (.f (.b (.t (.f (.b (.z) (.k (.k (.k (.k (.k (.k (.k (.k (.k (.k (.k (.k (.b (.t (.t (.f (.b (.t (.t (.t (.t (.f (.b (.z) (.z))))))) (.f (.f (.f (.f (.t (.z)))))))))) (.f (.f (.t (.z)))))))))))))))))))) (.f (.t (.z))))))) (.f (.f (.t (.z))))))) (.f (.t (.z))))))))))) (.f (.f (.t (.z)))))
theorem lwN_vc (L C T R F W U t u : Int) (rq : List Rq) (bs : List AV) (c : Nat) (K : AV → AH → Prop) : (funP (XLwN L C T R F W U t u rq bs c) 14 [.agg [.int .i64 L, .int .i64 C, .int .i64 T, .int .i64 R, .int .i64 F, .int .i64 W, .int .i64 U], .slice 0 0 rq.length (some c), .nilslice, .int .i64 t, .int .i64 u] ⟨2, [(1, .ro bs), (0, .ro (qF rq))]⟩ lwN_scr (fun v σ _ => K v σ)) = lwN_VC L C T R F W U t u rq bs c K := by kernel_rfl
def lbN_VC (L C T R F W U t u : Int) (rq : List Rq) (bs : List AV) (c : Nat) (K : AV → AH → Prop) : Prop :=
 ((!decide ((↑(List.length rq) : Int) > (40 : Int))) = true →
 (!decide ((↑(List.length rq) : Int) > (40 : Int))) = true ∧
 ((!decide ((↑(List.length rq) : Int) > (40 : Int))) = true ∧
 ((decide ((↑(List.length rq) : Int) > (40 : Int))) = false ∧
 (((!!decide ((if okF L C T R F W U = true then (0 : Int) else (2 : Int)) = (0 : Int))) = true →
 (!!decide ((if okF L C T R F W U = true then (0 : Int) else (2 : Int)) = (0 : Int))) = true ∧
 ((!decide ((if okF L C T R F W U = true then (0 : Int) else (2 : Int)) = (0 : Int))) = false ∧
 (((!decide (t < (0 : Int))) = true →
 (!decide (t < (0 : Int))) = true ∧
 ((!decide (t < (0 : Int))) = true ∧
 ((decide (t < (0 : Int))) = false ∧
 (((!decide (t > u)) = true →
 (!decide (t > u)) = true ∧
 ((decide (t > u)) = false ∧
 (((decide (u > (549755813888 : Int))) = true →
 K (AV.bool true)
 { nx := 3, m :=
 [(2,
 AObj.cells 23
 [AV.int IntKind.i64 L, AV.int IntKind.i64 C, AV.int IntKind.i64 T, AV.int IntKind.i64 R,
 AV.int IntKind.i64 F, AV.int IntKind.i64 W, AV.int IntKind.i64 U]),
 (1, AObj.ro bs), (0, AObj.ro (qF rq))] }) ∧
 ((decide (u > (549755813888 : Int))) = false →
 need (2 = 2) ∧
 (need (Fits 2 [(0, 0), (1, 1), (2, 2)]
 { n := 208, l :=
 [(11, AV.int IntKind.i64 (0 : Int)), (54, AV.bool (decide (u > (549755813888 : Int)))),
 (53, AV.bool (decide (u > (549755813888 : Int)))), (52, AV.int IntKind.i64 u),
 (51, AV.bool (decide (t > u))), (50, AV.bool (decide (t > u))),
 (49, AV.bool (decide (t > u))), (48, AV.int IntKind.i64 u), (47, AV.int IntKind.i64 t),
 (46, AV.bool (decide (t < (0 : Int)))), (45, AV.bool (decide (t < (0 : Int)))),
 (44, AV.bool (decide (t < (0 : Int)))), (43, AV.int IntKind.i64 t),
 (42, AV.bool !decide ((if okF L C T R F W U = true then (0 : Int) else (2 : Int)) = (0 : Int))),
 (41, AV.bool !decide ((if okF L C T R F W U = true then (0 : Int) else (2 : Int)) = (0 : Int))),
 (40, AV.bool !decide ((if okF L C T R F W U = true then (0 : Int) else (2 : Int)) = (0 : Int))),
 (39, AV.int IntKind.i64 (if okF L C T R F W U = true then (0 : Int) else (2 : Int))),
 (38,
 AV.agg
 [AV.int IntKind.i64 L, AV.int IntKind.i64 C, AV.int IntKind.i64 T, AV.int IntKind.i64 R,
 AV.int IntKind.i64 F, AV.int IntKind.i64 W, AV.int IntKind.i64 U]),
 (37, AV.bool false), (36, AV.bool false), (35, AV.bool false),
 (34, AV.int IntKind.i64 (0 : Int)), (33, AV.nilslice),
 (32, AV.bool (decide ((↑(List.length rq) : Int) > (40 : Int)))),
 (31, AV.bool (decide ((↑(List.length rq) : Int) > (40 : Int)))),
 (30, AV.int IntKind.i64 (↑(List.length rq) : Int)),
 (29, AV.slice 0 0 (List.length rq) (some c)), (28, AV.bool false),
 (27, AV.bool true), (10, AV.bool false), (5, AV.ptr 2 0),
 (0,
 AV.agg
 [AV.int IntKind.i64 L, AV.int IntKind.i64 C, AV.int IntKind.i64 T, AV.int IntKind.i64 R,
 AV.int IntKind.i64 F, AV.int IntKind.i64 W, AV.int IntKind.i64 U]),
 (1, AV.slice 0 0 (List.length rq) (some c)), (2, AV.nilslice),
 (3, AV.int IntKind.i64 t), (4, AV.int IntKind.i64 u)] }
 { nx := 3, m :=
 [(2,
 AObj.cells 23
 [AV.int IntKind.i64 L, AV.int IntKind.i64 C, AV.int IntKind.i64 T, AV.int IntKind.i64 R,
 AV.int IntKind.i64 F, AV.int IntKind.i64 W, AV.int IntKind.i64 U]),
 (1, AObj.ro bs), (0, AObj.ro (qF rq))] }
 { n := 208, l :=
 [(1, AV.slice 0 0 (List.length rq) (some c)), (2, AV.nilslice),
 (3, AV.int IntKind.i64 t), (4, AV.int IntKind.i64 u), (5, AV.ptr 2 0),
 (11, AV.int IntKind.i64 (0 : Int))] }
 { nx := 3, m :=
 [(2,
 AObj.cells 23
 [AV.int IntKind.i64 L, AV.int IntKind.i64 C, AV.int IntKind.i64 T, AV.int IntKind.i64 R,
 AV.int IntKind.i64 F, AV.int IntKind.i64 W, AV.int IntKind.i64 U]),
 (1, AObj.ro bs), (0, AObj.ro (qF rq))] }) ∧
 (need (pfs bs = true ∧ List.length rq ≤ 60 ∧ ¬rqsOk rq) ∧
 (K (AV.bool true)
 { nx := 3, m :=
 [(2,
 AObj.cells 23
 [AV.int IntKind.i64 L, AV.int IntKind.i64 C, AV.int IntKind.i64 T, AV.int IntKind.i64 R,
 AV.int IntKind.i64 F, AV.int IntKind.i64 W, AV.int IntKind.i64 U]),
 (1, AObj.ro bs), (0, AObj.ro (qF rq))] }))))))) ∧
 ((!decide (t > u)) = false →
 (!decide (t > u)) = false ∧
 ((decide (t > u)) = true ∧
 (K (AV.bool true)
 { nx := 3, m :=
 [(2,
 AObj.cells 23
 [AV.int IntKind.i64 L, AV.int IntKind.i64 C, AV.int IntKind.i64 T, AV.int IntKind.i64 R,
 AV.int IntKind.i64 F, AV.int IntKind.i64 W, AV.int IntKind.i64 U]),
 (1, AObj.ro bs), (0, AObj.ro (qF rq))] }))))))) ∧
 ((!decide (t < (0 : Int))) = false →
 (!decide (t < (0 : Int))) = false ∧
 ((!decide (t < (0 : Int))) = false ∧
 ((decide (t < (0 : Int))) = true ∧
 (K (AV.bool true)
 { nx := 3, m :=
 [(2,
 AObj.cells 23
 [AV.int IntKind.i64 L, AV.int IntKind.i64 C, AV.int IntKind.i64 T, AV.int IntKind.i64 R,
 AV.int IntKind.i64 F, AV.int IntKind.i64 W, AV.int IntKind.i64 U]),
 (1, AObj.ro bs), (0, AObj.ro (qF rq))] }))))))) ∧
 ((!!decide ((if okF L C T R F W U = true then (0 : Int) else (2 : Int)) = (0 : Int))) = false →
 (!!decide ((if okF L C T R F W U = true then (0 : Int) else (2 : Int)) = (0 : Int))) = false ∧
 ((!decide ((if okF L C T R F W U = true then (0 : Int) else (2 : Int)) = (0 : Int))) = true ∧
 (K (AV.bool true)
 { nx := 3, m :=
 [(2,
 AObj.cells 23
 [AV.int IntKind.i64 L, AV.int IntKind.i64 C, AV.int IntKind.i64 T, AV.int IntKind.i64 R,
 AV.int IntKind.i64 F, AV.int IntKind.i64 W, AV.int IntKind.i64 U]),
 (1, AObj.ro bs), (0, AObj.ro (qF rq))] }))))))) ∧
 ((!decide ((↑(List.length rq) : Int) > (40 : Int))) = false →
 (!decide ((↑(List.length rq) : Int) > (40 : Int))) = false ∧
 ((!decide ((↑(List.length rq) : Int) > (40 : Int))) = false ∧
 ((decide ((↑(List.length rq) : Int) > (40 : Int))) = true ∧
 (K (AV.bool true)
 { nx := 3, m :=
 [(2,
 AObj.cells 23
 [AV.int IntKind.i64 L, AV.int IntKind.i64 C, AV.int IntKind.i64 T, AV.int IntKind.i64 R,
 AV.int IntKind.i64 F, AV.int IntKind.i64 W, AV.int IntKind.i64 U]),
 (1, AObj.ro bs), (0, AObj.ro (qF rq))] }))))
def lbN_scr : Plan := .k (.b (.t (.t (.f (.k (.k (.k (.k (.b (.t (.f (.b (.t (.t (.f (.b (.t (.f (.b (.z) (.z)))) (.f (.t (.z))))))) (.f (.f (.t (.z))))))) (.f (.t (.z))))))))))) (.f (.f (.t (.z)))))
theorem lbN_vc (L C T R F W U t u : Int) (rq : List Rq) (bs : List AV) (c : Nat) (K : AV → AH → Prop) : (funP (XLbN L C T R F W U t u rq bs c) 14 [.agg [.int .i64 L, .int .i64 C, .int .i64 T, .int .i64 R, .int .i64 F, .int .i64 W, .int .i64 U], .slice 0 0 rq.length (some c), .nilslice, .int .i64 t, .int .i64 u] ⟨2, [(1, .ro bs), (0, .ro (qF rq))]⟩ lbN_scr (fun v σ _ => K v σ)) = lbN_VC L C T R F W U t u rq bs c K := by kernel_rfl
def lwE_VC (L C T R F W U t u : Int) (rq : List Rq) (bs : List AV) (c : Nat) (K : AV → AH → Prop) : Prop :=
 ((!decide ((↑(List.length rq) : Int) > (40 : Int))) = true →
 (!decide ((↑(List.length rq) : Int) > (40 : Int))) = true ∧
 ((!decide ((↑(List.length rq) : Int) > (40 : Int))) = true ∧
 ((decide ((↑(List.length rq) : Int) > (40 : Int))) = false ∧
 (((!!decide ((if okF L C T R F W U = true then (0 : Int) else (2 : Int)) = (0 : Int))) = true →
 (!!decide ((if okF L C T R F W U = true then (0 : Int) else (2 : Int)) = (0 : Int))) = true ∧
 ((!decide ((if okF L C T R F W U = true then (0 : Int) else (2 : Int)) = (0 : Int))) = false ∧
 (((!decide (t < (0 : Int))) = true →
 (!decide (t < (0 : Int))) = true ∧
 ((!decide (t < (0 : Int))) = true ∧
 ((decide (t < (0 : Int))) = false ∧
 (((!decide (t > u)) = true →
 (!decide (t > u)) = true ∧
 ((decide (t > u)) = false ∧
 (((decide (u > (549755813888 : Int))) = true →
 K (AV.bool true)
 { nx := 3, m :=
 [(2,
 AObj.cells 23
 [AV.int IntKind.i64 L, AV.int IntKind.i64 C, AV.int IntKind.i64 T, AV.int IntKind.i64 R,
 AV.int IntKind.i64 F, AV.int IntKind.i64 W, AV.int IntKind.i64 U]),
 (1, AObj.ro bs), (0, AObj.ro (qF rq))] }) ∧
 ((decide (u > (549755813888 : Int))) = false →
 need (2 = 2) ∧
 (need (Fits 2 [(0, 0), (1, 1), (2, 2)]
 { n := 208, l :=
 [(11, AV.int IntKind.i64 (0 : Int)), (54, AV.bool (decide (u > (549755813888 : Int)))),
 (53, AV.bool (decide (u > (549755813888 : Int)))), (52, AV.int IntKind.i64 u),
 (51, AV.bool (decide (t > u))), (50, AV.bool (decide (t > u))),
 (49, AV.bool (decide (t > u))), (48, AV.int IntKind.i64 u), (47, AV.int IntKind.i64 t),
 (46, AV.bool (decide (t < (0 : Int)))), (45, AV.bool (decide (t < (0 : Int)))),
 (44, AV.bool (decide (t < (0 : Int)))), (43, AV.int IntKind.i64 t),
 (42, AV.bool !decide ((if okF L C T R F W U = true then (0 : Int) else (2 : Int)) = (0 : Int))),
 (41, AV.bool !decide ((if okF L C T R F W U = true then (0 : Int) else (2 : Int)) = (0 : Int))),
 (40, AV.bool !decide ((if okF L C T R F W U = true then (0 : Int) else (2 : Int)) = (0 : Int))),
 (39, AV.int IntKind.i64 (if okF L C T R F W U = true then (0 : Int) else (2 : Int))),
 (38,
 AV.agg
 [AV.int IntKind.i64 L, AV.int IntKind.i64 C, AV.int IntKind.i64 T, AV.int IntKind.i64 R,
 AV.int IntKind.i64 F, AV.int IntKind.i64 W, AV.int IntKind.i64 U]),
 (37, AV.bool false), (36, AV.bool false), (35, AV.bool false),
 (34, AV.int IntKind.i64 (0 : Int)), (33, AV.slice 1 0 0 none),
 (32, AV.bool (decide ((↑(List.length rq) : Int) > (40 : Int)))),
 (31, AV.bool (decide ((↑(List.length rq) : Int) > (40 : Int)))),
 (30, AV.int IntKind.i64 (↑(List.length rq) : Int)),
 (29, AV.slice 0 0 (List.length rq) (some c)), (28, AV.bool false),
 (27, AV.bool true), (10, AV.bool false), (5, AV.ptr 2 0),
 (0,
 AV.agg
 [AV.int IntKind.i64 L, AV.int IntKind.i64 C, AV.int IntKind.i64 T, AV.int IntKind.i64 R,
 AV.int IntKind.i64 F, AV.int IntKind.i64 W, AV.int IntKind.i64 U]),
 (1, AV.slice 0 0 (List.length rq) (some c)),
 (2, AV.slice 1 0 0 none), (3, AV.int IntKind.i64 t),
 (4, AV.int IntKind.i64 u)] }
 { nx := 3, m :=
 [(2,
 AObj.cells 23
 [AV.int IntKind.i64 L, AV.int IntKind.i64 C, AV.int IntKind.i64 T, AV.int IntKind.i64 R,
 AV.int IntKind.i64 F, AV.int IntKind.i64 W, AV.int IntKind.i64 U]),
 (1, AObj.ro bs), (0, AObj.ro (qF rq))] }
 { n := 208, l :=
 [(1, AV.slice 0 0 (List.length rq) (some c)),
 (2, AV.slice 1 0 0 none), (3, AV.int IntKind.i64 t),
 (4, AV.int IntKind.i64 u), (5, AV.ptr 2 0),
 (11, AV.int IntKind.i64 (0 : Int))] }
 { nx := 3, m :=
 [(2,
 AObj.cells 23
 [AV.int IntKind.i64 L, AV.int IntKind.i64 C, AV.int IntKind.i64 T, AV.int IntKind.i64 R,
 AV.int IntKind.i64 F, AV.int IntKind.i64 W, AV.int IntKind.i64 U]),
 (1, AObj.ro bs), (0, AObj.ro (qF rq))] }) ∧
 (need (pfs bs = true ∧ List.length rq ≤ 60 ∧ rqsOk rq) ∧
 (need ([AV.agg
 [AV.int IntKind.i64 L, AV.int IntKind.i64 C, AV.int IntKind.i64 T, AV.int IntKind.i64 R, AV.int IntKind.i64 F,
 AV.int IntKind.i64 W, AV.int IntKind.i64 U],
 AV.slice 0 0 (List.length rq) (some c), AV.slice 1 0 0 none,
 AV.int IntKind.i64 t] =
 [AV.agg
 [AV.int IntKind.i64 L, AV.int IntKind.i64 C, AV.int IntKind.i64 T, AV.int IntKind.i64 R, AV.int IntKind.i64 F,
 AV.int IntKind.i64 W, AV.int IntKind.i64 U],
 AV.slice 0 0 (List.length rq) (some c), AV.slice 1 0 0 none,
 AV.int IntKind.i64 t]) ∧
 (need (AH.get
 (Prod.snd
 (chT (AV.slice 1 0 0 none) L C T R F W U t u (↑(List.length rq) : Int) (List.length rq) c
 (qF rq) bs))
 0 =
 AObj.ro (qF rq)) ∧
 (need (AH.get
 (Prod.snd
 (chT (AV.slice 1 0 0 none) L C T R F W U t u (↑(List.length rq) : Int) (List.length rq) c
 (qF rq) bs))
 1 =
 AObj.ro bs) ∧
 (need (2 ≤ 3) ∧
 (need (rowOksE L C T R F W U t rq bs) ∧
 (need ([AV.agg
 [AV.int IntKind.i64 L, AV.int IntKind.i64 C, AV.int IntKind.i64 T, AV.int IntKind.i64 R, AV.int IntKind.i64 F,
 AV.int IntKind.i64 W, AV.int IntKind.i64 U],
 AV.slice 0 0 (List.length rq) (some c), AV.slice 1 0 0 none,
 AV.int IntKind.i64 u] =
 [AV.agg
 [AV.int IntKind.i64 L, AV.int IntKind.i64 C, AV.int IntKind.i64 T, AV.int IntKind.i64 R, AV.int IntKind.i64 F,
 AV.int IntKind.i64 W, AV.int IntKind.i64 U],
 AV.slice 0 0 (List.length rq) (some c), AV.slice 1 0 0 none,
 AV.int IntKind.i64 u]) ∧
 (need (AH.get
 (AH.push
 (Prod.snd
 (chT (AV.slice 1 0 0 none) L C T R F W U t u (↑(List.length rq) : Int) (List.length rq)
 c (qF rq) bs))
 (AObj.opn 2 1 (encI IntKind.i64 (rowAcc L C T R F W U rq (fun x => false) t (List.length rq)))))
 0 =
 AObj.ro (qF rq)) ∧
 (need (AH.get
 (AH.push
 (Prod.snd
 (chT (AV.slice 1 0 0 none) L C T R F W U t u (↑(List.length rq) : Int) (List.length rq)
 c (qF rq) bs))
 (AObj.opn 2 1 (encI IntKind.i64 (rowAcc L C T R F W U rq (fun x => false) t (List.length rq)))))
 1 =
 AObj.ro bs) ∧
 (need (2 ≤ 4) ∧
 (need (rowOksE L C T R F W U u rq bs) ∧
 (need ([AV.agg
 [AV.int IntKind.i64 L, AV.int IntKind.i64 C, AV.int IntKind.i64 T, AV.int IntKind.i64 R, AV.int IntKind.i64 F,
 AV.int IntKind.i64 W, AV.int IntKind.i64 U],
 AV.slice 0 0 (List.length rq) (some c), AV.slice 1 0 0 none,
 AV.int IntKind.i64 (IntKind.wrap IntKind.i64 (t + lenF L C T R F W U))] =
 [AV.agg
 [AV.int IntKind.i64 L, AV.int IntKind.i64 C, AV.int IntKind.i64 T, AV.int IntKind.i64 R, AV.int IntKind.i64 F,
 AV.int IntKind.i64 W, AV.int IntKind.i64 U],
 AV.slice 0 0 (List.length rq) (some c), AV.slice 1 0 0 none,
 AV.int IntKind.i64 (IntKind.wrap IntKind.i64 (t + lenF L C T R F W U))]) ∧
 (need (AH.get
 (AH.push
 (AH.push
 (Prod.snd
 (chT (AV.slice 1 0 0 none) L C T R F W U t u (↑(List.length rq) : Int)
 (List.length rq) c (qF rq) bs))
 (AObj.opn 2 1 (encI IntKind.i64 (rowAcc L C T R F W U rq (fun x => false) t (List.length rq)))))
 (AObj.opn 2 1 (encI IntKind.i64 (rowAcc L C T R F W U rq (fun x => false) u (List.length rq)))))
 0 =
 AObj.ro (qF rq)) ∧
 (need (AH.get
 (AH.push
 (AH.push
 (Prod.snd
 (chT (AV.slice 1 0 0 none) L C T R F W U t u (↑(List.length rq) : Int)
 (List.length rq) c (qF rq) bs))
 (AObj.opn 2 1 (encI IntKind.i64 (rowAcc L C T R F W U rq (fun x => false) t (List.length rq)))))
 (AObj.opn 2 1 (encI IntKind.i64 (rowAcc L C T R F W U rq (fun x => false) u (List.length rq)))))
 1 =
 AObj.ro bs) ∧
 (need (2 ≤ 5) ∧
 (need (rowOksE L C T R F W U (IntKind.wrap IntKind.i64 (t + lenF L C T R F W U)) rq bs) ∧
 (((!!decide ((↑(List.length rq) : Int) = (↑(List.length rq) : Int))) = true →
 (!!decide ((↑(List.length rq) : Int) = (↑(List.length rq) : Int))) = true ∧
 ((!!decide ((↑(List.length rq) : Int) = (↑(List.length rq) : Int))) = true ∧
 ((!decide ((↑(List.length rq) : Int) = (↑(List.length rq) : Int))) = false ∧
 (((!decide
 (rowE L C T R F W U rq (fun x => false) u (List.length rq) <
 rowE L C T R F W U rq (fun x => false) t (List.length rq))) = true →
 (!decide
 (rowE L C T R F W U rq (fun x => false) u (List.length rq) <
 rowE L C T R F W U rq (fun x => false) t (List.length rq))) = true ∧
 ((!decide
 (rowE L C T R F W U rq (fun x => false) u (List.length rq) <
 rowE L C T R F W U rq (fun x => false) t (List.length rq))) = true ∧
 ((!decide
 (rowE L C T R F W U rq (fun x => false) u (List.length rq) <
 rowE L C T R F W U rq (fun x => false) t (List.length rq))) = true ∧
 ((!decide
 (rowE L C T R F W U rq (fun x => false) u (List.length rq) <
 rowE L C T R F W U rq (fun x => false) t (List.length rq))) = true ∧
 ((decide
 (rowE L C T R F W U rq (fun x => false) u (List.length rq) <
 rowE L C T R F W U rq (fun x => false) t (List.length rq))) = false ∧
 (((!decide
 (rowE L C T R F W U rq (fun x => false) (IntKind.wrap IntKind.i64 (t + lenF L C T R F W U)) (List.length rq) =
 IntKind.wrap IntKind.i64 (rowE L C T R F W U rq (fun x => false) t (List.length rq) + lenF L C T R F W U))) = true →
 K (AV.bool false)
 { nx := 6, m :=
 [(5,
 AObj.opn 2 1
 (encI IntKind.i64
 (rowAcc L C T R F W U rq (fun x => false) (IntKind.wrap IntKind.i64 (t + lenF L C T R F W U))
 (List.length rq)))),
 (4,
 AObj.opn 2 1
 (encI IntKind.i64 (rowAcc L C T R F W U rq (fun x => false) u (List.length rq)))),
 (3,
 AObj.opn 2 1
 (encI IntKind.i64 (rowAcc L C T R F W U rq (fun x => false) t (List.length rq)))),
 (2,
 AObj.cells 23
 [AV.int IntKind.i64 L, AV.int IntKind.i64 C, AV.int IntKind.i64 T, AV.int IntKind.i64 R,
 AV.int IntKind.i64 F, AV.int IntKind.i64 W, AV.int IntKind.i64 U]),
 (1, AObj.ro bs), (0, AObj.ro (qF rq))] }) ∧
 ((!decide
 (rowE L C T R F W U rq (fun x => false) (IntKind.wrap IntKind.i64 (t + lenF L C T R F W U)) (List.length rq) =
 IntKind.wrap IntKind.i64 (rowE L C T R F W U rq (fun x => false) t (List.length rq) + lenF L C T R F W U))) = false →
 need (2 = 2) ∧
 (need (Fits 2 [(0, 0), (1, 1), (2, 2), (3, 3)]
 { n := 208, l :=
 [(23, AV.int IntKind.i64 (0 : Int)), (22, AV.int IntKind.i64 t),
 (127, AV.int IntKind.i64 t),
 (126,
 AV.bool
 !decide
 (rowE L C T R F W U rq (fun x => false) (IntKind.wrap IntKind.i64 (t + lenF L C T R F W U))
 (List.length rq) =
 IntKind.wrap IntKind.i64
 (rowE L C T R F W U rq (fun x => false) t (List.length rq) + lenF L C T R F W U))),
 (125,
 AV.bool
 !decide
 (rowE L C T R F W U rq (fun x => false) (IntKind.wrap IntKind.i64 (t + lenF L C T R F W U))
 (List.length rq) =
 IntKind.wrap IntKind.i64
 (rowE L C T R F W U rq (fun x => false) t (List.length rq) + lenF L C T R F W U))),
 (124,
 AV.int IntKind.i64
 (IntKind.wrap IntKind.i64
 (rowE L C T R F W U rq (fun x => false) t (List.length rq) + lenF L C T R F W U))),
 (123, AV.int IntKind.i64 (lenF L C T R F W U)),
 (122, AV.int IntKind.i64 (rowE L C T R F W U rq (fun x => false) t (List.length rq))),
 (121,
 AV.int IntKind.i64
 (rowE L C T R F W U rq (fun x => false) (IntKind.wrap IntKind.i64 (t + lenF L C T R F W U))
 (List.length rq))),
 (120,
 AV.bool
 (decide
 (rowE L C T R F W U rq (fun x => false) u (List.length rq) <
 rowE L C T R F W U rq (fun x => false) t (List.length rq)))),
 (119,
 AV.bool
 (decide
 (rowE L C T R F W U rq (fun x => false) u (List.length rq) <
 rowE L C T R F W U rq (fun x => false) t (List.length rq)))),
 (118,
 AV.bool
 (decide
 (rowE L C T R F W U rq (fun x => false) u (List.length rq) <
 rowE L C T R F W U rq (fun x => false) t (List.length rq)))),
 (117, AV.int IntKind.i64 (rowE L C T R F W U rq (fun x => false) t (List.length rq))),
 (116, AV.int IntKind.i64 (rowE L C T R F W U rq (fun x => false) u (List.length rq))),
 (115, AV.bool !decide ((↑(List.length rq) : Int) = (↑(List.length rq) : Int))),
 (114, AV.bool !decide ((↑(List.length rq) : Int) = (↑(List.length rq) : Int))),
 (113, AV.bool !decide ((↑(List.length rq) : Int) = (↑(List.length rq) : Int))),
 (112, AV.int IntKind.i64 (↑(List.length rq) : Int)),
 (111, AV.slice 0 0 (List.length rq) (some c)),
 (110, AV.int IntKind.i64 (↑(List.length rq) : Int)),
 (109, AV.slice 3 0 (List.length rq) none), (108, AV.bool false),
 (107, AV.bool false), (106, AV.bool false), (105, AV.int IntKind.i64 (0 : Int)),
 (104, AV.bool false), (103, AV.bool false), (102, AV.bool false),
 (101, AV.int IntKind.i64 (0 : Int)), (100, AV.bool false), (99, AV.bool false),
 (98, AV.int IntKind.i64 (0 : Int)), (21, AV.int IntKind.i64 (0 : Int)),
 (20,
 AV.int IntKind.i64
 (rowE L C T R F W U rq (fun x => false) (IntKind.wrap IntKind.i64 (t + lenF L C T R F W U))
 (List.length rq))),
 (19, AV.slice 5 0 (List.length rq) none), (97, AV.int IntKind.i64 (0 : Int)),
 (96,
 AV.int IntKind.i64
 (rowE L C T R F W U rq (fun x => false) (IntKind.wrap IntKind.i64 (t + lenF L C T R F W U))
 (List.length rq))),
 (95, AV.slice 5 0 (List.length rq) none),
 (87,
 AV.tup
 [AV.slice 5 0 (List.length rq) none,
 AV.int IntKind.i64
 (rowE L C T R F W U rq (fun x => false) (IntKind.wrap IntKind.i64 (t + lenF L C T R F W U))
 (List.length rq)),
 AV.int IntKind.i64 (0 : Int)]),
 (94,
 AV.tup
 [AV.slice 5 0 (List.length rq) none,
 AV.int IntKind.i64
 (rowE L C T R F W U rq (fun x => false) (IntKind.wrap IntKind.i64 (t + lenF L C T R F W U))
 (List.length rq)),
 AV.int IntKind.i64 (0 : Int)]),
 (93, AV.int IntKind.i64 (IntKind.wrap IntKind.i64 (t + lenF L C T R F W U))),
 (92, AV.int IntKind.i64 (lenF L C T R F W U)), (91, AV.int IntKind.i64 t),
 (90, AV.slice 1 0 0 none),
 (89, AV.slice 0 0 (List.length rq) (some c)),
 (88,
 AV.agg
 [AV.int IntKind.i64 L, AV.int IntKind.i64 C, AV.int IntKind.i64 T, AV.int IntKind.i64 R,
 AV.int IntKind.i64 F, AV.int IntKind.i64 W, AV.int IntKind.i64 U]),
 (18, AV.int IntKind.i64 (lenF L C T R F W U)), (86, AV.int IntKind.i64 (lenF L C T R F W U)),
 (85,
 AV.agg
 [AV.int IntKind.i64 L, AV.int IntKind.i64 C, AV.int IntKind.i64 T, AV.int IntKind.i64 R,
 AV.int IntKind.i64 F, AV.int IntKind.i64 W, AV.int IntKind.i64 U]),
 (17, AV.int IntKind.i64 (0 : Int)),
 (16, AV.int IntKind.i64 (rowE L C T R F W U rq (fun x => false) u (List.length rq))),
 (15, AV.slice 4 0 (List.length rq) none), (84, AV.int IntKind.i64 (0 : Int)),
 (83, AV.int IntKind.i64 (rowE L C T R F W U rq (fun x => false) u (List.length rq))),
 (82, AV.slice 4 0 (List.length rq) none),
 (76,
 AV.tup
 [AV.slice 4 0 (List.length rq) none,
 AV.int IntKind.i64 (rowE L C T R F W U rq (fun x => false) u (List.length rq)),
 AV.int IntKind.i64 (0 : Int)]),
 (81,
 AV.tup
 [AV.slice 4 0 (List.length rq) none,
 AV.int IntKind.i64 (rowE L C T R F W U rq (fun x => false) u (List.length rq)),
 AV.int IntKind.i64 (0 : Int)]),
 (80, AV.int IntKind.i64 u), (79, AV.slice 1 0 0 none),
 (78, AV.slice 0 0 (List.length rq) (some c)),
 (77,
 AV.agg
 [AV.int IntKind.i64 L, AV.int IntKind.i64 C, AV.int IntKind.i64 T, AV.int IntKind.i64 R,
 AV.int IntKind.i64 F, AV.int IntKind.i64 W, AV.int IntKind.i64 U]),
 (14, AV.int IntKind.i64 (0 : Int)),
 (13, AV.int IntKind.i64 (rowE L C T R F W U rq (fun x => false) t (List.length rq))),
 (12, AV.slice 3 0 (List.length rq) none), (75, AV.int IntKind.i64 (0 : Int)),
 (74, AV.int IntKind.i64 (rowE L C T R F W U rq (fun x => false) t (List.length rq))),
 (73, AV.slice 3 0 (List.length rq) none),
 (67,
 AV.tup
 [AV.slice 3 0 (List.length rq) none,
 AV.int IntKind.i64 (rowE L C T R F W U rq (fun x => false) t (List.length rq)),
 AV.int IntKind.i64 (0 : Int)]),
 (72,
 AV.tup
 [AV.slice 3 0 (List.length rq) none,
 AV.int IntKind.i64 (rowE L C T R F W U rq (fun x => false) t (List.length rq)),
 AV.int IntKind.i64 (0 : Int)]),
 (71, AV.int IntKind.i64 t), (70, AV.slice 1 0 0 none),
 (69, AV.slice 0 0 (List.length rq) (some c)),
 (68,
 AV.agg
 [AV.int IntKind.i64 L, AV.int IntKind.i64 C, AV.int IntKind.i64 T, AV.int IntKind.i64 R,
 AV.int IntKind.i64 F, AV.int IntKind.i64 W, AV.int IntKind.i64 U]),
 (1, AV.slice 0 0 (List.length rq) (some c)),
 (2, AV.slice 1 0 0 none), (3, AV.int IntKind.i64 t),
 (4, AV.int IntKind.i64 u), (5, AV.ptr 2 0),
 (11, AV.int IntKind.i64 (↑(List.length rq) : Int))] }
 { nx := 6, m :=
 [(5,
 AObj.opn 2 1
 (encI IntKind.i64
 (rowAcc L C T R F W U rq (fun x => false) (IntKind.wrap IntKind.i64 (t + lenF L C T R F W U))
 (List.length rq)))),
 (4,
 AObj.opn 2 1
 (encI IntKind.i64 (rowAcc L C T R F W U rq (fun x => false) u (List.length rq)))),
 (3,
 AObj.opn 2 1
 (encI IntKind.i64 (rowAcc L C T R F W U rq (fun x => false) t (List.length rq)))),
 (2,
 AObj.cells 23
 [AV.int IntKind.i64 L, AV.int IntKind.i64 C, AV.int IntKind.i64 T, AV.int IntKind.i64 R,
 AV.int IntKind.i64 F, AV.int IntKind.i64 W, AV.int IntKind.i64 U]),
 (1, AObj.ro bs), (0, AObj.ro (qF rq))] }
 { n := 208, l :=
 [(1, AV.slice 0 0 (List.length rq) (some c)),
 (2, AV.slice 1 0 0 none), (5, AV.ptr 2 0),
 (12, AV.slice 3 0 (List.length rq) none),
 (13, AV.int IntKind.i64 (rowE L C T R F W U rq (fun x => false) t (List.length rq))),
 (22, AV.int IntKind.i64 t), (23, AV.int IntKind.i64 (0 : Int))] }
 { nx := 4, m :=
 [(3,
 AObj.opn 2 1
 (encI IntKind.i64 (rowAcc L C T R F W U rq (fun x => false) t (List.length rq)))),
 (2,
 AObj.cells 23
 [AV.int IntKind.i64 L, AV.int IntKind.i64 C, AV.int IntKind.i64 T, AV.int IntKind.i64 R,
 AV.int IntKind.i64 F, AV.int IntKind.i64 W, AV.int IntKind.i64 U]),
 (1, AObj.ro bs), (0, AObj.ro (qF rq))] }) ∧
 (need (pfs bs = true ∧
 List.length rq ≤ 60 ∧
 rqsOk rq ∧
 okF L C T R F W U = true ∧ (0 : Int) ≤ t ∧ t + (31 : Int) * (↑(List.length rq) : Int) ≤ (1099511626776 : Int)) ∧
 (K
 (AV.bool
 (decide
 (rowE L C T R F W U rq (fun x => false) t (List.length rq) =
 rowE L C T R F W U rq (fun x => false) t (List.length rq))))
 { nx := 4, m :=
 [(3,
 AObj.opn 2 1
 (encI IntKind.i64 (rowAcc L C T R F W U rq (fun x => false) t (List.length rq)))),
 (2,
 AObj.cells 23
 [AV.int IntKind.i64 L, AV.int IntKind.i64 C, AV.int IntKind.i64 T, AV.int IntKind.i64 R,
 AV.int IntKind.i64 F, AV.int IntKind.i64 W, AV.int IntKind.i64 U]),
 (1, AObj.ro bs), (0, AObj.ro (qF rq))] })))))))))) ∧
 ((!decide
 (rowE L C T R F W U rq (fun x => false) u (List.length rq) <
 rowE L C T R F W U rq (fun x => false) t (List.length rq))) = false →
 (!decide
 (rowE L C T R F W U rq (fun x => false) u (List.length rq) <
 rowE L C T R F W U rq (fun x => false) t (List.length rq))) = false ∧
 ((!decide
 (rowE L C T R F W U rq (fun x => false) u (List.length rq) <
 rowE L C T R F W U rq (fun x => false) t (List.length rq))) = false ∧
 ((!decide
 (rowE L C T R F W U rq (fun x => false) u (List.length rq) <
 rowE L C T R F W U rq (fun x => false) t (List.length rq))) = false ∧
 ((!decide
 (rowE L C T R F W U rq (fun x => false) u (List.length rq) <
 rowE L C T R F W U rq (fun x => false) t (List.length rq))) = false ∧
 ((decide
 (rowE L C T R F W U rq (fun x => false) u (List.length rq) <
 rowE L C T R F W U rq (fun x => false) t (List.length rq))) = true ∧
 (K (AV.bool false)
 { nx := 6, m :=
 [(5,
 AObj.opn 2 1
 (encI IntKind.i64
 (rowAcc L C T R F W U rq (fun x => false) (IntKind.wrap IntKind.i64 (t + lenF L C T R F W U))
 (List.length rq)))),
 (4,
 AObj.opn 2 1
 (encI IntKind.i64 (rowAcc L C T R F W U rq (fun x => false) u (List.length rq)))),
 (3,
 AObj.opn 2 1
 (encI IntKind.i64 (rowAcc L C T R F W U rq (fun x => false) t (List.length rq)))),
 (2,
 AObj.cells 23
 [AV.int IntKind.i64 L, AV.int IntKind.i64 C, AV.int IntKind.i64 T, AV.int IntKind.i64 R,
 AV.int IntKind.i64 F, AV.int IntKind.i64 W, AV.int IntKind.i64 U]),
 (1, AObj.ro bs), (0, AObj.ro (qF rq))] })))))))))) ∧
 ((!!decide ((↑(List.length rq) : Int) = (↑(List.length rq) : Int))) = false →
 (!!decide ((↑(List.length rq) : Int) = (↑(List.length rq) : Int))) = false ∧
 ((!!decide ((↑(List.length rq) : Int) = (↑(List.length rq) : Int))) = false ∧
 ((!decide ((↑(List.length rq) : Int) = (↑(List.length rq) : Int))) = true ∧
 (K (AV.bool false)
 { nx := 6, m :=
 [(5,
 AObj.opn 2 1
 (encI IntKind.i64
 (rowAcc L C T R F W U rq (fun x => false) (IntKind.wrap IntKind.i64 (t + lenF L C T R F W U))
 (List.length rq)))),
 (4,
 AObj.opn 2 1
 (encI IntKind.i64 (rowAcc L C T R F W U rq (fun x => false) u (List.length rq)))),
 (3,
 AObj.opn 2 1
 (encI IntKind.i64 (rowAcc L C T R F W U rq (fun x => false) t (List.length rq)))),
 (2,
 AObj.cells 23
 [AV.int IntKind.i64 L, AV.int IntKind.i64 C, AV.int IntKind.i64 T, AV.int IntKind.i64 R,
 AV.int IntKind.i64 F, AV.int IntKind.i64 W, AV.int IntKind.i64 U]),
 (1, AObj.ro bs), (0, AObj.ro (qF rq))] })))))))))))))))))))))))))) ∧
 ((!decide (t > u)) = false →
 (!decide (t > u)) = false ∧
 ((decide (t > u)) = true ∧
 (K (AV.bool true)
 { nx := 3, m :=
 [(2,
 AObj.cells 23
 [AV.int IntKind.i64 L, AV.int IntKind.i64 C, AV.int IntKind.i64 T, AV.int IntKind.i64 R,
 AV.int IntKind.i64 F, AV.int IntKind.i64 W, AV.int IntKind.i64 U]),
 (1, AObj.ro bs), (0, AObj.ro (qF rq))] }))))))) ∧
 ((!decide (t < (0 : Int))) = false →
 (!decide (t < (0 : Int))) = false ∧
 ((!decide (t < (0 : Int))) = false ∧
 ((decide (t < (0 : Int))) = true ∧
 (K (AV.bool true)
 { nx := 3, m :=
 [(2,
 AObj.cells 23
 [AV.int IntKind.i64 L, AV.int IntKind.i64 C, AV.int IntKind.i64 T, AV.int IntKind.i64 R,
 AV.int IntKind.i64 F, AV.int IntKind.i64 W, AV.int IntKind.i64 U]),
 (1, AObj.ro bs), (0, AObj.ro (qF rq))] }))))))) ∧
 ((!!decide ((if okF L C T R F W U = true then (0 : Int) else (2 : Int)) = (0 : Int))) = false →
 (!!decide ((if okF L C T R F W U = true then (0 : Int) else (2 : Int)) = (0 : Int))) = false ∧
 ((!decide ((if okF L C T R F W U = true then (0 : Int) else (2 : Int)) = (0 : Int))) = true ∧
 (K (AV.bool true)
 { nx := 3, m :=
 [(2,
 AObj.cells 23
 [AV.int IntKind.i64 L, AV.int IntKind.i64 C, AV.int IntKind.i64 T, AV.int IntKind.i64 R,
 AV.int IntKind.i64 F, AV.int IntKind.i64 W, AV.int IntKind.i64 U]),
 (1, AObj.ro bs), (0, AObj.ro (qF rq))] }))))))) ∧
 ((!decide ((↑(List.length rq) : Int) > (40 : Int))) = false →
 (!decide ((↑(List.length rq) : Int) > (40 : Int))) = false ∧
 ((!decide ((↑(List.length rq) : Int) > (40 : Int))) = false ∧
 ((decide ((↑(List.length rq) : Int) > (40 : Int))) = true ∧
 (K (AV.bool true)
 { nx := 3, m :=
 [(2,
 AObj.cells 23
 [AV.int IntKind.i64 L, AV.int IntKind.i64 C, AV.int IntKind.i64 T, AV.int IntKind.i64 R,
 AV.int IntKind.i64 F, AV.int IntKind.i64 W, AV.int IntKind.i64 U]),
 (1, AObj.ro bs), (0, AObj.ro (qF rq))] }))))
def lwE_scr : Plan := .k (.b (.t (.t (.f (.k (.k (.k (.k (.b (.t (.f (.b (.t (.t (.f (.b (.t (.f (.b (.z) (.k (.k (.k (.k (.k (.k (.k (.k (.k (.k (.k (.k (.b (.t (.t (.f (.b (.t (.t (.t (.t (.f (.b (.z) (.z))))))) (.f (.f (.f (.f (.t (.z)))))))))) (.f (.f (.t (.z)))))))))))))))))))) (.f (.t (.z))))))) (.f (.f (.t (.z))))))) (.f (.t (.z))))))))))) (.f (.f (.t (.z)))))
theorem lwE_vc (L C T R F W U t u : Int) (rq : List Rq) (bs : List AV) (c : Nat) (K : AV → AH → Prop) : (funP (XLwE L C T R F W U t u rq bs c) 14 [.agg [.int .i64 L, .int .i64 C, .int .i64 T, .int .i64 R, .int .i64 F, .int .i64 W, .int .i64 U], .slice 0 0 rq.length (some c), (.slice 1 0 0 none), .int .i64 t, .int .i64 u] ⟨2, [(1, .ro bs), (0, .ro (qF rq))]⟩ lwE_scr (fun v σ _ => K v σ)) = lwE_VC L C T R F W U t u rq bs c K := by kernel_rfl
def lbE_VC (L C T R F W U t u : Int) (rq : List Rq) (bs : List AV) (c : Nat) (K : AV → AH → Prop) : Prop :=
 ((!decide ((↑(List.length rq) : Int) > (40 : Int))) = true →
 (!decide ((↑(List.length rq) : Int) > (40 : Int))) = true ∧
 ((!decide ((↑(List.length rq) : Int) > (40 : Int))) = true ∧
 ((decide ((↑(List.length rq) : Int) > (40 : Int))) = false ∧
 (((!!decide ((if okF L C T R F W U = true then (0 : Int) else (2 : Int)) = (0 : Int))) = true →
 (!!decide ((if okF L C T R F W U = true then (0 : Int) else (2 : Int)) = (0 : Int))) = true ∧
 ((!decide ((if okF L C T R F W U = true then (0 : Int) else (2 : Int)) = (0 : Int))) = false ∧
 (((!decide (t < (0 : Int))) = true →
 (!decide (t < (0 : Int))) = true ∧
 ((!decide (t < (0 : Int))) = true ∧
 ((decide (t < (0 : Int))) = false ∧
 (((!decide (t > u)) = true →
 (!decide (t > u)) = true ∧
 ((decide (t > u)) = false ∧
 (((decide (u > (549755813888 : Int))) = true →
 K (AV.bool true)
 { nx := 3, m :=
 [(2,
 AObj.cells 23
 [AV.int IntKind.i64 L, AV.int IntKind.i64 C, AV.int IntKind.i64 T, AV.int IntKind.i64 R,
 AV.int IntKind.i64 F, AV.int IntKind.i64 W, AV.int IntKind.i64 U]),
 (1, AObj.ro bs), (0, AObj.ro (qF rq))] }) ∧
 ((decide (u > (549755813888 : Int))) = false →
 need (2 = 2) ∧
 (need (Fits 2 [(0, 0), (1, 1), (2, 2)]
 { n := 208, l :=
 [(11, AV.int IntKind.i64 (0 : Int)), (54, AV.bool (decide (u > (549755813888 : Int)))),
 (53, AV.bool (decide (u > (549755813888 : Int)))), (52, AV.int IntKind.i64 u),
 (51, AV.bool (decide (t > u))), (50, AV.bool (decide (t > u))),
 (49, AV.bool (decide (t > u))), (48, AV.int IntKind.i64 u), (47, AV.int IntKind.i64 t),
 (46, AV.bool (decide (t < (0 : Int)))), (45, AV.bool (decide (t < (0 : Int)))),
 (44, AV.bool (decide (t < (0 : Int)))), (43, AV.int IntKind.i64 t),
 (42, AV.bool !decide ((if okF L C T R F W U = true then (0 : Int) else (2 : Int)) = (0 : Int))),
 (41, AV.bool !decide ((if okF L C T R F W U = true then (0 : Int) else (2 : Int)) = (0 : Int))),
 (40, AV.bool !decide ((if okF L C T R F W U = true then (0 : Int) else (2 : Int)) = (0 : Int))),
 (39, AV.int IntKind.i64 (if okF L C T R F W U = true then (0 : Int) else (2 : Int))),
 (38,
 AV.agg
 [AV.int IntKind.i64 L, AV.int IntKind.i64 C, AV.int IntKind.i64 T, AV.int IntKind.i64 R,
 AV.int IntKind.i64 F, AV.int IntKind.i64 W, AV.int IntKind.i64 U]),
 (37, AV.bool false), (36, AV.bool false), (35, AV.bool false),
 (34, AV.int IntKind.i64 (0 : Int)), (33, AV.slice 1 0 0 none),
 (32, AV.bool (decide ((↑(List.length rq) : Int) > (40 : Int)))),
 (31, AV.bool (decide ((↑(List.length rq) : Int) > (40 : Int)))),
 (30, AV.int IntKind.i64 (↑(List.length rq) : Int)),
 (29, AV.slice 0 0 (List.length rq) (some c)), (28, AV.bool false),
 (27, AV.bool true), (10, AV.bool false), (5, AV.ptr 2 0),
 (0,
 AV.agg
 [AV.int IntKind.i64 L, AV.int IntKind.i64 C, AV.int IntKind.i64 T, AV.int IntKind.i64 R,
 AV.int IntKind.i64 F, AV.int IntKind.i64 W, AV.int IntKind.i64 U]),
 (1, AV.slice 0 0 (List.length rq) (some c)),
 (2, AV.slice 1 0 0 none), (3, AV.int IntKind.i64 t),
 (4, AV.int IntKind.i64 u)] }
 { nx := 3, m :=
 [(2,
 AObj.cells 23
 [AV.int IntKind.i64 L, AV.int IntKind.i64 C, AV.int IntKind.i64 T, AV.int IntKind.i64 R,
 AV.int IntKind.i64 F, AV.int IntKind.i64 W, AV.int IntKind.i64 U]),
 (1, AObj.ro bs), (0, AObj.ro (qF rq))] }
 { n := 208, l :=
 [(1, AV.slice 0 0 (List.length rq) (some c)),
 (2, AV.slice 1 0 0 none), (3, AV.int IntKind.i64 t),
 (4, AV.int IntKind.i64 u), (5, AV.ptr 2 0),
 (11, AV.int IntKind.i64 (0 : Int))] }
 { nx := 3, m :=
 [(2,
 AObj.cells 23
 [AV.int IntKind.i64 L, AV.int IntKind.i64 C, AV.int IntKind.i64 T, AV.int IntKind.i64 R,
 AV.int IntKind.i64 F, AV.int IntKind.i64 W, AV.int IntKind.i64 U]),
 (1, AObj.ro bs), (0, AObj.ro (qF rq))] }) ∧
 (need (pfs bs = true ∧ List.length rq ≤ 60 ∧ ¬rqsOk rq) ∧
 (K (AV.bool true)
 { nx := 3, m :=
 [(2,
 AObj.cells 23
 [AV.int IntKind.i64 L, AV.int IntKind.i64 C, AV.int IntKind.i64 T, AV.int IntKind.i64 R,
 AV.int IntKind.i64 F, AV.int IntKind.i64 W, AV.int IntKind.i64 U]),
 (1, AObj.ro bs), (0, AObj.ro (qF rq))] }))))))) ∧
 ((!decide (t > u)) = false →
 (!decide (t > u)) = false ∧
 ((decide (t > u)) = true ∧
 (K (AV.bool true)
 { nx := 3, m :=
 [(2,
 AObj.cells 23
 [AV.int IntKind.i64 L, AV.int IntKind.i64 C, AV.int IntKind.i64 T, AV.int IntKind.i64 R,
 AV.int IntKind.i64 F, AV.int IntKind.i64 W, AV.int IntKind.i64 U]),
 (1, AObj.ro bs), (0, AObj.ro (qF rq))] }))))))) ∧
 ((!decide (t < (0 : Int))) = false →
 (!decide (t < (0 : Int))) = false ∧
 ((!decide (t < (0 : Int))) = false ∧
 ((decide (t < (0 : Int))) = true ∧
 (K (AV.bool true)
 { nx := 3, m :=
 [(2,
 AObj.cells 23
 [AV.int IntKind.i64 L, AV.int IntKind.i64 C, AV.int IntKind.i64 T, AV.int IntKind.i64 R,
 AV.int IntKind.i64 F, AV.int IntKind.i64 W, AV.int IntKind.i64 U]),
 (1, AObj.ro bs), (0, AObj.ro (qF rq))] }))))))) ∧
 ((!!decide ((if okF L C T R F W U = true then (0 : Int) else (2 : Int)) = (0 : Int))) = false →
 (!!decide ((if okF L C T R F W U = true then (0 : Int) else (2 : Int)) = (0 : Int))) = false ∧
 ((!decide ((if okF L C T R F W U = true then (0 : Int) else (2 : Int)) = (0 : Int))) = true ∧
 (K (AV.bool true)
 { nx := 3, m :=
 [(2,
 AObj.cells 23
 [AV.int IntKind.i64 L, AV.int IntKind.i64 C, AV.int IntKind.i64 T, AV.int IntKind.i64 R,
 AV.int IntKind.i64 F, AV.int IntKind.i64 W, AV.int IntKind.i64 U]),
 (1, AObj.ro bs), (0, AObj.ro (qF rq))] }))))))) ∧
 ((!decide ((↑(List.length rq) : Int) > (40 : Int))) = false →
 (!decide ((↑(List.length rq) : Int) > (40 : Int))) = false ∧
 ((!decide ((↑(List.length rq) : Int) > (40 : Int))) = false ∧
 ((decide ((↑(List.length rq) : Int) > (40 : Int))) = true ∧
 (K (AV.bool true)
 { nx := 3, m :=
 [(2,
 AObj.cells 23
 [AV.int IntKind.i64 L, AV.int IntKind.i64 C, AV.int IntKind.i64 T, AV.int IntKind.i64 R,
 AV.int IntKind.i64 F, AV.int IntKind.i64 W, AV.int IntKind.i64 U]),
 (1, AObj.ro bs), (0, AObj.ro (qF rq))] }))))
def lbE_scr : Plan := .k (.b (.t (.t (.f (.k (.k (.k (.k (.b (.t (.f (.b (.t (.t (.f (.b (.t (.f (.b (.z) (.z)))) (.f (.t (.z))))))) (.f (.f (.t (.z))))))) (.f (.t (.z))))))))))) (.f (.f (.t (.z)))))
theorem lbE_vc (L C T R F W U t u : Int) (rq : List Rq) (bs : List AV) (c : Nat) (K : AV → AH → Prop) : (funP (XLbE L C T R F W U t u rq bs c) 14 [.agg [.int .i64 L, .int .i64 C, .int .i64 T, .int .i64 R, .int .i64 F, .int .i64 W, .int .i64 U], .slice 0 0 rq.length (some c), (.slice 1 0 0 none), .int .i64 t, .int .i64 u] ⟨2, [(1, .ro bs), (0, .ro (qF rq))]⟩ lbE_scr (fun v σ _ => K v σ)) = lbE_VC L C T R F W U t u rq bs c K := by kernel_rfl
def lwS_VC (L C T R F W U t u : Int) (rq : List Rq) (bl : List Bool) (c cm : Nat) (K : AV → AH → Prop) : Prop :=
 ((!decide ((↑(List.length rq) : Int) > (40 : Int))) = true →
 (!decide ((↑(List.length rq) : Int) > (40 : Int))) = true ∧
 ((!decide ((↑(List.length rq) : Int) > (40 : Int))) = true ∧
 ((decide ((↑(List.length rq) : Int) > (40 : Int))) = false ∧
 (((!decide ((↑(List.length bl) : Int) > (40 : Int))) = true →
 (!decide ((↑(List.length bl) : Int) > (40 : Int))) = true ∧
 ((!decide ((↑(List.length bl) : Int) > (40 : Int))) = true ∧
 ((decide ((↑(List.length bl) : Int) > (40 : Int))) = false ∧
 (((!!decide ((if okF L C T R F W U = true then (0 : Int) else (2 : Int)) = (0 : Int))) = true →
 (!!decide ((if okF L C T R F W U = true then (0 : Int) else (2 : Int)) = (0 : Int))) = true ∧
 ((!decide ((if okF L C T R F W U = true then (0 : Int) else (2 : Int)) = (0 : Int))) = false ∧
 (((!decide (t < (0 : Int))) = true →
 (!decide (t < (0 : Int))) = true ∧
 ((!decide (t < (0 : Int))) = true ∧
 ((decide (t < (0 : Int))) = false ∧
 (((!decide (t > u)) = true →
 (!decide (t > u)) = true ∧
 ((decide (t > u)) = false ∧
 (((decide (u > (549755813888 : Int))) = true →
 K (AV.bool true)
 { nx := 3, m :=
 [(2,
 AObj.cells 23
 [AV.int IntKind.i64 L, AV.int IntKind.i64 C, AV.int IntKind.i64 T, AV.int IntKind.i64 R,
 AV.int IntKind.i64 F, AV.int IntKind.i64 W, AV.int IntKind.i64 U]),
 (1, AObj.ro (bF bl)), (0, AObj.ro (qF rq))] }) ∧
 ((decide (u > (549755813888 : Int))) = false →
 need (2 = 2) ∧
 (need (Fits 2 [(0, 0), (1, 1), (2, 2)]
 { n := 208, l :=
 [(11, AV.int IntKind.i64 (0 : Int)), (54, AV.bool (decide (u > (549755813888 : Int)))),
 (53, AV.bool (decide (u > (549755813888 : Int)))), (52, AV.int IntKind.i64 u),
 (51, AV.bool (decide (t > u))), (50, AV.bool (decide (t > u))),
 (49, AV.bool (decide (t > u))), (48, AV.int IntKind.i64 u), (47, AV.int IntKind.i64 t),
 (46, AV.bool (decide (t < (0 : Int)))), (45, AV.bool (decide (t < (0 : Int)))),
 (44, AV.bool (decide (t < (0 : Int)))), (43, AV.int IntKind.i64 t),
 (42, AV.bool !decide ((if okF L C T R F W U = true then (0 : Int) else (2 : Int)) = (0 : Int))),
 (41, AV.bool !decide ((if okF L C T R F W U = true then (0 : Int) else (2 : Int)) = (0 : Int))),
 (40, AV.bool !decide ((if okF L C T R F W U = true then (0 : Int) else (2 : Int)) = (0 : Int))),
 (39, AV.int IntKind.i64 (if okF L C T R F W U = true then (0 : Int) else (2 : Int))),
 (38,
 AV.agg
 [AV.int IntKind.i64 L, AV.int IntKind.i64 C, AV.int IntKind.i64 T, AV.int IntKind.i64 R,
 AV.int IntKind.i64 F, AV.int IntKind.i64 W, AV.int IntKind.i64 U]),
 (37, AV.bool (decide ((↑(List.length bl) : Int) > (40 : Int)))),
 (36, AV.bool (decide ((↑(List.length bl) : Int) > (40 : Int)))),
 (35, AV.bool (decide ((↑(List.length bl) : Int) > (40 : Int)))),
 (34, AV.int IntKind.i64 (↑(List.length bl) : Int)),
 (33, AV.slice 1 0 (List.length bl) (some cm)),
 (32, AV.bool (decide ((↑(List.length rq) : Int) > (40 : Int)))),
 (31, AV.bool (decide ((↑(List.length rq) : Int) > (40 : Int)))),
 (30, AV.int IntKind.i64 (↑(List.length rq) : Int)),
 (29, AV.slice 0 0 (List.length rq) (some c)), (28, AV.bool false),
 (27, AV.bool true), (10, AV.bool false), (5, AV.ptr 2 0),
 (0,
 AV.agg
 [AV.int IntKind.i64 L, AV.int IntKind.i64 C, AV.int IntKind.i64 T, AV.int IntKind.i64 R,
 AV.int IntKind.i64 F, AV.int IntKind.i64 W, AV.int IntKind.i64 U]),
 (1, AV.slice 0 0 (List.length rq) (some c)),
 (2, AV.slice 1 0 (List.length bl) (some cm)), (3, AV.int IntKind.i64 t),
 (4, AV.int IntKind.i64 u)] }
 { nx := 3, m :=
 [(2,
 AObj.cells 23
 [AV.int IntKind.i64 L, AV.int IntKind.i64 C, AV.int IntKind.i64 T, AV.int IntKind.i64 R,
 AV.int IntKind.i64 F, AV.int IntKind.i64 W, AV.int IntKind.i64 U]),
 (1, AObj.ro (bF bl)), (0, AObj.ro (qF rq))] }
 { n := 208, l :=
 [(1, AV.slice 0 0 (List.length rq) (some c)),
 (2, AV.slice 1 0 (List.length bl) (some cm)), (3, AV.int IntKind.i64 t),
 (4, AV.int IntKind.i64 u), (5, AV.ptr 2 0),
 (11, AV.int IntKind.i64 (0 : Int))] }
 { nx := 3, m :=
 [(2,
 AObj.cells 23
 [AV.int IntKind.i64 L, AV.int IntKind.i64 C, AV.int IntKind.i64 T, AV.int IntKind.i64 R,
 AV.int IntKind.i64 F, AV.int IntKind.i64 W, AV.int IntKind.i64 U]),
 (1, AObj.ro (bF bl)), (0, AObj.ro (qF rq))] }) ∧
 (need (pfs (bF bl) = true ∧ List.length rq ≤ 60 ∧ rqsOk rq) ∧
 (need ([AV.agg
 [AV.int IntKind.i64 L, AV.int IntKind.i64 C, AV.int IntKind.i64 T, AV.int IntKind.i64 R, AV.int IntKind.i64 F,
 AV.int IntKind.i64 W, AV.int IntKind.i64 U],
 AV.slice 0 0 (List.length rq) (some c), AV.slice 1 0 (List.length bl) (some cm),
 AV.int IntKind.i64 t] =
 [AV.agg
 [AV.int IntKind.i64 L, AV.int IntKind.i64 C, AV.int IntKind.i64 T, AV.int IntKind.i64 R, AV.int IntKind.i64 F,
 AV.int IntKind.i64 W, AV.int IntKind.i64 U],
 AV.slice 0 0 (List.length rq) (some c), AV.slice 1 0 (List.length bl) (some cm),
 AV.int IntKind.i64 t]) ∧
 (need (AH.get
 (Prod.snd
 (chT (AV.slice 1 0 (List.length bl) (some cm)) L C T R F W U t u (↑(List.length rq) : Int)
 (List.length rq) c (qF rq) (bF bl)))
 0 =
 AObj.ro (qF rq)) ∧
 (need (AH.get
 (Prod.snd
 (chT (AV.slice 1 0 (List.length bl) (some cm)) L C T R F W U t u (↑(List.length rq) : Int)
 (List.length rq) c (qF rq) (bF bl)))
 1 =
 AObj.ro (bF bl)) ∧
 (need (2 ≤ 3) ∧
 (need (rowOksS L C T R F W U t rq bl) ∧
 (need ([AV.agg
 [AV.int IntKind.i64 L, AV.int IntKind.i64 C, AV.int IntKind.i64 T, AV.int IntKind.i64 R, AV.int IntKind.i64 F,
 AV.int IntKind.i64 W, AV.int IntKind.i64 U],
 AV.slice 0 0 (List.length rq) (some c), AV.slice 1 0 (List.length bl) (some cm),
 AV.int IntKind.i64 u] =
 [AV.agg
 [AV.int IntKind.i64 L, AV.int IntKind.i64 C, AV.int IntKind.i64 T, AV.int IntKind.i64 R, AV.int IntKind.i64 F,
 AV.int IntKind.i64 W, AV.int IntKind.i64 U],
 AV.slice 0 0 (List.length rq) (some c), AV.slice 1 0 (List.length bl) (some cm),
 AV.int IntKind.i64 u]) ∧
 (need (AH.get
 (AH.push
 (Prod.snd
 (chT (AV.slice 1 0 (List.length bl) (some cm)) L C T R F W U t u (↑(List.length rq) : Int)
 (List.length rq) c (qF rq) (bF bl)))
 (AObj.opn 2 1
 (encI IntKind.i64 (rowAcc L C T R F W U rq (fun i => List.getD bl i false) t (List.length rq)))))
 0 =
 AObj.ro (qF rq)) ∧
 (need (AH.get
 (AH.push
 (Prod.snd
 (chT (AV.slice 1 0 (List.length bl) (some cm)) L C T R F W U t u (↑(List.length rq) : Int)
 (List.length rq) c (qF rq) (bF bl)))
 (AObj.opn 2 1
 (encI IntKind.i64 (rowAcc L C T R F W U rq (fun i => List.getD bl i false) t (List.length rq)))))
 1 =
 AObj.ro (bF bl)) ∧
 (need (2 ≤ 4) ∧
 (need (rowOksS L C T R F W U u rq bl) ∧
 (need ([AV.agg
 [AV.int IntKind.i64 L, AV.int IntKind.i64 C, AV.int IntKind.i64 T, AV.int IntKind.i64 R, AV.int IntKind.i64 F,
 AV.int IntKind.i64 W, AV.int IntKind.i64 U],
 AV.slice 0 0 (List.length rq) (some c), AV.slice 1 0 (List.length bl) (some cm),
 AV.int IntKind.i64 (IntKind.wrap IntKind.i64 (t + lenF L C T R F W U))] =
 [AV.agg
 [AV.int IntKind.i64 L, AV.int IntKind.i64 C, AV.int IntKind.i64 T, AV.int IntKind.i64 R, AV.int IntKind.i64 F,
 AV.int IntKind.i64 W, AV.int IntKind.i64 U],
 AV.slice 0 0 (List.length rq) (some c), AV.slice 1 0 (List.length bl) (some cm),
 AV.int IntKind.i64 (IntKind.wrap IntKind.i64 (t + lenF L C T R F W U))]) ∧
 (need (AH.get
 (AH.push
 (AH.push
 (Prod.snd
 (chT (AV.slice 1 0 (List.length bl) (some cm)) L C T R F W U t u (↑(List.length rq) : Int)
 (List.length rq) c (qF rq) (bF bl)))
 (AObj.opn 2 1
 (encI IntKind.i64 (rowAcc L C T R F W U rq (fun i => List.getD bl i false) t (List.length rq)))))
 (AObj.opn 2 1
 (encI IntKind.i64 (rowAcc L C T R F W U rq (fun i => List.getD bl i false) u (List.length rq)))))
 0 =
 AObj.ro (qF rq)) ∧
 (need (AH.get
 (AH.push
 (AH.push
 (Prod.snd
 (chT (AV.slice 1 0 (List.length bl) (some cm)) L C T R F W U t u (↑(List.length rq) : Int)
 (List.length rq) c (qF rq) (bF bl)))
 (AObj.opn 2 1
 (encI IntKind.i64 (rowAcc L C T R F W U rq (fun i => List.getD bl i false) t (List.length rq)))))
 (AObj.opn 2 1
 (encI IntKind.i64 (rowAcc L C T R F W U rq (fun i => List.getD bl i false) u (List.length rq)))))
 1 =
 AObj.ro (bF bl)) ∧
 (need (2 ≤ 5) ∧
 (need (rowOksS L C T R F W U (IntKind.wrap IntKind.i64 (t + lenF L C T R F W U)) rq bl) ∧
 (((!!decide ((↑(List.length rq) : Int) = (↑(List.length rq) : Int))) = true →
 (!!decide ((↑(List.length rq) : Int) = (↑(List.length rq) : Int))) = true ∧
 ((!!decide ((↑(List.length rq) : Int) = (↑(List.length rq) : Int))) = true ∧
 ((!decide ((↑(List.length rq) : Int) = (↑(List.length rq) : Int))) = false ∧
 (((!decide
 (rowE L C T R F W U rq (fun i => List.getD bl i false) u (List.length rq) <
 rowE L C T R F W U rq (fun i => List.getD bl i false) t (List.length rq))) = true →
 (!decide
 (rowE L C T R F W U rq (fun i => List.getD bl i false) u (List.length rq) <
 rowE L C T R F W U rq (fun i => List.getD bl i false) t (List.length rq))) = true ∧
 ((!decide
 (rowE L C T R F W U rq (fun i => List.getD bl i false) u (List.length rq) <
 rowE L C T R F W U rq (fun i => List.getD bl i false) t (List.length rq))) = true ∧
 ((!decide
 (rowE L C T R F W U rq (fun i => List.getD bl i false) u (List.length rq) <
 rowE L C T R F W U rq (fun i => List.getD bl i false) t (List.length rq))) = true ∧
 ((!decide
 (rowE L C T R F W U rq (fun i => List.getD bl i false) u (List.length rq) <
 rowE L C T R F W U rq (fun i => List.getD bl i false) t (List.length rq))) = true ∧
 ((decide
 (rowE L C T R F W U rq (fun i => List.getD bl i false) u (List.length rq) <
 rowE L C T R F W U rq (fun i => List.getD bl i false) t (List.length rq))) = false ∧
 (((!decide
 (rowE L C T R F W U rq (fun i => List.getD bl i false) (IntKind.wrap IntKind.i64 (t + lenF L C T R F W U))
 (List.length rq) =
 IntKind.wrap IntKind.i64
 (rowE L C T R F W U rq (fun i => List.getD bl i false) t (List.length rq) + lenF L C T R F W U))) = true →
 K (AV.bool false)
 { nx := 6, m :=
 [(5,
 AObj.opn 2 1
 (encI IntKind.i64
 (rowAcc L C T R F W U rq (fun i => List.getD bl i false)
 (IntKind.wrap IntKind.i64 (t + lenF L C T R F W U)) (List.length rq)))),
 (4,
 AObj.opn 2 1
 (encI IntKind.i64 (rowAcc L C T R F W U rq (fun i => List.getD bl i false) u (List.length rq)))),
 (3,
 AObj.opn 2 1
 (encI IntKind.i64 (rowAcc L C T R F W U rq (fun i => List.getD bl i false) t (List.length rq)))),
 (2,
 AObj.cells 23
 [AV.int IntKind.i64 L, AV.int IntKind.i64 C, AV.int IntKind.i64 T, AV.int IntKind.i64 R,
 AV.int IntKind.i64 F, AV.int IntKind.i64 W, AV.int IntKind.i64 U]),
 (1, AObj.ro (bF bl)), (0, AObj.ro (qF rq))] }) ∧
 ((!decide
 (rowE L C T R F W U rq (fun i => List.getD bl i false) (IntKind.wrap IntKind.i64 (t + lenF L C T R F W U))
 (List.length rq) =
 IntKind.wrap IntKind.i64
 (rowE L C T R F W U rq (fun i => List.getD bl i false) t (List.length rq) + lenF L C T R F W U))) = false →
 need (2 = 2) ∧
 (need (Fits 2 [(0, 0), (1, 1), (2, 2), (3, 3)]
 { n := 208, l :=
 [(23, AV.int IntKind.i64 (0 : Int)), (22, AV.int IntKind.i64 t),
 (127, AV.int IntKind.i64 t),
 (126,
 AV.bool
 !decide
 (rowE L C T R F W U rq (fun i => List.getD bl i false)
 (IntKind.wrap IntKind.i64 (t + lenF L C T R F W U)) (List.length rq) =
 IntKind.wrap IntKind.i64
 (rowE L C T R F W U rq (fun i => List.getD bl i false) t (List.length rq) + lenF L C T R F W U))),
 (125,
 AV.bool
 !decide
 (rowE L C T R F W U rq (fun i => List.getD bl i false)
 (IntKind.wrap IntKind.i64 (t + lenF L C T R F W U)) (List.length rq) =
 IntKind.wrap IntKind.i64
 (rowE L C T R F W U rq (fun i => List.getD bl i false) t (List.length rq) + lenF L C T R F W U))),
 (124,
 AV.int IntKind.i64
 (IntKind.wrap IntKind.i64
 (rowE L C T R F W U rq (fun i => List.getD bl i false) t (List.length rq) + lenF L C T R F W U))),
 (123, AV.int IntKind.i64 (lenF L C T R F W U)),
 (122, AV.int IntKind.i64 (rowE L C T R F W U rq (fun i => List.getD bl i false) t (List.length rq))),
 (121,
 AV.int IntKind.i64
 (rowE L C T R F W U rq (fun i => List.getD bl i false) (IntKind.wrap IntKind.i64 (t + lenF L C T R F W U))
 (List.length rq))),
 (120,
 AV.bool
 (decide
 (rowE L C T R F W U rq (fun i => List.getD bl i false) u (List.length rq) <
 rowE L C T R F W U rq (fun i => List.getD bl i false) t (List.length rq)))),
 (119,
 AV.bool
 (decide
 (rowE L C T R F W U rq (fun i => List.getD bl i false) u (List.length rq) <
 rowE L C T R F W U rq (fun i => List.getD bl i false) t (List.length rq)))),
 (118,
 AV.bool
 (decide
 (rowE L C T R F W U rq (fun i => List.getD bl i false) u (List.length rq) <
 rowE L C T R F W U rq (fun i => List.getD bl i false) t (List.length rq)))),
 (117, AV.int IntKind.i64 (rowE L C T R F W U rq (fun i => List.getD bl i false) t (List.length rq))),
 (116, AV.int IntKind.i64 (rowE L C T R F W U rq (fun i => List.getD bl i false) u (List.length rq))),
 (115, AV.bool !decide ((↑(List.length rq) : Int) = (↑(List.length rq) : Int))),
 (114, AV.bool !decide ((↑(List.length rq) : Int) = (↑(List.length rq) : Int))),
 (113, AV.bool !decide ((↑(List.length rq) : Int) = (↑(List.length rq) : Int))),
 (112, AV.int IntKind.i64 (↑(List.length rq) : Int)),
 (111, AV.slice 0 0 (List.length rq) (some c)),
 (110, AV.int IntKind.i64 (↑(List.length rq) : Int)),
 (109, AV.slice 3 0 (List.length rq) none), (108, AV.bool false),
 (107, AV.bool false), (106, AV.bool false), (105, AV.int IntKind.i64 (0 : Int)),
 (104, AV.bool false), (103, AV.bool false), (102, AV.bool false),
 (101, AV.int IntKind.i64 (0 : Int)), (100, AV.bool false), (99, AV.bool false),
 (98, AV.int IntKind.i64 (0 : Int)), (21, AV.int IntKind.i64 (0 : Int)),
 (20,
 AV.int IntKind.i64
 (rowE L C T R F W U rq (fun i => List.getD bl i false) (IntKind.wrap IntKind.i64 (t + lenF L C T R F W U))
 (List.length rq))),
 (19, AV.slice 5 0 (List.length rq) none), (97, AV.int IntKind.i64 (0 : Int)),
 (96,
 AV.int IntKind.i64
 (rowE L C T R F W U rq (fun i => List.getD bl i false) (IntKind.wrap IntKind.i64 (t + lenF L C T R F W U))
 (List.length rq))),
 (95, AV.slice 5 0 (List.length rq) none),
 (87,
 AV.tup
 [AV.slice 5 0 (List.length rq) none,
 AV.int IntKind.i64
 (rowE L C T R F W U rq (fun i => List.getD bl i false)
 (IntKind.wrap IntKind.i64 (t + lenF L C T R F W U)) (List.length rq)),
 AV.int IntKind.i64 (0 : Int)]),
 (94,
 AV.tup
 [AV.slice 5 0 (List.length rq) none,
 AV.int IntKind.i64
 (rowE L C T R F W U rq (fun i => List.getD bl i false)
 (IntKind.wrap IntKind.i64 (t + lenF L C T R F W U)) (List.length rq)),
 AV.int IntKind.i64 (0 : Int)]),
 (93, AV.int IntKind.i64 (IntKind.wrap IntKind.i64 (t + lenF L C T R F W U))),
 (92, AV.int IntKind.i64 (lenF L C T R F W U)), (91, AV.int IntKind.i64 t),
 (90, AV.slice 1 0 (List.length bl) (some cm)),
 (89, AV.slice 0 0 (List.length rq) (some c)),
 (88,
 AV.agg
 [AV.int IntKind.i64 L, AV.int IntKind.i64 C, AV.int IntKind.i64 T, AV.int IntKind.i64 R,
 AV.int IntKind.i64 F, AV.int IntKind.i64 W, AV.int IntKind.i64 U]),
 (18, AV.int IntKind.i64 (lenF L C T R F W U)), (86, AV.int IntKind.i64 (lenF L C T R F W U)),
 (85,
 AV.agg
 [AV.int IntKind.i64 L, AV.int IntKind.i64 C, AV.int IntKind.i64 T, AV.int IntKind.i64 R,
 AV.int IntKind.i64 F, AV.int IntKind.i64 W, AV.int IntKind.i64 U]),
 (17, AV.int IntKind.i64 (0 : Int)),
 (16, AV.int IntKind.i64 (rowE L C T R F W U rq (fun i => List.getD bl i false) u (List.length rq))),
 (15, AV.slice 4 0 (List.length rq) none), (84, AV.int IntKind.i64 (0 : Int)),
 (83, AV.int IntKind.i64 (rowE L C T R F W U rq (fun i => List.getD bl i false) u (List.length rq))),
 (82, AV.slice 4 0 (List.length rq) none),
 (76,
 AV.tup
 [AV.slice 4 0 (List.length rq) none,
 AV.int IntKind.i64 (rowE L C T R F W U rq (fun i => List.getD bl i false) u (List.length rq)),
 AV.int IntKind.i64 (0 : Int)]),
 (81,
 AV.tup
 [AV.slice 4 0 (List.length rq) none,
 AV.int IntKind.i64 (rowE L C T R F W U rq (fun i => List.getD bl i false) u (List.length rq)),
 AV.int IntKind.i64 (0 : Int)]),
 (80, AV.int IntKind.i64 u), (79, AV.slice 1 0 (List.length bl) (some cm)),
 (78, AV.slice 0 0 (List.length rq) (some c)),
 (77,
 AV.agg
 [AV.int IntKind.i64 L, AV.int IntKind.i64 C, AV.int IntKind.i64 T, AV.int IntKind.i64 R,
 AV.int IntKind.i64 F, AV.int IntKind.i64 W, AV.int IntKind.i64 U]),
 (14, AV.int IntKind.i64 (0 : Int)),
 (13, AV.int IntKind.i64 (rowE L C T R F W U rq (fun i => List.getD bl i false) t (List.length rq))),
 (12, AV.slice 3 0 (List.length rq) none), (75, AV.int IntKind.i64 (0 : Int)),
 (74, AV.int IntKind.i64 (rowE L C T R F W U rq (fun i => List.getD bl i false) t (List.length rq))),
 (73, AV.slice 3 0 (List.length rq) none),
 (67,
 AV.tup
 [AV.slice 3 0 (List.length rq) none,
 AV.int IntKind.i64 (rowE L C T R F W U rq (fun i => List.getD bl i false) t (List.length rq)),
 AV.int IntKind.i64 (0 : Int)]),
 (72,
 AV.tup
 [AV.slice 3 0 (List.length rq) none,
 AV.int IntKind.i64 (rowE L C T R F W U rq (fun i => List.getD bl i false) t (List.length rq)),
 AV.int IntKind.i64 (0 : Int)]),
 (71, AV.int IntKind.i64 t), (70, AV.slice 1 0 (List.length bl) (some cm)),
 (69, AV.slice 0 0 (List.length rq) (some c)),
 (68,
 AV.agg
 [AV.int IntKind.i64 L, AV.int IntKind.i64 C, AV.int IntKind.i64 T, AV.int IntKind.i64 R,
 AV.int IntKind.i64 F, AV.int IntKind.i64 W, AV.int IntKind.i64 U]),
 (1, AV.slice 0 0 (List.length rq) (some c)),
 (2, AV.slice 1 0 (List.length bl) (some cm)), (3, AV.int IntKind.i64 t),
 (4, AV.int IntKind.i64 u), (5, AV.ptr 2 0),
 (11, AV.int IntKind.i64 (↑(List.length rq) : Int))] }
 { nx := 6, m :=
 [(5,
 AObj.opn 2 1
 (encI IntKind.i64
 (rowAcc L C T R F W U rq (fun i => List.getD bl i false)
 (IntKind.wrap IntKind.i64 (t + lenF L C T R F W U)) (List.length rq)))),
 (4,
 AObj.opn 2 1
 (encI IntKind.i64 (rowAcc L C T R F W U rq (fun i => List.getD bl i false) u (List.length rq)))),
 (3,
 AObj.opn 2 1
 (encI IntKind.i64 (rowAcc L C T R F W U rq (fun i => List.getD bl i false) t (List.length rq)))),
 (2,
 AObj.cells 23
 [AV.int IntKind.i64 L, AV.int IntKind.i64 C, AV.int IntKind.i64 T, AV.int IntKind.i64 R,
 AV.int IntKind.i64 F, AV.int IntKind.i64 W, AV.int IntKind.i64 U]),
 (1, AObj.ro (bF bl)), (0, AObj.ro (qF rq))] }
 { n := 208, l :=
 [(1, AV.slice 0 0 (List.length rq) (some c)),
 (2, AV.slice 1 0 (List.length bl) (some cm)), (5, AV.ptr 2 0),
 (12, AV.slice 3 0 (List.length rq) none),
 (13, AV.int IntKind.i64 (rowE L C T R F W U rq (fun i => List.getD bl i false) t (List.length rq))),
 (22, AV.int IntKind.i64 t), (23, AV.int IntKind.i64 (0 : Int))] }
 { nx := 4, m :=
 [(3,
 AObj.opn 2 1
 (encI IntKind.i64 (rowAcc L C T R F W U rq (fun i => List.getD bl i false) t (List.length rq)))),
 (2,
 AObj.cells 23
 [AV.int IntKind.i64 L, AV.int IntKind.i64 C, AV.int IntKind.i64 T, AV.int IntKind.i64 R,
 AV.int IntKind.i64 F, AV.int IntKind.i64 W, AV.int IntKind.i64 U]),
 (1, AObj.ro (bF bl)), (0, AObj.ro (qF rq))] }) ∧
 (need (pfs (bF bl) = true ∧
 List.length rq ≤ 60 ∧
 rqsOk rq ∧
 okF L C T R F W U = true ∧ (0 : Int) ≤ t ∧ t + (31 : Int) * (↑(List.length rq) : Int) ≤ (1099511626776 : Int)) ∧
 (K
 (AV.bool
 (decide
 (rowE L C T R F W U rq (fun i => List.getD bl i false) t (List.length rq) =
 rowE L C T R F W U rq (fun i => List.getD bl i false) t (List.length rq))))
 { nx := 4, m :=
 [(3,
 AObj.opn 2 1
 (encI IntKind.i64 (rowAcc L C T R F W U rq (fun i => List.getD bl i false) t (List.length rq)))),
 (2,
 AObj.cells 23
 [AV.int IntKind.i64 L, AV.int IntKind.i64 C, AV.int IntKind.i64 T, AV.int IntKind.i64 R,
 AV.int IntKind.i64 F, AV.int IntKind.i64 W, AV.int IntKind.i64 U]),
 (1, AObj.ro (bF bl)), (0, AObj.ro (qF rq))] })))))))))) ∧
 ((!decide
 (rowE L C T R F W U rq (fun i => List.getD bl i false) u (List.length rq) <
 rowE L C T R F W U rq (fun i => List.getD bl i false) t (List.length rq))) = false →
 (!decide
 (rowE L C T R F W U rq (fun i => List.getD bl i false) u (List.length rq) <
 rowE L C T R F W U rq (fun i => List.getD bl i false) t (List.length rq))) = false ∧
 ((!decide
 (rowE L C T R F W U rq (fun i => List.getD bl i false) u (List.length rq) <
 rowE L C T R F W U rq (fun i => List.getD bl i false) t (List.length rq))) = false ∧
 ((!decide
 (rowE L C T R F W U rq (fun i => List.getD bl i false) u (List.length rq) <
 rowE L C T R F W U rq (fun i => List.getD bl i false) t (List.length rq))) = false ∧
 ((!decide
 (rowE L C T R F W U rq (fun i => List.getD bl i false) u (List.length rq) <
 rowE L C T R F W U rq (fun i => List.getD bl i false) t (List.length rq))) = false ∧
 ((decide
 (rowE L C T R F W U rq (fun i => List.getD bl i false) u (List.length rq) <
 rowE L C T R F W U rq (fun i => List.getD bl i false) t (List.length rq))) = true ∧
 (K (AV.bool false)
 { nx := 6, m :=
 [(5,
 AObj.opn 2 1
 (encI IntKind.i64
 (rowAcc L C T R F W U rq (fun i => List.getD bl i false)
 (IntKind.wrap IntKind.i64 (t + lenF L C T R F W U)) (List.length rq)))),
 (4,
 AObj.opn 2 1
 (encI IntKind.i64 (rowAcc L C T R F W U rq (fun i => List.getD bl i false) u (List.length rq)))),
 (3,
 AObj.opn 2 1
 (encI IntKind.i64 (rowAcc L C T R F W U rq (fun i => List.getD bl i false) t (List.length rq)))),
 (2,
 AObj.cells 23
 [AV.int IntKind.i64 L, AV.int IntKind.i64 C, AV.int IntKind.i64 T, AV.int IntKind.i64 R,
 AV.int IntKind.i64 F, AV.int IntKind.i64 W, AV.int IntKind.i64 U]),
 (1, AObj.ro (bF bl)), (0, AObj.ro (qF rq))] })))))))))) ∧
 ((!!decide ((↑(List.length rq) : Int) = (↑(List.length rq) : Int))) = false →
 (!!decide ((↑(List.length rq) : Int) = (↑(List.length rq) : Int))) = false ∧
 ((!!decide ((↑(List.length rq) : Int) = (↑(List.length rq) : Int))) = false ∧
 ((!decide ((↑(List.length rq) : Int) = (↑(List.length rq) : Int))) = true ∧
 (K (AV.bool false)
 { nx := 6, m :=
 [(5,
 AObj.opn 2 1
 (encI IntKind.i64
 (rowAcc L C T R F W U rq (fun i => List.getD bl i false)
 (IntKind.wrap IntKind.i64 (t + lenF L C T R F W U)) (List.length rq)))),
 (4,
 AObj.opn 2 1
 (encI IntKind.i64 (rowAcc L C T R F W U rq (fun i => List.getD bl i false) u (List.length rq)))),
 (3,
 AObj.opn 2 1
 (encI IntKind.i64 (rowAcc L C T R F W U rq (fun i => List.getD bl i false) t (List.length rq)))),
 (2,
 AObj.cells 23
 [AV.int IntKind.i64 L, AV.int IntKind.i64 C, AV.int IntKind.i64 T, AV.int IntKind.i64 R,
 AV.int IntKind.i64 F, AV.int IntKind.i64 W, AV.int IntKind.i64 U]),
 (1, AObj.ro (bF bl)), (0, AObj.ro (qF rq))] })))))))))))))))))))))))))) ∧
 ((!decide (t > u)) = false →
 (!decide (t > u)) = false ∧
 ((decide (t > u)) = true ∧
 (K (AV.bool true)
 { nx := 3, m :=
 [(2,
 AObj.cells 23
 [AV.int IntKind.i64 L, AV.int IntKind.i64 C, AV.int IntKind.i64 T, AV.int IntKind.i64 R,
 AV.int IntKind.i64 F, AV.int IntKind.i64 W, AV.int IntKind.i64 U]),
 (1, AObj.ro (bF bl)), (0, AObj.ro (qF rq))] }))))))) ∧
 ((!decide (t < (0 : Int))) = false →
 (!decide (t < (0 : Int))) = false ∧
 ((!decide (t < (0 : Int))) = false ∧
 ((decide (t < (0 : Int))) = true ∧
 (K (AV.bool true)
 { nx := 3, m :=
 [(2,
 AObj.cells 23
 [AV.int IntKind.i64 L, AV.int IntKind.i64 C, AV.int IntKind.i64 T, AV.int IntKind.i64 R,
 AV.int IntKind.i64 F, AV.int IntKind.i64 W, AV.int IntKind.i64 U]),
 (1, AObj.ro (bF bl)), (0, AObj.ro (qF rq))] }))))))) ∧
 ((!!decide ((if okF L C T R F W U = true then (0 : Int) else (2 : Int)) = (0 : Int))) = false →
 (!!decide ((if okF L C T R F W U = true then (0 : Int) else (2 : Int)) = (0 : Int))) = false ∧
 ((!decide ((if okF L C T R F W U = true then (0 : Int) else (2 : Int)) = (0 : Int))) = true ∧
 (K (AV.bool true)
 { nx := 3, m :=
 [(2,
 AObj.cells 23
 [AV.int IntKind.i64 L, AV.int IntKind.i64 C, AV.int IntKind.i64 T, AV.int IntKind.i64 R,
 AV.int IntKind.i64 F, AV.int IntKind.i64 W, AV.int IntKind.i64 U]),
 (1, AObj.ro (bF bl)), (0, AObj.ro (qF rq))] }))))))) ∧
 ((!decide ((↑(List.length bl) : Int) > (40 : Int))) = false →
 (!decide ((↑(List.length bl) : Int) > (40 : Int))) = false ∧
 ((!decide ((↑(List.length bl) : Int) > (40 : Int))) = false ∧
 ((decide ((↑(List.length bl) : Int) > (40 : Int))) = true ∧
 (K (AV.bool true)
 { nx := 3, m :=
 [(2,
 AObj.cells 23
 [AV.int IntKind.i64 L, AV.int IntKind.i64 C, AV.int IntKind.i64 T, AV.int IntKind.i64 R,
 AV.int IntKind.i64 F, AV.int IntKind.i64 W, AV.int IntKind.i64 U]),
 (1, AObj.ro (bF bl)), (0, AObj.ro (qF rq))] })))))))) ∧
 ((!decide ((↑(List.length rq) : Int) > (40 : Int))) = false →
 (!decide ((↑(List.length rq) : Int) > (40 : Int))) = false ∧
 ((!decide ((↑(List.length rq) : Int) > (40 : Int))) = false ∧
 ((decide ((↑(List.length rq) : Int) > (40 : Int))) = true ∧
 (K (AV.bool true)
 { nx := 3, m :=
 [(2,
 AObj.cells 23
 [AV.int IntKind.i64 L, AV.int IntKind.i64 C, AV.int IntKind.i64 T, AV.int IntKind.i64 R,
 AV.int IntKind.i64 F, AV.int IntKind.i64 W, AV.int IntKind.i64 U]),
 (1, AObj.ro (bF bl)), (0, AObj.ro (qF rq))] }))))
def lwS_scr : Plan := .k (.b (.t (.t (.f (.b (.t (.t (.f (.b (.t (.f (.b (.t (.t (.f (.b (.t (.f (.b (.z) (.k (.k (.k (.k (.k (.k (.k (.k (.k (.k (.k (.k (.b (.t (.t (.f (.b (.t (.t (.t (.t (.f (.b (.z) (.z))))))) (.f (.f (.f (.f (.t (.z)))))))))) (.f (.f (.t (.z)))))))))))))))))))) (.f (.t (.z))))))) (.f (.f (.t (.z))))))) (.f (.t (.z))))))) (.f (.f (.t (.z)))))))) (.f (.f (.t (.z)))))
theorem lwS_vc (L C T R F W U t u : Int) (rq : List Rq) (bl : List Bool) (c cm : Nat) (K : AV → AH → Prop) : (funP (XLwS L C T R F W U t u rq bl c cm) 14 [.agg [.int .i64 L, .int .i64 C, .int .i64 T, .int .i64 R, .int .i64 F, .int .i64 W, .int .i64 U], .slice 0 0 rq.length (some c), (.slice 1 0 bl.length (some cm)), .int .i64 t, .int .i64 u] ⟨2, [(1, .ro (bF bl)), (0, .ro (qF rq))]⟩ lwS_scr (fun v σ _ => K v σ)) = lwS_VC L C T R F W U t u rq bl c cm K := by kernel_rfl
def lbS_VC (L C T R F W U t u : Int) (rq : List Rq) (bl : List Bool) (c cm : Nat) (K : AV → AH → Prop) : Prop :=
 ((!decide ((↑(List.length rq) : Int) > (40 : Int))) = true →
 (!decide ((↑(List.length rq) : Int) > (40 : Int))) = true ∧
 ((!decide ((↑(List.length rq) : Int) > (40 : Int))) = true ∧
 ((decide ((↑(List.length rq) : Int) > (40 : Int))) = false ∧
 (((!decide ((↑(List.length bl) : Int) > (40 : Int))) = true →
 (!decide ((↑(List.length bl) : Int) > (40 : Int))) = true ∧
 ((!decide ((↑(List.length bl) : Int) > (40 : Int))) = true ∧
 ((decide ((↑(List.length bl) : Int) > (40 : Int))) = false ∧
 (((!!decide ((if okF L C T R F W U = true then (0 : Int) else (2 : Int)) = (0 : Int))) = true →
 (!!decide ((if okF L C T R F W U = true then (0 : Int) else (2 : Int)) = (0 : Int))) = true ∧
 ((!decide ((if okF L C T R F W U = true then (0 : Int) else (2 : Int)) = (0 : Int))) = false ∧
 (((!decide (t < (0 : Int))) = true →
 (!decide (t < (0 : Int))) = true ∧
 ((!decide (t < (0 : Int))) = true ∧
 ((decide (t < (0 : Int))) = false ∧
 (((!decide (t > u)) = true →
 (!decide (t > u)) = true ∧
 ((decide (t > u)) = false ∧
 (((decide (u > (549755813888 : Int))) = true →
 K (AV.bool true)
 { nx := 3, m :=
 [(2,
 AObj.cells 23
 [AV.int IntKind.i64 L, AV.int IntKind.i64 C, AV.int IntKind.i64 T, AV.int IntKind.i64 R,
 AV.int IntKind.i64 F, AV.int IntKind.i64 W, AV.int IntKind.i64 U]),
 (1, AObj.ro (bF bl)), (0, AObj.ro (qF rq))] }) ∧
 ((decide (u > (549755813888 : Int))) = false →
 need (2 = 2) ∧
 (need (Fits 2 [(0, 0), (1, 1), (2, 2)]
 { n := 208, l :=
 [(11, AV.int IntKind.i64 (0 : Int)), (54, AV.bool (decide (u > (549755813888 : Int)))),
 (53, AV.bool (decide (u > (549755813888 : Int)))), (52, AV.int IntKind.i64 u),
 (51, AV.bool (decide (t > u))), (50, AV.bool (decide (t > u))),
 (49, AV.bool (decide (t > u))), (48, AV.int IntKind.i64 u), (47, AV.int IntKind.i64 t),
 (46, AV.bool (decide (t < (0 : Int)))), (45, AV.bool (decide (t < (0 : Int)))),
 (44, AV.bool (decide (t < (0 : Int)))), (43, AV.int IntKind.i64 t),
 (42, AV.bool !decide ((if okF L C T R F W U = true then (0 : Int) else (2 : Int)) = (0 : Int))),
 (41, AV.bool !decide ((if okF L C T R F W U = true then (0 : Int) else (2 : Int)) = (0 : Int))),
 (40, AV.bool !decide ((if okF L C T R F W U = true then (0 : Int) else (2 : Int)) = (0 : Int))),
 (39, AV.int IntKind.i64 (if okF L C T R F W U = true then (0 : Int) else (2 : Int))),
 (38,
 AV.agg
 [AV.int IntKind.i64 L, AV.int IntKind.i64 C, AV.int IntKind.i64 T, AV.int IntKind.i64 R,
 AV.int IntKind.i64 F, AV.int IntKind.i64 W, AV.int IntKind.i64 U]),
 (37, AV.bool (decide ((↑(List.length bl) : Int) > (40 : Int)))),
 (36, AV.bool (decide ((↑(List.length bl) : Int) > (40 : Int)))),
 (35, AV.bool (decide ((↑(List.length bl) : Int) > (40 : Int)))),
 (34, AV.int IntKind.i64 (↑(List.length bl) : Int)),
 (33, AV.slice 1 0 (List.length bl) (some cm)),
 (32, AV.bool (decide ((↑(List.length rq) : Int) > (40 : Int)))),
 (31, AV.bool (decide ((↑(List.length rq) : Int) > (40 : Int)))),
 (30, AV.int IntKind.i64 (↑(List.length rq) : Int)),
 (29, AV.slice 0 0 (List.length rq) (some c)), (28, AV.bool false),
 (27, AV.bool true), (10, AV.bool false), (5, AV.ptr 2 0),
 (0,
 AV.agg
 [AV.int IntKind.i64 L, AV.int IntKind.i64 C, AV.int IntKind.i64 T, AV.int IntKind.i64 R,
 AV.int IntKind.i64 F, AV.int IntKind.i64 W, AV.int IntKind.i64 U]),
 (1, AV.slice 0 0 (List.length rq) (some c)),
 (2, AV.slice 1 0 (List.length bl) (some cm)), (3, AV.int IntKind.i64 t),
 (4, AV.int IntKind.i64 u)] }
 { nx := 3, m :=
 [(2,
 AObj.cells 23
 [AV.int IntKind.i64 L, AV.int IntKind.i64 C, AV.int IntKind.i64 T, AV.int IntKind.i64 R,
 AV.int IntKind.i64 F, AV.int IntKind.i64 W, AV.int IntKind.i64 U]),
 (1, AObj.ro (bF bl)), (0, AObj.ro (qF rq))] }
 { n := 208, l :=
 [(1, AV.slice 0 0 (List.length rq) (some c)),
 (2, AV.slice 1 0 (List.length bl) (some cm)), (3, AV.int IntKind.i64 t),
 (4, AV.int IntKind.i64 u), (5, AV.ptr 2 0),
 (11, AV.int IntKind.i64 (0 : Int))] }
 { nx := 3, m :=
 [(2,
 AObj.cells 23
 [AV.int IntKind.i64 L, AV.int IntKind.i64 C, AV.int IntKind.i64 T, AV.int IntKind.i64 R,
 AV.int IntKind.i64 F, AV.int IntKind.i64 W, AV.int IntKind.i64 U]),
 (1, AObj.ro (bF bl)), (0, AObj.ro (qF rq))] }) ∧
 (need (pfs (bF bl) = true ∧ List.length rq ≤ 60 ∧ ¬rqsOk rq) ∧
 (K (AV.bool true)
 { nx := 3, m :=
 [(2,
 AObj.cells 23
 [AV.int IntKind.i64 L, AV.int IntKind.i64 C, AV.int IntKind.i64 T, AV.int IntKind.i64 R,
 AV.int IntKind.i64 F, AV.int IntKind.i64 W, AV.int IntKind.i64 U]),
 (1, AObj.ro (bF bl)), (0, AObj.ro (qF rq))] }))))))) ∧
 ((!decide (t > u)) = false →
 (!decide (t > u)) = false ∧
 ((decide (t > u)) = true ∧
 (K (AV.bool true)
 { nx := 3, m :=
 [(2,
 AObj.cells 23
 [AV.int IntKind.i64 L, AV.int IntKind.i64 C, AV.int IntKind.i64 T, AV.int IntKind.i64 R,
 AV.int IntKind.i64 F, AV.int IntKind.i64 W, AV.int IntKind.i64 U]),
 (1, AObj.ro (bF bl)), (0, AObj.ro (qF rq))] }))))))) ∧
 ((!decide (t < (0 : Int))) = false →
 (!decide (t < (0 : Int))) = false ∧
 ((!decide (t < (0 : Int))) = false ∧
 ((decide (t < (0 : Int))) = true ∧
 (K (AV.bool true)
 { nx := 3, m :=
 [(2,
 AObj.cells 23
 [AV.int IntKind.i64 L, AV.int IntKind.i64 C, AV.int IntKind.i64 T, AV.int IntKind.i64 R,
 AV.int IntKind.i64 F, AV.int IntKind.i64 W, AV.int IntKind.i64 U]),
 (1, AObj.ro (bF bl)), (0, AObj.ro (qF rq))] }))))))) ∧
 ((!!decide ((if okF L C T R F W U = true then (0 : Int) else (2 : Int)) = (0 : Int))) = false →
 (!!decide ((if okF L C T R F W U = true then (0 : Int) else (2 : Int)) = (0 : Int))) = false ∧
 ((!decide ((if okF L C T R F W U = true then (0 : Int) else (2 : Int)) = (0 : Int))) = true ∧
 (K (AV.bool true)
 { nx := 3, m :=
 [(2,
 AObj.cells 23
 [AV.int IntKind.i64 L, AV.int IntKind.i64 C, AV.int IntKind.i64 T, AV.int IntKind.i64 R,
 AV.int IntKind.i64 F, AV.int IntKind.i64 W, AV.int IntKind.i64 U]),
 (1, AObj.ro (bF bl)), (0, AObj.ro (qF rq))] }))))))) ∧
 ((!decide ((↑(List.length bl) : Int) > (40 : Int))) = false →
 (!decide ((↑(List.length bl) : Int) > (40 : Int))) = false ∧
 ((!decide ((↑(List.length bl) : Int) > (40 : Int))) = false ∧
 ((decide ((↑(List.length bl) : Int) > (40 : Int))) = true ∧
 (K (AV.bool true)
 { nx := 3, m :=
 [(2,
 AObj.cells 23
 [AV.int IntKind.i64 L, AV.int IntKind.i64 C, AV.int IntKind.i64 T, AV.int IntKind.i64 R,
 AV.int IntKind.i64 F, AV.int IntKind.i64 W, AV.int IntKind.i64 U]),
 (1, AObj.ro (bF bl)), (0, AObj.ro (qF rq))] })))))))) ∧
 ((!decide ((↑(List.length rq) : Int) > (40 : Int))) = false →
 (!decide ((↑(List.length rq) : Int) > (40 : Int))) = false ∧
 ((!decide ((↑(List.length rq) : Int) > (40 : Int))) = false ∧
 ((decide ((↑(List.length rq) : Int) > (40 : Int))) = true ∧
 (K (AV.bool true)
 { nx := 3, m :=
 [(2,
 AObj.cells 23
 [AV.int IntKind.i64 L, AV.int IntKind.i64 C, AV.int IntKind.i64 T, AV.int IntKind.i64 R,
 AV.int IntKind.i64 F, AV.int IntKind.i64 W, AV.int IntKind.i64 U]),
 (1, AObj.ro (bF bl)), (0, AObj.ro (qF rq))] }))))
def lbS_scr : Plan := .k (.b (.t (.t (.f (.b (.t (.t (.f (.b (.t (.f (.b (.t (.t (.f (.b (.t (.f (.b (.z) (.z)))) (.f (.t (.z))))))) (.f (.f (.t (.z))))))) (.f (.t (.z))))))) (.f (.f (.t (.z)))))))) (.f (.f (.t (.z)))))
theorem lbS_vc (L C T R F W U t u : Int) (rq : List Rq) (bl : List Bool) (c cm : Nat) (K : AV → AH → Prop) : (funP (XLbS L C T R F W U t u rq bl c cm) 14 [.agg [.int .i64 L, .int .i64 C, .int .i64 T, .int .i64 R, .int .i64 F, .int .i64 W, .int .i64 U], .slice 0 0 rq.length (some c), (.slice 1 0 bl.length (some cm)), .int .i64 t, .int .i64 u] ⟨2, [(1, .ro (bF bl)), (0, .ro (qF rq))]⟩ lbS_scr (fun v σ _ => K v σ)) = lbS_VC L C T R F W U t u rq bl c cm K := by kernel_rfl
def l0NN_VC (L C T R F W U t u : Int) (K : AV → Prop) : Prop :=
 ((!!decide ((if okF L C T R F W U = true then (0 : Int) else (2 : Int)) = (0 : Int))) = true →
 (!!decide ((if okF L C T R F W U = true then (0 : Int) else (2 : Int)) = (0 : Int))) = true ∧
 ((!decide ((if okF L C T R F W U = true then (0 : Int) else (2 : Int)) = (0 : Int))) = false ∧
 (((!decide (t < (0 : Int))) = true →
 (!decide (t < (0 : Int))) = true ∧
 ((!decide (t < (0 : Int))) = true ∧
 ((decide (t < (0 : Int))) = false ∧
 (((!decide (t > u)) = true →
 (!decide (t > u)) = true ∧
 ((decide (t > u)) = false ∧
 (((decide (u > (549755813888 : Int))) = true →
 K (AV.bool true)) ∧
 ((decide (u > (549755813888 : Int))) = false →
 ((!decide (u < t)) = true →
 (!decide (u < t)) = true ∧
 ((!decide (u < t)) = true ∧
 ((!decide (u < t)) = true ∧
 ((!decide (u < t)) = true ∧
 ((decide (u < t)) = false ∧
 (((!decide (IntKind.wrap IntKind.i64 (t + lenF L C T R F W U) = IntKind.wrap IntKind.i64 (t + lenF L C T R F W U))) = true →
 K (AV.bool false)) ∧
 ((!decide (IntKind.wrap IntKind.i64 (t + lenF L C T R F W U) = IntKind.wrap IntKind.i64 (t + lenF L C T R F W U))) = false →
 K (AV.bool (decide (t = t)))))))))) ∧
 ((!decide (u < t)) = false →
 (!decide (u < t)) = false ∧
 ((!decide (u < t)) = false ∧
 ((!decide (u < t)) = false ∧
 ((!decide (u < t)) = false ∧
 ((decide (u < t)) = true ∧
 (K (AV.bool false))))))))))) ∧
 ((!decide (t > u)) = false →
 (!decide (t > u)) = false ∧
 ((decide (t > u)) = true ∧
 (K (AV.bool true)))))))) ∧
 ((!decide (t < (0 : Int))) = false →
 (!decide (t < (0 : Int))) = false ∧
 ((!decide (t < (0 : Int))) = false ∧
 ((decide (t < (0 : Int))) = true ∧
 (K (AV.bool true)))))))) ∧
 ((!!decide ((if okF L C T R F W U = true then (0 : Int) else (2 : Int)) = (0 : Int))) = false →
 (!!decide ((if okF L C T R F W U = true then (0 : Int) else (2 : Int)) = (0 : Int))) = false ∧
 ((!decide ((if okF L C T R F W U = true then (0 : Int) else (2 : Int)) = (0 : Int))) = true ∧
 (K (AV.bool true))))
def l0NN_scr : Plan := .k (.k (.k (.k (.k (.k (.k (.k (.k (.b (.t (.f (.b (.t (.t (.f (.b (.t (.f (.b (.z) (.k (.k (.k (.k (.k (.k (.k (.k (.k (.k (.k (.k (.k (.k (.k (.k (.k (.k (.k (.k (.b (.t (.t (.t (.t (.f (.b (.z) (.z))))))) (.f (.f (.f (.f (.t (.z)))))))))))))))))))))))))))))) (.f (.t (.z))))))) (.f (.f (.t (.z))))))) (.f (.t (.z))))))))))))
theorem l0NN_vc (L C T R F W U t u : Int) (K : AV → Prop) : (funP (XCo5) 14 [.agg [.int .i64 L, .int .i64 C, .int .i64 T, .int .i64 R, .int .i64 F, .int .i64 W, .int .i64 U], .nilslice, .nilslice, .int .i64 t, .int .i64 u] h0 l0NN_scr (fun v _ _ => K v)) = l0NN_VC L C T R F W U t u K := by kernel_rfl
def l0NE_VC (L C T R F W U t u : Int) (K : AV → Prop) : Prop :=
 ((!!decide ((if okF L C T R F W U = true then (0 : Int) else (2 : Int)) = (0 : Int))) = true →
 (!!decide ((if okF L C T R F W U = true then (0 : Int) else (2 : Int)) = (0 : Int))) = true ∧
 ((!decide ((if okF L C T R F W U = true then (0 : Int) else (2 : Int)) = (0 : Int))) = false ∧
 (((!decide (t < (0 : Int))) = true →
 (!decide (t < (0 : Int))) = true ∧
 ((!decide (t < (0 : Int))) = true ∧
 ((decide (t < (0 : Int))) = false ∧
 (((!decide (t > u)) = true →
 (!decide (t > u)) = true ∧
 ((decide (t > u)) = false ∧
 (((decide (u > (549755813888 : Int))) = true →
 K (AV.bool true)) ∧
 ((decide (u > (549755813888 : Int))) = false →
 ((!decide (u < t)) = true →
 (!decide (u < t)) = true ∧
 ((!decide (u < t)) = true ∧
 ((!decide (u < t)) = true ∧
 ((!decide (u < t)) = true ∧
 ((decide (u < t)) = false ∧
 (((!decide (IntKind.wrap IntKind.i64 (t + lenF L C T R F W U) = IntKind.wrap IntKind.i64 (t + lenF L C T R F W U))) = true →
 K (AV.bool false)) ∧
 ((!decide (IntKind.wrap IntKind.i64 (t + lenF L C T R F W U) = IntKind.wrap IntKind.i64 (t + lenF L C T R F W U))) = false →
 K (AV.bool (decide (t = t)))))))))) ∧
 ((!decide (u < t)) = false →
 (!decide (u < t)) = false ∧
 ((!decide (u < t)) = false ∧
 ((!decide (u < t)) = false ∧
 ((!decide (u < t)) = false ∧
 ((decide (u < t)) = true ∧
 (K (AV.bool false))))))))))) ∧
 ((!decide (t > u)) = false →
 (!decide (t > u)) = false ∧
 ((decide (t > u)) = true ∧
 (K (AV.bool true)))))))) ∧
 ((!decide (t < (0 : Int))) = false →
 (!decide (t < (0 : Int))) = false ∧
 ((!decide (t < (0 : Int))) = false ∧
 ((decide (t < (0 : Int))) = true ∧
 (K (AV.bool true)))))))) ∧
 ((!!decide ((if okF L C T R F W U = true then (0 : Int) else (2 : Int)) = (0 : Int))) = false →
 (!!decide ((if okF L C T R F W U = true then (0 : Int) else (2 : Int)) = (0 : Int))) = false ∧
 ((!decide ((if okF L C T R F W U = true then (0 : Int) else (2 : Int)) = (0 : Int))) = true ∧
 (K (AV.bool true))))
def l0NE_scr : Plan := .k (.k (.k (.k (.k (.k (.k (.k (.k (.b (.t (.f (.b (.t (.t (.f (.b (.t (.f (.b (.z) (.k (.k (.k (.k (.k (.k (.k (.k (.k (.k (.k (.k (.k (.k (.k (.k (.k (.k (.k (.k (.b (.t (.t (.t (.t (.f (.b (.z) (.z))))))) (.f (.f (.f (.f (.t (.z)))))))))))))))))))))))))))))) (.f (.t (.z))))))) (.f (.f (.t (.z))))))) (.f (.t (.z))))))))))))
theorem l0NE_vc (L C T R F W U t u : Int) (K : AV → Prop) : (funP (XCo5) 14 [.agg [.int .i64 L, .int .i64 C, .int .i64 T, .int .i64 R, .int .i64 F, .int .i64 W, .int .i64 U], .nilslice, (.slice 0 0 0 none), .int .i64 t, .int .i64 u] h0 l0NE_scr (fun v _ _ => K v)) = l0NE_VC L C T R F W U t u K := by kernel_rfl
def l0NS_VC (L C T R F W U t u : Int) (bl : List Bool) (cm : Nat) (K : AV → AH → Prop) : Prop :=
 ((!decide ((↑(List.length bl) : Int) > (40 : Int))) = true →
 (!decide ((↑(List.length bl) : Int) > (40 : Int))) = true ∧
 ((!decide ((↑(List.length bl) : Int) > (40 : Int))) = true ∧
 ((decide ((↑(List.length bl) : Int) > (40 : Int))) = false ∧
 (((!!decide ((if okF L C T R F W U = true then (0 : Int) else (2 : Int)) = (0 : Int))) = true →
 (!!decide ((if okF L C T R F W U = true then (0 : Int) else (2 : Int)) = (0 : Int))) = true ∧
 ((!decide ((if okF L C T R F W U = true then (0 : Int) else (2 : Int)) = (0 : Int))) = false ∧
 (((!decide (t < (0 : Int))) = true →
 (!decide (t < (0 : Int))) = true ∧
 ((!decide (t < (0 : Int))) = true ∧
 ((decide (t < (0 : Int))) = false ∧
 (((!decide (t > u)) = true →
 (!decide (t > u)) = true ∧
 ((decide (t > u)) = false ∧
 (((decide (u > (549755813888 : Int))) = true →
 K (AV.bool true)
 { nx := 2, m :=
 [(1,
 AObj.cells 23
 [AV.int IntKind.i64 L, AV.int IntKind.i64 C, AV.int IntKind.i64 T, AV.int IntKind.i64 R,
 AV.int IntKind.i64 F, AV.int IntKind.i64 W, AV.int IntKind.i64 U]),
 (0, AObj.ro (bF bl))] }) ∧
 ((decide (u > (549755813888 : Int))) = false →
 ((!decide (u < t)) = true →
 (!decide (u < t)) = true ∧
 ((!decide (u < t)) = true ∧
 ((!decide (u < t)) = true ∧
 ((!decide (u < t)) = true ∧
 ((decide (u < t)) = false ∧
 (((!decide (IntKind.wrap IntKind.i64 (t + lenF L C T R F W U) = IntKind.wrap IntKind.i64 (t + lenF L C T R F W U))) = true →
 K (AV.bool false)
 { nx := 5, m :=
 [(4,
 AObj.cells 23
 [AV.int IntKind.i64 L, AV.int IntKind.i64 C, AV.int IntKind.i64 T, AV.int IntKind.i64 R,
 AV.int IntKind.i64 F, AV.int IntKind.i64 W, AV.int IntKind.i64 U]),
 (3,
 AObj.cells 23
 [AV.int IntKind.i64 L, AV.int IntKind.i64 C, AV.int IntKind.i64 T, AV.int IntKind.i64 R,
 AV.int IntKind.i64 F, AV.int IntKind.i64 W, AV.int IntKind.i64 U]),
 (2,
 AObj.cells 23
 [AV.int IntKind.i64 L, AV.int IntKind.i64 C, AV.int IntKind.i64 T, AV.int IntKind.i64 R,
 AV.int IntKind.i64 F, AV.int IntKind.i64 W, AV.int IntKind.i64 U]),
 (1,
 AObj.cells 23
 [AV.int IntKind.i64 L, AV.int IntKind.i64 C, AV.int IntKind.i64 T, AV.int IntKind.i64 R,
 AV.int IntKind.i64 F, AV.int IntKind.i64 W, AV.int IntKind.i64 U]),
 (0, AObj.ro (bF bl))] }) ∧
 ((!decide (IntKind.wrap IntKind.i64 (t + lenF L C T R F W U) = IntKind.wrap IntKind.i64 (t + lenF L C T R F W U))) = false →
 K (AV.bool (decide (t = t)))
 { nx := 5, m :=
 [(4,
 AObj.cells 23
 [AV.int IntKind.i64 L, AV.int IntKind.i64 C, AV.int IntKind.i64 T, AV.int IntKind.i64 R,
 AV.int IntKind.i64 F, AV.int IntKind.i64 W, AV.int IntKind.i64 U]),
 (3,
 AObj.cells 23
 [AV.int IntKind.i64 L, AV.int IntKind.i64 C, AV.int IntKind.i64 T, AV.int IntKind.i64 R,
 AV.int IntKind.i64 F, AV.int IntKind.i64 W, AV.int IntKind.i64 U]),
 (2,
 AObj.cells 23
 [AV.int IntKind.i64 L, AV.int IntKind.i64 C, AV.int IntKind.i64 T, AV.int IntKind.i64 R,
 AV.int IntKind.i64 F, AV.int IntKind.i64 W, AV.int IntKind.i64 U]),
 (1,
 AObj.cells 23
 [AV.int IntKind.i64 L, AV.int IntKind.i64 C, AV.int IntKind.i64 T, AV.int IntKind.i64 R,
 AV.int IntKind.i64 F, AV.int IntKind.i64 W, AV.int IntKind.i64 U]),
 (0, AObj.ro (bF bl))] }))))))) ∧
 ((!decide (u < t)) = false →
 (!decide (u < t)) = false ∧
 ((!decide (u < t)) = false ∧
 ((!decide (u < t)) = false ∧
 ((!decide (u < t)) = false ∧
 ((decide (u < t)) = true ∧
 (K (AV.bool false)
 { nx := 5, m :=
 [(4,
 AObj.cells 23
 [AV.int IntKind.i64 L, AV.int IntKind.i64 C, AV.int IntKind.i64 T, AV.int IntKind.i64 R,
 AV.int IntKind.i64 F, AV.int IntKind.i64 W, AV.int IntKind.i64 U]),
 (3,
 AObj.cells 23
 [AV.int IntKind.i64 L, AV.int IntKind.i64 C, AV.int IntKind.i64 T, AV.int IntKind.i64 R,
 AV.int IntKind.i64 F, AV.int IntKind.i64 W, AV.int IntKind.i64 U]),
 (2,
 AObj.cells 23
 [AV.int IntKind.i64 L, AV.int IntKind.i64 C, AV.int IntKind.i64 T, AV.int IntKind.i64 R,
 AV.int IntKind.i64 F, AV.int IntKind.i64 W, AV.int IntKind.i64 U]),
 (1,
 AObj.cells 23
 [AV.int IntKind.i64 L, AV.int IntKind.i64 C, AV.int IntKind.i64 T, AV.int IntKind.i64 R,
 AV.int IntKind.i64 F, AV.int IntKind.i64 W, AV.int IntKind.i64 U]),
 (0, AObj.ro (bF bl))] })))))))))) ∧
 ((!decide (t > u)) = false →
 (!decide (t > u)) = false ∧
 ((decide (t > u)) = true ∧
 (K (AV.bool true)
 { nx := 2, m :=
 [(1,
 AObj.cells 23
 [AV.int IntKind.i64 L, AV.int IntKind.i64 C, AV.int IntKind.i64 T, AV.int IntKind.i64 R,
 AV.int IntKind.i64 F, AV.int IntKind.i64 W, AV.int IntKind.i64 U]),
 (0, AObj.ro (bF bl))] }))))))) ∧
 ((!decide (t < (0 : Int))) = false →
 (!decide (t < (0 : Int))) = false ∧
 ((!decide (t < (0 : Int))) = false ∧
 ((decide (t < (0 : Int))) = true ∧
 (K (AV.bool true)
 { nx := 2, m :=
 [(1,
 AObj.cells 23
 [AV.int IntKind.i64 L, AV.int IntKind.i64 C, AV.int IntKind.i64 T, AV.int IntKind.i64 R,
 AV.int IntKind.i64 F, AV.int IntKind.i64 W, AV.int IntKind.i64 U]),
 (0, AObj.ro (bF bl))] }))))))) ∧
 ((!!decide ((if okF L C T R F W U = true then (0 : Int) else (2 : Int)) = (0 : Int))) = false →
 (!!decide ((if okF L C T R F W U = true then (0 : Int) else (2 : Int)) = (0 : Int))) = false ∧
 ((!decide ((if okF L C T R F W U = true then (0 : Int) else (2 : Int)) = (0 : Int))) = true ∧
 (K (AV.bool true)
 { nx := 2, m :=
 [(1,
 AObj.cells 23
 [AV.int IntKind.i64 L, AV.int IntKind.i64 C, AV.int IntKind.i64 T, AV.int IntKind.i64 R,
 AV.int IntKind.i64 F, AV.int IntKind.i64 W, AV.int IntKind.i64 U]),
 (0, AObj.ro (bF bl))] }))))))) ∧
 ((!decide ((↑(List.length bl) : Int) > (40 : Int))) = false →
 (!decide ((↑(List.length bl) : Int) > (40 : Int))) = false ∧
 ((!decide ((↑(List.length bl) : Int) > (40 : Int))) = false ∧
 ((decide ((↑(List.length bl) : Int) > (40 : Int))) = true ∧
 (K (AV.bool true)
 { nx := 2, m :=
 [(1,
 AObj.cells 23
 [AV.int IntKind.i64 L, AV.int IntKind.i64 C, AV.int IntKind.i64 T, AV.int IntKind.i64 R,
 AV.int IntKind.i64 F, AV.int IntKind.i64 W, AV.int IntKind.i64 U]),
 (0, AObj.ro (bF bl))] }))))
def l0NS_scr : Plan := .k (.k (.k (.k (.k (.b (.t (.t (.f (.b (.t (.f (.b (.t (.t (.f (.b (.t (.f (.b (.z) (.k (.k (.k (.k (.k (.k (.k (.k (.k (.k (.k (.k (.k (.k (.k (.k (.k (.k (.k (.k (.b (.t (.t (.t (.t (.f (.b (.z) (.z))))))) (.f (.f (.f (.f (.t (.z)))))))))))))))))))))))))))))) (.f (.t (.z))))))) (.f (.f (.t (.z))))))) (.f (.t (.z))))))) (.f (.f (.t (.z)))))))))
theorem l0NS_vc (L C T R F W U t u : Int) (bl : List Bool) (cm : Nat) (K : AV → AH → Prop) : (funP (XCo5) 14 [.agg [.int .i64 L, .int .i64 C, .int .i64 T, .int .i64 R, .int .i64 F, .int .i64 W, .int .i64 U], .nilslice, (.slice 0 0 bl.length (some cm)), .int .i64 t, .int .i64 u] ⟨1, [(0, .ro (bF bl))]⟩ l0NS_scr (fun v σ _ => K v σ)) = l0NS_VC L C T R F W U t u bl cm K := by kernel_rfl
def l0EN_VC (L C T R F W U t u : Int) (K : AV → Prop) : Prop :=
 ((!!decide ((if okF L C T R F W U = true then (0 : Int) else (2 : Int)) = (0 : Int))) = true →
 (!!decide ((if okF L C T R F W U = true then (0 : Int) else (2 : Int)) = (0 : Int))) = true ∧
 ((!decide ((if okF L C T R F W U = true then (0 : Int) else (2 : Int)) = (0 : Int))) = false ∧
 (((!decide (t < (0 : Int))) = true →
 (!decide (t < (0 : Int))) = true ∧
 ((!decide (t < (0 : Int))) = true ∧
 ((decide (t < (0 : Int))) = false ∧
 (((!decide (t > u)) = true →
 (!decide (t > u)) = true ∧
 ((decide (t > u)) = false ∧
 (((decide (u > (549755813888 : Int))) = true →
 K (AV.bool true)) ∧
 ((decide (u > (549755813888 : Int))) = false →
 ((!decide (u < t)) = true →
 (!decide (u < t)) = true ∧
 ((!decide (u < t)) = true ∧
 ((!decide (u < t)) = true ∧
 ((!decide (u < t)) = true ∧
 ((decide (u < t)) = false ∧
 (((!decide (IntKind.wrap IntKind.i64 (t + lenF L C T R F W U) = IntKind.wrap IntKind.i64 (t + lenF L C T R F W U))) = true →
 K (AV.bool false)) ∧
 ((!decide (IntKind.wrap IntKind.i64 (t + lenF L C T R F W U) = IntKind.wrap IntKind.i64 (t + lenF L C T R F W U))) = false →
 K (AV.bool (decide (t = t)))))))))) ∧
 ((!decide (u < t)) = false →
 (!decide (u < t)) = false ∧
 ((!decide (u < t)) = false ∧
 ((!decide (u < t)) = false ∧
 ((!decide (u < t)) = false ∧
 ((decide (u < t)) = true ∧
 (K (AV.bool false))))))))))) ∧
 ((!decide (t > u)) = false →
 (!decide (t > u)) = false ∧
 ((decide (t > u)) = true ∧
 (K (AV.bool true)))))))) ∧
 ((!decide (t < (0 : Int))) = false →
 (!decide (t < (0 : Int))) = false ∧
 ((!decide (t < (0 : Int))) = false ∧
 ((decide (t < (0 : Int))) = true ∧
 (K (AV.bool true)))))))) ∧
 ((!!decide ((if okF L C T R F W U = true then (0 : Int) else (2 : Int)) = (0 : Int))) = false →
 (!!decide ((if okF L C T R F W U = true then (0 : Int) else (2 : Int)) = (0 : Int))) = false ∧
 ((!decide ((if okF L C T R F W U = true then (0 : Int) else (2 : Int)) = (0 : Int))) = true ∧
 (K (AV.bool true))))
def l0EN_scr : Plan := .k (.k (.k (.k (.k (.k (.k (.k (.k (.b (.t (.f (.b (.t (.t (.f (.b (.t (.f (.b (.z) (.k (.k (.k (.k (.k (.k (.k (.k (.k (.k (.k (.k (.k (.k (.k (.k (.k (.k (.k (.k (.b (.t (.t (.t (.t (.f (.b (.z) (.z))))))) (.f (.f (.f (.f (.t (.z)))))))))))))))))))))))))))))) (.f (.t (.z))))))) (.f (.f (.t (.z))))))) (.f (.t (.z))))))))))))
theorem l0EN_vc (L C T R F W U t u : Int) (K : AV → Prop) : (funP (XCo5) 14 [.agg [.int .i64 L, .int .i64 C, .int .i64 T, .int .i64 R, .int .i64 F, .int .i64 W, .int .i64 U], (.slice 0 0 0 none), .nilslice, .int .i64 t, .int .i64 u] h0 l0EN_scr (fun v _ _ => K v)) = l0EN_VC L C T R F W U t u K := by kernel_rfl
def l0EE_VC (L C T R F W U t u : Int) (K : AV → Prop) : Prop :=
 ((!!decide ((if okF L C T R F W U = true then (0 : Int) else (2 : Int)) = (0 : Int))) = true →
 (!!decide ((if okF L C T R F W U = true then (0 : Int) else (2 : Int)) = (0 : Int))) = true ∧
 ((!decide ((if okF L C T R F W U = true then (0 : Int) else (2 : Int)) = (0 : Int))) = false ∧
 (((!decide (t < (0 : Int))) = true →
 (!decide (t < (0 : Int))) = true ∧
 ((!decide (t < (0 : Int))) = true ∧
 ((decide (t < (0 : Int))) = false ∧
 (((!decide (t > u)) = true →
 (!decide (t > u)) = true ∧
 ((decide (t > u)) = false ∧
 (((decide (u > (549755813888 : Int))) = true →
 K (AV.bool true)) ∧
 ((decide (u > (549755813888 : Int))) = false →
 ((!decide (u < t)) = true →
 (!decide (u < t)) = true ∧
 ((!decide (u < t)) = true ∧
 ((!decide (u < t)) = true ∧
 ((!decide (u < t)) = true ∧
 ((decide (u < t)) = false ∧
 (((!decide (IntKind.wrap IntKind.i64 (t + lenF L C T R F W U) = IntKind.wrap IntKind.i64 (t + lenF L C T R F W U))) = true →
 K (AV.bool false)) ∧
 ((!decide (IntKind.wrap IntKind.i64 (t + lenF L C T R F W U) = IntKind.wrap IntKind.i64 (t + lenF L C T R F W U))) = false →
 K (AV.bool (decide (t = t)))))))))) ∧
 ((!decide (u < t)) = false →
 (!decide (u < t)) = false ∧
 ((!decide (u < t)) = false ∧
 ((!decide (u < t)) = false ∧
 ((!decide (u < t)) = false ∧
 ((decide (u < t)) = true ∧
 (K (AV.bool false))))))))))) ∧
 ((!decide (t > u)) = false →
 (!decide (t > u)) = false ∧
 ((decide (t > u)) = true ∧
 (K (AV.bool true)))))))) ∧
 ((!decide (t < (0 : Int))) = false →
 (!decide (t < (0 : Int))) = false ∧
 ((!decide (t < (0 : Int))) = false ∧
 ((decide (t < (0 : Int))) = true ∧
 (K (AV.bool true)))))))) ∧
 ((!!decide ((if okF L C T R F W U = true then (0 : Int) else (2 : Int)) = (0 : Int))) = false →
 (!!decide ((if okF L C T R F W U = true then (0 : Int) else (2 : Int)) = (0 : Int))) = false ∧
 ((!decide ((if okF L C T R F W U = true then (0 : Int) else (2 : Int)) = (0 : Int))) = true ∧
 (K (AV.bool true))))
def l0EE_scr : Plan := .k (.k (.k (.k (.k (.k (.k (.k (.k (.b (.t (.f (.b (.t (.t (.f (.b (.t (.f (.b (.z) (.k (.k (.k (.k (.k (.k (.k (.k (.k (.k (.k (.k (.k (.k (.k (.k (.k (.k (.k (.k (.b (.t (.t (.t (.t (.f (.b (.z) (.z))))))) (.f (.f (.f (.f (.t (.z)))))))))))))))))))))))))))))) (.f (.t (.z))))))) (.f (.f (.t (.z))))))) (.f (.t (.z))))))))))))
theorem l0EE_vc (L C T R F W U t u : Int) (K : AV → Prop) : (funP (XCo5) 14 [.agg [.int .i64 L, .int .i64 C, .int .i64 T, .int .i64 R, .int .i64 F, .int .i64 W, .int .i64 U], (.slice 0 0 0 none), (.slice 0 0 0 none), .int .i64 t, .int .i64 u] h0 l0EE_scr (fun v _ _ => K v)) = l0EE_VC L C T R F W U t u K := by kernel_rfl
def l0ES_VC (L C T R F W U t u : Int) (bl : List Bool) (cm : Nat) (K : AV → AH → Prop) : Prop :=
 ((!decide ((↑(List.length bl) : Int) > (40 : Int))) = true →
 (!decide ((↑(List.length bl) : Int) > (40 : Int))) = true ∧
 ((!decide ((↑(List.length bl) : Int) > (40 : Int))) = true ∧
 ((decide ((↑(List.length bl) : Int) > (40 : Int))) = false ∧
 (((!!decide ((if okF L C T R F W U = true then (0 : Int) else (2 : Int)) = (0 : Int))) = true →
 (!!decide ((if okF L C T R F W U = true then (0 : Int) else (2 : Int)) = (0 : Int))) = true ∧
 ((!decide ((if okF L C T R F W U = true then (0 : Int) else (2 : Int)) = (0 : Int))) = false ∧
 (((!decide (t < (0 : Int))) = true →
 (!decide (t < (0 : Int))) = true ∧
 ((!decide (t < (0 : Int))) = true ∧
 ((decide (t < (0 : Int))) = false ∧
 (((!decide (t > u)) = true →
 (!decide (t > u)) = true ∧
 ((decide (t > u)) = false ∧
 (((decide (u > (549755813888 : Int))) = true →
 K (AV.bool true)
 { nx := 2, m :=
 [(1,
 AObj.cells 23
 [AV.int IntKind.i64 L, AV.int IntKind.i64 C, AV.int IntKind.i64 T, AV.int IntKind.i64 R,
 AV.int IntKind.i64 F, AV.int IntKind.i64 W, AV.int IntKind.i64 U]),
 (0, AObj.ro (bF bl))] }) ∧
 ((decide (u > (549755813888 : Int))) = false →
 ((!decide (u < t)) = true →
 (!decide (u < t)) = true ∧
 ((!decide (u < t)) = true ∧
 ((!decide (u < t)) = true ∧
 ((!decide (u < t)) = true ∧
 ((decide (u < t)) = false ∧
 (((!decide (IntKind.wrap IntKind.i64 (t + lenF L C T R F W U) = IntKind.wrap IntKind.i64 (t + lenF L C T R F W U))) = true →
 K (AV.bool false)
 { nx := 5, m :=
 [(4,
 AObj.cells 23
 [AV.int IntKind.i64 L, AV.int IntKind.i64 C, AV.int IntKind.i64 T, AV.int IntKind.i64 R,
 AV.int IntKind.i64 F, AV.int IntKind.i64 W, AV.int IntKind.i64 U]),
 (3,
 AObj.cells 23
 [AV.int IntKind.i64 L, AV.int IntKind.i64 C, AV.int IntKind.i64 T, AV.int IntKind.i64 R,
 AV.int IntKind.i64 F, AV.int IntKind.i64 W, AV.int IntKind.i64 U]),
 (2,
 AObj.cells 23
 [AV.int IntKind.i64 L, AV.int IntKind.i64 C, AV.int IntKind.i64 T, AV.int IntKind.i64 R,
 AV.int IntKind.i64 F, AV.int IntKind.i64 W, AV.int IntKind.i64 U]),
 (1,
 AObj.cells 23
 [AV.int IntKind.i64 L, AV.int IntKind.i64 C, AV.int IntKind.i64 T, AV.int IntKind.i64 R,
 AV.int IntKind.i64 F, AV.int IntKind.i64 W, AV.int IntKind.i64 U]),
 (0, AObj.ro (bF bl))] }) ∧
 ((!decide (IntKind.wrap IntKind.i64 (t + lenF L C T R F W U) = IntKind.wrap IntKind.i64 (t + lenF L C T R F W U))) = false →
 K (AV.bool (decide (t = t)))
 { nx := 5, m :=
 [(4,
 AObj.cells 23
 [AV.int IntKind.i64 L, AV.int IntKind.i64 C, AV.int IntKind.i64 T, AV.int IntKind.i64 R,
 AV.int IntKind.i64 F, AV.int IntKind.i64 W, AV.int IntKind.i64 U]),
 (3,
 AObj.cells 23
 [AV.int IntKind.i64 L, AV.int IntKind.i64 C, AV.int IntKind.i64 T, AV.int IntKind.i64 R,
 AV.int IntKind.i64 F, AV.int IntKind.i64 W, AV.int IntKind.i64 U]),
 (2,
 AObj.cells 23
 [AV.int IntKind.i64 L, AV.int IntKind.i64 C, AV.int IntKind.i64 T, AV.int IntKind.i64 R,
 AV.int IntKind.i64 F, AV.int IntKind.i64 W, AV.int IntKind.i64 U]),
 (1,
 AObj.cells 23
 [AV.int IntKind.i64 L, AV.int IntKind.i64 C, AV.int IntKind.i64 T, AV.int IntKind.i64 R,
 AV.int IntKind.i64 F, AV.int IntKind.i64 W, AV.int IntKind.i64 U]),
 (0, AObj.ro (bF bl))] }))))))) ∧
 ((!decide (u < t)) = false →
 (!decide (u < t)) = false ∧
 ((!decide (u < t)) = false ∧
 ((!decide (u < t)) = false ∧
 ((!decide (u < t)) = false ∧
 ((decide (u < t)) = true ∧
 (K (AV.bool false)
 { nx := 5, m :=
 [(4,
 AObj.cells 23
 [AV.int IntKind.i64 L, AV.int IntKind.i64 C, AV.int IntKind.i64 T, AV.int IntKind.i64 R,
 AV.int IntKind.i64 F, AV.int IntKind.i64 W, AV.int IntKind.i64 U]),
 (3,
 AObj.cells 23
 [AV.int IntKind.i64 L, AV.int IntKind.i64 C, AV.int IntKind.i64 T, AV.int IntKind.i64 R,
 AV.int IntKind.i64 F, AV.int IntKind.i64 W, AV.int IntKind.i64 U]),
 (2,
 AObj.cells 23
 [AV.int IntKind.i64 L, AV.int IntKind.i64 C, AV.int IntKind.i64 T, AV.int IntKind.i64 R,
 AV.int IntKind.i64 F, AV.int IntKind.i64 W, AV.int IntKind.i64 U]),
 (1,
 AObj.cells 23
 [AV.int IntKind.i64 L, AV.int IntKind.i64 C, AV.int IntKind.i64 T, AV.int IntKind.i64 R,
 AV.int IntKind.i64 F, AV.int IntKind.i64 W, AV.int IntKind.i64 U]),
 (0, AObj.ro (bF bl))] })))))))))) ∧
 ((!decide (t > u)) = false →
 (!decide (t > u)) = false ∧
 ((decide (t > u)) = true ∧
 (K (AV.bool true)
 { nx := 2, m :=
 [(1,
 AObj.cells 23
 [AV.int IntKind.i64 L, AV.int IntKind.i64 C, AV.int IntKind.i64 T, AV.int IntKind.i64 R,
 AV.int IntKind.i64 F, AV.int IntKind.i64 W, AV.int IntKind.i64 U]),
 (0, AObj.ro (bF bl))] }))))))) ∧
 ((!decide (t < (0 : Int))) = false →
 (!decide (t < (0 : Int))) = false ∧
 ((!decide (t < (0 : Int))) = false ∧
 ((decide (t < (0 : Int))) = true ∧
 (K (AV.bool true)
 { nx := 2, m :=
 [(1,
 AObj.cells 23
 [AV.int IntKind.i64 L, AV.int IntKind.i64 C, AV.int IntKind.i64 T, AV.int IntKind.i64 R,
 AV.int IntKind.i64 F, AV.int IntKind.i64 W, AV.int IntKind.i64 U]),
 (0, AObj.ro (bF bl))] }))))))) ∧
 ((!!decide ((if okF L C T R F W U = true then (0 : Int) else (2 : Int)) = (0 : Int))) = false →
 (!!decide ((if okF L C T R F W U = true then (0 : Int) else (2 : Int)) = (0 : Int))) = false ∧
 ((!decide ((if okF L C T R F W U = true then (0 : Int) else (2 : Int)) = (0 : Int))) = true ∧
 (K (AV.bool true)
 { nx := 2, m :=
 [(1,
 AObj.cells 23
 [AV.int IntKind.i64 L, AV.int IntKind.i64 C, AV.int IntKind.i64 T, AV.int IntKind.i64 R,
 AV.int IntKind.i64 F, AV.int IntKind.i64 W, AV.int IntKind.i64 U]),
 (0, AObj.ro (bF bl))] }))))))) ∧
 ((!decide ((↑(List.length bl) : Int) > (40 : Int))) = false →
 (!decide ((↑(List.length bl) : Int) > (40 : Int))) = false ∧
 ((!decide ((↑(List.length bl) : Int) > (40 : Int))) = false ∧
 ((decide ((↑(List.length bl) : Int) > (40 : Int))) = true ∧
 (K (AV.bool true)
 { nx := 2, m :=
 [(1,
 AObj.cells 23
 [AV.int IntKind.i64 L, AV.int IntKind.i64 C, AV.int IntKind.i64 T, AV.int IntKind.i64 R,
 AV.int IntKind.i64 F, AV.int IntKind.i64 W, AV.int IntKind.i64 U]),
 (0, AObj.ro (bF bl))] }))))
def l0ES_scr : Plan := .k (.k (.k (.k (.k (.b (.t (.t (.f (.b (.t (.f (.b (.t (.t (.f (.b (.t (.f (.b (.z) (.k (.k (.k (.k (.k (.k (.k (.k (.k (.k (.k (.k (.k (.k (.k (.k (.k (.k (.k (.k (.b (.t (.t (.t (.t (.f (.b (.z) (.z))))))) (.f (.f (.f (.f (.t (.z)))))))))))))))))))))))))))))) (.f (.t (.z))))))) (.f (.f (.t (.z))))))) (.f (.t (.z))))))) (.f (.f (.t (.z)))))))))
theorem l0ES_vc (L C T R F W U t u : Int) (bl : List Bool) (cm : Nat) (K : AV → AH → Prop) : (funP (XCo5) 14 [.agg [.int .i64 L, .int .i64 C, .int .i64 T, .int .i64 R, .int .i64 F, .int .i64 W, .int .i64 U], (.slice 0 0 0 none), (.slice 0 0 bl.length (some cm)), .int .i64 t, .int .i64 u] ⟨1, [(0, .ro (bF bl))]⟩ l0ES_scr (fun v σ _ => K v σ)) = l0ES_VC L C T R F W U t u bl cm K := by kernel_rfl
end Go.Proofs.Ytnfelncgeihihaa.V
