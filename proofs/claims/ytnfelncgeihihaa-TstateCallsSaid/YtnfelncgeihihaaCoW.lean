/- Printed by vc.py: what must hold for functions' ways (CoW). -/
import Derived.Test.YtnfelncgeihihaaCoB
namespace Go.Proofs.Ytnfelncgeihihaa.V
open Go Go.Proofs
set_option maxRecDepth 100000
set_option linter.unusedVariables false
def req_VC (L C T R F W U k a v n : Int) (sl : Bool) (t : Int) (K : AV → Prop) : Prop :=
 ((!decide ((if okF L C T R F W U = true then (0 : Int) else (2 : Int)) = (0 : Int))) = true →
 K
 (AV.tup
 [AV.int IntKind.i64 (0 : Int), AV.int IntKind.i64 (0 : Int),
 AV.int IntKind.i64 (if okF L C T R F W U = true then (0 : Int) else (2 : Int))])) ∧
 ((!decide ((if okF L C T R F W U = true then (0 : Int) else (2 : Int)) = (0 : Int))) = false →
 ((!decide (stepE k a v n = (0 : Int))) = true →
 K (AV.tup [AV.int IntKind.i64 (0 : Int), AV.int IntKind.i64 (0 : Int), AV.int IntKind.i64 (stepE k a v n)])) ∧
 ((!decide (stepE k a v n = (0 : Int))) = false →
 ((!decide (t < (0 : Int))) = true →
 (!decide (t < (0 : Int))) = true ∧
 ((decide (t < (0 : Int))) = false ∧
 (((decide (t > (1099511626776 : Int))) = true →
 K (AV.tup [AV.int IntKind.i64 (0 : Int), AV.int IntKind.i64 (0 : Int), AV.int IntKind.i64 (2 : Int)])) ∧
 ((decide (t > (1099511626776 : Int))) = false →
 ((decide (k = (6 : Int))) = true →
 K (AV.tup [AV.int IntKind.i64 t, AV.int IntKind.i64 (IntKind.wrap IntKind.i64 (t + n)), AV.int IntKind.i64 (0 : Int)])) ∧
 ((decide (k = (6 : Int))) = false →
 ((decide (k = (4 : Int))) = true →
 (decide (k = (4 : Int))) = true ∧
 (((sl) = true →
 (sl) = true ∧
 ((sl) = true ∧
 ((sl) = true ∧
 ((sl) = true ∧
 ((sl) = true ∧
 ((sl) = true ∧
 ((sl) = true ∧
 ((sl) = true ∧
 ((sl) = true ∧
 (((!!decide (bits BinOp.and IntKind.u16 a (1 : Int) = (0 : Int))) = true →
 (!!decide (bits BinOp.and IntKind.u16 a (1 : Int) = (0 : Int))) = true ∧
 ((decide (bits BinOp.and IntKind.u16 a (1 : Int) = (0 : Int))) = true ∧
 ((decide (bits BinOp.and IntKind.u16 a (1 : Int) = (0 : Int))) = true ∧
 ((!!decide (bits BinOp.and IntKind.u16 a (1 : Int) = (0 : Int))) = true ∧
 ((decide (bits BinOp.and IntKind.u16 a (1 : Int) = (0 : Int))) = true ∧
 ((!decide (bits BinOp.and IntKind.u16 a (1 : Int) = (0 : Int))) = false ∧
 ((sl) = true ∧
 ((sl) = true ∧
 ((sl) = true ∧
 ((sl) = true ∧
 ((sl) = true ∧
 ((!!decide (bits BinOp.and IntKind.u16 a (1 : Int) = (0 : Int))) = true ∧
 ((!!decide (bits BinOp.and IntKind.u16 a (1 : Int) = (0 : Int))) = true ∧
 ((decide (bits BinOp.and IntKind.u16 a (1 : Int) = (0 : Int))) = true ∧
 ((decide (bits BinOp.and IntKind.u16 a (1 : Int) = (0 : Int))) = true ∧
 ((!!decide (bits BinOp.and IntKind.u16 a (1 : Int) = (0 : Int))) = true ∧
 ((decide (bits BinOp.and IntKind.u16 a (1 : Int) = (0 : Int))) = true ∧
 ((!decide (bits BinOp.and IntKind.u16 a (1 : Int) = (0 : Int))) = false ∧
 ((sl) = true ∧
 ((sl) = true ∧
 ((sl) = true ∧
 ((sl) = true ∧
 ((sl) = true ∧
 ((!!decide (bits BinOp.and IntKind.u16 a (1 : Int) = (0 : Int))) = true ∧
 ((!!decide (bits BinOp.and IntKind.u16 a (1 : Int) = (0 : Int))) = true ∧
 ((decide (bits BinOp.and IntKind.u16 a (1 : Int) = (0 : Int))) = true ∧
 ((decide (bits BinOp.and IntKind.u16 a (1 : Int) = (0 : Int))) = true ∧
 ((!!decide (bits BinOp.and IntKind.u16 a (1 : Int) = (0 : Int))) = true ∧
 ((decide (bits BinOp.and IntKind.u16 a (1 : Int) = (0 : Int))) = true ∧
 ((!decide (bits BinOp.and IntKind.u16 a (1 : Int) = (0 : Int))) = false ∧
 (K
 (AV.tup
 [AV.int IntKind.i64
 (IntKind.wrap IntKind.i64
 (IntKind.wrap IntKind.i64 (IntKind.wrap IntKind.i64 (t + waitN L C T R F W U t) + (1 : Int)) +
 waitN L C T R F W U
 (IntKind.wrap IntKind.i64 (IntKind.wrap IntKind.i64 (t + waitN L C T R F W U t) + (1 : Int))))),
 AV.int IntKind.i64
 (IntKind.wrap IntKind.i64
 (IntKind.wrap IntKind.i64
 (IntKind.wrap IntKind.i64
 (IntKind.wrap IntKind.i64
 (IntKind.wrap IntKind.i64 (IntKind.wrap IntKind.i64 (t + waitN L C T R F W U t) + (1 : Int)) +
 waitN L C T R F W U
 (IntKind.wrap IntKind.i64
 (IntKind.wrap IntKind.i64 (t + waitN L C T R F W U t) + (1 : Int)))) +
 (1 : Int)) +
 (1 : Int)) +
 (1 : Int))),
 AV.int IntKind.i64 (0 : Int)])))))))))))))))))))))))))))))))) ∧
 ((!!decide (bits BinOp.and IntKind.u16 a (1 : Int) = (0 : Int))) = false →
 (!!decide (bits BinOp.and IntKind.u16 a (1 : Int) = (0 : Int))) = false ∧
 ((!!decide (bits BinOp.and IntKind.u16 a (1 : Int) = (0 : Int))) = false ∧
 ((!decide (bits BinOp.and IntKind.u16 a (1 : Int) = (0 : Int))) = true ∧
 ((sl) = true ∧
 ((sl) = true ∧
 ((sl) = true ∧
 ((sl) = true ∧
 ((sl) = true ∧
 ((!!decide (bits BinOp.and IntKind.u16 a (1 : Int) = (0 : Int))) = false ∧
 ((!!decide (bits BinOp.and IntKind.u16 a (1 : Int) = (0 : Int))) = false ∧
 ((!!decide (bits BinOp.and IntKind.u16 a (1 : Int) = (0 : Int))) = false ∧
 ((!decide (bits BinOp.and IntKind.u16 a (1 : Int) = (0 : Int))) = true ∧
 ((sl) = true ∧
 ((sl) = true ∧
 ((sl) = true ∧
 ((sl) = true ∧
 ((sl) = true ∧
 ((!!decide (bits BinOp.and IntKind.u16 a (1 : Int) = (0 : Int))) = false ∧
 ((!!decide (bits BinOp.and IntKind.u16 a (1 : Int) = (0 : Int))) = false ∧
 ((!!decide (bits BinOp.and IntKind.u16 a (1 : Int) = (0 : Int))) = false ∧
 ((!decide (bits BinOp.and IntKind.u16 a (1 : Int) = (0 : Int))) = true ∧
 (K
 (AV.tup
 [AV.int IntKind.i64
 (IntKind.wrap IntKind.i64
 (IntKind.wrap IntKind.i64 (IntKind.wrap IntKind.i64 (t + waitN L C T R F W U t) + (1 : Int)) +
 waitN L C T R F W U
 (IntKind.wrap IntKind.i64 (IntKind.wrap IntKind.i64 (t + waitN L C T R F W U t) + (1 : Int))))),
 AV.int IntKind.i64
 (IntKind.wrap IntKind.i64
 (IntKind.wrap IntKind.i64
 (IntKind.wrap IntKind.i64
 (IntKind.wrap IntKind.i64
 (IntKind.wrap IntKind.i64
 (IntKind.wrap IntKind.i64
 (IntKind.wrap IntKind.i64
 (IntKind.wrap IntKind.i64 (t + waitN L C T R F W U t) + (1 : Int)) +
 waitN L C T R F W U
 (IntKind.wrap IntKind.i64
 (IntKind.wrap IntKind.i64 (t + waitN L C T R F W U t) + (1 : Int)))) +
 (1 : Int)) +
 waitN L C T R F W U
 (IntKind.wrap IntKind.i64
 (IntKind.wrap IntKind.i64
 (IntKind.wrap IntKind.i64
 (IntKind.wrap IntKind.i64 (t + waitN L C T R F W U t) + (1 : Int)) +
 waitN L C T R F W U
 (IntKind.wrap IntKind.i64
 (IntKind.wrap IntKind.i64 (t + waitN L C T R F W U t) + (1 : Int)))) +
 (1 : Int)))) +
 (1 : Int)) +
 waitN L C T R F W U
 (IntKind.wrap IntKind.i64
 (IntKind.wrap IntKind.i64
 (IntKind.wrap IntKind.i64
 (IntKind.wrap IntKind.i64
 (IntKind.wrap IntKind.i64
 (IntKind.wrap IntKind.i64 (t + waitN L C T R F W U t) + (1 : Int)) +
 waitN L C T R F W U
 (IntKind.wrap IntKind.i64
 (IntKind.wrap IntKind.i64 (t + waitN L C T R F W U t) + (1 : Int)))) +
 (1 : Int)) +
 waitN L C T R F W U
 (IntKind.wrap IntKind.i64
 (IntKind.wrap IntKind.i64
 (IntKind.wrap IntKind.i64
 (IntKind.wrap IntKind.i64 (t + waitN L C T R F W U t) + (1 : Int)) +
 waitN L C T R F W U
 (IntKind.wrap IntKind.i64
 (IntKind.wrap IntKind.i64 (t + waitN L C T R F W U t) + (1 : Int)))) +
 (1 : Int)))) +
 (1 : Int)))) +
 (1 : Int))),
 AV.int IntKind.i64 (0 : Int)]))))))))))))))))))))))))))))))))) ∧
 ((sl) = false →
 (sl) = false ∧
 ((sl) = false ∧
 ((sl) = false ∧
 ((sl) = false ∧
 (((decide (bits BinOp.and IntKind.u16 a (1 : Int) = (0 : Int))) = true →
 (decide (bits BinOp.and IntKind.u16 a (1 : Int) = (0 : Int))) = true ∧
 ((decide (bits BinOp.and IntKind.u16 a (1 : Int) = (0 : Int))) = true ∧
 ((sl) = false ∧
 ((sl) = false ∧
 ((sl) = false ∧
 ((sl) = false ∧
 ((sl) = false ∧
 ((decide (bits BinOp.and IntKind.u16 a (1 : Int) = (0 : Int))) = true ∧
 ((decide (bits BinOp.and IntKind.u16 a (1 : Int) = (0 : Int))) = true ∧
 ((decide (bits BinOp.and IntKind.u16 a (1 : Int) = (0 : Int))) = true ∧
 ((sl) = false ∧
 ((sl) = false ∧
 ((sl) = false ∧
 ((sl) = false ∧
 ((sl) = false ∧
 ((decide (bits BinOp.and IntKind.u16 a (1 : Int) = (0 : Int))) = true ∧
 ((decide (bits BinOp.and IntKind.u16 a (1 : Int) = (0 : Int))) = true ∧
 ((decide (bits BinOp.and IntKind.u16 a (1 : Int) = (0 : Int))) = true ∧
 ((sl) = false ∧
 ((sl) = false ∧
 ((sl) = false ∧
 ((sl) = false ∧
 ((sl) = false ∧
 ((decide (bits BinOp.and IntKind.u16 a (1 : Int) = (0 : Int))) = true ∧
 ((decide (bits BinOp.and IntKind.u16 a (1 : Int) = (0 : Int))) = true ∧
 ((decide (bits BinOp.and IntKind.u16 a (1 : Int) = (0 : Int))) = true ∧
 (K
 (AV.tup
 [AV.int IntKind.i64
 (IntKind.wrap IntKind.i64
 (IntKind.wrap IntKind.i64 (t + (1 : Int)) + waitN L C T R F W U (IntKind.wrap IntKind.i64 (t + (1 : Int))))),
 AV.int IntKind.i64
 (IntKind.wrap IntKind.i64
 (IntKind.wrap IntKind.i64
 (IntKind.wrap IntKind.i64
 (IntKind.wrap IntKind.i64
 (IntKind.wrap IntKind.i64 (t + (1 : Int)) +
 waitN L C T R F W U (IntKind.wrap IntKind.i64 (t + (1 : Int)))) +
 (1 : Int)) +
 (1 : Int)) +
 (1 : Int))),
 AV.int IntKind.i64 (0 : Int)])))))))))))))))))))))))))))) ∧
 ((decide (bits BinOp.and IntKind.u16 a (1 : Int) = (0 : Int))) = false →
 (decide (bits BinOp.and IntKind.u16 a (1 : Int) = (0 : Int))) = false ∧
 ((decide (bits BinOp.and IntKind.u16 a (1 : Int) = (0 : Int))) = false ∧
 ((sl) = false ∧
 ((sl) = false ∧
 ((sl) = false ∧
 ((sl) = false ∧
 ((sl) = false ∧
 ((decide (bits BinOp.and IntKind.u16 a (1 : Int) = (0 : Int))) = false ∧
 ((decide (bits BinOp.and IntKind.u16 a (1 : Int) = (0 : Int))) = false ∧
 ((decide (bits BinOp.and IntKind.u16 a (1 : Int) = (0 : Int))) = false ∧
 ((sl) = false ∧
 ((sl) = false ∧
 ((sl) = false ∧
 ((sl) = false ∧
 ((sl) = false ∧
 ((decide (bits BinOp.and IntKind.u16 a (1 : Int) = (0 : Int))) = false ∧
 ((decide (bits BinOp.and IntKind.u16 a (1 : Int) = (0 : Int))) = false ∧
 ((decide (bits BinOp.and IntKind.u16 a (1 : Int) = (0 : Int))) = false ∧
 ((sl) = false ∧
 ((sl) = false ∧
 ((sl) = false ∧
 ((sl) = false ∧
 ((sl) = false ∧
 ((decide (bits BinOp.and IntKind.u16 a (1 : Int) = (0 : Int))) = false ∧
 ((decide (bits BinOp.and IntKind.u16 a (1 : Int) = (0 : Int))) = false ∧
 ((decide (bits BinOp.and IntKind.u16 a (1 : Int) = (0 : Int))) = false ∧
 (K
 (AV.tup
 [AV.int IntKind.i64 (IntKind.wrap IntKind.i64 (t + (1 : Int))),
 AV.int IntKind.i64
 (IntKind.wrap IntKind.i64
 (IntKind.wrap IntKind.i64
 (IntKind.wrap IntKind.i64 (IntKind.wrap IntKind.i64 (t + (1 : Int)) + (1 : Int)) + (1 : Int)) +
 (1 : Int))),
 AV.int IntKind.i64 (0 : Int)]))))))))))))))))))))))))))))))))))) ∧
 ((decide (k = (4 : Int))) = false →
 ((decide (k = (5 : Int))) = true →
 ((sl) = true →
 (sl) = true ∧
 ((sl) = true ∧
 ((sl) = true ∧
 ((sl) = true ∧
 ((sl) = true ∧
 ((sl) = true ∧
 ((sl) = true ∧
 ((sl) = true ∧
 ((sl) = true ∧
 (((!!decide (bits BinOp.and IntKind.u16 a (1 : Int) = (0 : Int))) = true →
 (!!decide (bits BinOp.and IntKind.u16 a (1 : Int) = (0 : Int))) = true ∧
 ((decide (bits BinOp.and IntKind.u16 a (1 : Int) = (0 : Int))) = true ∧
 ((decide (bits BinOp.and IntKind.u16 a (1 : Int) = (0 : Int))) = true ∧
 ((!!decide (bits BinOp.and IntKind.u16 a (1 : Int) = (0 : Int))) = true ∧
 ((decide (bits BinOp.and IntKind.u16 a (1 : Int) = (0 : Int))) = true ∧
 ((!decide (bits BinOp.and IntKind.u16 a (1 : Int) = (0 : Int))) = false ∧
 ((sl) = true ∧
 ((sl) = true ∧
 ((sl) = true ∧
 ((sl) = true ∧
 ((sl) = true ∧
 ((!!decide (bits BinOp.and IntKind.u16 a (1 : Int) = (0 : Int))) = true ∧
 ((!!decide (bits BinOp.and IntKind.u16 a (1 : Int) = (0 : Int))) = true ∧
 ((decide (bits BinOp.and IntKind.u16 a (1 : Int) = (0 : Int))) = true ∧
 ((decide (bits BinOp.and IntKind.u16 a (1 : Int) = (0 : Int))) = true ∧
 ((!!decide (bits BinOp.and IntKind.u16 a (1 : Int) = (0 : Int))) = true ∧
 ((decide (bits BinOp.and IntKind.u16 a (1 : Int) = (0 : Int))) = true ∧
 ((!decide (bits BinOp.and IntKind.u16 a (1 : Int) = (0 : Int))) = false ∧
 ((sl) = true ∧
 ((sl) = true ∧
 ((sl) = true ∧
 ((sl) = true ∧
 ((sl) = true ∧
 ((!!decide (bits BinOp.and IntKind.u16 a (1 : Int) = (0 : Int))) = true ∧
 ((!!decide (bits BinOp.and IntKind.u16 a (1 : Int) = (0 : Int))) = true ∧
 ((decide (bits BinOp.and IntKind.u16 a (1 : Int) = (0 : Int))) = true ∧
 ((decide (bits BinOp.and IntKind.u16 a (1 : Int) = (0 : Int))) = true ∧
 ((!!decide (bits BinOp.and IntKind.u16 a (1 : Int) = (0 : Int))) = true ∧
 ((decide (bits BinOp.and IntKind.u16 a (1 : Int) = (0 : Int))) = true ∧
 ((!decide (bits BinOp.and IntKind.u16 a (1 : Int) = (0 : Int))) = false ∧
 (K
 (AV.tup
 [AV.int IntKind.i64
 (IntKind.wrap IntKind.i64
 (IntKind.wrap IntKind.i64 (IntKind.wrap IntKind.i64 (t + waitN L C T R F W U t) + (1 : Int)) +
 waitN L C T R F W U
 (IntKind.wrap IntKind.i64 (IntKind.wrap IntKind.i64 (t + waitN L C T R F W U t) + (1 : Int))))),
 AV.int IntKind.i64
 (IntKind.wrap IntKind.i64
 (IntKind.wrap IntKind.i64
 (IntKind.wrap IntKind.i64
 (IntKind.wrap IntKind.i64
 (IntKind.wrap IntKind.i64 (IntKind.wrap IntKind.i64 (t + waitN L C T R F W U t) + (1 : Int)) +
 waitN L C T R F W U
 (IntKind.wrap IntKind.i64
 (IntKind.wrap IntKind.i64 (t + waitN L C T R F W U t) + (1 : Int)))) +
 (1 : Int)) +
 (1 : Int)) +
 (1 : Int))),
 AV.int IntKind.i64 (0 : Int)])))))))))))))))))))))))))))))))) ∧
 ((!!decide (bits BinOp.and IntKind.u16 a (1 : Int) = (0 : Int))) = false →
 (!!decide (bits BinOp.and IntKind.u16 a (1 : Int) = (0 : Int))) = false ∧
 ((!!decide (bits BinOp.and IntKind.u16 a (1 : Int) = (0 : Int))) = false ∧
 ((!decide (bits BinOp.and IntKind.u16 a (1 : Int) = (0 : Int))) = true ∧
 ((sl) = true ∧
 ((sl) = true ∧
 ((sl) = true ∧
 ((sl) = true ∧
 ((sl) = true ∧
 ((!!decide (bits BinOp.and IntKind.u16 a (1 : Int) = (0 : Int))) = false ∧
 ((!!decide (bits BinOp.and IntKind.u16 a (1 : Int) = (0 : Int))) = false ∧
 ((!!decide (bits BinOp.and IntKind.u16 a (1 : Int) = (0 : Int))) = false ∧
 ((!decide (bits BinOp.and IntKind.u16 a (1 : Int) = (0 : Int))) = true ∧
 ((sl) = true ∧
 ((sl) = true ∧
 ((sl) = true ∧
 ((sl) = true ∧
 ((sl) = true ∧
 ((!!decide (bits BinOp.and IntKind.u16 a (1 : Int) = (0 : Int))) = false ∧
 ((!!decide (bits BinOp.and IntKind.u16 a (1 : Int) = (0 : Int))) = false ∧
 ((!!decide (bits BinOp.and IntKind.u16 a (1 : Int) = (0 : Int))) = false ∧
 ((!decide (bits BinOp.and IntKind.u16 a (1 : Int) = (0 : Int))) = true ∧
 (K
 (AV.tup
 [AV.int IntKind.i64
 (IntKind.wrap IntKind.i64
 (IntKind.wrap IntKind.i64 (IntKind.wrap IntKind.i64 (t + waitN L C T R F W U t) + (1 : Int)) +
 waitN L C T R F W U
 (IntKind.wrap IntKind.i64 (IntKind.wrap IntKind.i64 (t + waitN L C T R F W U t) + (1 : Int))))),
 AV.int IntKind.i64
 (IntKind.wrap IntKind.i64
 (IntKind.wrap IntKind.i64
 (IntKind.wrap IntKind.i64
 (IntKind.wrap IntKind.i64
 (IntKind.wrap IntKind.i64
 (IntKind.wrap IntKind.i64
 (IntKind.wrap IntKind.i64
 (IntKind.wrap IntKind.i64 (t + waitN L C T R F W U t) + (1 : Int)) +
 waitN L C T R F W U
 (IntKind.wrap IntKind.i64
 (IntKind.wrap IntKind.i64 (t + waitN L C T R F W U t) + (1 : Int)))) +
 (1 : Int)) +
 waitN L C T R F W U
 (IntKind.wrap IntKind.i64
 (IntKind.wrap IntKind.i64
 (IntKind.wrap IntKind.i64
 (IntKind.wrap IntKind.i64 (t + waitN L C T R F W U t) + (1 : Int)) +
 waitN L C T R F W U
 (IntKind.wrap IntKind.i64
 (IntKind.wrap IntKind.i64 (t + waitN L C T R F W U t) + (1 : Int)))) +
 (1 : Int)))) +
 (1 : Int)) +
 waitN L C T R F W U
 (IntKind.wrap IntKind.i64
 (IntKind.wrap IntKind.i64
 (IntKind.wrap IntKind.i64
 (IntKind.wrap IntKind.i64
 (IntKind.wrap IntKind.i64
 (IntKind.wrap IntKind.i64 (t + waitN L C T R F W U t) + (1 : Int)) +
 waitN L C T R F W U
 (IntKind.wrap IntKind.i64
 (IntKind.wrap IntKind.i64 (t + waitN L C T R F W U t) + (1 : Int)))) +
 (1 : Int)) +
 waitN L C T R F W U
 (IntKind.wrap IntKind.i64
 (IntKind.wrap IntKind.i64
 (IntKind.wrap IntKind.i64
 (IntKind.wrap IntKind.i64 (t + waitN L C T R F W U t) + (1 : Int)) +
 waitN L C T R F W U
 (IntKind.wrap IntKind.i64
 (IntKind.wrap IntKind.i64 (t + waitN L C T R F W U t) + (1 : Int)))) +
 (1 : Int)))) +
 (1 : Int)))) +
 (1 : Int))),
 AV.int IntKind.i64 (0 : Int)]))))))))))))))))))))))))))))))))) ∧
 ((sl) = false →
 (sl) = false ∧
 ((sl) = false ∧
 ((sl) = false ∧
 ((sl) = false ∧
 (((decide (bits BinOp.and IntKind.u16 a (1 : Int) = (0 : Int))) = true →
 (decide (bits BinOp.and IntKind.u16 a (1 : Int) = (0 : Int))) = true ∧
 ((decide (bits BinOp.and IntKind.u16 a (1 : Int) = (0 : Int))) = true ∧
 ((sl) = false ∧
 ((sl) = false ∧
 ((sl) = false ∧
 ((sl) = false ∧
 ((sl) = false ∧
 ((decide (bits BinOp.and IntKind.u16 a (1 : Int) = (0 : Int))) = true ∧
 ((decide (bits BinOp.and IntKind.u16 a (1 : Int) = (0 : Int))) = true ∧
 ((decide (bits BinOp.and IntKind.u16 a (1 : Int) = (0 : Int))) = true ∧
 ((sl) = false ∧
 ((sl) = false ∧
 ((sl) = false ∧
 ((sl) = false ∧
 ((sl) = false ∧
 ((decide (bits BinOp.and IntKind.u16 a (1 : Int) = (0 : Int))) = true ∧
 ((decide (bits BinOp.and IntKind.u16 a (1 : Int) = (0 : Int))) = true ∧
 ((decide (bits BinOp.and IntKind.u16 a (1 : Int) = (0 : Int))) = true ∧
 ((sl) = false ∧
 ((sl) = false ∧
 ((sl) = false ∧
 ((sl) = false ∧
 ((sl) = false ∧
 ((decide (bits BinOp.and IntKind.u16 a (1 : Int) = (0 : Int))) = true ∧
 ((decide (bits BinOp.and IntKind.u16 a (1 : Int) = (0 : Int))) = true ∧
 ((decide (bits BinOp.and IntKind.u16 a (1 : Int) = (0 : Int))) = true ∧
 (K
 (AV.tup
 [AV.int IntKind.i64
 (IntKind.wrap IntKind.i64
 (IntKind.wrap IntKind.i64 (t + (1 : Int)) + waitN L C T R F W U (IntKind.wrap IntKind.i64 (t + (1 : Int))))),
 AV.int IntKind.i64
 (IntKind.wrap IntKind.i64
 (IntKind.wrap IntKind.i64
 (IntKind.wrap IntKind.i64
 (IntKind.wrap IntKind.i64
 (IntKind.wrap IntKind.i64 (t + (1 : Int)) +
 waitN L C T R F W U (IntKind.wrap IntKind.i64 (t + (1 : Int)))) +
 (1 : Int)) +
 (1 : Int)) +
 (1 : Int))),
 AV.int IntKind.i64 (0 : Int)])))))))))))))))))))))))))))) ∧
 ((decide (bits BinOp.and IntKind.u16 a (1 : Int) = (0 : Int))) = false →
 (decide (bits BinOp.and IntKind.u16 a (1 : Int) = (0 : Int))) = false ∧
 ((decide (bits BinOp.and IntKind.u16 a (1 : Int) = (0 : Int))) = false ∧
 ((sl) = false ∧
 ((sl) = false ∧
 ((sl) = false ∧
 ((sl) = false ∧
 ((sl) = false ∧
 ((decide (bits BinOp.and IntKind.u16 a (1 : Int) = (0 : Int))) = false ∧
 ((decide (bits BinOp.and IntKind.u16 a (1 : Int) = (0 : Int))) = false ∧
 ((decide (bits BinOp.and IntKind.u16 a (1 : Int) = (0 : Int))) = false ∧
 ((sl) = false ∧
 ((sl) = false ∧
 ((sl) = false ∧
 ((sl) = false ∧
 ((sl) = false ∧
 ((decide (bits BinOp.and IntKind.u16 a (1 : Int) = (0 : Int))) = false ∧
 ((decide (bits BinOp.and IntKind.u16 a (1 : Int) = (0 : Int))) = false ∧
 ((decide (bits BinOp.and IntKind.u16 a (1 : Int) = (0 : Int))) = false ∧
 ((sl) = false ∧
 ((sl) = false ∧
 ((sl) = false ∧
 ((sl) = false ∧
 ((sl) = false ∧
 ((decide (bits BinOp.and IntKind.u16 a (1 : Int) = (0 : Int))) = false ∧
 ((decide (bits BinOp.and IntKind.u16 a (1 : Int) = (0 : Int))) = false ∧
 ((decide (bits BinOp.and IntKind.u16 a (1 : Int) = (0 : Int))) = false ∧
 (K
 (AV.tup
 [AV.int IntKind.i64 (IntKind.wrap IntKind.i64 (t + (1 : Int))),
 AV.int IntKind.i64
 (IntKind.wrap IntKind.i64
 (IntKind.wrap IntKind.i64
 (IntKind.wrap IntKind.i64 (IntKind.wrap IntKind.i64 (t + (1 : Int)) + (1 : Int)) + (1 : Int)) +
 (1 : Int))),
 AV.int IntKind.i64 (0 : Int)])))))))))))))))))))))))))))))))))) ∧
 ((decide (k = (5 : Int))) = false →
 ((sl) = true →
 K
 (AV.tup
 [AV.int IntKind.i64 (IntKind.wrap IntKind.i64 (t + waitN L C T R F W U t)),
 AV.int IntKind.i64 (IntKind.wrap IntKind.i64 (IntKind.wrap IntKind.i64 (t + waitN L C T R F W U t) + n)),
 AV.int IntKind.i64 (0 : Int)])) ∧
 ((sl) = false →
 K (AV.tup [AV.int IntKind.i64 t, AV.int IntKind.i64 (IntKind.wrap IntKind.i64 (t + n)), AV.int IntKind.i64 (0 : Int)]))))))))) ∧
 ((!decide (t < (0 : Int))) = false →
 (!decide (t < (0 : Int))) = false ∧
 ((decide (t < (0 : Int))) = true ∧
 (K (AV.tup [AV.int IntKind.i64 (0 : Int), AV.int IntKind.i64 (0 : Int), AV.int IntKind.i64 (2 : Int)]))))))
def req_scr : Plan := .b (.z) (.b (.z) (.b (.t (.f (.b (.z) (.b (.z) (.b (.t (.k (.b (.t (.t (.k (.k (.t (.k (.t (.k (.k (.k (.k (.k (.k (.k (.k (.k (.t (.t (.t (.k (.k (.t (.k (.t (.b (.t (.t (.t (.t (.t (.f (.k (.k (.k (.t (.t (.t (.k (.k (.t (.k (.t (.t (.t (.t (.t (.t (.t (.f (.k (.k (.k (.t (.t (.t (.k (.k (.t (.k (.t (.t (.t (.t (.t (.t (.t (.f (.z))))))))))))))))))))))))))))))))))))))))))) (.f (.k (.k (.f (.t (.k (.k (.k (.t (.t (.t (.k (.k (.t (.k (.t (.f (.f (.k (.k (.f (.t (.k (.k (.k (.t (.t (.t (.k (.k (.t (.k (.t (.f (.f (.k (.k (.f (.t (.z))))))))))))))))))))))))))))))))))))))))))))))))))))))))))))))))) (.f (.f (.k (.k (.f (.f (.k (.k (.b (.t (.k (.t (.k (.k (.k (.k (.f (.f (.f (.k (.k (.f (.f (.k (.k (.t (.t (.k (.t (.k (.k (.k (.k (.f (.f (.f (.k (.k (.f (.f (.k (.k (.t (.t (.k (.t (.k (.k (.k (.k (.f (.f (.f (.k (.k (.f (.f (.k (.k (.t (.t (.k (.t (.z))))))))))))))))))))))))))))))))))))))))))))))))))))))) (.f (.k (.f (.k (.k (.k (.k (.f (.f (.f (.k (.k (.f (.f (.k (.k (.f (.f (.k (.f (.k (.k (.k (.k (.f (.f (.f (.k (.k (.f (.f (.k (.k (.f (.f (.k (.f (.k (.k (.k (.k (.f (.f (.f (.k (.k (.f (.f (.k (.k (.f (.f (.k (.f (.z))))))))))))))))))))))))))))))))))))))))))))))))))))))))))))))))))) (.b (.k (.b (.t (.t (.k (.k (.t (.k (.t (.k (.k (.k (.k (.k (.k (.k (.k (.k (.t (.t (.t (.k (.k (.t (.k (.t (.b (.t (.t (.t (.t (.t (.f (.k (.k (.k (.t (.t (.t (.k (.k (.t (.k (.t (.t (.t (.t (.t (.t (.t (.f (.k (.k (.k (.t (.t (.t (.k (.k (.t (.k (.t (.t (.t (.t (.t (.t (.t (.f (.z))))))))))))))))))))))))))))))))))))))))))) (.f (.k (.k (.f (.t (.k (.k (.k (.t (.t (.t (.k (.k (.t (.k (.t (.f (.f (.k (.k (.f (.t (.k (.k (.k (.t (.t (.t (.k (.k (.t (.k (.t (.f (.f (.k (.k (.f (.t (.z))))))))))))))))))))))))))))))))))))))))))))))))))))))))))))))))) (.f (.f (.k (.k (.f (.f (.k (.k (.b (.t (.k (.t (.k (.k (.k (.k (.f (.f (.f (.k (.k (.f (.f (.k (.k (.t (.t (.k (.t (.k (.k (.k (.k (.f (.f (.f (.k (.k (.f (.f (.k (.k (.t (.t (.k (.t (.k (.k (.k (.k (.f (.f (.f (.k (.k (.f (.f (.k (.k (.t (.t (.k (.t (.z))))))))))))))))))))))))))))))))))))))))))))))))))))))) (.f (.k (.f (.k (.k (.k (.k (.f (.f (.f (.k (.k (.f (.f (.k (.k (.f (.f (.k (.f (.k (.k (.k (.k (.f (.f (.f (.k (.k (.f (.f (.k (.k (.f (.f (.k (.f (.k (.k (.k (.k (.f (.f (.f (.k (.k (.f (.f (.k (.k (.f (.f (.k (.f (.z)))))))))))))))))))))))))))))))))))))))))))))))))))))))))))))))))) (.b (.z) (.z)))))))) (.f (.t (.z)))))
theorem req_vc (L C T R F W U k a v n : Int) (sl : Bool) (t : Int) (K : AV → Prop) : (funP XCo2 39 [.agg [.int .i64 L, .int .i64 C, .int .i64 T, .int .i64 R, .int .i64 F, .int .i64 W, .int .i64 U], .agg [.int .i64 k, .int .u16 a, .int .u8 v, .int .i64 n], .bool sl, .int .i64 t] h0 req_scr (fun v _ _ => K v)) = req_VC L C T R F W U k a v n sl t K := by kernel_rfl
def most_VC (L C T R F W U k a v n : Int) (K : AV → Prop) : Prop :=
 ((!!decide ((if okF L C T R F W U = true then (0 : Int) else (2 : Int)) = (0 : Int))) = true →
 (!!decide ((if okF L C T R F W U = true then (0 : Int) else (2 : Int)) = (0 : Int))) = true ∧
 ((!!decide ((if okF L C T R F W U = true then (0 : Int) else (2 : Int)) = (0 : Int))) = true ∧
 ((!decide ((if okF L C T R F W U = true then (0 : Int) else (2 : Int)) = (0 : Int))) = false ∧
 (((!decide (W = (0 : Int))) = true →
 (!decide (W = (0 : Int))) = true ∧
 ((!decide (W = (0 : Int))) = true ∧
 ((decide (W = (0 : Int))) = false ∧
 (((!decide (R = (0 : Int))) = true →
 (!decide (R = (0 : Int))) = true ∧
 ((!decide (R = (0 : Int))) = true ∧
 ((decide (R = (0 : Int))) = false ∧
 (((decide (k = (6 : Int))) = true →
 K (AV.int IntKind.i64 (0 : Int))) ∧
 ((decide (k = (6 : Int))) = false →
 ((!decide (k = (4 : Int))) = true →
 (!decide (k = (4 : Int))) = true ∧
 ((!decide (k = (4 : Int))) = true ∧
 ((decide (k = (4 : Int))) = false ∧
 (((decide (k = (5 : Int))) = true →
 K (AV.int IntKind.i64 (24 : Int))) ∧
 ((decide (k = (5 : Int))) = false →
 K (AV.int IntKind.i64 (6 : Int))))))) ∧
 ((!decide (k = (4 : Int))) = false →
 (!decide (k = (4 : Int))) = false ∧
 ((!decide (k = (4 : Int))) = false ∧
 ((decide (k = (4 : Int))) = true ∧
 (K (AV.int IntKind.i64 (24 : Int))))))))))) ∧
 ((!decide (R = (0 : Int))) = false →
 (!decide (R = (0 : Int))) = false ∧
 ((!decide (R = (0 : Int))) = false ∧
 ((decide (R = (0 : Int))) = true ∧
 (K (AV.int IntKind.i64 (0 : Int)))))))))) ∧
 ((!decide (W = (0 : Int))) = false →
 (!decide (W = (0 : Int))) = false ∧
 ((!decide (W = (0 : Int))) = false ∧
 ((decide (W = (0 : Int))) = true ∧
 (K (AV.int IntKind.i64 (0 : Int)))))))))) ∧
 ((!!decide ((if okF L C T R F W U = true then (0 : Int) else (2 : Int)) = (0 : Int))) = false →
 (!!decide ((if okF L C T R F W U = true then (0 : Int) else (2 : Int)) = (0 : Int))) = false ∧
 ((!!decide ((if okF L C T R F W U = true then (0 : Int) else (2 : Int)) = (0 : Int))) = false ∧
 ((!decide ((if okF L C T R F W U = true then (0 : Int) else (2 : Int)) = (0 : Int))) = true ∧
 (K (AV.int IntKind.i64 (0 : Int))))))
def most_scr : Plan := .b (.t (.t (.f (.b (.t (.t (.f (.b (.t (.t (.f (.b (.z) (.b (.t (.t (.f (.b (.z) (.z))))) (.f (.f (.t (.z))))))))) (.f (.f (.t (.z)))))))) (.f (.f (.t (.z)))))))) (.f (.f (.t (.z))))
theorem most_vc (L C T R F W U k a v n : Int) (K : AV → Prop) : (funP XCo2 42 [.agg [.int .i64 L, .int .i64 C, .int .i64 T, .int .i64 R, .int .i64 F, .int .i64 W, .int .i64 U], .agg [.int .i64 k, .int .u16 a, .int .u8 v, .int .i64 n]] h0 most_scr (fun v _ _ => K v)) = most_VC L C T R F W U k a v n K := by kernel_rfl
end Go.Proofs.Ytnfelncgeihihaa.V
