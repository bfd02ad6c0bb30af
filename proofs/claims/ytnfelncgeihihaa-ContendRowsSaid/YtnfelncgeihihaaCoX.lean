/- Printed by vc.py: what must hold for functions' ways (CoX). -/
import Derived.Test.YtnfelncgeihihaaCoD
namespace Go.Proofs.Ytnfelncgeihihaa.V
open Go Go.Proofs
set_option maxRecDepth 100000
set_option linter.unusedVariables false
def ports_VC (L C T R F W U k a v n o t : Int) (K : AV → Prop) : Prop :=
 ((!!decide ((if okF L C T R F W U = true then (0 : Int) else (2 : Int)) = (0 : Int))) = true →
 (!!decide ((if okF L C T R F W U = true then (0 : Int) else (2 : Int)) = (0 : Int))) = true ∧
 ((!!decide ((if okF L C T R F W U = true then (0 : Int) else (2 : Int)) = (0 : Int))) = true ∧
 ((!decide ((if okF L C T R F W U = true then (0 : Int) else (2 : Int)) = (0 : Int))) = false ∧
 (((!!decide (stepE k a v n = (0 : Int))) = true →
 (!!decide (stepE k a v n = (0 : Int))) = true ∧
 ((!decide (stepE k a v n = (0 : Int))) = false ∧
 (((!decide (t < (0 : Int))) = true →
 (!decide (t < (0 : Int))) = true ∧
 ((decide (t < (0 : Int))) = false ∧
 (((decide (t > (549755813888 : Int))) = true →
 K (AV.bool true)) ∧
 ((decide (t > (549755813888 : Int))) = false →
 ((!!decide (reqErr L C T R F W U k a v n t = (0 : Int))) = true →
 (!!decide (reqErr L C T R F W U k a v n t = (0 : Int))) = true ∧
 ((!decide (reqErr L C T R F W U k a v n t = (0 : Int))) = false ∧
 ((!!decide (reqErr L C T R F W U k a v n t = (0 : Int))) = true ∧
 ((!!decide (reqErr L C T R F W U k a v n t = (0 : Int))) = true ∧
 ((!!decide (reqErr L C T R F W U k a v n t = (0 : Int))) = true ∧
 ((!decide (reqErr L C T R F W U k a v n t = (0 : Int))) = false ∧
 (((!decide (reqEnd L C T R F W U k a v n true t < reqEnd L C T R F W U k a v n false t)) = true →
 (!decide (reqEnd L C T R F W U k a v n true t < reqEnd L C T R F W U k a v n false t)) = true ∧
 ((!decide (reqEnd L C T R F W U k a v n true t < reqEnd L C T R F W U k a v n false t)) = true ∧
 ((!decide (reqEnd L C T R F W U k a v n true t < reqEnd L C T R F W U k a v n false t)) = true ∧
 (((decide (k = (6 : Int))) = true →
 (decide (k = (6 : Int))) = true ∧
 ((decide (k = (6 : Int))) = true ∧
 ((!decide (reqEnd L C T R F W U k a v n true t < reqEnd L C T R F W U k a v n false t)) = true ∧
 ((decide (k = (6 : Int))) = true ∧
 ((decide (reqEnd L C T R F W U k a v n true t < reqEnd L C T R F W U k a v n false t)) = false ∧
 (((!decide (reqEnd L C T R F W U k a v n false t = reqEnd L C T R F W U k a v n true t)) = true →
 K (AV.bool false)) ∧
 ((!decide (reqEnd L C T R F W U k a v n false t = reqEnd L C T R F W U k a v n true t)) = false →
 ((!decide (k = (4 : Int))) = true →
 (!decide (k = (4 : Int))) = true ∧
 ((!decide (k = (4 : Int))) = true ∧
 ((!decide (k = (4 : Int))) = true ∧
 (((!decide (k = (5 : Int))) = true →
 (!decide (k = (6 : Int))) = false ∧
 ((!decide (k = (6 : Int))) = false ∧
 ((!decide (k = (6 : Int))) = false ∧
 ((!decide (k = (6 : Int))) = false ∧
 ((!decide (k = (6 : Int))) = false ∧
 ((!decide (k = (6 : Int))) = false ∧
 ((decide (k = (6 : Int))) = true ∧
 (K (AV.bool true))))))))) ∧
 ((!decide (k = (5 : Int))) = false →
 ((decide
 (reqErr L C T R F W U k
 (bits BinOp.or IntKind.u16 (bits BinOp.andNot IntKind.u16 o (1 : Int)) (bits BinOp.and IntKind.u16 a (1 : Int))) v
 n t =
 (0 : Int))) = true →
 (decide
 (reqErr L C T R F W U k
 (bits BinOp.or IntKind.u16 (bits BinOp.andNot IntKind.u16 o (1 : Int)) (bits BinOp.and IntKind.u16 a (1 : Int))) v
 n t =
 (0 : Int))) = true ∧
 ((decide
 (reqErr L C T R F W U k
 (bits BinOp.or IntKind.u16 (bits BinOp.andNot IntKind.u16 o (1 : Int)) (bits BinOp.and IntKind.u16 a (1 : Int))) v
 n t =
 (0 : Int))) = true ∧
 ((decide
 (reqErr L C T R F W U k
 (bits BinOp.or IntKind.u16 (bits BinOp.andNot IntKind.u16 o (1 : Int)) (bits BinOp.and IntKind.u16 a (1 : Int))) v
 n t =
 (0 : Int))) = true ∧
 ((decide
 (reqErr L C T R F W U k
 (bits BinOp.or IntKind.u16 (bits BinOp.andNot IntKind.u16 o (1 : Int)) (bits BinOp.and IntKind.u16 a (1 : Int))) v
 n t =
 (0 : Int))) = true ∧
 ((decide
 (reqErr L C T R F W U k
 (bits BinOp.or IntKind.u16 (bits BinOp.andNot IntKind.u16 o (1 : Int)) (bits BinOp.and IntKind.u16 a (1 : Int))) v
 n t =
 (0 : Int))) = true ∧
 ((decide
 (reqErr L C T R F W U k
 (bits BinOp.or IntKind.u16 (bits BinOp.andNot IntKind.u16 o (1 : Int)) (bits BinOp.and IntKind.u16 a (1 : Int))) v
 n t =
 (0 : Int))) = true ∧
 (((decide
 (reqEnd L C T R F W U k
 (bits BinOp.or IntKind.u16 (bits BinOp.andNot IntKind.u16 o (1 : Int)) (bits BinOp.and IntKind.u16 a (1 : Int))) v
 n false t =
 reqEnd L C T R F W U k a v n false t)) = true →
 (decide
 (reqEnd L C T R F W U k
 (bits BinOp.or IntKind.u16 (bits BinOp.andNot IntKind.u16 o (1 : Int)) (bits BinOp.and IntKind.u16 a (1 : Int))) v
 n false t =
 reqEnd L C T R F W U k a v n false t)) = true ∧
 ((decide
 (reqEnd L C T R F W U k
 (bits BinOp.or IntKind.u16 (bits BinOp.andNot IntKind.u16 o (1 : Int)) (bits BinOp.and IntKind.u16 a (1 : Int))) v
 n false t =
 reqEnd L C T R F W U k a v n false t)) = true ∧
 ((decide
 (reqEnd L C T R F W U k
 (bits BinOp.or IntKind.u16 (bits BinOp.andNot IntKind.u16 o (1 : Int)) (bits BinOp.and IntKind.u16 a (1 : Int))) v
 n false t =
 reqEnd L C T R F W U k a v n false t)) = true ∧
 (((decide
 (reqEnd L C T R F W U k
 (bits BinOp.or IntKind.u16 (bits BinOp.andNot IntKind.u16 o (1 : Int)) (bits BinOp.and IntKind.u16 a (1 : Int))) v
 n true t =
 reqEnd L C T R F W U k a v n true t)) = true →
 (decide
 (reqEnd L C T R F W U k
 (bits BinOp.or IntKind.u16 (bits BinOp.andNot IntKind.u16 o (1 : Int)) (bits BinOp.and IntKind.u16 a (1 : Int))) v
 n true t =
 reqEnd L C T R F W U k a v n true t)) = true ∧
 ((decide
 (reqEnd L C T R F W U k
 (bits BinOp.or IntKind.u16 (bits BinOp.andNot IntKind.u16 o (1 : Int)) (bits BinOp.and IntKind.u16 a (1 : Int))) v
 n true t =
 reqEnd L C T R F W U k a v n true t)) = true ∧
 ((decide
 (reqEnd L C T R F W U k
 (bits BinOp.or IntKind.u16 (bits BinOp.andNot IntKind.u16 o (1 : Int)) (bits BinOp.and IntKind.u16 a (1 : Int))) v
 n true t =
 reqEnd L C T R F W U k a v n true t)) = true ∧
 ((decide
 (reqEnd L C T R F W U k
 (bits BinOp.or IntKind.u16 (bits BinOp.andNot IntKind.u16 o (1 : Int)) (bits BinOp.and IntKind.u16 a (1 : Int))) v
 n true t =
 reqEnd L C T R F W U k a v n true t)) = true ∧
 (((!decide (Int.tmod a (2 : Int) = (0 : Int))) = true →
 (!decide (Int.tmod a (2 : Int) = (0 : Int))) = true ∧
 ((!decide (Int.tmod a (2 : Int) = (0 : Int))) = true ∧
 ((!decide (Int.tmod a (2 : Int) = (0 : Int))) = true ∧
 ((decide
 (reqEnd L C T R F W U k
 (bits BinOp.or IntKind.u16 (bits BinOp.andNot IntKind.u16 o (1 : Int)) (bits BinOp.and IntKind.u16 a (1 : Int))) v
 n true t =
 reqEnd L C T R F W U k a v n true t)) = true ∧
 ((decide (Int.tmod a (2 : Int) = (0 : Int))) = false ∧
 ((decide
 (reqEnd L C T R F W U k
 (bits BinOp.or IntKind.u16 (bits BinOp.andNot IntKind.u16 o (1 : Int)) (bits BinOp.and IntKind.u16 a (1 : Int))) v
 n true t =
 reqEnd L C T R F W U k a v n true t)) = true ∧
 (K (AV.bool (decide (reqEnd L C T R F W U k a v n false t = IntKind.wrap IntKind.i64 (t + (4 : Int)))))))))))) ∧
 ((!decide (Int.tmod a (2 : Int) = (0 : Int))) = false →
 (!decide (Int.tmod a (2 : Int) = (0 : Int))) = false ∧
 ((!decide (Int.tmod a (2 : Int) = (0 : Int))) = false ∧
 ((!decide (Int.tmod a (2 : Int) = (0 : Int))) = false ∧
 ((decide
 (reqEnd L C T R F W U k
 (bits BinOp.or IntKind.u16 (bits BinOp.andNot IntKind.u16 o (1 : Int)) (bits BinOp.and IntKind.u16 a (1 : Int))) v
 n true t =
 reqEnd L C T R F W U k a v n true t)) = true ∧
 ((decide (Int.tmod a (2 : Int) = (0 : Int))) = true ∧
 ((decide
 (reqEnd L C T R F W U k
 (bits BinOp.or IntKind.u16 (bits BinOp.andNot IntKind.u16 o (1 : Int)) (bits BinOp.and IntKind.u16 a (1 : Int))) v
 n true t =
 reqEnd L C T R F W U k a v n true t)) = true ∧
 (K (AV.bool true))))))))))))) ∧
 ((decide
 (reqEnd L C T R F W U k
 (bits BinOp.or IntKind.u16 (bits BinOp.andNot IntKind.u16 o (1 : Int)) (bits BinOp.and IntKind.u16 a (1 : Int))) v
 n true t =
 reqEnd L C T R F W U k a v n true t)) = false →
 (decide
 (reqEnd L C T R F W U k
 (bits BinOp.or IntKind.u16 (bits BinOp.andNot IntKind.u16 o (1 : Int)) (bits BinOp.and IntKind.u16 a (1 : Int))) v
 n true t =
 reqEnd L C T R F W U k a v n true t)) = false ∧
 ((decide
 (reqEnd L C T R F W U k
 (bits BinOp.or IntKind.u16 (bits BinOp.andNot IntKind.u16 o (1 : Int)) (bits BinOp.and IntKind.u16 a (1 : Int))) v
 n true t =
 reqEnd L C T R F W U k a v n true t)) = false ∧
 ((decide
 (reqEnd L C T R F W U k
 (bits BinOp.or IntKind.u16 (bits BinOp.andNot IntKind.u16 o (1 : Int)) (bits BinOp.and IntKind.u16 a (1 : Int))) v
 n true t =
 reqEnd L C T R F W U k a v n true t)) = false ∧
 ((decide
 (reqEnd L C T R F W U k
 (bits BinOp.or IntKind.u16 (bits BinOp.andNot IntKind.u16 o (1 : Int)) (bits BinOp.and IntKind.u16 a (1 : Int))) v
 n true t =
 reqEnd L C T R F W U k a v n true t)) = false ∧
 ((decide
 (reqEnd L C T R F W U k
 (bits BinOp.or IntKind.u16 (bits BinOp.andNot IntKind.u16 o (1 : Int)) (bits BinOp.and IntKind.u16 a (1 : Int))) v
 n true t =
 reqEnd L C T R F W U k a v n true t)) = false ∧
 ((decide
 (reqEnd L C T R F W U k
 (bits BinOp.or IntKind.u16 (bits BinOp.andNot IntKind.u16 o (1 : Int)) (bits BinOp.and IntKind.u16 a (1 : Int))) v
 n true t =
 reqEnd L C T R F W U k a v n true t)) = false ∧
 (K (AV.bool false)))))))))))) ∧
 ((decide
 (reqEnd L C T R F W U k
 (bits BinOp.or IntKind.u16 (bits BinOp.andNot IntKind.u16 o (1 : Int)) (bits BinOp.and IntKind.u16 a (1 : Int))) v
 n false t =
 reqEnd L C T R F W U k a v n false t)) = false →
 (decide
 (reqEnd L C T R F W U k
 (bits BinOp.or IntKind.u16 (bits BinOp.andNot IntKind.u16 o (1 : Int)) (bits BinOp.and IntKind.u16 a (1 : Int))) v
 n false t =
 reqEnd L C T R F W U k a v n false t)) = false ∧
 ((decide
 (reqEnd L C T R F W U k
 (bits BinOp.or IntKind.u16 (bits BinOp.andNot IntKind.u16 o (1 : Int)) (bits BinOp.and IntKind.u16 a (1 : Int))) v
 n false t =
 reqEnd L C T R F W U k a v n false t)) = false ∧
 ((decide
 (reqEnd L C T R F W U k
 (bits BinOp.or IntKind.u16 (bits BinOp.andNot IntKind.u16 o (1 : Int)) (bits BinOp.and IntKind.u16 a (1 : Int))) v
 n false t =
 reqEnd L C T R F W U k a v n false t)) = false ∧
 (K (AV.bool false)))))))))))) ∧
 ((decide
 (reqErr L C T R F W U k
 (bits BinOp.or IntKind.u16 (bits BinOp.andNot IntKind.u16 o (1 : Int)) (bits BinOp.and IntKind.u16 a (1 : Int))) v
 n t =
 (0 : Int))) = false →
 (decide
 (reqErr L C T R F W U k
 (bits BinOp.or IntKind.u16 (bits BinOp.andNot IntKind.u16 o (1 : Int)) (bits BinOp.and IntKind.u16 a (1 : Int))) v
 n t =
 (0 : Int))) = false ∧
 ((decide
 (reqErr L C T R F W U k
 (bits BinOp.or IntKind.u16 (bits BinOp.andNot IntKind.u16 o (1 : Int)) (bits BinOp.and IntKind.u16 a (1 : Int))) v
 n t =
 (0 : Int))) = false ∧
 (K (AV.bool false))))))))) ∧
 ((!decide (k = (4 : Int))) = false →
 (!decide (k = (4 : Int))) = false ∧
 ((!decide (k = (4 : Int))) = false ∧
 ((!decide (k = (4 : Int))) = false ∧
 (((decide
 (reqErr L C T R F W U k
 (bits BinOp.or IntKind.u16 (bits BinOp.andNot IntKind.u16 o (1 : Int)) (bits BinOp.and IntKind.u16 a (1 : Int))) v
 n t =
 (0 : Int))) = true →
 (decide
 (reqErr L C T R F W U k
 (bits BinOp.or IntKind.u16 (bits BinOp.andNot IntKind.u16 o (1 : Int)) (bits BinOp.and IntKind.u16 a (1 : Int))) v
 n t =
 (0 : Int))) = true ∧
 ((decide
 (reqErr L C T R F W U k
 (bits BinOp.or IntKind.u16 (bits BinOp.andNot IntKind.u16 o (1 : Int)) (bits BinOp.and IntKind.u16 a (1 : Int))) v
 n t =
 (0 : Int))) = true ∧
 ((decide
 (reqErr L C T R F W U k
 (bits BinOp.or IntKind.u16 (bits BinOp.andNot IntKind.u16 o (1 : Int)) (bits BinOp.and IntKind.u16 a (1 : Int))) v
 n t =
 (0 : Int))) = true ∧
 ((decide
 (reqErr L C T R F W U k
 (bits BinOp.or IntKind.u16 (bits BinOp.andNot IntKind.u16 o (1 : Int)) (bits BinOp.and IntKind.u16 a (1 : Int))) v
 n t =
 (0 : Int))) = true ∧
 ((decide
 (reqErr L C T R F W U k
 (bits BinOp.or IntKind.u16 (bits BinOp.andNot IntKind.u16 o (1 : Int)) (bits BinOp.and IntKind.u16 a (1 : Int))) v
 n t =
 (0 : Int))) = true ∧
 ((decide
 (reqErr L C T R F W U k
 (bits BinOp.or IntKind.u16 (bits BinOp.andNot IntKind.u16 o (1 : Int)) (bits BinOp.and IntKind.u16 a (1 : Int))) v
 n t =
 (0 : Int))) = true ∧
 (((decide
 (reqEnd L C T R F W U k
 (bits BinOp.or IntKind.u16 (bits BinOp.andNot IntKind.u16 o (1 : Int)) (bits BinOp.and IntKind.u16 a (1 : Int))) v
 n false t =
 reqEnd L C T R F W U k a v n false t)) = true →
 (decide
 (reqEnd L C T R F W U k
 (bits BinOp.or IntKind.u16 (bits BinOp.andNot IntKind.u16 o (1 : Int)) (bits BinOp.and IntKind.u16 a (1 : Int))) v
 n false t =
 reqEnd L C T R F W U k a v n false t)) = true ∧
 ((decide
 (reqEnd L C T R F W U k
 (bits BinOp.or IntKind.u16 (bits BinOp.andNot IntKind.u16 o (1 : Int)) (bits BinOp.and IntKind.u16 a (1 : Int))) v
 n false t =
 reqEnd L C T R F W U k a v n false t)) = true ∧
 ((decide
 (reqEnd L C T R F W U k
 (bits BinOp.or IntKind.u16 (bits BinOp.andNot IntKind.u16 o (1 : Int)) (bits BinOp.and IntKind.u16 a (1 : Int))) v
 n false t =
 reqEnd L C T R F W U k a v n false t)) = true ∧
 (((decide
 (reqEnd L C T R F W U k
 (bits BinOp.or IntKind.u16 (bits BinOp.andNot IntKind.u16 o (1 : Int)) (bits BinOp.and IntKind.u16 a (1 : Int))) v
 n true t =
 reqEnd L C T R F W U k a v n true t)) = true →
 (decide
 (reqEnd L C T R F W U k
 (bits BinOp.or IntKind.u16 (bits BinOp.andNot IntKind.u16 o (1 : Int)) (bits BinOp.and IntKind.u16 a (1 : Int))) v
 n true t =
 reqEnd L C T R F W U k a v n true t)) = true ∧
 ((decide
 (reqEnd L C T R F W U k
 (bits BinOp.or IntKind.u16 (bits BinOp.andNot IntKind.u16 o (1 : Int)) (bits BinOp.and IntKind.u16 a (1 : Int))) v
 n true t =
 reqEnd L C T R F W U k a v n true t)) = true ∧
 ((decide
 (reqEnd L C T R F W U k
 (bits BinOp.or IntKind.u16 (bits BinOp.andNot IntKind.u16 o (1 : Int)) (bits BinOp.and IntKind.u16 a (1 : Int))) v
 n true t =
 reqEnd L C T R F W U k a v n true t)) = true ∧
 ((decide
 (reqEnd L C T R F W U k
 (bits BinOp.or IntKind.u16 (bits BinOp.andNot IntKind.u16 o (1 : Int)) (bits BinOp.and IntKind.u16 a (1 : Int))) v
 n true t =
 reqEnd L C T R F W U k a v n true t)) = true ∧
 (((!decide (Int.tmod a (2 : Int) = (0 : Int))) = true →
 (!decide (Int.tmod a (2 : Int) = (0 : Int))) = true ∧
 ((!decide (Int.tmod a (2 : Int) = (0 : Int))) = true ∧
 ((!decide (Int.tmod a (2 : Int) = (0 : Int))) = true ∧
 ((decide
 (reqEnd L C T R F W U k
 (bits BinOp.or IntKind.u16 (bits BinOp.andNot IntKind.u16 o (1 : Int)) (bits BinOp.and IntKind.u16 a (1 : Int))) v
 n true t =
 reqEnd L C T R F W U k a v n true t)) = true ∧
 ((decide (Int.tmod a (2 : Int) = (0 : Int))) = false ∧
 ((decide
 (reqEnd L C T R F W U k
 (bits BinOp.or IntKind.u16 (bits BinOp.andNot IntKind.u16 o (1 : Int)) (bits BinOp.and IntKind.u16 a (1 : Int))) v
 n true t =
 reqEnd L C T R F W U k a v n true t)) = true ∧
 (K (AV.bool (decide (reqEnd L C T R F W U k a v n false t = IntKind.wrap IntKind.i64 (t + (4 : Int)))))))))))) ∧
 ((!decide (Int.tmod a (2 : Int) = (0 : Int))) = false →
 (!decide (Int.tmod a (2 : Int) = (0 : Int))) = false ∧
 ((!decide (Int.tmod a (2 : Int) = (0 : Int))) = false ∧
 ((!decide (Int.tmod a (2 : Int) = (0 : Int))) = false ∧
 ((decide
 (reqEnd L C T R F W U k
 (bits BinOp.or IntKind.u16 (bits BinOp.andNot IntKind.u16 o (1 : Int)) (bits BinOp.and IntKind.u16 a (1 : Int))) v
 n true t =
 reqEnd L C T R F W U k a v n true t)) = true ∧
 ((decide (Int.tmod a (2 : Int) = (0 : Int))) = true ∧
 ((decide
 (reqEnd L C T R F W U k
 (bits BinOp.or IntKind.u16 (bits BinOp.andNot IntKind.u16 o (1 : Int)) (bits BinOp.and IntKind.u16 a (1 : Int))) v
 n true t =
 reqEnd L C T R F W U k a v n true t)) = true ∧
 (K (AV.bool true))))))))))))) ∧
 ((decide
 (reqEnd L C T R F W U k
 (bits BinOp.or IntKind.u16 (bits BinOp.andNot IntKind.u16 o (1 : Int)) (bits BinOp.and IntKind.u16 a (1 : Int))) v
 n true t =
 reqEnd L C T R F W U k a v n true t)) = false →
 (decide
 (reqEnd L C T R F W U k
 (bits BinOp.or IntKind.u16 (bits BinOp.andNot IntKind.u16 o (1 : Int)) (bits BinOp.and IntKind.u16 a (1 : Int))) v
 n true t =
 reqEnd L C T R F W U k a v n true t)) = false ∧
 ((decide
 (reqEnd L C T R F W U k
 (bits BinOp.or IntKind.u16 (bits BinOp.andNot IntKind.u16 o (1 : Int)) (bits BinOp.and IntKind.u16 a (1 : Int))) v
 n true t =
 reqEnd L C T R F W U k a v n true t)) = false ∧
 ((decide
 (reqEnd L C T R F W U k
 (bits BinOp.or IntKind.u16 (bits BinOp.andNot IntKind.u16 o (1 : Int)) (bits BinOp.and IntKind.u16 a (1 : Int))) v
 n true t =
 reqEnd L C T R F W U k a v n true t)) = false ∧
 ((decide
 (reqEnd L C T R F W U k
 (bits BinOp.or IntKind.u16 (bits BinOp.andNot IntKind.u16 o (1 : Int)) (bits BinOp.and IntKind.u16 a (1 : Int))) v
 n true t =
 reqEnd L C T R F W U k a v n true t)) = false ∧
 ((decide
 (reqEnd L C T R F W U k
 (bits BinOp.or IntKind.u16 (bits BinOp.andNot IntKind.u16 o (1 : Int)) (bits BinOp.and IntKind.u16 a (1 : Int))) v
 n true t =
 reqEnd L C T R F W U k a v n true t)) = false ∧
 ((decide
 (reqEnd L C T R F W U k
 (bits BinOp.or IntKind.u16 (bits BinOp.andNot IntKind.u16 o (1 : Int)) (bits BinOp.and IntKind.u16 a (1 : Int))) v
 n true t =
 reqEnd L C T R F W U k a v n true t)) = false ∧
 (K (AV.bool false)))))))))))) ∧
 ((decide
 (reqEnd L C T R F W U k
 (bits BinOp.or IntKind.u16 (bits BinOp.andNot IntKind.u16 o (1 : Int)) (bits BinOp.and IntKind.u16 a (1 : Int))) v
 n false t =
 reqEnd L C T R F W U k a v n false t)) = false →
 (decide
 (reqEnd L C T R F W U k
 (bits BinOp.or IntKind.u16 (bits BinOp.andNot IntKind.u16 o (1 : Int)) (bits BinOp.and IntKind.u16 a (1 : Int))) v
 n false t =
 reqEnd L C T R F W U k a v n false t)) = false ∧
 ((decide
 (reqEnd L C T R F W U k
 (bits BinOp.or IntKind.u16 (bits BinOp.andNot IntKind.u16 o (1 : Int)) (bits BinOp.and IntKind.u16 a (1 : Int))) v
 n false t =
 reqEnd L C T R F W U k a v n false t)) = false ∧
 ((decide
 (reqEnd L C T R F W U k
 (bits BinOp.or IntKind.u16 (bits BinOp.andNot IntKind.u16 o (1 : Int)) (bits BinOp.and IntKind.u16 a (1 : Int))) v
 n false t =
 reqEnd L C T R F W U k a v n false t)) = false ∧
 (K (AV.bool false)))))))))))) ∧
 ((decide
 (reqErr L C T R F W U k
 (bits BinOp.or IntKind.u16 (bits BinOp.andNot IntKind.u16 o (1 : Int)) (bits BinOp.and IntKind.u16 a (1 : Int))) v
 n t =
 (0 : Int))) = false →
 (decide
 (reqErr L C T R F W U k
 (bits BinOp.or IntKind.u16 (bits BinOp.andNot IntKind.u16 o (1 : Int)) (bits BinOp.and IntKind.u16 a (1 : Int))) v
 n t =
 (0 : Int))) = false ∧
 ((decide
 (reqErr L C T R F W U k
 (bits BinOp.or IntKind.u16 (bits BinOp.andNot IntKind.u16 o (1 : Int)) (bits BinOp.and IntKind.u16 a (1 : Int))) v
 n t =
 (0 : Int))) = false ∧
 (K (AV.bool false))))))))))))))) ∧
 ((decide (k = (6 : Int))) = false →
 (decide (k = (6 : Int))) = false ∧
 ((decide (k = (6 : Int))) = false ∧
 ((!decide (reqEnd L C T R F W U k a v n true t < reqEnd L C T R F W U k a v n false t)) = true ∧
 ((decide (k = (6 : Int))) = false ∧
 ((decide (reqEnd L C T R F W U k a v n true t < reqEnd L C T R F W U k a v n false t)) = false ∧
 (((!decide (k = (4 : Int))) = true →
 (!decide (k = (4 : Int))) = true ∧
 ((!decide (k = (4 : Int))) = true ∧
 ((!decide (k = (4 : Int))) = true ∧
 (((!decide (k = (5 : Int))) = true →
 (!decide (k = (6 : Int))) = true ∧
 ((!decide (k = (6 : Int))) = true ∧
 ((!decide (k = (6 : Int))) = true ∧
 ((!decide (k = (6 : Int))) = true ∧
 ((!decide (k = (6 : Int))) = true ∧
 ((!decide (k = (6 : Int))) = true ∧
 ((decide (k = (6 : Int))) = false ∧
 (K (AV.bool (decide (reqEnd L C T R F W U k a v n false t = IntKind.wrap IntKind.i64 (t + n)))))))))))) ∧
 ((!decide (k = (5 : Int))) = false →
 ((decide
 (reqErr L C T R F W U k
 (bits BinOp.or IntKind.u16 (bits BinOp.andNot IntKind.u16 o (1 : Int)) (bits BinOp.and IntKind.u16 a (1 : Int))) v
 n t =
 (0 : Int))) = true →
 (decide
 (reqErr L C T R F W U k
 (bits BinOp.or IntKind.u16 (bits BinOp.andNot IntKind.u16 o (1 : Int)) (bits BinOp.and IntKind.u16 a (1 : Int))) v
 n t =
 (0 : Int))) = true ∧
 ((decide
 (reqErr L C T R F W U k
 (bits BinOp.or IntKind.u16 (bits BinOp.andNot IntKind.u16 o (1 : Int)) (bits BinOp.and IntKind.u16 a (1 : Int))) v
 n t =
 (0 : Int))) = true ∧
 ((decide
 (reqErr L C T R F W U k
 (bits BinOp.or IntKind.u16 (bits BinOp.andNot IntKind.u16 o (1 : Int)) (bits BinOp.and IntKind.u16 a (1 : Int))) v
 n t =
 (0 : Int))) = true ∧
 ((decide
 (reqErr L C T R F W U k
 (bits BinOp.or IntKind.u16 (bits BinOp.andNot IntKind.u16 o (1 : Int)) (bits BinOp.and IntKind.u16 a (1 : Int))) v
 n t =
 (0 : Int))) = true ∧
 ((decide
 (reqErr L C T R F W U k
 (bits BinOp.or IntKind.u16 (bits BinOp.andNot IntKind.u16 o (1 : Int)) (bits BinOp.and IntKind.u16 a (1 : Int))) v
 n t =
 (0 : Int))) = true ∧
 ((decide
 (reqErr L C T R F W U k
 (bits BinOp.or IntKind.u16 (bits BinOp.andNot IntKind.u16 o (1 : Int)) (bits BinOp.and IntKind.u16 a (1 : Int))) v
 n t =
 (0 : Int))) = true ∧
 (((decide
 (reqEnd L C T R F W U k
 (bits BinOp.or IntKind.u16 (bits BinOp.andNot IntKind.u16 o (1 : Int)) (bits BinOp.and IntKind.u16 a (1 : Int))) v
 n false t =
 reqEnd L C T R F W U k a v n false t)) = true →
 (decide
 (reqEnd L C T R F W U k
 (bits BinOp.or IntKind.u16 (bits BinOp.andNot IntKind.u16 o (1 : Int)) (bits BinOp.and IntKind.u16 a (1 : Int))) v
 n false t =
 reqEnd L C T R F W U k a v n false t)) = true ∧
 ((decide
 (reqEnd L C T R F W U k
 (bits BinOp.or IntKind.u16 (bits BinOp.andNot IntKind.u16 o (1 : Int)) (bits BinOp.and IntKind.u16 a (1 : Int))) v
 n false t =
 reqEnd L C T R F W U k a v n false t)) = true ∧
 ((decide
 (reqEnd L C T R F W U k
 (bits BinOp.or IntKind.u16 (bits BinOp.andNot IntKind.u16 o (1 : Int)) (bits BinOp.and IntKind.u16 a (1 : Int))) v
 n false t =
 reqEnd L C T R F W U k a v n false t)) = true ∧
 (((decide
 (reqEnd L C T R F W U k
 (bits BinOp.or IntKind.u16 (bits BinOp.andNot IntKind.u16 o (1 : Int)) (bits BinOp.and IntKind.u16 a (1 : Int))) v
 n true t =
 reqEnd L C T R F W U k a v n true t)) = true →
 (decide
 (reqEnd L C T R F W U k
 (bits BinOp.or IntKind.u16 (bits BinOp.andNot IntKind.u16 o (1 : Int)) (bits BinOp.and IntKind.u16 a (1 : Int))) v
 n true t =
 reqEnd L C T R F W U k a v n true t)) = true ∧
 ((decide
 (reqEnd L C T R F W U k
 (bits BinOp.or IntKind.u16 (bits BinOp.andNot IntKind.u16 o (1 : Int)) (bits BinOp.and IntKind.u16 a (1 : Int))) v
 n true t =
 reqEnd L C T R F W U k a v n true t)) = true ∧
 ((decide
 (reqEnd L C T R F W U k
 (bits BinOp.or IntKind.u16 (bits BinOp.andNot IntKind.u16 o (1 : Int)) (bits BinOp.and IntKind.u16 a (1 : Int))) v
 n true t =
 reqEnd L C T R F W U k a v n true t)) = true ∧
 ((decide
 (reqEnd L C T R F W U k
 (bits BinOp.or IntKind.u16 (bits BinOp.andNot IntKind.u16 o (1 : Int)) (bits BinOp.and IntKind.u16 a (1 : Int))) v
 n true t =
 reqEnd L C T R F W U k a v n true t)) = true ∧
 (((!decide (Int.tmod a (2 : Int) = (0 : Int))) = true →
 (!decide (Int.tmod a (2 : Int) = (0 : Int))) = true ∧
 ((!decide (Int.tmod a (2 : Int) = (0 : Int))) = true ∧
 ((!decide (Int.tmod a (2 : Int) = (0 : Int))) = true ∧
 ((decide
 (reqEnd L C T R F W U k
 (bits BinOp.or IntKind.u16 (bits BinOp.andNot IntKind.u16 o (1 : Int)) (bits BinOp.and IntKind.u16 a (1 : Int))) v
 n true t =
 reqEnd L C T R F W U k a v n true t)) = true ∧
 ((decide (Int.tmod a (2 : Int) = (0 : Int))) = false ∧
 ((decide
 (reqEnd L C T R F W U k
 (bits BinOp.or IntKind.u16 (bits BinOp.andNot IntKind.u16 o (1 : Int)) (bits BinOp.and IntKind.u16 a (1 : Int))) v
 n true t =
 reqEnd L C T R F W U k a v n true t)) = true ∧
 (K (AV.bool (decide (reqEnd L C T R F W U k a v n false t = IntKind.wrap IntKind.i64 (t + (4 : Int)))))))))))) ∧
 ((!decide (Int.tmod a (2 : Int) = (0 : Int))) = false →
 (!decide (Int.tmod a (2 : Int) = (0 : Int))) = false ∧
 ((!decide (Int.tmod a (2 : Int) = (0 : Int))) = false ∧
 ((!decide (Int.tmod a (2 : Int) = (0 : Int))) = false ∧
 ((decide
 (reqEnd L C T R F W U k
 (bits BinOp.or IntKind.u16 (bits BinOp.andNot IntKind.u16 o (1 : Int)) (bits BinOp.and IntKind.u16 a (1 : Int))) v
 n true t =
 reqEnd L C T R F W U k a v n true t)) = true ∧
 ((decide (Int.tmod a (2 : Int) = (0 : Int))) = true ∧
 ((decide
 (reqEnd L C T R F W U k
 (bits BinOp.or IntKind.u16 (bits BinOp.andNot IntKind.u16 o (1 : Int)) (bits BinOp.and IntKind.u16 a (1 : Int))) v
 n true t =
 reqEnd L C T R F W U k a v n true t)) = true ∧
 (K (AV.bool true))))))))))))) ∧
 ((decide
 (reqEnd L C T R F W U k
 (bits BinOp.or IntKind.u16 (bits BinOp.andNot IntKind.u16 o (1 : Int)) (bits BinOp.and IntKind.u16 a (1 : Int))) v
 n true t =
 reqEnd L C T R F W U k a v n true t)) = false →
 (decide
 (reqEnd L C T R F W U k
 (bits BinOp.or IntKind.u16 (bits BinOp.andNot IntKind.u16 o (1 : Int)) (bits BinOp.and IntKind.u16 a (1 : Int))) v
 n true t =
 reqEnd L C T R F W U k a v n true t)) = false ∧
 ((decide
 (reqEnd L C T R F W U k
 (bits BinOp.or IntKind.u16 (bits BinOp.andNot IntKind.u16 o (1 : Int)) (bits BinOp.and IntKind.u16 a (1 : Int))) v
 n true t =
 reqEnd L C T R F W U k a v n true t)) = false ∧
 ((decide
 (reqEnd L C T R F W U k
 (bits BinOp.or IntKind.u16 (bits BinOp.andNot IntKind.u16 o (1 : Int)) (bits BinOp.and IntKind.u16 a (1 : Int))) v
 n true t =
 reqEnd L C T R F W U k a v n true t)) = false ∧
 ((decide
 (reqEnd L C T R F W U k
 (bits BinOp.or IntKind.u16 (bits BinOp.andNot IntKind.u16 o (1 : Int)) (bits BinOp.and IntKind.u16 a (1 : Int))) v
 n true t =
 reqEnd L C T R F W U k a v n true t)) = false ∧
 ((decide
 (reqEnd L C T R F W U k
 (bits BinOp.or IntKind.u16 (bits BinOp.andNot IntKind.u16 o (1 : Int)) (bits BinOp.and IntKind.u16 a (1 : Int))) v
 n true t =
 reqEnd L C T R F W U k a v n true t)) = false ∧
 ((decide
 (reqEnd L C T R F W U k
 (bits BinOp.or IntKind.u16 (bits BinOp.andNot IntKind.u16 o (1 : Int)) (bits BinOp.and IntKind.u16 a (1 : Int))) v
 n true t =
 reqEnd L C T R F W U k a v n true t)) = false ∧
 (K (AV.bool false)))))))))))) ∧
 ((decide
 (reqEnd L C T R F W U k
 (bits BinOp.or IntKind.u16 (bits BinOp.andNot IntKind.u16 o (1 : Int)) (bits BinOp.and IntKind.u16 a (1 : Int))) v
 n false t =
 reqEnd L C T R F W U k a v n false t)) = false →
 (decide
 (reqEnd L C T R F W U k
 (bits BinOp.or IntKind.u16 (bits BinOp.andNot IntKind.u16 o (1 : Int)) (bits BinOp.and IntKind.u16 a (1 : Int))) v
 n false t =
 reqEnd L C T R F W U k a v n false t)) = false ∧
 ((decide
 (reqEnd L C T R F W U k
 (bits BinOp.or IntKind.u16 (bits BinOp.andNot IntKind.u16 o (1 : Int)) (bits BinOp.and IntKind.u16 a (1 : Int))) v
 n false t =
 reqEnd L C T R F W U k a v n false t)) = false ∧
 ((decide
 (reqEnd L C T R F W U k
 (bits BinOp.or IntKind.u16 (bits BinOp.andNot IntKind.u16 o (1 : Int)) (bits BinOp.and IntKind.u16 a (1 : Int))) v
 n false t =
 reqEnd L C T R F W U k a v n false t)) = false ∧
 (K (AV.bool false)))))))))))) ∧
 ((decide
 (reqErr L C T R F W U k
 (bits BinOp.or IntKind.u16 (bits BinOp.andNot IntKind.u16 o (1 : Int)) (bits BinOp.and IntKind.u16 a (1 : Int))) v
 n t =
 (0 : Int))) = false →
 (decide
 (reqErr L C T R F W U k
 (bits BinOp.or IntKind.u16 (bits BinOp.andNot IntKind.u16 o (1 : Int)) (bits BinOp.and IntKind.u16 a (1 : Int))) v
 n t =
 (0 : Int))) = false ∧
 ((decide
 (reqErr L C T R F W U k
 (bits BinOp.or IntKind.u16 (bits BinOp.andNot IntKind.u16 o (1 : Int)) (bits BinOp.and IntKind.u16 a (1 : Int))) v
 n t =
 (0 : Int))) = false ∧
 (K (AV.bool false))))))))) ∧
 ((!decide (k = (4 : Int))) = false →
 (!decide (k = (4 : Int))) = false ∧
 ((!decide (k = (4 : Int))) = false ∧
 ((!decide (k = (4 : Int))) = false ∧
 (((decide
 (reqErr L C T R F W U k
 (bits BinOp.or IntKind.u16 (bits BinOp.andNot IntKind.u16 o (1 : Int)) (bits BinOp.and IntKind.u16 a (1 : Int))) v
 n t =
 (0 : Int))) = true →
 (decide
 (reqErr L C T R F W U k
 (bits BinOp.or IntKind.u16 (bits BinOp.andNot IntKind.u16 o (1 : Int)) (bits BinOp.and IntKind.u16 a (1 : Int))) v
 n t =
 (0 : Int))) = true ∧
 ((decide
 (reqErr L C T R F W U k
 (bits BinOp.or IntKind.u16 (bits BinOp.andNot IntKind.u16 o (1 : Int)) (bits BinOp.and IntKind.u16 a (1 : Int))) v
 n t =
 (0 : Int))) = true ∧
 ((decide
 (reqErr L C T R F W U k
 (bits BinOp.or IntKind.u16 (bits BinOp.andNot IntKind.u16 o (1 : Int)) (bits BinOp.and IntKind.u16 a (1 : Int))) v
 n t =
 (0 : Int))) = true ∧
 ((decide
 (reqErr L C T R F W U k
 (bits BinOp.or IntKind.u16 (bits BinOp.andNot IntKind.u16 o (1 : Int)) (bits BinOp.and IntKind.u16 a (1 : Int))) v
 n t =
 (0 : Int))) = true ∧
 ((decide
 (reqErr L C T R F W U k
 (bits BinOp.or IntKind.u16 (bits BinOp.andNot IntKind.u16 o (1 : Int)) (bits BinOp.and IntKind.u16 a (1 : Int))) v
 n t =
 (0 : Int))) = true ∧
 ((decide
 (reqErr L C T R F W U k
 (bits BinOp.or IntKind.u16 (bits BinOp.andNot IntKind.u16 o (1 : Int)) (bits BinOp.and IntKind.u16 a (1 : Int))) v
 n t =
 (0 : Int))) = true ∧
 (((decide
 (reqEnd L C T R F W U k
 (bits BinOp.or IntKind.u16 (bits BinOp.andNot IntKind.u16 o (1 : Int)) (bits BinOp.and IntKind.u16 a (1 : Int))) v
 n false t =
 reqEnd L C T R F W U k a v n false t)) = true →
 (decide
 (reqEnd L C T R F W U k
 (bits BinOp.or IntKind.u16 (bits BinOp.andNot IntKind.u16 o (1 : Int)) (bits BinOp.and IntKind.u16 a (1 : Int))) v
 n false t =
 reqEnd L C T R F W U k a v n false t)) = true ∧
 ((decide
 (reqEnd L C T R F W U k
 (bits BinOp.or IntKind.u16 (bits BinOp.andNot IntKind.u16 o (1 : Int)) (bits BinOp.and IntKind.u16 a (1 : Int))) v
 n false t =
 reqEnd L C T R F W U k a v n false t)) = true ∧
 ((decide
 (reqEnd L C T R F W U k
 (bits BinOp.or IntKind.u16 (bits BinOp.andNot IntKind.u16 o (1 : Int)) (bits BinOp.and IntKind.u16 a (1 : Int))) v
 n false t =
 reqEnd L C T R F W U k a v n false t)) = true ∧
 (((decide
 (reqEnd L C T R F W U k
 (bits BinOp.or IntKind.u16 (bits BinOp.andNot IntKind.u16 o (1 : Int)) (bits BinOp.and IntKind.u16 a (1 : Int))) v
 n true t =
 reqEnd L C T R F W U k a v n true t)) = true →
 (decide
 (reqEnd L C T R F W U k
 (bits BinOp.or IntKind.u16 (bits BinOp.andNot IntKind.u16 o (1 : Int)) (bits BinOp.and IntKind.u16 a (1 : Int))) v
 n true t =
 reqEnd L C T R F W U k a v n true t)) = true ∧
 ((decide
 (reqEnd L C T R F W U k
 (bits BinOp.or IntKind.u16 (bits BinOp.andNot IntKind.u16 o (1 : Int)) (bits BinOp.and IntKind.u16 a (1 : Int))) v
 n true t =
 reqEnd L C T R F W U k a v n true t)) = true ∧
 ((decide
 (reqEnd L C T R F W U k
 (bits BinOp.or IntKind.u16 (bits BinOp.andNot IntKind.u16 o (1 : Int)) (bits BinOp.and IntKind.u16 a (1 : Int))) v
 n true t =
 reqEnd L C T R F W U k a v n true t)) = true ∧
 ((decide
 (reqEnd L C T R F W U k
 (bits BinOp.or IntKind.u16 (bits BinOp.andNot IntKind.u16 o (1 : Int)) (bits BinOp.and IntKind.u16 a (1 : Int))) v
 n true t =
 reqEnd L C T R F W U k a v n true t)) = true ∧
 (((!decide (Int.tmod a (2 : Int) = (0 : Int))) = true →
 (!decide (Int.tmod a (2 : Int) = (0 : Int))) = true ∧
 ((!decide (Int.tmod a (2 : Int) = (0 : Int))) = true ∧
 ((!decide (Int.tmod a (2 : Int) = (0 : Int))) = true ∧
 ((decide
 (reqEnd L C T R F W U k
 (bits BinOp.or IntKind.u16 (bits BinOp.andNot IntKind.u16 o (1 : Int)) (bits BinOp.and IntKind.u16 a (1 : Int))) v
 n true t =
 reqEnd L C T R F W U k a v n true t)) = true ∧
 ((decide (Int.tmod a (2 : Int) = (0 : Int))) = false ∧
 ((decide
 (reqEnd L C T R F W U k
 (bits BinOp.or IntKind.u16 (bits BinOp.andNot IntKind.u16 o (1 : Int)) (bits BinOp.and IntKind.u16 a (1 : Int))) v
 n true t =
 reqEnd L C T R F W U k a v n true t)) = true ∧
 (K (AV.bool (decide (reqEnd L C T R F W U k a v n false t = IntKind.wrap IntKind.i64 (t + (4 : Int)))))))))))) ∧
 ((!decide (Int.tmod a (2 : Int) = (0 : Int))) = false →
 (!decide (Int.tmod a (2 : Int) = (0 : Int))) = false ∧
 ((!decide (Int.tmod a (2 : Int) = (0 : Int))) = false ∧
 ((!decide (Int.tmod a (2 : Int) = (0 : Int))) = false ∧
 ((decide
 (reqEnd L C T R F W U k
 (bits BinOp.or IntKind.u16 (bits BinOp.andNot IntKind.u16 o (1 : Int)) (bits BinOp.and IntKind.u16 a (1 : Int))) v
 n true t =
 reqEnd L C T R F W U k a v n true t)) = true ∧
 ((decide (Int.tmod a (2 : Int) = (0 : Int))) = true ∧
 ((decide
 (reqEnd L C T R F W U k
 (bits BinOp.or IntKind.u16 (bits BinOp.andNot IntKind.u16 o (1 : Int)) (bits BinOp.and IntKind.u16 a (1 : Int))) v
 n true t =
 reqEnd L C T R F W U k a v n true t)) = true ∧
 (K (AV.bool true))))))))))))) ∧
 ((decide
 (reqEnd L C T R F W U k
 (bits BinOp.or IntKind.u16 (bits BinOp.andNot IntKind.u16 o (1 : Int)) (bits BinOp.and IntKind.u16 a (1 : Int))) v
 n true t =
 reqEnd L C T R F W U k a v n true t)) = false →
 (decide
 (reqEnd L C T R F W U k
 (bits BinOp.or IntKind.u16 (bits BinOp.andNot IntKind.u16 o (1 : Int)) (bits BinOp.and IntKind.u16 a (1 : Int))) v
 n true t =
 reqEnd L C T R F W U k a v n true t)) = false ∧
 ((decide
 (reqEnd L C T R F W U k
 (bits BinOp.or IntKind.u16 (bits BinOp.andNot IntKind.u16 o (1 : Int)) (bits BinOp.and IntKind.u16 a (1 : Int))) v
 n true t =
 reqEnd L C T R F W U k a v n true t)) = false ∧
 ((decide
 (reqEnd L C T R F W U k
 (bits BinOp.or IntKind.u16 (bits BinOp.andNot IntKind.u16 o (1 : Int)) (bits BinOp.and IntKind.u16 a (1 : Int))) v
 n true t =
 reqEnd L C T R F W U k a v n true t)) = false ∧
 ((decide
 (reqEnd L C T R F W U k
 (bits BinOp.or IntKind.u16 (bits BinOp.andNot IntKind.u16 o (1 : Int)) (bits BinOp.and IntKind.u16 a (1 : Int))) v
 n true t =
 reqEnd L C T R F W U k a v n true t)) = false ∧
 ((decide
 (reqEnd L C T R F W U k
 (bits BinOp.or IntKind.u16 (bits BinOp.andNot IntKind.u16 o (1 : Int)) (bits BinOp.and IntKind.u16 a (1 : Int))) v
 n true t =
 reqEnd L C T R F W U k a v n true t)) = false ∧
 ((decide
 (reqEnd L C T R F W U k
 (bits BinOp.or IntKind.u16 (bits BinOp.andNot IntKind.u16 o (1 : Int)) (bits BinOp.and IntKind.u16 a (1 : Int))) v
 n true t =
 reqEnd L C T R F W U k a v n true t)) = false ∧
 (K (AV.bool false)))))))))))) ∧
 ((decide
 (reqEnd L C T R F W U k
 (bits BinOp.or IntKind.u16 (bits BinOp.andNot IntKind.u16 o (1 : Int)) (bits BinOp.and IntKind.u16 a (1 : Int))) v
 n false t =
 reqEnd L C T R F W U k a v n false t)) = false →
 (decide
 (reqEnd L C T R F W U k
 (bits BinOp.or IntKind.u16 (bits BinOp.andNot IntKind.u16 o (1 : Int)) (bits BinOp.and IntKind.u16 a (1 : Int))) v
 n false t =
 reqEnd L C T R F W U k a v n false t)) = false ∧
 ((decide
 (reqEnd L C T R F W U k
 (bits BinOp.or IntKind.u16 (bits BinOp.andNot IntKind.u16 o (1 : Int)) (bits BinOp.and IntKind.u16 a (1 : Int))) v
 n false t =
 reqEnd L C T R F W U k a v n false t)) = false ∧
 ((decide
 (reqEnd L C T R F W U k
 (bits BinOp.or IntKind.u16 (bits BinOp.andNot IntKind.u16 o (1 : Int)) (bits BinOp.and IntKind.u16 a (1 : Int))) v
 n false t =
 reqEnd L C T R F W U k a v n false t)) = false ∧
 (K (AV.bool false)))))))))))) ∧
 ((decide
 (reqErr L C T R F W U k
 (bits BinOp.or IntKind.u16 (bits BinOp.andNot IntKind.u16 o (1 : Int)) (bits BinOp.and IntKind.u16 a (1 : Int))) v
 n t =
 (0 : Int))) = false →
 (decide
 (reqErr L C T R F W U k
 (bits BinOp.or IntKind.u16 (bits BinOp.andNot IntKind.u16 o (1 : Int)) (bits BinOp.and IntKind.u16 a (1 : Int))) v
 n t =
 (0 : Int))) = false ∧
 ((decide
 (reqErr L C T R F W U k
 (bits BinOp.or IntKind.u16 (bits BinOp.andNot IntKind.u16 o (1 : Int)) (bits BinOp.and IntKind.u16 a (1 : Int))) v
 n t =
 (0 : Int))) = false ∧
 (K (AV.bool false)))))))))))))))))) ∧
 ((!decide (reqEnd L C T R F W U k a v n true t < reqEnd L C T R F W U k a v n false t)) = false →
 (!decide (reqEnd L C T R F W U k a v n true t < reqEnd L C T R F W U k a v n false t)) = false ∧
 ((!decide (reqEnd L C T R F W U k a v n true t < reqEnd L C T R F W U k a v n false t)) = false ∧
 ((!decide (reqEnd L C T R F W U k a v n true t < reqEnd L C T R F W U k a v n false t)) = false ∧
 ((!decide (reqEnd L C T R F W U k a v n true t < reqEnd L C T R F W U k a v n false t)) = false ∧
 ((decide (reqEnd L C T R F W U k a v n true t < reqEnd L C T R F W U k a v n false t)) = true ∧
 (K (AV.bool false)))))))))))))) ∧
 ((!!decide (reqErr L C T R F W U k a v n t = (0 : Int))) = false →
 (!!decide (reqErr L C T R F W U k a v n t = (0 : Int))) = false ∧
 ((!decide (reqErr L C T R F W U k a v n t = (0 : Int))) = true ∧
 (K (AV.bool false)))))))) ∧
 ((!decide (t < (0 : Int))) = false →
 (!decide (t < (0 : Int))) = false ∧
 ((decide (t < (0 : Int))) = true ∧
 (K (AV.bool true))))))) ∧
 ((!!decide (stepE k a v n = (0 : Int))) = false →
 (!!decide (stepE k a v n = (0 : Int))) = false ∧
 ((!decide (stepE k a v n = (0 : Int))) = true ∧
 (K (AV.bool true)))))))) ∧
 ((!!decide ((if okF L C T R F W U = true then (0 : Int) else (2 : Int)) = (0 : Int))) = false →
 (!!decide ((if okF L C T R F W U = true then (0 : Int) else (2 : Int)) = (0 : Int))) = false ∧
 ((!!decide ((if okF L C T R F W U = true then (0 : Int) else (2 : Int)) = (0 : Int))) = false ∧
 ((!decide ((if okF L C T R F W U = true then (0 : Int) else (2 : Int)) = (0 : Int))) = true ∧
 (K (AV.bool true)))))
def ports_scr : Plan := .k (.b (.t (.t (.f (.b (.t (.f (.b (.t (.f (.b (.z) (.b (.t (.f (.t (.t (.t (.f (.b (.t (.t (.t (.b (.t (.t (.t (.t (.f (.b (.z) (.b (.t (.t (.t (.b (.f (.f (.f (.f (.f (.f (.t (.z)))))))) (.b (.t (.t (.t (.t (.t (.t (.b (.t (.t (.t (.b (.t (.t (.t (.t (.b (.t (.t (.t (.t (.f (.t (.z))))))) (.f (.f (.f (.t (.t (.t (.z)))))))))))) (.f (.f (.f (.f (.k (.k (.k (.k (.f (.f (.z))))))))))))))) (.f (.f (.f (.z))))))))))) (.f (.f (.z)))))))) (.f (.f (.f (.k (.b (.t (.t (.t (.t (.t (.t (.b (.t (.t (.t (.b (.t (.t (.t (.t (.b (.t (.t (.t (.t (.f (.t (.z))))))) (.f (.f (.f (.t (.t (.t (.z)))))))))))) (.f (.f (.f (.f (.k (.k (.k (.k (.f (.f (.z))))))))))))))) (.f (.f (.f (.z))))))))))) (.f (.f (.z))))))))))))))) (.f (.f (.t (.f (.f (.k (.b (.t (.t (.t (.b (.t (.t (.t (.t (.t (.t (.f (.z)))))))) (.b (.t (.t (.t (.t (.t (.t (.b (.t (.t (.t (.b (.t (.t (.t (.t (.b (.t (.t (.t (.t (.f (.t (.z))))))) (.f (.f (.f (.t (.t (.t (.z)))))))))))) (.f (.f (.f (.f (.k (.k (.k (.k (.f (.f (.z))))))))))))))) (.f (.f (.f (.z))))))))))) (.f (.f (.z)))))))) (.f (.f (.f (.k (.b (.t (.t (.t (.t (.t (.t (.b (.t (.t (.t (.b (.t (.t (.t (.t (.b (.t (.t (.t (.t (.f (.t (.z))))))) (.f (.f (.f (.t (.t (.t (.z)))))))))))) (.f (.f (.f (.f (.k (.k (.k (.k (.f (.f (.z))))))))))))))) (.f (.f (.f (.z))))))))))) (.f (.f (.z))))))))))))))))))) (.f (.f (.f (.k (.k (.k (.f (.t (.z)))))))))))))))) (.f (.t (.z))))))) (.f (.t (.z)))))) (.f (.t (.z))))))) (.f (.f (.t (.z)))))
theorem ports_vc (L C T R F W U k a v n o t : Int) (K : AV → Prop) : (funP XCo4 11 [.agg [.int .i64 L, .int .i64 C, .int .i64 T, .int .i64 R, .int .i64 F, .int .i64 W, .int .i64 U], .agg [.int .i64 k, .int .u16 a, .int .u8 v, .int .i64 n], .int .u16 o, .int .i64 t] h0 ports_scr (fun v _ _ => K v)) = ports_VC L C T R F W U k a v n o t K := by kernel_rfl
def waits_VC (L C T R F W U t k a v n : Int) (sl : Bool) (K : AV → Prop) : Prop :=
 ((!decide (waitN L C T R F W U t < (0 : Int))) = true →
 (!decide (waitN L C T R F W U t < (0 : Int))) = true ∧
 ((decide (waitN L C T R F W U t < (0 : Int))) = false ∧
 (((!decide (waitN L C T R F W U t > (6 : Int))) = true →
 (!decide (waitN L C T R F W U t > (6 : Int))) = true ∧
 ((!decide (waitN L C T R F W U t > (6 : Int))) = true ∧
 (((decide (waitN L C T R F W U t > (0 : Int))) = true →
 (decide (waitN L C T R F W U t > (0 : Int))) = true ∧
 ((decide (waitN L C T R F W U t > (0 : Int))) = true ∧
 ((decide (waitN L C T R F W U t > (0 : Int))) = true ∧
 ((decide (waitN L C T R F W U t > (0 : Int))) = true ∧
 ((decide (waitN L C T R F W U t > (0 : Int))) = true ∧
 ((!decide (waitN L C T R F W U t > (6 : Int))) = true ∧
 ((decide (waitN L C T R F W U t > (0 : Int))) = true ∧
 ((decide (waitN L C T R F W U t > (6 : Int))) = false ∧
 (((!decide (waitN L C T R F W U (IntKind.wrap IntKind.i64 (t + waitN L C T R F W U t)) = (0 : Int))) = true →
 K (AV.bool false)) ∧
 ((!decide (waitN L C T R F W U (IntKind.wrap IntKind.i64 (t + waitN L C T R F W U t)) = (0 : Int))) = false →
 ((!decide (spE L C T R F W U t = (0 : Int))) = true →
 K (AV.bool (decide (waitN L C T R F W U t = (0 : Int))))) ∧
 ((!decide (spE L C T R F W U t = (0 : Int))) = false →
 ((!decide (spL L C T R F W U t < T)) = true →
 (!decide (spL L C T R F W U t < T)) = true ∧
 ((!decide (spL L C T R F W U t < T)) = true ∧
 ((!decide (spL L C T R F W U t < T)) = true ∧
 ((!decide (spL L C T R F W U t < T)) = true ∧
 ((!decide (spL L C T R F W U t < T)) = true ∧
 ((!decide (spL L C T R F W U t < T)) = true ∧
 ((!decide (spL L C T R F W U t < T)) = true ∧
 ((decide (spL L C T R F W U t < T)) = false ∧
 (((!decide (spL L C T R F W U t ≥ IntKind.wrap IntKind.i64 (T + R))) = true →
 (!decide (spL L C T R F W U t ≥ IntKind.wrap IntKind.i64 (T + R))) = true ∧
 ((!decide (spL L C T R F W U t ≥ IntKind.wrap IntKind.i64 (T + R))) = true ∧
 ((decide (spL L C T R F W U t ≥ IntKind.wrap IntKind.i64 (T + R))) = false ∧
 (((decide (W = (0 : Int))) = true →
 (decide (W = (0 : Int))) = true ∧
 ((decide (W = (0 : Int))) = true ∧
 (((!decide (waitN L C T R F W U t = (0 : Int))) = true →
 K (AV.bool false)) ∧
 ((!decide (waitN L C T R F W U t = (0 : Int))) = false →
 ((!decide (reqErr L C T R F (0 : Int) U k a v n t = (0 : Int))) = true →
 K (AV.bool true)) ∧
 ((!decide (reqErr L C T R F (0 : Int) U k a v n t = (0 : Int))) = false →
 ((decide (waitN L C T R F (0 : Int) U t = (0 : Int))) = true →
 (decide (waitN L C T R F (0 : Int) U t = (0 : Int))) = true ∧
 ((decide (waitN L C T R F (0 : Int) U t = (0 : Int))) = true ∧
 ((decide (waitN L C T R F (0 : Int) U t = (0 : Int))) = true ∧
 ((decide (waitN L C T R F (0 : Int) U t = (0 : Int))) = true ∧
 (((decide (mostN L C T R F (0 : Int) U k = (0 : Int))) = true →
 (decide (mostN L C T R F (0 : Int) U k = (0 : Int))) = true ∧
 ((decide (mostN L C T R F (0 : Int) U k = (0 : Int))) = true ∧
 ((decide (mostN L C T R F (0 : Int) U k = (0 : Int))) = true ∧
 ((decide (mostN L C T R F (0 : Int) U k = (0 : Int))) = true ∧
 ((decide (mostN L C T R F (0 : Int) U k = (0 : Int))) = true ∧
 ((decide (mostN L C T R F (0 : Int) U k = (0 : Int))) = true ∧
 (((decide (reqEnd L C T R F (0 : Int) U k a v n sl t = IntKind.wrap IntKind.i64 (t + n))) = true →
 (decide (reqEnd L C T R F (0 : Int) U k a v n sl t = IntKind.wrap IntKind.i64 (t + n))) = true ∧
 ((decide (reqEnd L C T R F (0 : Int) U k a v n sl t = IntKind.wrap IntKind.i64 (t + n))) = true ∧
 ((decide (reqEnd L C T R F (0 : Int) U k a v n sl t = IntKind.wrap IntKind.i64 (t + n))) = true ∧
 (((decide (reqAt L C T R F (0 : Int) U k a v n sl t ≥ t)) = true →
 (decide (reqAt L C T R F (0 : Int) U k a v n sl t ≥ t)) = true ∧
 ((decide (reqAt L C T R F (0 : Int) U k a v n sl t ≥ t)) = true ∧
 ((decide (reqAt L C T R F (0 : Int) U k a v n sl t ≥ t)) = true ∧
 ((decide (reqAt L C T R F (0 : Int) U k a v n sl t ≥ t)) = true ∧
 (K (AV.bool (decide (reqAt L C T R F (0 : Int) U k a v n sl t ≤ IntKind.wrap IntKind.i64 (t + (1 : Int)))))))))) ∧
 ((decide (reqAt L C T R F (0 : Int) U k a v n sl t ≥ t)) = false →
 (decide (reqAt L C T R F (0 : Int) U k a v n sl t ≥ t)) = false ∧
 ((decide (reqAt L C T R F (0 : Int) U k a v n sl t ≥ t)) = false ∧
 ((decide (reqAt L C T R F (0 : Int) U k a v n sl t ≥ t)) = false ∧
 ((decide (reqAt L C T R F (0 : Int) U k a v n sl t ≥ t)) = false ∧
 (K (AV.bool false)))))))))) ∧
 ((decide (reqEnd L C T R F (0 : Int) U k a v n sl t = IntKind.wrap IntKind.i64 (t + n))) = false →
 (decide (reqEnd L C T R F (0 : Int) U k a v n sl t = IntKind.wrap IntKind.i64 (t + n))) = false ∧
 ((decide (reqEnd L C T R F (0 : Int) U k a v n sl t = IntKind.wrap IntKind.i64 (t + n))) = false ∧
 ((decide (reqEnd L C T R F (0 : Int) U k a v n sl t = IntKind.wrap IntKind.i64 (t + n))) = false ∧
 (K (AV.bool false)))))))))))) ∧
 ((decide (mostN L C T R F (0 : Int) U k = (0 : Int))) = false →
 (decide (mostN L C T R F (0 : Int) U k = (0 : Int))) = false ∧
 ((decide (mostN L C T R F (0 : Int) U k = (0 : Int))) = false ∧
 ((decide (mostN L C T R F (0 : Int) U k = (0 : Int))) = false ∧
 ((decide (mostN L C T R F (0 : Int) U k = (0 : Int))) = false ∧
 ((decide (mostN L C T R F (0 : Int) U k = (0 : Int))) = false ∧
 ((decide (mostN L C T R F (0 : Int) U k = (0 : Int))) = false ∧
 (K (AV.bool false))))))))))))) ∧
 ((decide (waitN L C T R F (0 : Int) U t = (0 : Int))) = false →
 (decide (waitN L C T R F (0 : Int) U t = (0 : Int))) = false ∧
 ((decide (waitN L C T R F (0 : Int) U t = (0 : Int))) = false ∧
 ((decide (waitN L C T R F (0 : Int) U t = (0 : Int))) = false ∧
 ((decide (waitN L C T R F (0 : Int) U t = (0 : Int))) = false ∧
 (K (AV.bool false))))))))))) ∧
 ((decide (W = (0 : Int))) = false →
 (decide (W = (0 : Int))) = false ∧
 ((decide (W = (0 : Int))) = false ∧
 (((!decide (reqErr L C T R F (0 : Int) U k a v n t = (0 : Int))) = true →
 K (AV.bool true)) ∧
 ((!decide (reqErr L C T R F (0 : Int) U k a v n t = (0 : Int))) = false →
 ((decide (waitN L C T R F (0 : Int) U t = (0 : Int))) = true →
 (decide (waitN L C T R F (0 : Int) U t = (0 : Int))) = true ∧
 ((decide (waitN L C T R F (0 : Int) U t = (0 : Int))) = true ∧
 ((decide (waitN L C T R F (0 : Int) U t = (0 : Int))) = true ∧
 ((decide (waitN L C T R F (0 : Int) U t = (0 : Int))) = true ∧
 (((decide (mostN L C T R F (0 : Int) U k = (0 : Int))) = true →
 (decide (mostN L C T R F (0 : Int) U k = (0 : Int))) = true ∧
 ((decide (mostN L C T R F (0 : Int) U k = (0 : Int))) = true ∧
 ((decide (mostN L C T R F (0 : Int) U k = (0 : Int))) = true ∧
 ((decide (mostN L C T R F (0 : Int) U k = (0 : Int))) = true ∧
 ((decide (mostN L C T R F (0 : Int) U k = (0 : Int))) = true ∧
 ((decide (mostN L C T R F (0 : Int) U k = (0 : Int))) = true ∧
 (((decide (reqEnd L C T R F (0 : Int) U k a v n sl t = IntKind.wrap IntKind.i64 (t + n))) = true →
 (decide (reqEnd L C T R F (0 : Int) U k a v n sl t = IntKind.wrap IntKind.i64 (t + n))) = true ∧
 ((decide (reqEnd L C T R F (0 : Int) U k a v n sl t = IntKind.wrap IntKind.i64 (t + n))) = true ∧
 ((decide (reqEnd L C T R F (0 : Int) U k a v n sl t = IntKind.wrap IntKind.i64 (t + n))) = true ∧
 (((decide (reqAt L C T R F (0 : Int) U k a v n sl t ≥ t)) = true →
 (decide (reqAt L C T R F (0 : Int) U k a v n sl t ≥ t)) = true ∧
 ((decide (reqAt L C T R F (0 : Int) U k a v n sl t ≥ t)) = true ∧
 ((decide (reqAt L C T R F (0 : Int) U k a v n sl t ≥ t)) = true ∧
 ((decide (reqAt L C T R F (0 : Int) U k a v n sl t ≥ t)) = true ∧
 (K (AV.bool (decide (reqAt L C T R F (0 : Int) U k a v n sl t ≤ IntKind.wrap IntKind.i64 (t + (1 : Int)))))))))) ∧
 ((decide (reqAt L C T R F (0 : Int) U k a v n sl t ≥ t)) = false →
 (decide (reqAt L C T R F (0 : Int) U k a v n sl t ≥ t)) = false ∧
 ((decide (reqAt L C T R F (0 : Int) U k a v n sl t ≥ t)) = false ∧
 ((decide (reqAt L C T R F (0 : Int) U k a v n sl t ≥ t)) = false ∧
 ((decide (reqAt L C T R F (0 : Int) U k a v n sl t ≥ t)) = false ∧
 (K (AV.bool false)))))))))) ∧
 ((decide (reqEnd L C T R F (0 : Int) U k a v n sl t = IntKind.wrap IntKind.i64 (t + n))) = false →
 (decide (reqEnd L C T R F (0 : Int) U k a v n sl t = IntKind.wrap IntKind.i64 (t + n))) = false ∧
 ((decide (reqEnd L C T R F (0 : Int) U k a v n sl t = IntKind.wrap IntKind.i64 (t + n))) = false ∧
 ((decide (reqEnd L C T R F (0 : Int) U k a v n sl t = IntKind.wrap IntKind.i64 (t + n))) = false ∧
 (K (AV.bool false)))))))))))) ∧
 ((decide (mostN L C T R F (0 : Int) U k = (0 : Int))) = false →
 (decide (mostN L C T R F (0 : Int) U k = (0 : Int))) = false ∧
 ((decide (mostN L C T R F (0 : Int) U k = (0 : Int))) = false ∧
 ((decide (mostN L C T R F (0 : Int) U k = (0 : Int))) = false ∧
 ((decide (mostN L C T R F (0 : Int) U k = (0 : Int))) = false ∧
 ((decide (mostN L C T R F (0 : Int) U k = (0 : Int))) = false ∧
 ((decide (mostN L C T R F (0 : Int) U k = (0 : Int))) = false ∧
 (K (AV.bool false))))))))))))) ∧
 ((decide (waitN L C T R F (0 : Int) U t = (0 : Int))) = false →
 (decide (waitN L C T R F (0 : Int) U t = (0 : Int))) = false ∧
 ((decide (waitN L C T R F (0 : Int) U t = (0 : Int))) = false ∧
 ((decide (waitN L C T R F (0 : Int) U t = (0 : Int))) = false ∧
 ((decide (waitN L C T R F (0 : Int) U t = (0 : Int))) = false ∧
 (K (AV.bool false)))))))))))))) ∧
 ((!decide (spL L C T R F W U t ≥ IntKind.wrap IntKind.i64 (T + R))) = false →
 (!decide (spL L C T R F W U t ≥ IntKind.wrap IntKind.i64 (T + R))) = false ∧
 ((!decide (spL L C T R F W U t ≥ IntKind.wrap IntKind.i64 (T + R))) = false ∧
 ((decide (spL L C T R F W U t ≥ IntKind.wrap IntKind.i64 (T + R))) = true ∧
 (((!decide (waitN L C T R F W U t = (0 : Int))) = true →
 K (AV.bool false)) ∧
 ((!decide (waitN L C T R F W U t = (0 : Int))) = false →
 ((!decide (reqErr L C T R F (0 : Int) U k a v n t = (0 : Int))) = true →
 K (AV.bool true)) ∧
 ((!decide (reqErr L C T R F (0 : Int) U k a v n t = (0 : Int))) = false →
 ((decide (waitN L C T R F (0 : Int) U t = (0 : Int))) = true →
 (decide (waitN L C T R F (0 : Int) U t = (0 : Int))) = true ∧
 ((decide (waitN L C T R F (0 : Int) U t = (0 : Int))) = true ∧
 ((decide (waitN L C T R F (0 : Int) U t = (0 : Int))) = true ∧
 ((decide (waitN L C T R F (0 : Int) U t = (0 : Int))) = true ∧
 (((decide (mostN L C T R F (0 : Int) U k = (0 : Int))) = true →
 (decide (mostN L C T R F (0 : Int) U k = (0 : Int))) = true ∧
 ((decide (mostN L C T R F (0 : Int) U k = (0 : Int))) = true ∧
 ((decide (mostN L C T R F (0 : Int) U k = (0 : Int))) = true ∧
 ((decide (mostN L C T R F (0 : Int) U k = (0 : Int))) = true ∧
 ((decide (mostN L C T R F (0 : Int) U k = (0 : Int))) = true ∧
 ((decide (mostN L C T R F (0 : Int) U k = (0 : Int))) = true ∧
 (((decide (reqEnd L C T R F (0 : Int) U k a v n sl t = IntKind.wrap IntKind.i64 (t + n))) = true →
 (decide (reqEnd L C T R F (0 : Int) U k a v n sl t = IntKind.wrap IntKind.i64 (t + n))) = true ∧
 ((decide (reqEnd L C T R F (0 : Int) U k a v n sl t = IntKind.wrap IntKind.i64 (t + n))) = true ∧
 ((decide (reqEnd L C T R F (0 : Int) U k a v n sl t = IntKind.wrap IntKind.i64 (t + n))) = true ∧
 (((decide (reqAt L C T R F (0 : Int) U k a v n sl t ≥ t)) = true →
 (decide (reqAt L C T R F (0 : Int) U k a v n sl t ≥ t)) = true ∧
 ((decide (reqAt L C T R F (0 : Int) U k a v n sl t ≥ t)) = true ∧
 ((decide (reqAt L C T R F (0 : Int) U k a v n sl t ≥ t)) = true ∧
 ((decide (reqAt L C T R F (0 : Int) U k a v n sl t ≥ t)) = true ∧
 (K (AV.bool (decide (reqAt L C T R F (0 : Int) U k a v n sl t ≤ IntKind.wrap IntKind.i64 (t + (1 : Int)))))))))) ∧
 ((decide (reqAt L C T R F (0 : Int) U k a v n sl t ≥ t)) = false →
 (decide (reqAt L C T R F (0 : Int) U k a v n sl t ≥ t)) = false ∧
 ((decide (reqAt L C T R F (0 : Int) U k a v n sl t ≥ t)) = false ∧
 ((decide (reqAt L C T R F (0 : Int) U k a v n sl t ≥ t)) = false ∧
 ((decide (reqAt L C T R F (0 : Int) U k a v n sl t ≥ t)) = false ∧
 (K (AV.bool false)))))))))) ∧
 ((decide (reqEnd L C T R F (0 : Int) U k a v n sl t = IntKind.wrap IntKind.i64 (t + n))) = false →
 (decide (reqEnd L C T R F (0 : Int) U k a v n sl t = IntKind.wrap IntKind.i64 (t + n))) = false ∧
 ((decide (reqEnd L C T R F (0 : Int) U k a v n sl t = IntKind.wrap IntKind.i64 (t + n))) = false ∧
 ((decide (reqEnd L C T R F (0 : Int) U k a v n sl t = IntKind.wrap IntKind.i64 (t + n))) = false ∧
 (K (AV.bool false)))))))))))) ∧
 ((decide (mostN L C T R F (0 : Int) U k = (0 : Int))) = false →
 (decide (mostN L C T R F (0 : Int) U k = (0 : Int))) = false ∧
 ((decide (mostN L C T R F (0 : Int) U k = (0 : Int))) = false ∧
 ((decide (mostN L C T R F (0 : Int) U k = (0 : Int))) = false ∧
 ((decide (mostN L C T R F (0 : Int) U k = (0 : Int))) = false ∧
 ((decide (mostN L C T R F (0 : Int) U k = (0 : Int))) = false ∧
 ((decide (mostN L C T R F (0 : Int) U k = (0 : Int))) = false ∧
 (K (AV.bool false))))))))))))) ∧
 ((decide (waitN L C T R F (0 : Int) U t = (0 : Int))) = false →
 (decide (waitN L C T R F (0 : Int) U t = (0 : Int))) = false ∧
 ((decide (waitN L C T R F (0 : Int) U t = (0 : Int))) = false ∧
 ((decide (waitN L C T R F (0 : Int) U t = (0 : Int))) = false ∧
 ((decide (waitN L C T R F (0 : Int) U t = (0 : Int))) = false ∧
 (K (AV.bool false))))))))))))))))))))) ∧
 ((!decide (spL L C T R F W U t < T)) = false →
 (!decide (spL L C T R F W U t < T)) = false ∧
 ((!decide (spL L C T R F W U t < T)) = false ∧
 ((!decide (spL L C T R F W U t < T)) = false ∧
 ((!decide (spL L C T R F W U t < T)) = false ∧
 ((!decide (spL L C T R F W U t < T)) = false ∧
 ((!decide (spL L C T R F W U t < T)) = false ∧
 ((!decide (spL L C T R F W U t < T)) = false ∧
 ((decide (spL L C T R F W U t < T)) = true ∧
 (((!decide (waitN L C T R F W U t = (0 : Int))) = true →
 K (AV.bool false)) ∧
 ((!decide (waitN L C T R F W U t = (0 : Int))) = false →
 ((!decide (reqErr L C T R F (0 : Int) U k a v n t = (0 : Int))) = true →
 K (AV.bool true)) ∧
 ((!decide (reqErr L C T R F (0 : Int) U k a v n t = (0 : Int))) = false →
 ((decide (waitN L C T R F (0 : Int) U t = (0 : Int))) = true →
 (decide (waitN L C T R F (0 : Int) U t = (0 : Int))) = true ∧
 ((decide (waitN L C T R F (0 : Int) U t = (0 : Int))) = true ∧
 ((decide (waitN L C T R F (0 : Int) U t = (0 : Int))) = true ∧
 ((decide (waitN L C T R F (0 : Int) U t = (0 : Int))) = true ∧
 (((decide (mostN L C T R F (0 : Int) U k = (0 : Int))) = true →
 (decide (mostN L C T R F (0 : Int) U k = (0 : Int))) = true ∧
 ((decide (mostN L C T R F (0 : Int) U k = (0 : Int))) = true ∧
 ((decide (mostN L C T R F (0 : Int) U k = (0 : Int))) = true ∧
 ((decide (mostN L C T R F (0 : Int) U k = (0 : Int))) = true ∧
 ((decide (mostN L C T R F (0 : Int) U k = (0 : Int))) = true ∧
 ((decide (mostN L C T R F (0 : Int) U k = (0 : Int))) = true ∧
 (((decide (reqEnd L C T R F (0 : Int) U k a v n sl t = IntKind.wrap IntKind.i64 (t + n))) = true →
 (decide (reqEnd L C T R F (0 : Int) U k a v n sl t = IntKind.wrap IntKind.i64 (t + n))) = true ∧
 ((decide (reqEnd L C T R F (0 : Int) U k a v n sl t = IntKind.wrap IntKind.i64 (t + n))) = true ∧
 ((decide (reqEnd L C T R F (0 : Int) U k a v n sl t = IntKind.wrap IntKind.i64 (t + n))) = true ∧
 (((decide (reqAt L C T R F (0 : Int) U k a v n sl t ≥ t)) = true →
 (decide (reqAt L C T R F (0 : Int) U k a v n sl t ≥ t)) = true ∧
 ((decide (reqAt L C T R F (0 : Int) U k a v n sl t ≥ t)) = true ∧
 ((decide (reqAt L C T R F (0 : Int) U k a v n sl t ≥ t)) = true ∧
 ((decide (reqAt L C T R F (0 : Int) U k a v n sl t ≥ t)) = true ∧
 (K (AV.bool (decide (reqAt L C T R F (0 : Int) U k a v n sl t ≤ IntKind.wrap IntKind.i64 (t + (1 : Int)))))))))) ∧
 ((decide (reqAt L C T R F (0 : Int) U k a v n sl t ≥ t)) = false →
 (decide (reqAt L C T R F (0 : Int) U k a v n sl t ≥ t)) = false ∧
 ((decide (reqAt L C T R F (0 : Int) U k a v n sl t ≥ t)) = false ∧
 ((decide (reqAt L C T R F (0 : Int) U k a v n sl t ≥ t)) = false ∧
 ((decide (reqAt L C T R F (0 : Int) U k a v n sl t ≥ t)) = false ∧
 (K (AV.bool false)))))))))) ∧
 ((decide (reqEnd L C T R F (0 : Int) U k a v n sl t = IntKind.wrap IntKind.i64 (t + n))) = false →
 (decide (reqEnd L C T R F (0 : Int) U k a v n sl t = IntKind.wrap IntKind.i64 (t + n))) = false ∧
 ((decide (reqEnd L C T R F (0 : Int) U k a v n sl t = IntKind.wrap IntKind.i64 (t + n))) = false ∧
 ((decide (reqEnd L C T R F (0 : Int) U k a v n sl t = IntKind.wrap IntKind.i64 (t + n))) = false ∧
 (K (AV.bool false)))))))))))) ∧
 ((decide (mostN L C T R F (0 : Int) U k = (0 : Int))) = false →
 (decide (mostN L C T R F (0 : Int) U k = (0 : Int))) = false ∧
 ((decide (mostN L C T R F (0 : Int) U k = (0 : Int))) = false ∧
 ((decide (mostN L C T R F (0 : Int) U k = (0 : Int))) = false ∧
 ((decide (mostN L C T R F (0 : Int) U k = (0 : Int))) = false ∧
 ((decide (mostN L C T R F (0 : Int) U k = (0 : Int))) = false ∧
 ((decide (mostN L C T R F (0 : Int) U k = (0 : Int))) = false ∧
 (K (AV.bool false))))))))))))) ∧
 ((decide (waitN L C T R F (0 : Int) U t = (0 : Int))) = false →
 (decide (waitN L C T R F (0 : Int) U t = (0 : Int))) = false ∧
 ((decide (waitN L C T R F (0 : Int) U t = (0 : Int))) = false ∧
 ((decide (waitN L C T R F (0 : Int) U t = (0 : Int))) = false ∧
 ((decide (waitN L C T R F (0 : Int) U t = (0 : Int))) = false ∧
 (K (AV.bool false)))))))))))))))))))))))))))) ∧
 ((decide (waitN L C T R F W U t > (0 : Int))) = false →
 (decide (waitN L C T R F W U t > (0 : Int))) = false ∧
 ((decide (waitN L C T R F W U t > (0 : Int))) = false ∧
 ((decide (waitN L C T R F W U t > (0 : Int))) = false ∧
 ((decide (waitN L C T R F W U t > (0 : Int))) = false ∧
 ((decide (waitN L C T R F W U t > (0 : Int))) = false ∧
 ((!decide (waitN L C T R F W U t > (6 : Int))) = true ∧
 ((decide (waitN L C T R F W U t > (0 : Int))) = false ∧
 ((decide (waitN L C T R F W U t > (6 : Int))) = false ∧
 (((!decide (spE L C T R F W U t = (0 : Int))) = true →
 K (AV.bool (decide (waitN L C T R F W U t = (0 : Int))))) ∧
 ((!decide (spE L C T R F W U t = (0 : Int))) = false →
 ((!decide (spL L C T R F W U t < T)) = true →
 (!decide (spL L C T R F W U t < T)) = true ∧
 ((!decide (spL L C T R F W U t < T)) = true ∧
 ((!decide (spL L C T R F W U t < T)) = true ∧
 ((!decide (spL L C T R F W U t < T)) = true ∧
 ((!decide (spL L C T R F W U t < T)) = true ∧
 ((!decide (spL L C T R F W U t < T)) = true ∧
 ((!decide (spL L C T R F W U t < T)) = true ∧
 ((decide (spL L C T R F W U t < T)) = false ∧
 (((!decide (spL L C T R F W U t ≥ IntKind.wrap IntKind.i64 (T + R))) = true →
 (!decide (spL L C T R F W U t ≥ IntKind.wrap IntKind.i64 (T + R))) = true ∧
 ((!decide (spL L C T R F W U t ≥ IntKind.wrap IntKind.i64 (T + R))) = true ∧
 ((decide (spL L C T R F W U t ≥ IntKind.wrap IntKind.i64 (T + R))) = false ∧
 (((decide (W = (0 : Int))) = true →
 (decide (W = (0 : Int))) = true ∧
 ((decide (W = (0 : Int))) = true ∧
 (((!decide (waitN L C T R F W U t = (0 : Int))) = true →
 K (AV.bool false)) ∧
 ((!decide (waitN L C T R F W U t = (0 : Int))) = false →
 ((!decide (reqErr L C T R F (0 : Int) U k a v n t = (0 : Int))) = true →
 K (AV.bool true)) ∧
 ((!decide (reqErr L C T R F (0 : Int) U k a v n t = (0 : Int))) = false →
 ((decide (waitN L C T R F (0 : Int) U t = (0 : Int))) = true →
 (decide (waitN L C T R F (0 : Int) U t = (0 : Int))) = true ∧
 ((decide (waitN L C T R F (0 : Int) U t = (0 : Int))) = true ∧
 ((decide (waitN L C T R F (0 : Int) U t = (0 : Int))) = true ∧
 ((decide (waitN L C T R F (0 : Int) U t = (0 : Int))) = true ∧
 (((decide (mostN L C T R F (0 : Int) U k = (0 : Int))) = true →
 (decide (mostN L C T R F (0 : Int) U k = (0 : Int))) = true ∧
 ((decide (mostN L C T R F (0 : Int) U k = (0 : Int))) = true ∧
 ((decide (mostN L C T R F (0 : Int) U k = (0 : Int))) = true ∧
 ((decide (mostN L C T R F (0 : Int) U k = (0 : Int))) = true ∧
 ((decide (mostN L C T R F (0 : Int) U k = (0 : Int))) = true ∧
 ((decide (mostN L C T R F (0 : Int) U k = (0 : Int))) = true ∧
 (((decide (reqEnd L C T R F (0 : Int) U k a v n sl t = IntKind.wrap IntKind.i64 (t + n))) = true →
 (decide (reqEnd L C T R F (0 : Int) U k a v n sl t = IntKind.wrap IntKind.i64 (t + n))) = true ∧
 ((decide (reqEnd L C T R F (0 : Int) U k a v n sl t = IntKind.wrap IntKind.i64 (t + n))) = true ∧
 ((decide (reqEnd L C T R F (0 : Int) U k a v n sl t = IntKind.wrap IntKind.i64 (t + n))) = true ∧
 (((decide (reqAt L C T R F (0 : Int) U k a v n sl t ≥ t)) = true →
 (decide (reqAt L C T R F (0 : Int) U k a v n sl t ≥ t)) = true ∧
 ((decide (reqAt L C T R F (0 : Int) U k a v n sl t ≥ t)) = true ∧
 ((decide (reqAt L C T R F (0 : Int) U k a v n sl t ≥ t)) = true ∧
 ((decide (reqAt L C T R F (0 : Int) U k a v n sl t ≥ t)) = true ∧
 (K (AV.bool (decide (reqAt L C T R F (0 : Int) U k a v n sl t ≤ IntKind.wrap IntKind.i64 (t + (1 : Int)))))))))) ∧
 ((decide (reqAt L C T R F (0 : Int) U k a v n sl t ≥ t)) = false →
 (decide (reqAt L C T R F (0 : Int) U k a v n sl t ≥ t)) = false ∧
 ((decide (reqAt L C T R F (0 : Int) U k a v n sl t ≥ t)) = false ∧
 ((decide (reqAt L C T R F (0 : Int) U k a v n sl t ≥ t)) = false ∧
 ((decide (reqAt L C T R F (0 : Int) U k a v n sl t ≥ t)) = false ∧
 (K (AV.bool false)))))))))) ∧
 ((decide (reqEnd L C T R F (0 : Int) U k a v n sl t = IntKind.wrap IntKind.i64 (t + n))) = false →
 (decide (reqEnd L C T R F (0 : Int) U k a v n sl t = IntKind.wrap IntKind.i64 (t + n))) = false ∧
 ((decide (reqEnd L C T R F (0 : Int) U k a v n sl t = IntKind.wrap IntKind.i64 (t + n))) = false ∧
 ((decide (reqEnd L C T R F (0 : Int) U k a v n sl t = IntKind.wrap IntKind.i64 (t + n))) = false ∧
 (K (AV.bool false)))))))))))) ∧
 ((decide (mostN L C T R F (0 : Int) U k = (0 : Int))) = false →
 (decide (mostN L C T R F (0 : Int) U k = (0 : Int))) = false ∧
 ((decide (mostN L C T R F (0 : Int) U k = (0 : Int))) = false ∧
 ((decide (mostN L C T R F (0 : Int) U k = (0 : Int))) = false ∧
 ((decide (mostN L C T R F (0 : Int) U k = (0 : Int))) = false ∧
 ((decide (mostN L C T R F (0 : Int) U k = (0 : Int))) = false ∧
 ((decide (mostN L C T R F (0 : Int) U k = (0 : Int))) = false ∧
 (K (AV.bool false))))))))))))) ∧
 ((decide (waitN L C T R F (0 : Int) U t = (0 : Int))) = false →
 (decide (waitN L C T R F (0 : Int) U t = (0 : Int))) = false ∧
 ((decide (waitN L C T R F (0 : Int) U t = (0 : Int))) = false ∧
 ((decide (waitN L C T R F (0 : Int) U t = (0 : Int))) = false ∧
 ((decide (waitN L C T R F (0 : Int) U t = (0 : Int))) = false ∧
 (K (AV.bool false))))))))))) ∧
 ((decide (W = (0 : Int))) = false →
 (decide (W = (0 : Int))) = false ∧
 ((decide (W = (0 : Int))) = false ∧
 (((!decide (reqErr L C T R F (0 : Int) U k a v n t = (0 : Int))) = true →
 K (AV.bool true)) ∧
 ((!decide (reqErr L C T R F (0 : Int) U k a v n t = (0 : Int))) = false →
 ((decide (waitN L C T R F (0 : Int) U t = (0 : Int))) = true →
 (decide (waitN L C T R F (0 : Int) U t = (0 : Int))) = true ∧
 ((decide (waitN L C T R F (0 : Int) U t = (0 : Int))) = true ∧
 ((decide (waitN L C T R F (0 : Int) U t = (0 : Int))) = true ∧
 ((decide (waitN L C T R F (0 : Int) U t = (0 : Int))) = true ∧
 (((decide (mostN L C T R F (0 : Int) U k = (0 : Int))) = true →
 (decide (mostN L C T R F (0 : Int) U k = (0 : Int))) = true ∧
 ((decide (mostN L C T R F (0 : Int) U k = (0 : Int))) = true ∧
 ((decide (mostN L C T R F (0 : Int) U k = (0 : Int))) = true ∧
 ((decide (mostN L C T R F (0 : Int) U k = (0 : Int))) = true ∧
 ((decide (mostN L C T R F (0 : Int) U k = (0 : Int))) = true ∧
 ((decide (mostN L C T R F (0 : Int) U k = (0 : Int))) = true ∧
 (((decide (reqEnd L C T R F (0 : Int) U k a v n sl t = IntKind.wrap IntKind.i64 (t + n))) = true →
 (decide (reqEnd L C T R F (0 : Int) U k a v n sl t = IntKind.wrap IntKind.i64 (t + n))) = true ∧
 ((decide (reqEnd L C T R F (0 : Int) U k a v n sl t = IntKind.wrap IntKind.i64 (t + n))) = true ∧
 ((decide (reqEnd L C T R F (0 : Int) U k a v n sl t = IntKind.wrap IntKind.i64 (t + n))) = true ∧
 (((decide (reqAt L C T R F (0 : Int) U k a v n sl t ≥ t)) = true →
 (decide (reqAt L C T R F (0 : Int) U k a v n sl t ≥ t)) = true ∧
 ((decide (reqAt L C T R F (0 : Int) U k a v n sl t ≥ t)) = true ∧
 ((decide (reqAt L C T R F (0 : Int) U k a v n sl t ≥ t)) = true ∧
 ((decide (reqAt L C T R F (0 : Int) U k a v n sl t ≥ t)) = true ∧
 (K (AV.bool (decide (reqAt L C T R F (0 : Int) U k a v n sl t ≤ IntKind.wrap IntKind.i64 (t + (1 : Int)))))))))) ∧
 ((decide (reqAt L C T R F (0 : Int) U k a v n sl t ≥ t)) = false →
 (decide (reqAt L C T R F (0 : Int) U k a v n sl t ≥ t)) = false ∧
 ((decide (reqAt L C T R F (0 : Int) U k a v n sl t ≥ t)) = false ∧
 ((decide (reqAt L C T R F (0 : Int) U k a v n sl t ≥ t)) = false ∧
 ((decide (reqAt L C T R F (0 : Int) U k a v n sl t ≥ t)) = false ∧
 (K (AV.bool false)))))))))) ∧
 ((decide (reqEnd L C T R F (0 : Int) U k a v n sl t = IntKind.wrap IntKind.i64 (t + n))) = false →
 (decide (reqEnd L C T R F (0 : Int) U k a v n sl t = IntKind.wrap IntKind.i64 (t + n))) = false ∧
 ((decide (reqEnd L C T R F (0 : Int) U k a v n sl t = IntKind.wrap IntKind.i64 (t + n))) = false ∧
 ((decide (reqEnd L C T R F (0 : Int) U k a v n sl t = IntKind.wrap IntKind.i64 (t + n))) = false ∧
 (K (AV.bool false)))))))))))) ∧
 ((decide (mostN L C T R F (0 : Int) U k = (0 : Int))) = false →
 (decide (mostN L C T R F (0 : Int) U k = (0 : Int))) = false ∧
 ((decide (mostN L C T R F (0 : Int) U k = (0 : Int))) = false ∧
 ((decide (mostN L C T R F (0 : Int) U k = (0 : Int))) = false ∧
 ((decide (mostN L C T R F (0 : Int) U k = (0 : Int))) = false ∧
 ((decide (mostN L C T R F (0 : Int) U k = (0 : Int))) = false ∧
 ((decide (mostN L C T R F (0 : Int) U k = (0 : Int))) = false ∧
 (K (AV.bool false))))))))))))) ∧
 ((decide (waitN L C T R F (0 : Int) U t = (0 : Int))) = false →
 (decide (waitN L C T R F (0 : Int) U t = (0 : Int))) = false ∧
 ((decide (waitN L C T R F (0 : Int) U t = (0 : Int))) = false ∧
 ((decide (waitN L C T R F (0 : Int) U t = (0 : Int))) = false ∧
 ((decide (waitN L C T R F (0 : Int) U t = (0 : Int))) = false ∧
 (K (AV.bool false)))))))))))))) ∧
 ((!decide (spL L C T R F W U t ≥ IntKind.wrap IntKind.i64 (T + R))) = false →
 (!decide (spL L C T R F W U t ≥ IntKind.wrap IntKind.i64 (T + R))) = false ∧
 ((!decide (spL L C T R F W U t ≥ IntKind.wrap IntKind.i64 (T + R))) = false ∧
 ((decide (spL L C T R F W U t ≥ IntKind.wrap IntKind.i64 (T + R))) = true ∧
 (((!decide (waitN L C T R F W U t = (0 : Int))) = true →
 K (AV.bool false)) ∧
 ((!decide (waitN L C T R F W U t = (0 : Int))) = false →
 ((!decide (reqErr L C T R F (0 : Int) U k a v n t = (0 : Int))) = true →
 K (AV.bool true)) ∧
 ((!decide (reqErr L C T R F (0 : Int) U k a v n t = (0 : Int))) = false →
 ((decide (waitN L C T R F (0 : Int) U t = (0 : Int))) = true →
 (decide (waitN L C T R F (0 : Int) U t = (0 : Int))) = true ∧
 ((decide (waitN L C T R F (0 : Int) U t = (0 : Int))) = true ∧
 ((decide (waitN L C T R F (0 : Int) U t = (0 : Int))) = true ∧
 ((decide (waitN L C T R F (0 : Int) U t = (0 : Int))) = true ∧
 (((decide (mostN L C T R F (0 : Int) U k = (0 : Int))) = true →
 (decide (mostN L C T R F (0 : Int) U k = (0 : Int))) = true ∧
 ((decide (mostN L C T R F (0 : Int) U k = (0 : Int))) = true ∧
 ((decide (mostN L C T R F (0 : Int) U k = (0 : Int))) = true ∧
 ((decide (mostN L C T R F (0 : Int) U k = (0 : Int))) = true ∧
 ((decide (mostN L C T R F (0 : Int) U k = (0 : Int))) = true ∧
 ((decide (mostN L C T R F (0 : Int) U k = (0 : Int))) = true ∧
 (((decide (reqEnd L C T R F (0 : Int) U k a v n sl t = IntKind.wrap IntKind.i64 (t + n))) = true →
 (decide (reqEnd L C T R F (0 : Int) U k a v n sl t = IntKind.wrap IntKind.i64 (t + n))) = true ∧
 ((decide (reqEnd L C T R F (0 : Int) U k a v n sl t = IntKind.wrap IntKind.i64 (t + n))) = true ∧
 ((decide (reqEnd L C T R F (0 : Int) U k a v n sl t = IntKind.wrap IntKind.i64 (t + n))) = true ∧
 (((decide (reqAt L C T R F (0 : Int) U k a v n sl t ≥ t)) = true →
 (decide (reqAt L C T R F (0 : Int) U k a v n sl t ≥ t)) = true ∧
 ((decide (reqAt L C T R F (0 : Int) U k a v n sl t ≥ t)) = true ∧
 ((decide (reqAt L C T R F (0 : Int) U k a v n sl t ≥ t)) = true ∧
 ((decide (reqAt L C T R F (0 : Int) U k a v n sl t ≥ t)) = true ∧
 (K (AV.bool (decide (reqAt L C T R F (0 : Int) U k a v n sl t ≤ IntKind.wrap IntKind.i64 (t + (1 : Int)))))))))) ∧
 ((decide (reqAt L C T R F (0 : Int) U k a v n sl t ≥ t)) = false →
 (decide (reqAt L C T R F (0 : Int) U k a v n sl t ≥ t)) = false ∧
 ((decide (reqAt L C T R F (0 : Int) U k a v n sl t ≥ t)) = false ∧
 ((decide (reqAt L C T R F (0 : Int) U k a v n sl t ≥ t)) = false ∧
 ((decide (reqAt L C T R F (0 : Int) U k a v n sl t ≥ t)) = false ∧
 (K (AV.bool false)))))))))) ∧
 ((decide (reqEnd L C T R F (0 : Int) U k a v n sl t = IntKind.wrap IntKind.i64 (t + n))) = false →
 (decide (reqEnd L C T R F (0 : Int) U k a v n sl t = IntKind.wrap IntKind.i64 (t + n))) = false ∧
 ((decide (reqEnd L C T R F (0 : Int) U k a v n sl t = IntKind.wrap IntKind.i64 (t + n))) = false ∧
 ((decide (reqEnd L C T R F (0 : Int) U k a v n sl t = IntKind.wrap IntKind.i64 (t + n))) = false ∧
 (K (AV.bool false)))))))))))) ∧
 ((decide (mostN L C T R F (0 : Int) U k = (0 : Int))) = false →
 (decide (mostN L C T R F (0 : Int) U k = (0 : Int))) = false ∧
 ((decide (mostN L C T R F (0 : Int) U k = (0 : Int))) = false ∧
 ((decide (mostN L C T R F (0 : Int) U k = (0 : Int))) = false ∧
 ((decide (mostN L C T R F (0 : Int) U k = (0 : Int))) = false ∧
 ((decide (mostN L C T R F (0 : Int) U k = (0 : Int))) = false ∧
 ((decide (mostN L C T R F (0 : Int) U k = (0 : Int))) = false ∧
 (K (AV.bool false))))))))))))) ∧
 ((decide (waitN L C T R F (0 : Int) U t = (0 : Int))) = false →
 (decide (waitN L C T R F (0 : Int) U t = (0 : Int))) = false ∧
 ((decide (waitN L C T R F (0 : Int) U t = (0 : Int))) = false ∧
 ((decide (waitN L C T R F (0 : Int) U t = (0 : Int))) = false ∧
 ((decide (waitN L C T R F (0 : Int) U t = (0 : Int))) = false ∧
 (K (AV.bool false))))))))))))))))))))) ∧
 ((!decide (spL L C T R F W U t < T)) = false →
 (!decide (spL L C T R F W U t < T)) = false ∧
 ((!decide (spL L C T R F W U t < T)) = false ∧
 ((!decide (spL L C T R F W U t < T)) = false ∧
 ((!decide (spL L C T R F W U t < T)) = false ∧
 ((!decide (spL L C T R F W U t < T)) = false ∧
 ((!decide (spL L C T R F W U t < T)) = false ∧
 ((!decide (spL L C T R F W U t < T)) = false ∧
 ((decide (spL L C T R F W U t < T)) = true ∧
 (((!decide (waitN L C T R F W U t = (0 : Int))) = true →
 K (AV.bool false)) ∧
 ((!decide (waitN L C T R F W U t = (0 : Int))) = false →
 ((!decide (reqErr L C T R F (0 : Int) U k a v n t = (0 : Int))) = true →
 K (AV.bool true)) ∧
 ((!decide (reqErr L C T R F (0 : Int) U k a v n t = (0 : Int))) = false →
 ((decide (waitN L C T R F (0 : Int) U t = (0 : Int))) = true →
 (decide (waitN L C T R F (0 : Int) U t = (0 : Int))) = true ∧
 ((decide (waitN L C T R F (0 : Int) U t = (0 : Int))) = true ∧
 ((decide (waitN L C T R F (0 : Int) U t = (0 : Int))) = true ∧
 ((decide (waitN L C T R F (0 : Int) U t = (0 : Int))) = true ∧
 (((decide (mostN L C T R F (0 : Int) U k = (0 : Int))) = true →
 (decide (mostN L C T R F (0 : Int) U k = (0 : Int))) = true ∧
 ((decide (mostN L C T R F (0 : Int) U k = (0 : Int))) = true ∧
 ((decide (mostN L C T R F (0 : Int) U k = (0 : Int))) = true ∧
 ((decide (mostN L C T R F (0 : Int) U k = (0 : Int))) = true ∧
 ((decide (mostN L C T R F (0 : Int) U k = (0 : Int))) = true ∧
 ((decide (mostN L C T R F (0 : Int) U k = (0 : Int))) = true ∧
 (((decide (reqEnd L C T R F (0 : Int) U k a v n sl t = IntKind.wrap IntKind.i64 (t + n))) = true →
 (decide (reqEnd L C T R F (0 : Int) U k a v n sl t = IntKind.wrap IntKind.i64 (t + n))) = true ∧
 ((decide (reqEnd L C T R F (0 : Int) U k a v n sl t = IntKind.wrap IntKind.i64 (t + n))) = true ∧
 ((decide (reqEnd L C T R F (0 : Int) U k a v n sl t = IntKind.wrap IntKind.i64 (t + n))) = true ∧
 (((decide (reqAt L C T R F (0 : Int) U k a v n sl t ≥ t)) = true →
 (decide (reqAt L C T R F (0 : Int) U k a v n sl t ≥ t)) = true ∧
 ((decide (reqAt L C T R F (0 : Int) U k a v n sl t ≥ t)) = true ∧
 ((decide (reqAt L C T R F (0 : Int) U k a v n sl t ≥ t)) = true ∧
 ((decide (reqAt L C T R F (0 : Int) U k a v n sl t ≥ t)) = true ∧
 (K (AV.bool (decide (reqAt L C T R F (0 : Int) U k a v n sl t ≤ IntKind.wrap IntKind.i64 (t + (1 : Int)))))))))) ∧
 ((decide (reqAt L C T R F (0 : Int) U k a v n sl t ≥ t)) = false →
 (decide (reqAt L C T R F (0 : Int) U k a v n sl t ≥ t)) = false ∧
 ((decide (reqAt L C T R F (0 : Int) U k a v n sl t ≥ t)) = false ∧
 ((decide (reqAt L C T R F (0 : Int) U k a v n sl t ≥ t)) = false ∧
 ((decide (reqAt L C T R F (0 : Int) U k a v n sl t ≥ t)) = false ∧
 (K (AV.bool false)))))))))) ∧
 ((decide (reqEnd L C T R F (0 : Int) U k a v n sl t = IntKind.wrap IntKind.i64 (t + n))) = false →
 (decide (reqEnd L C T R F (0 : Int) U k a v n sl t = IntKind.wrap IntKind.i64 (t + n))) = false ∧
 ((decide (reqEnd L C T R F (0 : Int) U k a v n sl t = IntKind.wrap IntKind.i64 (t + n))) = false ∧
 ((decide (reqEnd L C T R F (0 : Int) U k a v n sl t = IntKind.wrap IntKind.i64 (t + n))) = false ∧
 (K (AV.bool false)))))))))))) ∧
 ((decide (mostN L C T R F (0 : Int) U k = (0 : Int))) = false →
 (decide (mostN L C T R F (0 : Int) U k = (0 : Int))) = false ∧
 ((decide (mostN L C T R F (0 : Int) U k = (0 : Int))) = false ∧
 ((decide (mostN L C T R F (0 : Int) U k = (0 : Int))) = false ∧
 ((decide (mostN L C T R F (0 : Int) U k = (0 : Int))) = false ∧
 ((decide (mostN L C T R F (0 : Int) U k = (0 : Int))) = false ∧
 ((decide (mostN L C T R F (0 : Int) U k = (0 : Int))) = false ∧
 (K (AV.bool false))))))))))))) ∧
 ((decide (waitN L C T R F (0 : Int) U t = (0 : Int))) = false →
 (decide (waitN L C T R F (0 : Int) U t = (0 : Int))) = false ∧
 ((decide (waitN L C T R F (0 : Int) U t = (0 : Int))) = false ∧
 ((decide (waitN L C T R F (0 : Int) U t = (0 : Int))) = false ∧
 ((decide (waitN L C T R F (0 : Int) U t = (0 : Int))) = false ∧
 (K (AV.bool false)))))))))))))))))))))))))))))) ∧
 ((!decide (waitN L C T R F W U t > (6 : Int))) = false →
 (!decide (waitN L C T R F W U t > (6 : Int))) = false ∧
 ((!decide (waitN L C T R F W U t > (6 : Int))) = false ∧
 ((!decide (waitN L C T R F W U t > (6 : Int))) = false ∧
 ((decide (waitN L C T R F W U t > (6 : Int))) = true ∧
 (K (AV.bool false))))))))) ∧
 ((!decide (waitN L C T R F W U t < (0 : Int))) = false →
 (!decide (waitN L C T R F W U t < (0 : Int))) = false ∧
 ((decide (waitN L C T R F W U t < (0 : Int))) = true ∧
 (K (AV.bool false))))
def waits_scr : Plan := .k (.b (.t (.f (.b (.t (.t (.b (.t (.t (.t (.t (.t (.t (.t (.f (.b (.z) (.b (.z) (.b (.t (.t (.t (.t (.t (.t (.t (.f (.b (.t (.t (.f (.b (.t (.t (.b (.z) (.b (.z) (.b (.t (.t (.t (.t (.b (.t (.t (.t (.t (.t (.t (.b (.t (.t (.t (.b (.t (.t (.t (.t (.z))))) (.f (.f (.f (.f (.z))))))))) (.f (.f (.f (.z))))))))))) (.f (.f (.f (.f (.f (.f (.z)))))))))))) (.f (.f (.f (.f (.z)))))))))) (.f (.f (.k (.b (.z) (.b (.t (.t (.t (.t (.b (.t (.t (.t (.t (.t (.t (.b (.t (.t (.t (.b (.t (.t (.t (.t (.z))))) (.f (.f (.f (.f (.z))))))))) (.f (.f (.f (.z))))))))))) (.f (.f (.f (.f (.f (.f (.z)))))))))))) (.f (.f (.f (.f (.z)))))))))))))) (.f (.f (.t (.k (.k (.k (.b (.z) (.b (.z) (.b (.t (.t (.t (.t (.b (.t (.t (.t (.t (.t (.t (.b (.t (.t (.t (.b (.t (.t (.t (.t (.z))))) (.f (.f (.f (.f (.z))))))))) (.f (.f (.f (.z))))))))))) (.f (.f (.f (.f (.f (.f (.z)))))))))))) (.f (.f (.f (.f (.z))))))))))))))))))))))) (.f (.f (.f (.f (.f (.f (.f (.t (.k (.k (.k (.k (.k (.k (.k (.b (.z) (.b (.z) (.b (.t (.t (.t (.t (.b (.t (.t (.t (.t (.t (.t (.b (.t (.t (.t (.b (.t (.t (.t (.t (.z))))) (.f (.f (.f (.f (.z))))))))) (.f (.f (.f (.z))))))))))) (.f (.f (.f (.f (.f (.f (.z)))))))))))) (.f (.f (.f (.f (.z)))))))))))))))))))))))))))))))))) (.f (.f (.f (.f (.f (.t (.f (.f (.k (.b (.z) (.b (.t (.t (.t (.t (.t (.t (.t (.f (.b (.t (.t (.f (.b (.t (.t (.b (.z) (.b (.z) (.b (.t (.t (.t (.t (.b (.t (.t (.t (.t (.t (.t (.b (.t (.t (.t (.b (.t (.t (.t (.t (.z))))) (.f (.f (.f (.f (.z))))))))) (.f (.f (.f (.z))))))))))) (.f (.f (.f (.f (.f (.f (.z)))))))))))) (.f (.f (.f (.f (.z)))))))))) (.f (.f (.k (.b (.z) (.b (.t (.t (.t (.t (.b (.t (.t (.t (.t (.t (.t (.b (.t (.t (.t (.b (.t (.t (.t (.t (.z))))) (.f (.f (.f (.f (.z))))))))) (.f (.f (.f (.z))))))))))) (.f (.f (.f (.f (.f (.f (.z)))))))))))) (.f (.f (.f (.f (.z)))))))))))))) (.f (.f (.t (.k (.k (.k (.b (.z) (.b (.z) (.b (.t (.t (.t (.t (.b (.t (.t (.t (.t (.t (.t (.b (.t (.t (.t (.b (.t (.t (.t (.t (.z))))) (.f (.f (.f (.f (.z))))))))) (.f (.f (.f (.z))))))))))) (.f (.f (.f (.f (.f (.f (.z)))))))))))) (.f (.f (.f (.f (.z))))))))))))))))))))))) (.f (.f (.f (.f (.f (.f (.f (.t (.k (.k (.k (.k (.k (.k (.k (.b (.z) (.b (.z) (.b (.t (.t (.t (.t (.b (.t (.t (.t (.t (.t (.t (.b (.t (.t (.t (.b (.t (.t (.t (.t (.z))))) (.f (.f (.f (.f (.z))))))))) (.f (.f (.f (.z))))))))))) (.f (.f (.f (.f (.f (.f (.z)))))))))))) (.f (.f (.f (.f (.z))))))))))))))))))))))))))))))))))))) (.f (.f (.k (.k (.k (.k (.k (.k (.f (.t (.z)))))))))))))) (.f (.t (.z))))
theorem waits_vc (L C T R F W U t k a v n : Int) (sl : Bool) (K : AV → Prop) : (funP XCo4 12 [.agg [.int .i64 L, .int .i64 C, .int .i64 T, .int .i64 R, .int .i64 F, .int .i64 W, .int .i64 U], .int .i64 t, .agg [.int .i64 k, .int .u16 a, .int .u8 v, .int .i64 n], .bool sl] h0 waits_scr (fun v _ _ => K v)) = waits_VC L C T R F W U t k a v n sl K := by kernel_rfl
end Go.Proofs.Ytnfelncgeihihaa.V
