/- Printed by vc.py: what must hold for functions' ways (RnW). -/
import Derived.Test.YtnfelncgeihihaaRnB
namespace Go.Proofs.Ytnfelncgeihihaa.V
open Go Go.Proofs
set_option maxRecDepth 100000
set_option linter.unusedVariables false
def nxLaw_VC (L C T R F W U t w : Int) (K : AV → Prop) : Prop :=
  ((!!decide ((if okF L C T R F W U = true then (0 : Int) else (2 : Int)) = (0 : Int))) = true →
    (!!decide ((if okF L C T R F W U = true then (0 : Int) else (2 : Int)) = (0 : Int))) = true ∧
    ((!decide ((if okF L C T R F W U = true then (0 : Int) else (2 : Int)) = (0 : Int))) = false ∧
    (((!decide (t < (0 : Int))) = true →
      (!decide (t < (0 : Int))) = true ∧
      ((decide (t < (0 : Int))) = false ∧
      (((decide (t > (549755813888 : Int))) = true →
        K (AV.bool true)) ∧
      ((decide (t > (549755813888 : Int))) = false →
        (nxPre L C T R F W U (if t > (0 : Int) then t else (0 : Int))) = true ∧
        (((!decide (nxtN L C T R F W U (if t > (0 : Int) then t else (0 : Int)) < t)) = true →
          (!decide (nxtN L C T R F W U (if t > (0 : Int) then t else (0 : Int)) < t)) = true ∧
          ((!decide (nxtN L C T R F W U (if t > (0 : Int) then t else (0 : Int)) < t)) = true ∧
          ((!decide (nxtN L C T R F W U (if t > (0 : Int) then t else (0 : Int)) < t)) = true ∧
          ((!decide (nxtN L C T R F W U (if t > (0 : Int) then t else (0 : Int)) < t)) = true ∧
          ((!decide (nxtN L C T R F W U (if t > (0 : Int) then t else (0 : Int)) < t)) = true ∧
          ((decide (nxtN L C T R F W U (if t > (0 : Int) then t else (0 : Int)) < t)) = false ∧
          (((!decide
    (IntKind.wrap IntKind.i64 (nxtN L C T R F W U (if t > (0 : Int) then t else (0 : Int)) - t) > lenF L C T R F W U)) = true →
            (!decide
    (IntKind.wrap IntKind.i64 (nxtN L C T R F W U (if t > (0 : Int) then t else (0 : Int)) - t) > lenF L C T R F W U)) = true ∧
            ((decide (IntKind.wrap IntKind.i64 (nxtN L C T R F W U (if t > (0 : Int) then t else (0 : Int)) - t) > lenF L C T R F W U)) = false ∧
            (((!!decide (atE L C T R F W U (nxtN L C T R F W U (if t > (0 : Int) then t else (0 : Int))) = (0 : Int))) = true →
              (!!decide (atE L C T R F W U (nxtN L C T R F W U (if t > (0 : Int) then t else (0 : Int))) = (0 : Int))) = true ∧
              ((!!decide (atE L C T R F W U (nxtN L C T R F W U (if t > (0 : Int) then t else (0 : Int))) = (0 : Int))) = true ∧
              ((!decide (atE L C T R F W U (nxtN L C T R F W U (if t > (0 : Int) then t else (0 : Int))) = (0 : Int))) = false ∧
              (((!!(atD L C T R F W U (nxtN L C T R F W U (if t > (0 : Int) then t else (0 : Int))) ==
        atD L C T R F W U (nxtN L C T R F W U (if t > (0 : Int) then t else (0 : Int))) &&
      (atX L C T R F W U (nxtN L C T R F W U (if t > (0 : Int) then t else (0 : Int))) ==
          atX L C T R F W U (nxtN L C T R F W U (if t > (0 : Int) then t else (0 : Int))) &&
        (atY L C T R F W U (nxtN L C T R F W U (if t > (0 : Int) then t else (0 : Int))) ==
            atY L C T R F W U (nxtN L C T R F W U (if t > (0 : Int) then t else (0 : Int))) &&
          true)))) = true →
                (!!(atD L C T R F W U (nxtN L C T R F W U (if t > (0 : Int) then t else (0 : Int))) ==
        atD L C T R F W U (nxtN L C T R F W U (if t > (0 : Int) then t else (0 : Int))) &&
      (atX L C T R F W U (nxtN L C T R F W U (if t > (0 : Int) then t else (0 : Int))) ==
          atX L C T R F W U (nxtN L C T R F W U (if t > (0 : Int) then t else (0 : Int))) &&
        (atY L C T R F W U (nxtN L C T R F W U (if t > (0 : Int) then t else (0 : Int))) ==
            atY L C T R F W U (nxtN L C T R F W U (if t > (0 : Int) then t else (0 : Int))) &&
          true)))) = true ∧
                ((!!(atD L C T R F W U (nxtN L C T R F W U (if t > (0 : Int) then t else (0 : Int))) ==
        atD L C T R F W U (nxtN L C T R F W U (if t > (0 : Int) then t else (0 : Int))) &&
      (atX L C T R F W U (nxtN L C T R F W U (if t > (0 : Int) then t else (0 : Int))) ==
          atX L C T R F W U (nxtN L C T R F W U (if t > (0 : Int) then t else (0 : Int))) &&
        (atY L C T R F W U (nxtN L C T R F W U (if t > (0 : Int) then t else (0 : Int))) ==
            atY L C T R F W U (nxtN L C T R F W U (if t > (0 : Int) then t else (0 : Int))) &&
          true)))) = true ∧
                ((!(atD L C T R F W U (nxtN L C T R F W U (if t > (0 : Int) then t else (0 : Int))) ==
      atD L C T R F W U (nxtN L C T R F W U (if t > (0 : Int) then t else (0 : Int))) &&
    (atX L C T R F W U (nxtN L C T R F W U (if t > (0 : Int) then t else (0 : Int))) ==
        atX L C T R F W U (nxtN L C T R F W U (if t > (0 : Int) then t else (0 : Int))) &&
      (atY L C T R F W U (nxtN L C T R F W U (if t > (0 : Int) then t else (0 : Int))) ==
          atY L C T R F W U (nxtN L C T R F W U (if t > (0 : Int) then t else (0 : Int))) &&
        true)))) = false ∧
                (((decide (atD L C T R F W U (nxtN L C T R F W U (if t > (0 : Int) then t else (0 : Int))) = (0 : Int))) = true →
                  K (AV.bool false)) ∧
                ((decide (atD L C T R F W U (nxtN L C T R F W U (if t > (0 : Int) then t else (0 : Int))) = (0 : Int))) = false →
                  ((decide (nxtN L C T R F W U (if t > (0 : Int) then t else (0 : Int)) > t)) = true →
                    (!decide (IntKind.wrap IntKind.i64 (nxtN L C T R F W U (if t > (0 : Int) then t else (0 : Int)) - t) = (0 : Int))) = true ∧
                    (((!!decide
      (atE L C T R F W U
          (IntKind.wrap IntKind.i64
            (t +
              if
                  IntKind.wrap IntKind.i64 (nxtN L C T R F W U (if t > (0 : Int) then t else (0 : Int)) - t) <
                    (1 : Int) then
                (0 : Int)
              else
                if
                    Int.tmod
                        (Int.tmod w
                          (IntKind.wrap IntKind.i64 (nxtN L C T R F W U (if t > (0 : Int) then t else (0 : Int)) - t)))
                        (IntKind.wrap IntKind.i64 (nxtN L C T R F W U (if t > (0 : Int) then t else (0 : Int)) - t)) <
                      (0 : Int) then
                  IntKind.wrap IntKind.i64
                    (Int.tmod
                        (Int.tmod w
                          (IntKind.wrap IntKind.i64 (nxtN L C T R F W U (if t > (0 : Int) then t else (0 : Int)) - t)))
                        (IntKind.wrap IntKind.i64 (nxtN L C T R F W U (if t > (0 : Int) then t else (0 : Int)) - t)) +
                      IntKind.wrap IntKind.i64 (nxtN L C T R F W U (if t > (0 : Int) then t else (0 : Int)) - t))
                else
                  Int.tmod
                    (Int.tmod w
                      (IntKind.wrap IntKind.i64 (nxtN L C T R F W U (if t > (0 : Int) then t else (0 : Int)) - t)))
                    (IntKind.wrap IntKind.i64 (nxtN L C T R F W U (if t > (0 : Int) then t else (0 : Int)) - t)))) =
        (0 : Int))) = true →
                      (!!decide
      (atE L C T R F W U
          (IntKind.wrap IntKind.i64
            (t +
              if
                  IntKind.wrap IntKind.i64 (nxtN L C T R F W U (if t > (0 : Int) then t else (0 : Int)) - t) <
                    (1 : Int) then
                (0 : Int)
              else
                if
                    Int.tmod
                        (Int.tmod w
                          (IntKind.wrap IntKind.i64 (nxtN L C T R F W U (if t > (0 : Int) then t else (0 : Int)) - t)))
                        (IntKind.wrap IntKind.i64 (nxtN L C T R F W U (if t > (0 : Int) then t else (0 : Int)) - t)) <
                      (0 : Int) then
                  IntKind.wrap IntKind.i64
                    (Int.tmod
                        (Int.tmod w
                          (IntKind.wrap IntKind.i64 (nxtN L C T R F W U (if t > (0 : Int) then t else (0 : Int)) - t)))
                        (IntKind.wrap IntKind.i64 (nxtN L C T R F W U (if t > (0 : Int) then t else (0 : Int)) - t)) +
                      IntKind.wrap IntKind.i64 (nxtN L C T R F W U (if t > (0 : Int) then t else (0 : Int)) - t))
                else
                  Int.tmod
                    (Int.tmod w
                      (IntKind.wrap IntKind.i64 (nxtN L C T R F W U (if t > (0 : Int) then t else (0 : Int)) - t)))
                    (IntKind.wrap IntKind.i64 (nxtN L C T R F W U (if t > (0 : Int) then t else (0 : Int)) - t)))) =
        (0 : Int))) = true ∧
                      ((!!decide
      (atE L C T R F W U
          (IntKind.wrap IntKind.i64
            (t +
              if
                  IntKind.wrap IntKind.i64 (nxtN L C T R F W U (if t > (0 : Int) then t else (0 : Int)) - t) <
                    (1 : Int) then
                (0 : Int)
              else
                if
                    Int.tmod
                        (Int.tmod w
                          (IntKind.wrap IntKind.i64 (nxtN L C T R F W U (if t > (0 : Int) then t else (0 : Int)) - t)))
                        (IntKind.wrap IntKind.i64 (nxtN L C T R F W U (if t > (0 : Int) then t else (0 : Int)) - t)) <
                      (0 : Int) then
                  IntKind.wrap IntKind.i64
                    (Int.tmod
                        (Int.tmod w
                          (IntKind.wrap IntKind.i64 (nxtN L C T R F W U (if t > (0 : Int) then t else (0 : Int)) - t)))
                        (IntKind.wrap IntKind.i64 (nxtN L C T R F W U (if t > (0 : Int) then t else (0 : Int)) - t)) +
                      IntKind.wrap IntKind.i64 (nxtN L C T R F W U (if t > (0 : Int) then t else (0 : Int)) - t))
                else
                  Int.tmod
                    (Int.tmod w
                      (IntKind.wrap IntKind.i64 (nxtN L C T R F W U (if t > (0 : Int) then t else (0 : Int)) - t)))
                    (IntKind.wrap IntKind.i64 (nxtN L C T R F W U (if t > (0 : Int) then t else (0 : Int)) - t)))) =
        (0 : Int))) = true ∧
                      ((!decide
    (atE L C T R F W U
        (IntKind.wrap IntKind.i64
          (t +
            if
                IntKind.wrap IntKind.i64 (nxtN L C T R F W U (if t > (0 : Int) then t else (0 : Int)) - t) <
                  (1 : Int) then
              (0 : Int)
            else
              if
                  Int.tmod
                      (Int.tmod w
                        (IntKind.wrap IntKind.i64 (nxtN L C T R F W U (if t > (0 : Int) then t else (0 : Int)) - t)))
                      (IntKind.wrap IntKind.i64 (nxtN L C T R F W U (if t > (0 : Int) then t else (0 : Int)) - t)) <
                    (0 : Int) then
                IntKind.wrap IntKind.i64
                  (Int.tmod
                      (Int.tmod w
                        (IntKind.wrap IntKind.i64 (nxtN L C T R F W U (if t > (0 : Int) then t else (0 : Int)) - t)))
                      (IntKind.wrap IntKind.i64 (nxtN L C T R F W U (if t > (0 : Int) then t else (0 : Int)) - t)) +
                    IntKind.wrap IntKind.i64 (nxtN L C T R F W U (if t > (0 : Int) then t else (0 : Int)) - t))
              else
                Int.tmod
                  (Int.tmod w
                    (IntKind.wrap IntKind.i64 (nxtN L C T R F W U (if t > (0 : Int) then t else (0 : Int)) - t)))
                  (IntKind.wrap IntKind.i64 (nxtN L C T R F W U (if t > (0 : Int) then t else (0 : Int)) - t)))) =
      (0 : Int))) = false ∧
                      (((!decide
    (atD L C T R F W U
        (IntKind.wrap IntKind.i64
          (t +
            if
                IntKind.wrap IntKind.i64 (nxtN L C T R F W U (if t > (0 : Int) then t else (0 : Int)) - t) <
                  (1 : Int) then
              (0 : Int)
            else
              if
                  Int.tmod
                      (Int.tmod w
                        (IntKind.wrap IntKind.i64 (nxtN L C T R F W U (if t > (0 : Int) then t else (0 : Int)) - t)))
                      (IntKind.wrap IntKind.i64 (nxtN L C T R F W U (if t > (0 : Int) then t else (0 : Int)) - t)) <
                    (0 : Int) then
                IntKind.wrap IntKind.i64
                  (Int.tmod
                      (Int.tmod w
                        (IntKind.wrap IntKind.i64 (nxtN L C T R F W U (if t > (0 : Int) then t else (0 : Int)) - t)))
                      (IntKind.wrap IntKind.i64 (nxtN L C T R F W U (if t > (0 : Int) then t else (0 : Int)) - t)) +
                    IntKind.wrap IntKind.i64 (nxtN L C T R F W U (if t > (0 : Int) then t else (0 : Int)) - t))
              else
                Int.tmod
                  (Int.tmod w
                    (IntKind.wrap IntKind.i64 (nxtN L C T R F W U (if t > (0 : Int) then t else (0 : Int)) - t)))
                  (IntKind.wrap IntKind.i64 (nxtN L C T R F W U (if t > (0 : Int) then t else (0 : Int)) - t)))) =
      (0 : Int))) = true →
                        K (AV.bool false)) ∧
                      ((!decide
    (atD L C T R F W U
        (IntKind.wrap IntKind.i64
          (t +
            if
                IntKind.wrap IntKind.i64 (nxtN L C T R F W U (if t > (0 : Int) then t else (0 : Int)) - t) <
                  (1 : Int) then
              (0 : Int)
            else
              if
                  Int.tmod
                      (Int.tmod w
                        (IntKind.wrap IntKind.i64 (nxtN L C T R F W U (if t > (0 : Int) then t else (0 : Int)) - t)))
                      (IntKind.wrap IntKind.i64 (nxtN L C T R F W U (if t > (0 : Int) then t else (0 : Int)) - t)) <
                    (0 : Int) then
                IntKind.wrap IntKind.i64
                  (Int.tmod
                      (Int.tmod w
                        (IntKind.wrap IntKind.i64 (nxtN L C T R F W U (if t > (0 : Int) then t else (0 : Int)) - t)))
                      (IntKind.wrap IntKind.i64 (nxtN L C T R F W U (if t > (0 : Int) then t else (0 : Int)) - t)) +
                    IntKind.wrap IntKind.i64 (nxtN L C T R F W U (if t > (0 : Int) then t else (0 : Int)) - t))
              else
                Int.tmod
                  (Int.tmod w
                    (IntKind.wrap IntKind.i64 (nxtN L C T R F W U (if t > (0 : Int) then t else (0 : Int)) - t)))
                  (IntKind.wrap IntKind.i64 (nxtN L C T R F W U (if t > (0 : Int) then t else (0 : Int)) - t)))) =
      (0 : Int))) = false →
                        (nxPre L C T R F W U
  (if
      IntKind.wrap IntKind.i64 (nxtN L C T R F W U (if t > (0 : Int) then t else (0 : Int)) + (1 : Int)) >
        (0 : Int) then
    IntKind.wrap IntKind.i64 (nxtN L C T R F W U (if t > (0 : Int) then t else (0 : Int)) + (1 : Int))
  else (0 : Int))) = true ∧
                        (K
  (AV.bool
    (decide
      (nxtN L C T R F W U
          (if
              IntKind.wrap IntKind.i64 (nxtN L C T R F W U (if t > (0 : Int) then t else (0 : Int)) + (1 : Int)) >
                (0 : Int) then
            IntKind.wrap IntKind.i64 (nxtN L C T R F W U (if t > (0 : Int) then t else (0 : Int)) + (1 : Int))
          else (0 : Int)) >
        nxtN L C T R F W U (if t > (0 : Int) then t else (0 : Int))))))))))) ∧
                    ((!!decide
      (atE L C T R F W U
          (IntKind.wrap IntKind.i64
            (t +
              if
                  IntKind.wrap IntKind.i64 (nxtN L C T R F W U (if t > (0 : Int) then t else (0 : Int)) - t) <
                    (1 : Int) then
                (0 : Int)
              else
                if
                    Int.tmod
                        (Int.tmod w
                          (IntKind.wrap IntKind.i64 (nxtN L C T R F W U (if t > (0 : Int) then t else (0 : Int)) - t)))
                        (IntKind.wrap IntKind.i64 (nxtN L C T R F W U (if t > (0 : Int) then t else (0 : Int)) - t)) <
                      (0 : Int) then
                  IntKind.wrap IntKind.i64
                    (Int.tmod
                        (Int.tmod w
                          (IntKind.wrap IntKind.i64 (nxtN L C T R F W U (if t > (0 : Int) then t else (0 : Int)) - t)))
                        (IntKind.wrap IntKind.i64 (nxtN L C T R F W U (if t > (0 : Int) then t else (0 : Int)) - t)) +
                      IntKind.wrap IntKind.i64 (nxtN L C T R F W U (if t > (0 : Int) then t else (0 : Int)) - t))
                else
                  Int.tmod
                    (Int.tmod w
                      (IntKind.wrap IntKind.i64 (nxtN L C T R F W U (if t > (0 : Int) then t else (0 : Int)) - t)))
                    (IntKind.wrap IntKind.i64 (nxtN L C T R F W U (if t > (0 : Int) then t else (0 : Int)) - t)))) =
        (0 : Int))) = false →
                      (!!decide
      (atE L C T R F W U
          (IntKind.wrap IntKind.i64
            (t +
              if
                  IntKind.wrap IntKind.i64 (nxtN L C T R F W U (if t > (0 : Int) then t else (0 : Int)) - t) <
                    (1 : Int) then
                (0 : Int)
              else
                if
                    Int.tmod
                        (Int.tmod w
                          (IntKind.wrap IntKind.i64 (nxtN L C T R F W U (if t > (0 : Int) then t else (0 : Int)) - t)))
                        (IntKind.wrap IntKind.i64 (nxtN L C T R F W U (if t > (0 : Int) then t else (0 : Int)) - t)) <
                      (0 : Int) then
                  IntKind.wrap IntKind.i64
                    (Int.tmod
                        (Int.tmod w
                          (IntKind.wrap IntKind.i64 (nxtN L C T R F W U (if t > (0 : Int) then t else (0 : Int)) - t)))
                        (IntKind.wrap IntKind.i64 (nxtN L C T R F W U (if t > (0 : Int) then t else (0 : Int)) - t)) +
                      IntKind.wrap IntKind.i64 (nxtN L C T R F W U (if t > (0 : Int) then t else (0 : Int)) - t))
                else
                  Int.tmod
                    (Int.tmod w
                      (IntKind.wrap IntKind.i64 (nxtN L C T R F W U (if t > (0 : Int) then t else (0 : Int)) - t)))
                    (IntKind.wrap IntKind.i64 (nxtN L C T R F W U (if t > (0 : Int) then t else (0 : Int)) - t)))) =
        (0 : Int))) = false ∧
                      ((!!decide
      (atE L C T R F W U
          (IntKind.wrap IntKind.i64
            (t +
              if
                  IntKind.wrap IntKind.i64 (nxtN L C T R F W U (if t > (0 : Int) then t else (0 : Int)) - t) <
                    (1 : Int) then
                (0 : Int)
              else
                if
                    Int.tmod
                        (Int.tmod w
                          (IntKind.wrap IntKind.i64 (nxtN L C T R F W U (if t > (0 : Int) then t else (0 : Int)) - t)))
                        (IntKind.wrap IntKind.i64 (nxtN L C T R F W U (if t > (0 : Int) then t else (0 : Int)) - t)) <
                      (0 : Int) then
                  IntKind.wrap IntKind.i64
                    (Int.tmod
                        (Int.tmod w
                          (IntKind.wrap IntKind.i64 (nxtN L C T R F W U (if t > (0 : Int) then t else (0 : Int)) - t)))
                        (IntKind.wrap IntKind.i64 (nxtN L C T R F W U (if t > (0 : Int) then t else (0 : Int)) - t)) +
                      IntKind.wrap IntKind.i64 (nxtN L C T R F W U (if t > (0 : Int) then t else (0 : Int)) - t))
                else
                  Int.tmod
                    (Int.tmod w
                      (IntKind.wrap IntKind.i64 (nxtN L C T R F W U (if t > (0 : Int) then t else (0 : Int)) - t)))
                    (IntKind.wrap IntKind.i64 (nxtN L C T R F W U (if t > (0 : Int) then t else (0 : Int)) - t)))) =
        (0 : Int))) = false ∧
                      ((!decide
    (atE L C T R F W U
        (IntKind.wrap IntKind.i64
          (t +
            if
                IntKind.wrap IntKind.i64 (nxtN L C T R F W U (if t > (0 : Int) then t else (0 : Int)) - t) <
                  (1 : Int) then
              (0 : Int)
            else
              if
                  Int.tmod
                      (Int.tmod w
                        (IntKind.wrap IntKind.i64 (nxtN L C T R F W U (if t > (0 : Int) then t else (0 : Int)) - t)))
                      (IntKind.wrap IntKind.i64 (nxtN L C T R F W U (if t > (0 : Int) then t else (0 : Int)) - t)) <
                    (0 : Int) then
                IntKind.wrap IntKind.i64
                  (Int.tmod
                      (Int.tmod w
                        (IntKind.wrap IntKind.i64 (nxtN L C T R F W U (if t > (0 : Int) then t else (0 : Int)) - t)))
                      (IntKind.wrap IntKind.i64 (nxtN L C T R F W U (if t > (0 : Int) then t else (0 : Int)) - t)) +
                    IntKind.wrap IntKind.i64 (nxtN L C T R F W U (if t > (0 : Int) then t else (0 : Int)) - t))
              else
                Int.tmod
                  (Int.tmod w
                    (IntKind.wrap IntKind.i64 (nxtN L C T R F W U (if t > (0 : Int) then t else (0 : Int)) - t)))
                  (IntKind.wrap IntKind.i64 (nxtN L C T R F W U (if t > (0 : Int) then t else (0 : Int)) - t)))) =
      (0 : Int))) = true ∧
                      (K (AV.bool false))))))) ∧
                  ((decide (nxtN L C T R F W U (if t > (0 : Int) then t else (0 : Int)) > t)) = false →
                    (nxPre L C T R F W U
  (if
      IntKind.wrap IntKind.i64 (nxtN L C T R F W U (if t > (0 : Int) then t else (0 : Int)) + (1 : Int)) >
        (0 : Int) then
    IntKind.wrap IntKind.i64 (nxtN L C T R F W U (if t > (0 : Int) then t else (0 : Int)) + (1 : Int))
  else (0 : Int))) = true ∧
                    (K
  (AV.bool
    (decide
      (nxtN L C T R F W U
          (if
              IntKind.wrap IntKind.i64 (nxtN L C T R F W U (if t > (0 : Int) then t else (0 : Int)) + (1 : Int)) >
                (0 : Int) then
            IntKind.wrap IntKind.i64 (nxtN L C T R F W U (if t > (0 : Int) then t else (0 : Int)) + (1 : Int))
          else (0 : Int)) >
        nxtN L C T R F W U (if t > (0 : Int) then t else (0 : Int)))))))))))) ∧
              ((!!(atD L C T R F W U (nxtN L C T R F W U (if t > (0 : Int) then t else (0 : Int))) ==
        atD L C T R F W U (nxtN L C T R F W U (if t > (0 : Int) then t else (0 : Int))) &&
      (atX L C T R F W U (nxtN L C T R F W U (if t > (0 : Int) then t else (0 : Int))) ==
          atX L C T R F W U (nxtN L C T R F W U (if t > (0 : Int) then t else (0 : Int))) &&
        (atY L C T R F W U (nxtN L C T R F W U (if t > (0 : Int) then t else (0 : Int))) ==
            atY L C T R F W U (nxtN L C T R F W U (if t > (0 : Int) then t else (0 : Int))) &&
          true)))) = false →
                (!!(atD L C T R F W U (nxtN L C T R F W U (if t > (0 : Int) then t else (0 : Int))) ==
        atD L C T R F W U (nxtN L C T R F W U (if t > (0 : Int) then t else (0 : Int))) &&
      (atX L C T R F W U (nxtN L C T R F W U (if t > (0 : Int) then t else (0 : Int))) ==
          atX L C T R F W U (nxtN L C T R F W U (if t > (0 : Int) then t else (0 : Int))) &&
        (atY L C T R F W U (nxtN L C T R F W U (if t > (0 : Int) then t else (0 : Int))) ==
            atY L C T R F W U (nxtN L C T R F W U (if t > (0 : Int) then t else (0 : Int))) &&
          true)))) = false ∧
                ((!!(atD L C T R F W U (nxtN L C T R F W U (if t > (0 : Int) then t else (0 : Int))) ==
        atD L C T R F W U (nxtN L C T R F W U (if t > (0 : Int) then t else (0 : Int))) &&
      (atX L C T R F W U (nxtN L C T R F W U (if t > (0 : Int) then t else (0 : Int))) ==
          atX L C T R F W U (nxtN L C T R F W U (if t > (0 : Int) then t else (0 : Int))) &&
        (atY L C T R F W U (nxtN L C T R F W U (if t > (0 : Int) then t else (0 : Int))) ==
            atY L C T R F W U (nxtN L C T R F W U (if t > (0 : Int) then t else (0 : Int))) &&
          true)))) = false ∧
                ((!(atD L C T R F W U (nxtN L C T R F W U (if t > (0 : Int) then t else (0 : Int))) ==
      atD L C T R F W U (nxtN L C T R F W U (if t > (0 : Int) then t else (0 : Int))) &&
    (atX L C T R F W U (nxtN L C T R F W U (if t > (0 : Int) then t else (0 : Int))) ==
        atX L C T R F W U (nxtN L C T R F W U (if t > (0 : Int) then t else (0 : Int))) &&
      (atY L C T R F W U (nxtN L C T R F W U (if t > (0 : Int) then t else (0 : Int))) ==
          atY L C T R F W U (nxtN L C T R F W U (if t > (0 : Int) then t else (0 : Int))) &&
        true)))) = true ∧
                (K (AV.bool false))))))))) ∧
            ((!!decide (atE L C T R F W U (nxtN L C T R F W U (if t > (0 : Int) then t else (0 : Int))) = (0 : Int))) = false →
              (!!decide (atE L C T R F W U (nxtN L C T R F W U (if t > (0 : Int) then t else (0 : Int))) = (0 : Int))) = false ∧
              ((!!decide (atE L C T R F W U (nxtN L C T R F W U (if t > (0 : Int) then t else (0 : Int))) = (0 : Int))) = false ∧
              ((!decide (atE L C T R F W U (nxtN L C T R F W U (if t > (0 : Int) then t else (0 : Int))) = (0 : Int))) = true ∧
              (K (AV.bool false)))))))) ∧
          ((!decide
    (IntKind.wrap IntKind.i64 (nxtN L C T R F W U (if t > (0 : Int) then t else (0 : Int)) - t) > lenF L C T R F W U)) = false →
            (!decide
    (IntKind.wrap IntKind.i64 (nxtN L C T R F W U (if t > (0 : Int) then t else (0 : Int)) - t) > lenF L C T R F W U)) = false ∧
            ((decide (IntKind.wrap IntKind.i64 (nxtN L C T R F W U (if t > (0 : Int) then t else (0 : Int)) - t) > lenF L C T R F W U)) = true ∧
            (K (AV.bool false))))))))))) ∧
        ((!decide (nxtN L C T R F W U (if t > (0 : Int) then t else (0 : Int)) < t)) = false →
          (!decide (nxtN L C T R F W U (if t > (0 : Int) then t else (0 : Int)) < t)) = false ∧
          ((!decide (nxtN L C T R F W U (if t > (0 : Int) then t else (0 : Int)) < t)) = false ∧
          ((!decide (nxtN L C T R F W U (if t > (0 : Int) then t else (0 : Int)) < t)) = false ∧
          ((!decide (nxtN L C T R F W U (if t > (0 : Int) then t else (0 : Int)) < t)) = false ∧
          ((!decide (nxtN L C T R F W U (if t > (0 : Int) then t else (0 : Int)) < t)) = false ∧
          ((decide (nxtN L C T R F W U (if t > (0 : Int) then t else (0 : Int)) < t)) = true ∧
          (K (AV.bool false))))))))))))) ∧
    ((!decide (t < (0 : Int))) = false →
      (!decide (t < (0 : Int))) = false ∧
      ((decide (t < (0 : Int))) = true ∧
      (K (AV.bool true))))))) ∧
  ((!!decide ((if okF L C T R F W U = true then (0 : Int) else (2 : Int)) = (0 : Int))) = false →
    (!!decide ((if okF L C T R F W U = true then (0 : Int) else (2 : Int)) = (0 : Int))) = false ∧
    ((!decide ((if okF L C T R F W U = true then (0 : Int) else (2 : Int)) = (0 : Int))) = true ∧
    (K (AV.bool true))))
def nxLaw_scr : Plan := .k (.b (.t (.f (.b (.t (.f (.b (.z) (.t (.k (.b (.t (.t (.t (.t (.t (.f (.b (.t (.f (.b (.t (.t (.f (.b (.t (.t (.f (.b (.z) (.b (.t (.b (.t (.t (.f (.b (.z) (.t (.z)))))) (.f (.f (.t (.z)))))) (.t (.z))))))) (.f (.f (.t (.z)))))))) (.f (.f (.t (.z))))))) (.f (.t (.z)))))))))) (.f (.f (.f (.f (.f (.t (.z))))))))))))) (.f (.t (.z)))))) (.f (.t (.z))))
theorem nxLaw_vc (L C T R F W U t w : Int) (K : AV → Prop) : (funP (XRn2) 7 [.agg [.int .i64 L, .int .i64 C, .int .i64 T, .int .i64 R, .int .i64 F, .int .i64 W, .int .i64 U], .int .i64 t, .int .i64 w] h0 nxLaw_scr (fun v _ _ => K v)) = nxLaw_VC L C T R F W U t w K := by kernel_rfl
end Go.Proofs.Ytnfelncgeihihaa.V
