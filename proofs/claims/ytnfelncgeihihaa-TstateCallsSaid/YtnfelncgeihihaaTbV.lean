/- Printed by vc.py: what must hold for functions' ways (TbV). -/
import Derived.Test.YtnfelncgeihihaaTbA
namespace Go.Proofs.Ytnfelncgeihihaa.V
open Go Go.Proofs
set_option maxRecDepth 100000
set_option linter.unusedVariables false
def clS_VC (n : Nat) (cs : List AV) (K : AV → AH → Prop) : Prop :=
  (decide ((0 : Nat) < n)) = true ∧
  ((decide ((0 : Nat) + n * (1 : Nat) ≤ List.length cs)) = true ∧
  ((decide (n * (1 : Nat) ≤ (140737488355328 : Nat))) = true ∧
  ((decide (n ≤ (140737488355328 : Nat))) = true ∧
  (K (AV.slice (2 : Nat) (0 : Nat) n none)
  { nx := (3 : Nat),
    m :=
      [((2 : Nat), AObj.opn (5 : Nat) (1 : Nat) (List.take (n * (1 : Nat)) (List.drop (0 : Nat) cs))),
        ((1 : Nat), AObj.cells (5 : Nat) []), ((0 : Nat), AObj.ro cs)] }))))
def clS_scr : Plan := .k (.t (.t (.t (.t (.z)))))
theorem clS_vc (n : Nat) (cs : List AV) (K : AV → AH → Prop) : (funP (XNu) 84 [.slice 0 0 n none] ⟨1, [(0, .ro cs)]⟩ clS_scr (fun v σ _ => K v σ)) = clS_VC n cs K := by kernel_rfl
def nuN_VC (x : Int) (K : AV → AH → Prop) : Prop :=
  ((decide (x ≤ (247 : Int))) = true →
    K (AV.slice (1 : Nat) (0 : Nat) (1 : Nat) none)
  { nx := (2 : Nat),
    m :=
      [((1 : Nat), AObj.opn (5 : Nat) (1 : Nat) [AV.int IntKind.u8 (IntKind.wrap IntKind.u8 x)]),
        ((0 : Nat), AObj.cells (5 : Nat) [AV.int IntKind.u8 (IntKind.wrap IntKind.u8 x)])] }) ∧
  ((decide (x ≤ (247 : Int))) = false →
    ((decide (x > (0 : Int))) = true →
      ((decide (x / (256 : Int) > (0 : Int))) = true →
        ((decide (x / (256 : Int) / (256 : Int) > (0 : Int))) = true →
          False) ∧
        ((decide (x / (256 : Int) / (256 : Int) > (0 : Int))) = false →
          (decide (x > (0 : Int))) = true ∧
          ((decide (x / (256 : Int) > (0 : Int))) = true ∧
          ((decide (x / (256 : Int) / (256 : Int) > (0 : Int))) = false ∧
          (K (AV.slice (5 : Nat) (0 : Nat) (3 : Nat) none)
  { nx := (6 : Nat),
    m :=
      [((5 : Nat),
          AObj.opn (5 : Nat) (1 : Nat)
            [AV.int IntKind.u8 (249 : Int), AV.int IntKind.u8 (IntKind.wrap IntKind.u8 x),
              AV.int IntKind.u8 (IntKind.wrap IntKind.u8 (x / (256 : Int)))]),
        ((4 : Nat), AObj.cells (5 : Nat) [AV.int IntKind.u8 (IntKind.wrap IntKind.u8 (x / (256 : Int)))]),
        ((3 : Nat), AObj.dead), ((2 : Nat), AObj.cells (5 : Nat) [AV.int IntKind.u8 (IntKind.wrap IntKind.u8 x)]),
        ((1 : Nat), AObj.dead), ((0 : Nat), AObj.cells (5 : Nat) [AV.int IntKind.u8 (249 : Int)])] }))))) ∧
      ((decide (x / (256 : Int) > (0 : Int))) = false →
        (decide (x > (0 : Int))) = true ∧
        ((decide (x / (256 : Int) > (0 : Int))) = false ∧
        (K (AV.slice (3 : Nat) (0 : Nat) (2 : Nat) none)
  { nx := (4 : Nat),
    m :=
      [((3 : Nat),
          AObj.opn (5 : Nat) (1 : Nat) [AV.int IntKind.u8 (248 : Int), AV.int IntKind.u8 (IntKind.wrap IntKind.u8 x)]),
        ((2 : Nat), AObj.cells (5 : Nat) [AV.int IntKind.u8 (IntKind.wrap IntKind.u8 x)]), ((1 : Nat), AObj.dead),
        ((0 : Nat), AObj.cells (5 : Nat) [AV.int IntKind.u8 (248 : Int)])] })))) ∧
    ((decide (x > (0 : Int))) = false →
      (decide (x > (0 : Int))) = false ∧
      (K (AV.slice (1 : Nat) (0 : Nat) (1 : Nat) none)
  { nx := (2 : Nat),
    m :=
      [((1 : Nat), AObj.opn (5 : Nat) (1 : Nat) [AV.int IntKind.u8 (247 : Int)]),
        ((0 : Nat), AObj.cells (5 : Nat) [AV.int IntKind.u8 (247 : Int)])] })))
def nuN_scr : Plan := .k (.b (.z) (.b (.b (.b (.z) (.t (.k (.k (.k (.k (.t (.k (.k (.k (.k (.f (.z))))))))))))) (.t (.k (.k (.k (.k (.f (.z)))))))) (.f (.z))))
theorem nuN_vc (x : Int) (K : AV → AH → Prop) : (funP (XNu) 75 [.nilslice, .int .u64 x] ⟨0, []⟩ nuN_scr (fun v σ _ => K v σ)) = nuN_VC x K := by kernel_rfl
def nuS_VC (x : Int) (n : Nat) (cs : List AV) (K : AV → AH → Prop) : Prop :=
  (decide ((0 : Nat) < n)) = true ∧
  ((decide ((0 : Nat) + n * (1 : Nat) ≤ List.length cs)) = true ∧
  ((decide (n * (1 : Nat) ≤ (140737488355328 : Nat))) = true ∧
  ((decide (n ≤ (140737488355328 : Nat))) = true ∧
  (((decide (x ≤ (247 : Int))) = true →
    (decide ((0 : Nat) < n)) = true ∧
    ((decide (n * (1 : Nat) = List.length (List.take (n * (1 : Nat)) (List.drop (0 : Nat) cs)))) = true ∧
    ((decide ((n + (1 : Nat)) * (1 : Nat) ≤ (140737488355328 : Nat))) = true ∧
    ((decide (n + (1 : Nat) ≤ (140737488355328 : Nat))) = true ∧
    (K (AV.slice (4 : Nat) (0 : Nat) (n + (1 : Nat)) none)
  { nx := (5 : Nat),
    m :=
      [((4 : Nat),
          AObj.opn (5 : Nat) (1 : Nat)
            (List.take (n * (1 : Nat)) (List.drop (0 : Nat) cs) ++ [AV.int IntKind.u8 (IntKind.wrap IntKind.u8 x)])),
        ((3 : Nat), AObj.cells (5 : Nat) [AV.int IntKind.u8 (IntKind.wrap IntKind.u8 x)]), ((2 : Nat), AObj.dead),
        ((1 : Nat), AObj.cells (5 : Nat) []), ((0 : Nat), AObj.ro cs)] }))))) ∧
  ((decide (x ≤ (247 : Int))) = false →
    ((decide (x > (0 : Int))) = true →
      ((decide (x / (256 : Int) > (0 : Int))) = true →
        ((decide (x / (256 : Int) / (256 : Int) > (0 : Int))) = true →
          False) ∧
        ((decide (x / (256 : Int) / (256 : Int) > (0 : Int))) = false →
          (decide ((0 : Nat) < n)) = true ∧
          ((decide (n * (1 : Nat) = List.length (List.take (n * (1 : Nat)) (List.drop (0 : Nat) cs)))) = true ∧
          ((decide ((n + (1 : Nat)) * (1 : Nat) ≤ (140737488355328 : Nat))) = true ∧
          ((decide (n + (1 : Nat) ≤ (140737488355328 : Nat))) = true ∧
          ((decide (x > (0 : Int))) = true ∧
          ((decide
  ((n + (1 : Nat)) * (1 : Nat) =
    List.length (List.take (n * (1 : Nat)) (List.drop (0 : Nat) cs) ++ [AV.int IntKind.u8 (249 : Int)]))) = true ∧
          ((decide ((n + (1 : Nat) + (1 : Nat)) * (1 : Nat) ≤ (140737488355328 : Nat))) = true ∧
          ((decide (n + (1 : Nat) + (1 : Nat) ≤ (140737488355328 : Nat))) = true ∧
          ((decide (x / (256 : Int) > (0 : Int))) = true ∧
          ((decide
  ((n + (1 : Nat) + (1 : Nat)) * (1 : Nat) =
    List.length
      (List.take (n * (1 : Nat)) (List.drop (0 : Nat) cs) ++ [AV.int IntKind.u8 (249 : Int)] ++
        [AV.int IntKind.u8 (IntKind.wrap IntKind.u8 x)]))) = true ∧
          ((decide ((n + (1 : Nat) + (1 : Nat) + (1 : Nat)) * (1 : Nat) ≤ (140737488355328 : Nat))) = true ∧
          ((decide (n + (1 : Nat) + (1 : Nat) + (1 : Nat) ≤ (140737488355328 : Nat))) = true ∧
          ((decide (x / (256 : Int) / (256 : Int) > (0 : Int))) = false ∧
          (K (AV.slice (8 : Nat) (0 : Nat) (n + (1 : Nat) + (1 : Nat) + (1 : Nat)) none)
  { nx := (9 : Nat),
    m :=
      [((8 : Nat),
          AObj.opn (5 : Nat) (1 : Nat)
            (List.take (n * (1 : Nat)) (List.drop (0 : Nat) cs) ++ [AV.int IntKind.u8 (249 : Int)] ++
                [AV.int IntKind.u8 (IntKind.wrap IntKind.u8 x)] ++
              [AV.int IntKind.u8 (IntKind.wrap IntKind.u8 (x / (256 : Int)))])),
        ((7 : Nat), AObj.cells (5 : Nat) [AV.int IntKind.u8 (IntKind.wrap IntKind.u8 (x / (256 : Int)))]),
        ((6 : Nat), AObj.dead), ((5 : Nat), AObj.cells (5 : Nat) [AV.int IntKind.u8 (IntKind.wrap IntKind.u8 x)]),
        ((4 : Nat), AObj.dead), ((3 : Nat), AObj.cells (5 : Nat) [AV.int IntKind.u8 (249 : Int)]),
        ((2 : Nat), AObj.dead), ((1 : Nat), AObj.cells (5 : Nat) []), ((0 : Nat), AObj.ro cs)] }))))))))))))))) ∧
      ((decide (x / (256 : Int) > (0 : Int))) = false →
        (decide ((0 : Nat) < n)) = true ∧
        ((decide (n * (1 : Nat) = List.length (List.take (n * (1 : Nat)) (List.drop (0 : Nat) cs)))) = true ∧
        ((decide ((n + (1 : Nat)) * (1 : Nat) ≤ (140737488355328 : Nat))) = true ∧
        ((decide (n + (1 : Nat) ≤ (140737488355328 : Nat))) = true ∧
        ((decide (x > (0 : Int))) = true ∧
        ((decide
  ((n + (1 : Nat)) * (1 : Nat) =
    List.length (List.take (n * (1 : Nat)) (List.drop (0 : Nat) cs) ++ [AV.int IntKind.u8 (248 : Int)]))) = true ∧
        ((decide ((n + (1 : Nat) + (1 : Nat)) * (1 : Nat) ≤ (140737488355328 : Nat))) = true ∧
        ((decide (n + (1 : Nat) + (1 : Nat) ≤ (140737488355328 : Nat))) = true ∧
        ((decide (x / (256 : Int) > (0 : Int))) = false ∧
        (K (AV.slice (6 : Nat) (0 : Nat) (n + (1 : Nat) + (1 : Nat)) none)
  { nx := (7 : Nat),
    m :=
      [((6 : Nat),
          AObj.opn (5 : Nat) (1 : Nat)
            (List.take (n * (1 : Nat)) (List.drop (0 : Nat) cs) ++ [AV.int IntKind.u8 (248 : Int)] ++
              [AV.int IntKind.u8 (IntKind.wrap IntKind.u8 x)])),
        ((5 : Nat), AObj.cells (5 : Nat) [AV.int IntKind.u8 (IntKind.wrap IntKind.u8 x)]), ((4 : Nat), AObj.dead),
        ((3 : Nat), AObj.cells (5 : Nat) [AV.int IntKind.u8 (248 : Int)]), ((2 : Nat), AObj.dead),
        ((1 : Nat), AObj.cells (5 : Nat) []), ((0 : Nat), AObj.ro cs)] }))))))))))) ∧
    ((decide (x > (0 : Int))) = false →
      (decide ((0 : Nat) < n)) = true ∧
      ((decide (n * (1 : Nat) = List.length (List.take (n * (1 : Nat)) (List.drop (0 : Nat) cs)))) = true ∧
      ((decide ((n + (1 : Nat)) * (1 : Nat) ≤ (140737488355328 : Nat))) = true ∧
      ((decide (n + (1 : Nat) ≤ (140737488355328 : Nat))) = true ∧
      ((decide (x > (0 : Int))) = false ∧
      (K (AV.slice (4 : Nat) (0 : Nat) (n + (1 : Nat)) none)
  { nx := (5 : Nat),
    m :=
      [((4 : Nat),
          AObj.opn (5 : Nat) (1 : Nat)
            (List.take (n * (1 : Nat)) (List.drop (0 : Nat) cs) ++ [AV.int IntKind.u8 (247 : Int)])),
        ((3 : Nat), AObj.cells (5 : Nat) [AV.int IntKind.u8 (247 : Int)]), ((2 : Nat), AObj.dead),
        ((1 : Nat), AObj.cells (5 : Nat) []), ((0 : Nat), AObj.ro cs)] })))))))))))
def nuS_scr : Plan := .k (.t (.t (.t (.t (.b (.t (.t (.t (.t (.z))))) (.b (.b (.b (.z) (.t (.t (.t (.t (.t (.k (.t (.t (.t (.t (.k (.t (.t (.t (.f (.z))))))))))))))))) (.t (.t (.t (.t (.t (.k (.t (.t (.t (.f (.z)))))))))))) (.t (.t (.t (.t (.f (.z))))))))))))
theorem nuS_vc (x : Int) (n : Nat) (cs : List AV) (K : AV → AH → Prop) : (funP (XNu) 75 [.slice 0 0 n none, .int .u64 x] ⟨1, [(0, .ro cs)]⟩ nuS_scr (fun v σ _ => K v σ)) = nuS_VC x n cs K := by kernel_rfl
def tim_VC (L C T R F W U f l c : Int) (K : AV → Prop) : Prop :=
  ((!decide (lenF L C T R F W U = (0 : Int))) = true →
    (!decide (lenF L C T R F W U = (0 : Int))) = true ∧
    ((!decide (lenF L C T R F W U = (0 : Int))) = true ∧
    ((decide (lenF L C T R F W U = (0 : Int))) = false ∧
    (((!decide (f < (0 : Int))) = true →
      (!decide (f < (0 : Int))) = true ∧
      ((!decide (f < (0 : Int))) = true ∧
      ((decide (f < (0 : Int))) = false ∧
      (((!decide (f > (1099511627776 : Int))) = true →
        (!decide (f > (1099511627776 : Int))) = true ∧
        ((!decide (f > (1099511627776 : Int))) = true ∧
        ((decide (f > (1099511627776 : Int))) = false ∧
        (((!decide (l < (0 : Int))) = true →
          (!decide (l < (0 : Int))) = true ∧
          ((!decide (l < (0 : Int))) = true ∧
          ((!decide (l < (0 : Int))) = true ∧
          ((!decide (l < (0 : Int))) = true ∧
          ((decide (l < (0 : Int))) = false ∧
          (((!decide (l ≥ L)) = true →
            (!decide (l ≥ L)) = true ∧
            ((!decide (l ≥ L)) = true ∧
            ((decide (l ≥ L)) = false ∧
            (((!decide (c < (0 : Int))) = true →
              (!decide (c < (0 : Int))) = true ∧
              ((!decide (c < (0 : Int))) = true ∧
              ((!decide (c < (0 : Int))) = true ∧
              ((!decide (c < (0 : Int))) = true ∧
              ((decide (c < (0 : Int))) = false ∧
              (((!decide (c ≥ C)) = true →
                (!decide (c ≥ C)) = true ∧
                ((!decide (c ≥ C)) = true ∧
                ((!decide (c ≥ C)) = true ∧
                ((!decide (lenF L C T R F W U = (0 : Int))) = true ∧
                ((!decide (c ≥ C)) = true ∧
                ((decide (c ≥ C)) = false ∧
                (((decide (f > IntKind.wrap IntKind.i64 (Int.tdiv (1099511627776 : Int) (lenF L C T R F W U)))) = true →
                  K (AV.tup [AV.int IntKind.i64 (0 : Int), AV.int IntKind.i64 (2 : Int)])) ∧
                ((decide (f > IntKind.wrap IntKind.i64 (Int.tdiv (1099511627776 : Int) (lenF L C T R F W U)))) = false →
                  ((!mayB
    (IntKind.wrap IntKind.i64
      (IntKind.wrap IntKind.i64 (IntKind.wrap IntKind.i64 (f * lenF L C T R F W U) + IntKind.wrap IntKind.i64 (l * C)) +
        c))) = true →
                    K (AV.tup [AV.int IntKind.i64 (0 : Int), AV.int IntKind.i64 (2 : Int)])) ∧
                  ((!mayB
    (IntKind.wrap IntKind.i64
      (IntKind.wrap IntKind.i64 (IntKind.wrap IntKind.i64 (f * lenF L C T R F W U) + IntKind.wrap IntKind.i64 (l * C)) +
        c))) = false →
                    K
  (AV.tup
    [AV.int IntKind.i64
        (IntKind.wrap IntKind.i64
          (IntKind.wrap IntKind.i64
              (IntKind.wrap IntKind.i64 (f * lenF L C T R F W U) + IntKind.wrap IntKind.i64 (l * C)) +
            c)),
      AV.int IntKind.i64 (0 : Int)])))))))))) ∧
              ((!decide (c ≥ C)) = false →
                (!decide (c ≥ C)) = false ∧
                ((!decide (c ≥ C)) = false ∧
                ((!decide (c ≥ C)) = false ∧
                ((!decide (c ≥ C)) = false ∧
                ((decide (c ≥ C)) = true ∧
                (K (AV.tup [AV.int IntKind.i64 (0 : Int), AV.int IntKind.i64 (2 : Int)]))))))))))))) ∧
            ((!decide (c < (0 : Int))) = false →
              (!decide (c < (0 : Int))) = false ∧
              ((!decide (c < (0 : Int))) = false ∧
              ((!decide (c < (0 : Int))) = false ∧
              ((!decide (c < (0 : Int))) = false ∧
              ((decide (c < (0 : Int))) = true ∧
              (K (AV.tup [AV.int IntKind.i64 (0 : Int), AV.int IntKind.i64 (2 : Int)]))))))))))) ∧
          ((!decide (l ≥ L)) = false →
            (!decide (l ≥ L)) = false ∧
            ((!decide (l ≥ L)) = false ∧
            ((decide (l ≥ L)) = true ∧
            (K (AV.tup [AV.int IntKind.i64 (0 : Int), AV.int IntKind.i64 (2 : Int)]))))))))))) ∧
        ((!decide (l < (0 : Int))) = false →
          (!decide (l < (0 : Int))) = false ∧
          ((!decide (l < (0 : Int))) = false ∧
          ((!decide (l < (0 : Int))) = false ∧
          ((!decide (l < (0 : Int))) = false ∧
          ((decide (l < (0 : Int))) = true ∧
          (K (AV.tup [AV.int IntKind.i64 (0 : Int), AV.int IntKind.i64 (2 : Int)]))))))))))) ∧
      ((!decide (f > (1099511627776 : Int))) = false →
        (!decide (f > (1099511627776 : Int))) = false ∧
        ((!decide (f > (1099511627776 : Int))) = false ∧
        ((decide (f > (1099511627776 : Int))) = true ∧
        (K (AV.tup [AV.int IntKind.i64 (0 : Int), AV.int IntKind.i64 (2 : Int)]))))))))) ∧
    ((!decide (f < (0 : Int))) = false →
      (!decide (f < (0 : Int))) = false ∧
      ((!decide (f < (0 : Int))) = false ∧
      ((decide (f < (0 : Int))) = true ∧
      (K (AV.tup [AV.int IntKind.i64 (0 : Int), AV.int IntKind.i64 (2 : Int)]))))))))) ∧
  ((!decide (lenF L C T R F W U = (0 : Int))) = false →
    (!decide (lenF L C T R F W U = (0 : Int))) = false ∧
    ((!decide (lenF L C T R F W U = (0 : Int))) = false ∧
    ((decide (lenF L C T R F W U = (0 : Int))) = true ∧
    (K (AV.tup [AV.int IntKind.i64 (0 : Int), AV.int IntKind.i64 (2 : Int)])))))
def tim_scr : Plan := .b (.t (.t (.f (.b (.t (.t (.f (.b (.t (.t (.f (.b (.t (.t (.t (.t (.f (.b (.t (.t (.f (.b (.t (.t (.t (.t (.f (.b (.t (.t (.t (.t (.t (.f (.b (.z) (.b (.z) (.z))))))))) (.f (.f (.f (.f (.t (.z)))))))))))) (.f (.f (.f (.f (.t (.z)))))))))) (.f (.f (.t (.z)))))))))) (.f (.f (.f (.f (.t (.z)))))))))) (.f (.f (.t (.z)))))))) (.f (.f (.t (.z)))))))) (.f (.f (.t (.z))))
theorem tim_vc (L C T R F W U f l c : Int) (K : AV → Prop) : (funP (XTb) 48 [.agg [.int .i64 L, .int .i64 C, .int .i64 T, .int .i64 R, .int .i64 F, .int .i64 W, .int .i64 U], .agg [.int .i64 f, .int .i64 l, .int .i64 c]] h0 tim_scr (fun v _ _ => K v)) = tim_VC L C T R F W U f l c K := by kernel_rfl
def cnt_VC (o n : Nat) (cs : List AV) (K : AV → AH → Prop) : Prop :=
  ((decide ((↑n : Int) = (0 : Int))) = true →
    K (AV.int IntKind.i64 (0 : Int))
  { nx := (2 : Nat),
    m :=
      [((1 : Nat), AObj.cells (105 : Nat) [AV.slice (0 : Nat) o n none, AV.int IntKind.i64 (5 : Int), AV.bool true]),
        ((0 : Nat), AObj.opn (5 : Nat) (1 : Nat) cs)] }) ∧
  ((decide ((↑n : Int) = (0 : Int))) = false →
    (decide ((0 : Int) ≤ (0 : Int) ∧ (0 : Int) < (↑n : Int))) = true ∧
    ((decide (o + (0 : Nat) < List.length cs)) = true ∧
    ((AV.isI IntKind.u8 (List.getD cs (o + (0 : Nat)) (AV.tup []))) = true ∧
    (((decide (AV.toI (List.getD cs (o + (0 : Nat)) (AV.tup [])) ≤ (247 : Int))) = true →
      (decide ((0 : Nat) < n)) = true ∧
      ((decide ((0 : Int) ≤ (1 : Int) ∧ (1 : Int) ≤ (↑n : Int))) = true ∧
      ((decide (n ≤ n)) = true ∧
      (((decide (IntKind.wrap IntKind.u64 (AV.toI (List.getD cs (o + (0 : Nat)) (AV.tup []))) > (1000 : Int))) = true →
        K (AV.int IntKind.i64 (0 : Int))
  { nx := (2 : Nat),
    m :=
      [((1 : Nat),
          AObj.cells (105 : Nat)
            [AV.slice (0 : Nat) (o + (1 : Nat)) (n - (1 : Nat)) none, AV.int IntKind.i64 (3 : Int), AV.bool true]),
        ((0 : Nat), AObj.opn (5 : Nat) (1 : Nat) cs)] }) ∧
      ((decide (IntKind.wrap IntKind.u64 (AV.toI (List.getD cs (o + (0 : Nat)) (AV.tup []))) > (1000 : Int))) = false →
        K
  (AV.int IntKind.i64
    (IntKind.wrap IntKind.i64 (IntKind.wrap IntKind.u64 (AV.toI (List.getD cs (o + (0 : Nat)) (AV.tup []))))))
  { nx := (2 : Nat),
    m :=
      [((1 : Nat),
          AObj.cells (105 : Nat)
            [AV.slice (0 : Nat) (o + (1 : Nat)) (n - (1 : Nat)) none, AV.int IntKind.i64 (0 : Int), AV.bool true]),
        ((0 : Nat), AObj.opn (5 : Nat) (1 : Nat) cs)] }))))) ∧
    ((decide (AV.toI (List.getD cs (o + (0 : Nat)) (AV.tup [])) ≤ (247 : Int))) = false →
      ((decide
  ((↑n : Int) <
    IntKind.wrap IntKind.i64
      ((1 : Int) +
        IntKind.wrap IntKind.i64
          (IntKind.wrap IntKind.i64 (AV.toI (List.getD cs (o + (0 : Nat)) (AV.tup []))) - (247 : Int))))) = true →
        K (AV.int IntKind.i64 (0 : Int))
  { nx := (2 : Nat),
    m :=
      [((1 : Nat), AObj.cells (105 : Nat) [AV.slice (0 : Nat) o n none, AV.int IntKind.i64 (5 : Int), AV.bool true]),
        ((0 : Nat), AObj.opn (5 : Nat) (1 : Nat) cs)] }) ∧
      ((decide
  ((↑n : Int) <
    IntKind.wrap IntKind.i64
      ((1 : Int) +
        IntKind.wrap IntKind.i64
          (IntKind.wrap IntKind.i64 (AV.toI (List.getD cs (o + (0 : Nat)) (AV.tup []))) - (247 : Int))))) = false →
        ((decide
  (IntKind.wrap IntKind.i64
      (IntKind.wrap IntKind.i64 (AV.toI (List.getD cs (o + (0 : Nat)) (AV.tup []))) - (247 : Int)) ≥
    (1 : Int))) = true →
          (decide
  ((0 : Int) ≤
      IntKind.wrap IntKind.i64
        (IntKind.wrap IntKind.i64 (AV.toI (List.getD cs (o + (0 : Nat)) (AV.tup []))) - (247 : Int)) ∧
    IntKind.wrap IntKind.i64
        (IntKind.wrap IntKind.i64 (AV.toI (List.getD cs (o + (0 : Nat)) (AV.tup []))) - (247 : Int)) <
      (↑n : Int))) = true ∧
          ((decide
  (o +
      Int.toNat
          (IntKind.wrap IntKind.i64
            (IntKind.wrap IntKind.i64 (AV.toI (List.getD cs (o + (0 : Nat)) (AV.tup []))) - (247 : Int))) *
        (1 : Nat) <
    List.length cs)) = true ∧
          ((AV.isI IntKind.u8
  (List.getD cs
    (o +
      Int.toNat
          (IntKind.wrap IntKind.i64
            (IntKind.wrap IntKind.i64 (AV.toI (List.getD cs (o + (0 : Nat)) (AV.tup []))) - (247 : Int))) *
        (1 : Nat))
    (AV.tup []))) = true ∧
          (((decide
  (IntKind.wrap IntKind.i64
      (IntKind.wrap IntKind.i64
          (IntKind.wrap IntKind.i64 (AV.toI (List.getD cs (o + (0 : Nat)) (AV.tup []))) - (247 : Int)) -
        (1 : Int)) ≥
    (1 : Int))) = true →
            (decide
  ((0 : Int) ≤
      IntKind.wrap IntKind.i64
        (IntKind.wrap IntKind.i64
            (IntKind.wrap IntKind.i64 (AV.toI (List.getD cs (o + (0 : Nat)) (AV.tup []))) - (247 : Int)) -
          (1 : Int)) ∧
    IntKind.wrap IntKind.i64
        (IntKind.wrap IntKind.i64
            (IntKind.wrap IntKind.i64 (AV.toI (List.getD cs (o + (0 : Nat)) (AV.tup []))) - (247 : Int)) -
          (1 : Int)) <
      (↑n : Int))) = true ∧
            ((decide
  (o +
      Int.toNat
          (IntKind.wrap IntKind.i64
            (IntKind.wrap IntKind.i64
                (IntKind.wrap IntKind.i64 (AV.toI (List.getD cs (o + (0 : Nat)) (AV.tup []))) - (247 : Int)) -
              (1 : Int))) *
        (1 : Nat) <
    List.length cs)) = true ∧
            ((AV.isI IntKind.u8
  (List.getD cs
    (o +
      Int.toNat
          (IntKind.wrap IntKind.i64
            (IntKind.wrap IntKind.i64
                (IntKind.wrap IntKind.i64 (AV.toI (List.getD cs (o + (0 : Nat)) (AV.tup []))) - (247 : Int)) -
              (1 : Int))) *
        (1 : Nat))
    (AV.tup []))) = true ∧
            (((decide
  (IntKind.wrap IntKind.i64
      (IntKind.wrap IntKind.i64
          (IntKind.wrap IntKind.i64
              (IntKind.wrap IntKind.i64 (AV.toI (List.getD cs (o + (0 : Nat)) (AV.tup []))) - (247 : Int)) -
            (1 : Int)) -
        (1 : Int)) ≥
    (1 : Int))) = true →
              (decide
  ((0 : Int) ≤
      IntKind.wrap IntKind.i64
        (IntKind.wrap IntKind.i64
            (IntKind.wrap IntKind.i64
                (IntKind.wrap IntKind.i64 (AV.toI (List.getD cs (o + (0 : Nat)) (AV.tup []))) - (247 : Int)) -
              (1 : Int)) -
          (1 : Int)) ∧
    IntKind.wrap IntKind.i64
        (IntKind.wrap IntKind.i64
            (IntKind.wrap IntKind.i64
                (IntKind.wrap IntKind.i64 (AV.toI (List.getD cs (o + (0 : Nat)) (AV.tup []))) - (247 : Int)) -
              (1 : Int)) -
          (1 : Int)) <
      (↑n : Int))) = true ∧
              ((decide
  (o +
      Int.toNat
          (IntKind.wrap IntKind.i64
            (IntKind.wrap IntKind.i64
                (IntKind.wrap IntKind.i64
                    (IntKind.wrap IntKind.i64 (AV.toI (List.getD cs (o + (0 : Nat)) (AV.tup []))) - (247 : Int)) -
                  (1 : Int)) -
              (1 : Int))) *
        (1 : Nat) <
    List.length cs)) = true ∧
              ((AV.isI IntKind.u8
  (List.getD cs
    (o +
      Int.toNat
          (IntKind.wrap IntKind.i64
            (IntKind.wrap IntKind.i64
                (IntKind.wrap IntKind.i64
                    (IntKind.wrap IntKind.i64 (AV.toI (List.getD cs (o + (0 : Nat)) (AV.tup []))) - (247 : Int)) -
                  (1 : Int)) -
              (1 : Int))) *
        (1 : Nat))
    (AV.tup []))) = true ∧
              (False)))) ∧
            ((decide
  (IntKind.wrap IntKind.i64
      (IntKind.wrap IntKind.i64
          (IntKind.wrap IntKind.i64
              (IntKind.wrap IntKind.i64 (AV.toI (List.getD cs (o + (0 : Nat)) (AV.tup []))) - (247 : Int)) -
            (1 : Int)) -
        (1 : Int)) ≥
    (1 : Int))) = false →
              (decide
  ((0 : Int) ≤
      IntKind.wrap IntKind.i64
        (IntKind.wrap IntKind.i64 (AV.toI (List.getD cs (o + (0 : Nat)) (AV.tup []))) - (247 : Int)) ∧
    IntKind.wrap IntKind.i64
        (IntKind.wrap IntKind.i64 (AV.toI (List.getD cs (o + (0 : Nat)) (AV.tup []))) - (247 : Int)) <
      (↑n : Int))) = true ∧
              ((decide
  (o +
      Int.toNat
          (IntKind.wrap IntKind.i64
            (IntKind.wrap IntKind.i64 (AV.toI (List.getD cs (o + (0 : Nat)) (AV.tup []))) - (247 : Int))) *
        (1 : Nat) <
    List.length cs)) = true ∧
              ((AV.isI IntKind.u8
  (List.getD cs
    (o +
      Int.toNat
          (IntKind.wrap IntKind.i64
            (IntKind.wrap IntKind.i64 (AV.toI (List.getD cs (o + (0 : Nat)) (AV.tup []))) - (247 : Int))) *
        (1 : Nat))
    (AV.tup []))) = true ∧
              (((!decide
    (AV.toI
        (List.getD cs
          (o +
            Int.toNat
                (IntKind.wrap IntKind.i64
                  (IntKind.wrap IntKind.i64 (AV.toI (List.getD cs (o + (0 : Nat)) (AV.tup []))) - (247 : Int))) *
              (1 : Nat))
          (AV.tup [])) =
      (0 : Int))) = true →
                (!decide
    (AV.toI
        (List.getD cs
          (o +
            Int.toNat
                (IntKind.wrap IntKind.i64
                  (IntKind.wrap IntKind.i64 (AV.toI (List.getD cs (o + (0 : Nat)) (AV.tup []))) - (247 : Int))) *
              (1 : Nat))
          (AV.tup [])) =
      (0 : Int))) = true ∧
                ((decide
  (AV.toI
      (List.getD cs
        (o +
          Int.toNat
              (IntKind.wrap IntKind.i64
                (IntKind.wrap IntKind.i64 (AV.toI (List.getD cs (o + (0 : Nat)) (AV.tup []))) - (247 : Int))) *
            (1 : Nat))
        (AV.tup [])) =
    (0 : Int))) = false ∧
                (((decide
  (bits BinOp.or IntKind.u64
      (IntKind.wrap IntKind.u64
        (bits BinOp.or IntKind.u64 (0 : Int)
            (IntKind.wrap IntKind.u64
              (AV.toI
                (List.getD cs
                  (o +
                    Int.toNat
                        (IntKind.wrap IntKind.i64
                          (IntKind.wrap IntKind.i64 (AV.toI (List.getD cs (o + (0 : Nat)) (AV.tup []))) -
                            (247 : Int))) *
                      (1 : Nat))
                  (AV.tup [])))) *
          (256 : Int)))
      (IntKind.wrap IntKind.u64
        (AV.toI
          (List.getD cs
            (o +
              Int.toNat
                  (IntKind.wrap IntKind.i64
                    (IntKind.wrap IntKind.i64
                        (IntKind.wrap IntKind.i64 (AV.toI (List.getD cs (o + (0 : Nat)) (AV.tup []))) - (247 : Int)) -
                      (1 : Int))) *
                (1 : Nat))
            (AV.tup [])))) ≤
    (247 : Int))) = true →
                  K (AV.int IntKind.i64 (0 : Int))
  { nx := (2 : Nat),
    m :=
      [((1 : Nat), AObj.cells (105 : Nat) [AV.slice (0 : Nat) o n none, AV.int IntKind.i64 (4 : Int), AV.bool true]),
        ((0 : Nat), AObj.opn (5 : Nat) (1 : Nat) cs)] }) ∧
                ((decide
  (bits BinOp.or IntKind.u64
      (IntKind.wrap IntKind.u64
        (bits BinOp.or IntKind.u64 (0 : Int)
            (IntKind.wrap IntKind.u64
              (AV.toI
                (List.getD cs
                  (o +
                    Int.toNat
                        (IntKind.wrap IntKind.i64
                          (IntKind.wrap IntKind.i64 (AV.toI (List.getD cs (o + (0 : Nat)) (AV.tup []))) -
                            (247 : Int))) *
                      (1 : Nat))
                  (AV.tup [])))) *
          (256 : Int)))
      (IntKind.wrap IntKind.u64
        (AV.toI
          (List.getD cs
            (o +
              Int.toNat
                  (IntKind.wrap IntKind.i64
                    (IntKind.wrap IntKind.i64
                        (IntKind.wrap IntKind.i64 (AV.toI (List.getD cs (o + (0 : Nat)) (AV.tup []))) - (247 : Int)) -
                      (1 : Int))) *
                (1 : Nat))
            (AV.tup [])))) ≤
    (247 : Int))) = false →
                  (decide ((0 : Nat) < n)) = true ∧
                  ((decide
  ((0 : Int) ≤
      IntKind.wrap IntKind.i64
        ((1 : Int) +
          IntKind.wrap IntKind.i64
            (IntKind.wrap IntKind.i64 (AV.toI (List.getD cs (o + (0 : Nat)) (AV.tup []))) - (247 : Int))) ∧
    IntKind.wrap IntKind.i64
        ((1 : Int) +
          IntKind.wrap IntKind.i64
            (IntKind.wrap IntKind.i64 (AV.toI (List.getD cs (o + (0 : Nat)) (AV.tup []))) - (247 : Int))) ≤
      (↑n : Int))) = true ∧
                  ((decide (n ≤ n)) = true ∧
                  (((decide
  (bits BinOp.or IntKind.u64
      (IntKind.wrap IntKind.u64
        (bits BinOp.or IntKind.u64 (0 : Int)
            (IntKind.wrap IntKind.u64
              (AV.toI
                (List.getD cs
                  (o +
                    Int.toNat
                        (IntKind.wrap IntKind.i64
                          (IntKind.wrap IntKind.i64 (AV.toI (List.getD cs (o + (0 : Nat)) (AV.tup []))) -
                            (247 : Int))) *
                      (1 : Nat))
                  (AV.tup [])))) *
          (256 : Int)))
      (IntKind.wrap IntKind.u64
        (AV.toI
          (List.getD cs
            (o +
              Int.toNat
                  (IntKind.wrap IntKind.i64
                    (IntKind.wrap IntKind.i64
                        (IntKind.wrap IntKind.i64 (AV.toI (List.getD cs (o + (0 : Nat)) (AV.tup []))) - (247 : Int)) -
                      (1 : Int))) *
                (1 : Nat))
            (AV.tup [])))) >
    (1000 : Int))) = true →
                    K (AV.int IntKind.i64 (0 : Int))
  { nx := (2 : Nat),
    m :=
      [((1 : Nat),
          AObj.cells (105 : Nat)
            [AV.slice (0 : Nat)
                (o +
                  Int.toNat
                      (IntKind.wrap IntKind.i64
                        ((1 : Int) +
                          IntKind.wrap IntKind.i64
                            (IntKind.wrap IntKind.i64 (AV.toI (List.getD cs (o + (0 : Nat)) (AV.tup []))) -
                              (247 : Int)))) *
                    (1 : Nat))
                (n -
                  Int.toNat
                    (IntKind.wrap IntKind.i64
                      ((1 : Int) +
                        IntKind.wrap IntKind.i64
                          (IntKind.wrap IntKind.i64 (AV.toI (List.getD cs (o + (0 : Nat)) (AV.tup []))) -
                            (247 : Int)))))
                none,
              AV.int IntKind.i64 (3 : Int), AV.bool true]),
        ((0 : Nat), AObj.opn (5 : Nat) (1 : Nat) cs)] }) ∧
                  ((decide
  (bits BinOp.or IntKind.u64
      (IntKind.wrap IntKind.u64
        (bits BinOp.or IntKind.u64 (0 : Int)
            (IntKind.wrap IntKind.u64
              (AV.toI
                (List.getD cs
                  (o +
                    Int.toNat
                        (IntKind.wrap IntKind.i64
                          (IntKind.wrap IntKind.i64 (AV.toI (List.getD cs (o + (0 : Nat)) (AV.tup []))) -
                            (247 : Int))) *
                      (1 : Nat))
                  (AV.tup [])))) *
          (256 : Int)))
      (IntKind.wrap IntKind.u64
        (AV.toI
          (List.getD cs
            (o +
              Int.toNat
                  (IntKind.wrap IntKind.i64
                    (IntKind.wrap IntKind.i64
                        (IntKind.wrap IntKind.i64 (AV.toI (List.getD cs (o + (0 : Nat)) (AV.tup []))) - (247 : Int)) -
                      (1 : Int))) *
                (1 : Nat))
            (AV.tup [])))) >
    (1000 : Int))) = false →
                    K
  (AV.int IntKind.i64
    (IntKind.wrap IntKind.i64
      (bits BinOp.or IntKind.u64
        (IntKind.wrap IntKind.u64
          (bits BinOp.or IntKind.u64 (0 : Int)
              (IntKind.wrap IntKind.u64
                (AV.toI
                  (List.getD cs
                    (o +
                      Int.toNat
                          (IntKind.wrap IntKind.i64
                            (IntKind.wrap IntKind.i64 (AV.toI (List.getD cs (o + (0 : Nat)) (AV.tup []))) -
                              (247 : Int))) *
                        (1 : Nat))
                    (AV.tup [])))) *
            (256 : Int)))
        (IntKind.wrap IntKind.u64
          (AV.toI
            (List.getD cs
              (o +
                Int.toNat
                    (IntKind.wrap IntKind.i64
                      (IntKind.wrap IntKind.i64
                          (IntKind.wrap IntKind.i64 (AV.toI (List.getD cs (o + (0 : Nat)) (AV.tup []))) - (247 : Int)) -
                        (1 : Int))) *
                  (1 : Nat))
              (AV.tup [])))))))
  { nx := (2 : Nat),
    m :=
      [((1 : Nat),
          AObj.cells (105 : Nat)
            [AV.slice (0 : Nat)
                (o +
                  Int.toNat
                      (IntKind.wrap IntKind.i64
                        ((1 : Int) +
                          IntKind.wrap IntKind.i64
                            (IntKind.wrap IntKind.i64 (AV.toI (List.getD cs (o + (0 : Nat)) (AV.tup []))) -
                              (247 : Int)))) *
                    (1 : Nat))
                (n -
                  Int.toNat
                    (IntKind.wrap IntKind.i64
                      ((1 : Int) +
                        IntKind.wrap IntKind.i64
                          (IntKind.wrap IntKind.i64 (AV.toI (List.getD cs (o + (0 : Nat)) (AV.tup []))) -
                            (247 : Int)))))
                none,
              AV.int IntKind.i64 (0 : Int), AV.bool true]),
        ((0 : Nat), AObj.opn (5 : Nat) (1 : Nat) cs)] })))))))) ∧
              ((!decide
    (AV.toI
        (List.getD cs
          (o +
            Int.toNat
                (IntKind.wrap IntKind.i64
                  (IntKind.wrap IntKind.i64 (AV.toI (List.getD cs (o + (0 : Nat)) (AV.tup []))) - (247 : Int))) *
              (1 : Nat))
          (AV.tup [])) =
      (0 : Int))) = false →
                (!decide
    (AV.toI
        (List.getD cs
          (o +
            Int.toNat
                (IntKind.wrap IntKind.i64
                  (IntKind.wrap IntKind.i64 (AV.toI (List.getD cs (o + (0 : Nat)) (AV.tup []))) - (247 : Int))) *
              (1 : Nat))
          (AV.tup [])) =
      (0 : Int))) = false ∧
                ((decide
  (AV.toI
      (List.getD cs
        (o +
          Int.toNat
              (IntKind.wrap IntKind.i64
                (IntKind.wrap IntKind.i64 (AV.toI (List.getD cs (o + (0 : Nat)) (AV.tup []))) - (247 : Int))) *
            (1 : Nat))
        (AV.tup [])) =
    (0 : Int))) = true ∧
                (K (AV.int IntKind.i64 (0 : Int))
  { nx := (2 : Nat),
    m :=
      [((1 : Nat), AObj.cells (105 : Nat) [AV.slice (0 : Nat) o n none, AV.int IntKind.i64 (4 : Int), AV.bool true]),
        ((0 : Nat), AObj.opn (5 : Nat) (1 : Nat) cs)] }))))))))))) ∧
          ((decide
  (IntKind.wrap IntKind.i64
      (IntKind.wrap IntKind.i64
          (IntKind.wrap IntKind.i64 (AV.toI (List.getD cs (o + (0 : Nat)) (AV.tup []))) - (247 : Int)) -
        (1 : Int)) ≥
    (1 : Int))) = false →
            (decide
  ((0 : Int) ≤
      IntKind.wrap IntKind.i64
        (IntKind.wrap IntKind.i64 (AV.toI (List.getD cs (o + (0 : Nat)) (AV.tup []))) - (247 : Int)) ∧
    IntKind.wrap IntKind.i64
        (IntKind.wrap IntKind.i64 (AV.toI (List.getD cs (o + (0 : Nat)) (AV.tup []))) - (247 : Int)) <
      (↑n : Int))) = true ∧
            ((decide
  (o +
      Int.toNat
          (IntKind.wrap IntKind.i64
            (IntKind.wrap IntKind.i64 (AV.toI (List.getD cs (o + (0 : Nat)) (AV.tup []))) - (247 : Int))) *
        (1 : Nat) <
    List.length cs)) = true ∧
            ((AV.isI IntKind.u8
  (List.getD cs
    (o +
      Int.toNat
          (IntKind.wrap IntKind.i64
            (IntKind.wrap IntKind.i64 (AV.toI (List.getD cs (o + (0 : Nat)) (AV.tup []))) - (247 : Int))) *
        (1 : Nat))
    (AV.tup []))) = true ∧
            (((!decide
    (AV.toI
        (List.getD cs
          (o +
            Int.toNat
                (IntKind.wrap IntKind.i64
                  (IntKind.wrap IntKind.i64 (AV.toI (List.getD cs (o + (0 : Nat)) (AV.tup []))) - (247 : Int))) *
              (1 : Nat))
          (AV.tup [])) =
      (0 : Int))) = true →
              (!decide
    (AV.toI
        (List.getD cs
          (o +
            Int.toNat
                (IntKind.wrap IntKind.i64
                  (IntKind.wrap IntKind.i64 (AV.toI (List.getD cs (o + (0 : Nat)) (AV.tup []))) - (247 : Int))) *
              (1 : Nat))
          (AV.tup [])) =
      (0 : Int))) = true ∧
              ((decide
  (AV.toI
      (List.getD cs
        (o +
          Int.toNat
              (IntKind.wrap IntKind.i64
                (IntKind.wrap IntKind.i64 (AV.toI (List.getD cs (o + (0 : Nat)) (AV.tup []))) - (247 : Int))) *
            (1 : Nat))
        (AV.tup [])) =
    (0 : Int))) = false ∧
              (((decide
  (bits BinOp.or IntKind.u64 (0 : Int)
      (IntKind.wrap IntKind.u64
        (AV.toI
          (List.getD cs
            (o +
              Int.toNat
                  (IntKind.wrap IntKind.i64
                    (IntKind.wrap IntKind.i64 (AV.toI (List.getD cs (o + (0 : Nat)) (AV.tup []))) - (247 : Int))) *
                (1 : Nat))
            (AV.tup [])))) ≤
    (247 : Int))) = true →
                K (AV.int IntKind.i64 (0 : Int))
  { nx := (2 : Nat),
    m :=
      [((1 : Nat), AObj.cells (105 : Nat) [AV.slice (0 : Nat) o n none, AV.int IntKind.i64 (4 : Int), AV.bool true]),
        ((0 : Nat), AObj.opn (5 : Nat) (1 : Nat) cs)] }) ∧
              ((decide
  (bits BinOp.or IntKind.u64 (0 : Int)
      (IntKind.wrap IntKind.u64
        (AV.toI
          (List.getD cs
            (o +
              Int.toNat
                  (IntKind.wrap IntKind.i64
                    (IntKind.wrap IntKind.i64 (AV.toI (List.getD cs (o + (0 : Nat)) (AV.tup []))) - (247 : Int))) *
                (1 : Nat))
            (AV.tup [])))) ≤
    (247 : Int))) = false →
                (decide ((0 : Nat) < n)) = true ∧
                ((decide
  ((0 : Int) ≤
      IntKind.wrap IntKind.i64
        ((1 : Int) +
          IntKind.wrap IntKind.i64
            (IntKind.wrap IntKind.i64 (AV.toI (List.getD cs (o + (0 : Nat)) (AV.tup []))) - (247 : Int))) ∧
    IntKind.wrap IntKind.i64
        ((1 : Int) +
          IntKind.wrap IntKind.i64
            (IntKind.wrap IntKind.i64 (AV.toI (List.getD cs (o + (0 : Nat)) (AV.tup []))) - (247 : Int))) ≤
      (↑n : Int))) = true ∧
                ((decide (n ≤ n)) = true ∧
                (((decide
  (bits BinOp.or IntKind.u64 (0 : Int)
      (IntKind.wrap IntKind.u64
        (AV.toI
          (List.getD cs
            (o +
              Int.toNat
                  (IntKind.wrap IntKind.i64
                    (IntKind.wrap IntKind.i64 (AV.toI (List.getD cs (o + (0 : Nat)) (AV.tup []))) - (247 : Int))) *
                (1 : Nat))
            (AV.tup [])))) >
    (1000 : Int))) = true →
                  K (AV.int IntKind.i64 (0 : Int))
  { nx := (2 : Nat),
    m :=
      [((1 : Nat),
          AObj.cells (105 : Nat)
            [AV.slice (0 : Nat)
                (o +
                  Int.toNat
                      (IntKind.wrap IntKind.i64
                        ((1 : Int) +
                          IntKind.wrap IntKind.i64
                            (IntKind.wrap IntKind.i64 (AV.toI (List.getD cs (o + (0 : Nat)) (AV.tup []))) -
                              (247 : Int)))) *
                    (1 : Nat))
                (n -
                  Int.toNat
                    (IntKind.wrap IntKind.i64
                      ((1 : Int) +
                        IntKind.wrap IntKind.i64
                          (IntKind.wrap IntKind.i64 (AV.toI (List.getD cs (o + (0 : Nat)) (AV.tup []))) -
                            (247 : Int)))))
                none,
              AV.int IntKind.i64 (3 : Int), AV.bool true]),
        ((0 : Nat), AObj.opn (5 : Nat) (1 : Nat) cs)] }) ∧
                ((decide
  (bits BinOp.or IntKind.u64 (0 : Int)
      (IntKind.wrap IntKind.u64
        (AV.toI
          (List.getD cs
            (o +
              Int.toNat
                  (IntKind.wrap IntKind.i64
                    (IntKind.wrap IntKind.i64 (AV.toI (List.getD cs (o + (0 : Nat)) (AV.tup []))) - (247 : Int))) *
                (1 : Nat))
            (AV.tup [])))) >
    (1000 : Int))) = false →
                  K
  (AV.int IntKind.i64
    (IntKind.wrap IntKind.i64
      (bits BinOp.or IntKind.u64 (0 : Int)
        (IntKind.wrap IntKind.u64
          (AV.toI
            (List.getD cs
              (o +
                Int.toNat
                    (IntKind.wrap IntKind.i64
                      (IntKind.wrap IntKind.i64 (AV.toI (List.getD cs (o + (0 : Nat)) (AV.tup []))) - (247 : Int))) *
                  (1 : Nat))
              (AV.tup [])))))))
  { nx := (2 : Nat),
    m :=
      [((1 : Nat),
          AObj.cells (105 : Nat)
            [AV.slice (0 : Nat)
                (o +
                  Int.toNat
                      (IntKind.wrap IntKind.i64
                        ((1 : Int) +
                          IntKind.wrap IntKind.i64
                            (IntKind.wrap IntKind.i64 (AV.toI (List.getD cs (o + (0 : Nat)) (AV.tup []))) -
                              (247 : Int)))) *
                    (1 : Nat))
                (n -
                  Int.toNat
                    (IntKind.wrap IntKind.i64
                      ((1 : Int) +
                        IntKind.wrap IntKind.i64
                          (IntKind.wrap IntKind.i64 (AV.toI (List.getD cs (o + (0 : Nat)) (AV.tup []))) -
                            (247 : Int)))))
                none,
              AV.int IntKind.i64 (0 : Int), AV.bool true]),
        ((0 : Nat), AObj.opn (5 : Nat) (1 : Nat) cs)] })))))))) ∧
            ((!decide
    (AV.toI
        (List.getD cs
          (o +
            Int.toNat
                (IntKind.wrap IntKind.i64
                  (IntKind.wrap IntKind.i64 (AV.toI (List.getD cs (o + (0 : Nat)) (AV.tup []))) - (247 : Int))) *
              (1 : Nat))
          (AV.tup [])) =
      (0 : Int))) = false →
              (!decide
    (AV.toI
        (List.getD cs
          (o +
            Int.toNat
                (IntKind.wrap IntKind.i64
                  (IntKind.wrap IntKind.i64 (AV.toI (List.getD cs (o + (0 : Nat)) (AV.tup []))) - (247 : Int))) *
              (1 : Nat))
          (AV.tup [])) =
      (0 : Int))) = false ∧
              ((decide
  (AV.toI
      (List.getD cs
        (o +
          Int.toNat
              (IntKind.wrap IntKind.i64
                (IntKind.wrap IntKind.i64 (AV.toI (List.getD cs (o + (0 : Nat)) (AV.tup []))) - (247 : Int))) *
            (1 : Nat))
        (AV.tup [])) =
    (0 : Int))) = true ∧
              (K (AV.int IntKind.i64 (0 : Int))
  { nx := (2 : Nat),
    m :=
      [((1 : Nat), AObj.cells (105 : Nat) [AV.slice (0 : Nat) o n none, AV.int IntKind.i64 (4 : Int), AV.bool true]),
        ((0 : Nat), AObj.opn (5 : Nat) (1 : Nat) cs)] }))))))))))) ∧
        ((decide
  (IntKind.wrap IntKind.i64
      (IntKind.wrap IntKind.i64 (AV.toI (List.getD cs (o + (0 : Nat)) (AV.tup []))) - (247 : Int)) ≥
    (1 : Int))) = false →
          (decide
  ((0 : Int) ≤
      IntKind.wrap IntKind.i64
        (IntKind.wrap IntKind.i64 (AV.toI (List.getD cs (o + (0 : Nat)) (AV.tup []))) - (247 : Int)) ∧
    IntKind.wrap IntKind.i64
        (IntKind.wrap IntKind.i64 (AV.toI (List.getD cs (o + (0 : Nat)) (AV.tup []))) - (247 : Int)) <
      (↑n : Int))) = true ∧
          ((decide
  (o +
      Int.toNat
          (IntKind.wrap IntKind.i64
            (IntKind.wrap IntKind.i64 (AV.toI (List.getD cs (o + (0 : Nat)) (AV.tup []))) - (247 : Int))) *
        (1 : Nat) <
    List.length cs)) = true ∧
          ((AV.isI IntKind.u8
  (List.getD cs
    (o +
      Int.toNat
          (IntKind.wrap IntKind.i64
            (IntKind.wrap IntKind.i64 (AV.toI (List.getD cs (o + (0 : Nat)) (AV.tup []))) - (247 : Int))) *
        (1 : Nat))
    (AV.tup []))) = true ∧
          (((!decide
    (AV.toI
        (List.getD cs
          (o +
            Int.toNat
                (IntKind.wrap IntKind.i64
                  (IntKind.wrap IntKind.i64 (AV.toI (List.getD cs (o + (0 : Nat)) (AV.tup []))) - (247 : Int))) *
              (1 : Nat))
          (AV.tup [])) =
      (0 : Int))) = true →
            (!decide
    (AV.toI
        (List.getD cs
          (o +
            Int.toNat
                (IntKind.wrap IntKind.i64
                  (IntKind.wrap IntKind.i64 (AV.toI (List.getD cs (o + (0 : Nat)) (AV.tup []))) - (247 : Int))) *
              (1 : Nat))
          (AV.tup [])) =
      (0 : Int))) = true ∧
            ((decide
  (AV.toI
      (List.getD cs
        (o +
          Int.toNat
              (IntKind.wrap IntKind.i64
                (IntKind.wrap IntKind.i64 (AV.toI (List.getD cs (o + (0 : Nat)) (AV.tup []))) - (247 : Int))) *
            (1 : Nat))
        (AV.tup [])) =
    (0 : Int))) = false ∧
            (K (AV.int IntKind.i64 (0 : Int))
  { nx := (2 : Nat),
    m :=
      [((1 : Nat), AObj.cells (105 : Nat) [AV.slice (0 : Nat) o n none, AV.int IntKind.i64 (4 : Int), AV.bool true]),
        ((0 : Nat), AObj.opn (5 : Nat) (1 : Nat) cs)] }))) ∧
          ((!decide
    (AV.toI
        (List.getD cs
          (o +
            Int.toNat
                (IntKind.wrap IntKind.i64
                  (IntKind.wrap IntKind.i64 (AV.toI (List.getD cs (o + (0 : Nat)) (AV.tup []))) - (247 : Int))) *
              (1 : Nat))
          (AV.tup [])) =
      (0 : Int))) = false →
            (!decide
    (AV.toI
        (List.getD cs
          (o +
            Int.toNat
                (IntKind.wrap IntKind.i64
                  (IntKind.wrap IntKind.i64 (AV.toI (List.getD cs (o + (0 : Nat)) (AV.tup []))) - (247 : Int))) *
              (1 : Nat))
          (AV.tup [])) =
      (0 : Int))) = false ∧
            ((decide
  (AV.toI
      (List.getD cs
        (o +
          Int.toNat
              (IntKind.wrap IntKind.i64
                (IntKind.wrap IntKind.i64 (AV.toI (List.getD cs (o + (0 : Nat)) (AV.tup []))) - (247 : Int))) *
            (1 : Nat))
        (AV.tup [])) =
    (0 : Int))) = true ∧
            (K (AV.int IntKind.i64 (0 : Int))
  { nx := (2 : Nat),
    m :=
      [((1 : Nat), AObj.cells (105 : Nat) [AV.slice (0 : Nat) o n none, AV.int IntKind.i64 (4 : Int), AV.bool true]),
        ((0 : Nat), AObj.opn (5 : Nat) (1 : Nat) cs)] })))))))))))))
def cnt_scr : Plan := .k (.k (.k (.k (.k (.k (.k (.k (.k (.k (.k (.k (.k (.b (.z) (.t (.t (.t (.b (.t (.t (.t (.k (.k (.k (.k (.k (.k (.k (.k (.k (.k (.k (.k (.k (.b (.z) (.z)))))))))))))))))) (.b (.z) (.b (.t (.t (.t (.b (.t (.t (.t (.b (.t (.t (.t (.z)))) (.t (.t (.t (.b (.t (.f (.b (.z) (.t (.t (.t (.k (.k (.k (.k (.k (.k (.k (.k (.k (.k (.k (.k (.k (.b (.z) (.z))))))))))))))))))))) (.f (.t (.z))))))))))) (.t (.t (.t (.b (.t (.f (.b (.z) (.t (.t (.t (.k (.k (.k (.k (.k (.k (.k (.k (.k (.k (.k (.k (.k (.b (.z) (.z))))))))))))))))))))) (.f (.t (.z))))))))))) (.t (.t (.t (.b (.t (.f (.z))) (.f (.t (.z))))))))))))))))))))))))))
theorem cnt_vc (o n : Nat) (cs : List AV) (K : AV → AH → Prop) : (funP (XRd) 77 [.ptr 1 0, .int .i64 1000] ⟨2, [(1, .cells 105 [.slice 0 o n none, .int .i64 0, .bool true]), (0, .opn 5 1 cs)]⟩ cnt_scr (fun v σ _ => K v σ)) = cnt_VC o n cs K := by kernel_rfl
def rdE_VC (o : Nat) (cs : List AV) (K : AV → AH → Prop) : Prop :=
  K (AV.int IntKind.i64 (0 : Int))
  { nx := (2 : Nat),
    m :=
      [((1 : Nat),
          AObj.cells (105 : Nat) [AV.slice (0 : Nat) o (0 : Nat) none, AV.int IntKind.i64 (0 : Int), AV.bool true]),
        ((0 : Nat), AObj.opn (5 : Nat) (1 : Nat) cs)] }
def rdE_scr : Plan := .z
theorem rdE_vc (o : Nat) (cs : List AV) (K : AV → AH → Prop) : (funP (XRd) 78 [.ptr 1 0] ⟨2, [(1, .cells 105 [.slice 0 o 0 none, .int .i64 0, .bool true]), (0, .opn 5 1 cs)]⟩ rdE_scr (fun v σ _ => K v σ)) = rdE_VC o cs K := by kernel_rfl
end Go.Proofs.Ytnfelncgeihihaa.V
